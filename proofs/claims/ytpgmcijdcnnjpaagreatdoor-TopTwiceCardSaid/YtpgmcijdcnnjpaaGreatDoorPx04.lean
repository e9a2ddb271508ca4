/- Lemmas for it. -/
import Derived.Test.YtpgmcijdcnnjpaaGreatDoorPk36
import Derived.Test.YtpgmcijdcnnjpaaGreatDoorPx03
set_option linter.all false
set_option maxRecDepth 100000
set_option maxHeartbeats 8000000
namespace Go.Proofs.YtpgmcijdcnnjpaaGreatDoor
open Go Go.RowKit
theorem CZ{w:World}(hE:sF w){A:Option Addr}{n c:Nat}{ds:List Dd}(h:nF w A n ds)(hn:n≤maxLen)(s goal:aK)(hs:s.length≤maxLen)(W:goal.length≤maxLen) :
  Calls Tryz.prog 3 #[.slice A n c,S s,S goal] w fun e w'=>e=.returned (.bool true)∧bf w w':=by
 have P:=aj hE
 have HD:=aj h
 have hn:n≤9223372036854775807:=hn
 have hs:s.length≤9223372036854775807:=hs
 have W:goal.length≤9223372036854775807:=W
 have HW:=aj (vK hE)
 have HP:Hd (∀v,bf w v→Calls Tryz.prog 13 #[.slice A n c] v (oT w (l6 30 ds))):=fun v hv=>sU P.ou hv HD.ou hn
 clear hE h
 go_enter Tryz.func3,Tryz.ntmps3
 go_wp2_with fail
 refine HW.ou.mono ?_
 rintro e u1 ⟨rfl,f⟩
 have X1:=aj f
 clear f HW
 go_wp2_with fail
 refine(HP.ou u1 X1.ou).mono ?_
 rintro e u2 b
 clear HP
 rcases b with⟨-,rfl,f⟩|⟨-,dg,xg,rows,fp,rfl,hS,hRe⟩
 ·have X2:=aj f
  clear f
  refine cS ?_
  go_ret
  exact⟨rfl,X2.ou⟩
 have Q:=aj hS
 clear hS hRe
 by_cases X:s.length≤800∧goal.length≤20
 case neg=>
  have X2:=aj Q.ou.x0
  by_cases h8:s.length≤800
  ·have t8:decide ((800:Int)<(s.length:Int))=false:=by rw[aA];omega
   have t2:decide ((20:Int)<(goal.length:Int))=true:=by rw[aW];have:¬goal.length≤20:=fun h=>X ⟨h8,h⟩;omega
   refine cS ?_
   go_ret
   exact⟨rfl,X2.ou⟩
  ·have t8:decide ((800:Int)<(s.length:Int))=true:=by rw[aW];omega
   refine cS ?_
   go_ret
   exact⟨rfl,X2.ou⟩
 obtain⟨h8,bo⟩:=X
 have t8:decide ((800:Int)<(s.length:Int))=false:=by rw[aA];omega
 have t2:decide ((20:Int)<(goal.length:Int))=false:=by rw[aA];omega
 have q:=aj (nT P.ou Q.ou s goal (by omega) (by omega))
 go_wp2_with (refine dN ?_)
 refine q.ou.mono ?_
 rintro e u3 ⟨f,b⟩
 have X3:=aj f
 have S3:=aj (Q.ou.ext f)
 clear f q
 rcases b with⟨h0,rfl⟩|⟨h0,gA,gc,os,B,d,xs,r0,rfl,hL0,hcap,hG,-⟩
 ·rw[bS h0]
  go_wp2_with fail
  go_ret
  exact⟨rfl,S3.ou.x0⟩
 have HG:=aj hG
 have Y:=aj hL0
 have a7:=aj Q.ou.lt
 have j:=aj (mv P.ou S3.ou (by omega) s goal (by omega) (by omega) true)
 have x:=aj (lV Q.ou.ok h0)
 have H0:=aj h0
 have a8:=aj Q.ou.ok
 obtain⟨un,H⟩:∃k,k=(dD (iI rows s goal) (mZ rows (iI rows s goal)) r0).length:=⟨_,rfl⟩
 have Z:=aj H
 rw[←H]
 obtain⟨gs,I⟩:∃g,g=iI rows s goal:=⟨_,rfl⟩
 have ac:=aj I
 rw[←I] at HG x hcap ⊢
 clear hG hL0 I h0 H
 go_wp2_with fail
 refine j.ou.mono ?_
 rintro e u4 b
 clear j
 rcases b with⟨h0,-⟩|⟨-,r,m,OA,oc,ocs,hL,hB,rfl,hsl,hoc,hR⟩
 ·exact absurd H0.ou h0
 obtain rfl:m=un:=by rw[hB.all rfl,Z.ou,dD,dD,p9 Y.ou hL]
 have bk:m≤10:=by
  have J:=hB.le
  have h2:=x.ou.n
  have h3:=oW (gs:=iI rows s goal) (st:=mZ rows (iI rows s goal)) (r:=r)
  rw[←ac.ou] at J h3
  omega
 have y:=aj (IQ (c:=oc) hsl (by omega))
 rw[hoc] at y
 have D:=aj (fun T=>(xp a8.ou H0.ou hL hB T).2)
 obtain⟨R,ag⟩:∃R,R=ku (iI rows s goal) (dD (iI rows s goal) (mZ rows (iI rows s goal)) r) rows m:=⟨_,rfl⟩
 rw[←ag] at y D hR
 rw[←ac.ou] at D
 obtain⟨a,cs⟩:=R
 obtain⟨a9,ai,ak,-⟩:=hR
 have S4:=aj ai
 have O4:Hd (al fp u3 u4):=ak
 clear hL hB hsl hoc ag ai ak Y Z
 go_wp2_with fail
 refine y.ou.mono ?_
 rintro e u5 ⟨rfl,f⟩
 have X5:=aj f
 have S5:=aj (S4.ou.ext f)
 clear f y
 obtain⟨z,T⟩:∃z,z=vQ cs:=⟨_,rfl⟩
 have M:vQ (a,cs).2=z:=T.symm
 have e0:vQ cs=z:=T.symm
 rw[e0]
 cases z with
 | false=>
  clear T M e0
  go_wp2_with fail
  go_ret
  exact⟨rfl,S5.ou.x0⟩
 | true=>
  have am:Hd (∀g∈gs,g.ba=false→kV (bL a) (gY a) g=true):=D.ou M
  have q:=aj (nT P.ou S5.ou s goal (by omega) (by omega))
  clear T M e0 D
  go_wp2_with fail
  refine q.ou.mono ?_
  rintro e U ⟨f,b⟩
  have X6:=aj f
  have S6:=aj (S5.ou.ext f)
  clear f q
  rcases b with⟨J,rfl⟩|⟨J,hA,hc,ps,C,dd,ys,r1,rfl,-,-,hG2,-⟩
  ·rw[bS J]
   refine cS ?_
   go_ret
   exact⟨rfl,S6.ou.x0⟩
  have H1:=aj J
  have G:=aj (lV S5.ou.ok J)
  have ao:Hd (jW U hA ps (iI a s goal)):=hG2 No U (fun _ e=>e.elim) (al.refl _ _)
  have ap:Hd (jW U gA os gs):=HG.ou fp U a7.ou ((O4.ou.ae X5.ou).ae X6.ou)
  have N:=aj (vX (c:=gc) (d:=hc) ap.ou ao.ou (Ab x.ou) (Ab G.ou))
  have j:=aj (fun u (hu:bf U u)=>mv P.ou (S6.ou.ext hu) (by omega) s goal (by omega) (by omega) false)
  have E:Hd (gs=iI a s goal→∀r,dD (iI a s goal) (mZ a (iI a s goal)) r=[]):=fun e r=>LJ (e▸am.ou) r
  have av:=G.ou.n
  have bn:=x.ou.n
  obtain⟨i,t⟩:∃g,g=iI a s goal:=⟨_,rfl⟩
  have aD:=aj t
  rw[←t] at E N av ⊢
  have hq:gs=i→(dD i (mZ a i) r1).length=0:=fun e=>by rw[E.ou e r1];rfl
  have HQ:=aj hq
  generalize (dD i (mZ a i) r1).length=vn at HQ ⊢
  clear hG2 J t HG hq
  go_upto_region 16 with fail
  (refine cj [5] (Cl (U) (No)) (Cl.of (al.refl _ _)) ?_;refine bK ?_)
  (refine bQ ?_;intro K hK)
  refine N.ou.mono ?_
  rintro e u7 ⟨rfl,f⟩
  have X7:=aj f
  have V:=aj (S6.ou.ext f)
  refine⟨_,rfl,hK _ _ (fun _=>Cl.of f) ?_⟩
  clear hK K f N ap ao
  by_cases o:gs=i
  case neg=>
   have hd:decide (gs=i)=false:=aG o
   rw[hd]
   clear hd o
   refine bj ?_
   refine bK ?_
   refine ar ?_
   go_wp2_with fail
   go_ret
   exact⟨rfl,V.ou.x0⟩
  have hd:decide (gs=i)=true:=aM o
  rw[hd]
  obtain rfl:vn=0:=HQ.ou o
  have bb:=aj (E.ou o)
  have a0:=fh V.ou.ok.jx V.ou.ok.E9
  have bc:=a0.1
  have p:=aj (kS V.ou)
  clear hd o E HQ a0
  refine bj ?_
  refine bK ?_
  refine ar ?_
  go_wp2_with fail
  refine p.ou.mono ?_
  rintro e u8 ⟨A8,c8,rfl,F⟩
  have a1:=aj F
  have S8:=aj (V.ou.ext F.ext)
  have j:Hd (Calls Tryz.prog 15 #[pt xg,S s,S goal,.bool false] u8 (PH w u8 dg xg (1000+10) a a9 (zW a s goal) i (mZ a i) false)):=by
   rw[aD.ou]
   exact mv P.ou S8.ou (by omega) s goal (by omega) (by omega) false
  clear F p
  go_wp2_with fail
  refine j.ou.mono ?_
  rintro e u9 b
  clear j
  rcases b with⟨h0,-⟩|⟨-,r,m9,OA,oc,ocs,hL,hB,rfl,hsl,hoc,hR⟩
  ·exact absurd H1.ou h0
  rw[bb.ou r] at hB hR
  obtain rfl:m9=0:=Nat.le_zero.1 hB.le
  obtain⟨bd,a2,a3,-⟩:=hR
  have S9:Hd (qt w u9 dg xg (1000+10+10) a bd No):=a2
  have p:=aj (kS S9.ou)
  have a4:Hd (di br u9 A8 (bL a).length (bL a)):=a1.ou.fin (by decide) a3 V.ou.lt
  have X9:=aj S9.ou.x0
  obtain⟨L,a5⟩:∃l,l=bL a:=⟨_,rfl⟩
  rw[←a5] at a4 p bc ⊢
  clear a2 a3 hL hB hsl hoc a5 S9 a1
  go_upto_region 20 with fail
  (refine cj [14,16] (Cl (u9) (No)) (Cl.of (al.refl _ _)) ?_;refine bK ?_)
  (refine bQ ?_;intro K hK)
  refine p.ou.mono ?_
  rintro e bp ⟨bs,bg,rfl,F⟩
  have O:=aj (nP (c:=bg) (d:=c8) (F.row (by decide)) (a4.ou.ext F.ext) (by omega) (by omega))
  rw[aM (rfl:L=L)] at O
  have a6:=aj F.ext
  refine⟨_,rfl,hK _ _ (fun _=>Cl.of F.ext) ?_⟩
  clear hK K F p
  refine bj ?_
  refine bK ?_
  (refine bQ ?_;intro K hK)
  refine O.ou.mono ?_
  rintro e bu ⟨rfl,f⟩
  have bi:=aj (X9.ou.ae (a6.ou.ae f))
  refine⟨_,rfl,hK _ _ (fun _=>Cl.of (a6.ou.ae f)) ?_⟩
  clear hK K f O
  refine bj ?_
  refine bK ?_
  refine ar ?_
  go_wp2_with fail
  go_ret
  exact⟨rfl,bi.ou⟩
end Go.Proofs.YtpgmcijdcnnjpaaGreatDoor
