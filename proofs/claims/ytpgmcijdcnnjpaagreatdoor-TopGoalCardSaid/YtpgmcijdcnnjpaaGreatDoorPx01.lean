/- Lemmas for it. -/
import Derived.Test.YtpgmcijdcnnjpaaGreatDoorPk36
set_option linter.all false
set_option maxRecDepth 100000
set_option maxHeartbeats 8000000
namespace Go.Proofs.YtpgmcijdcnnjpaaGreatDoor
open Go Go.RowKit
theorem EG{w:World}(hE:sF w){A:Option Addr}{n c:Nat}{ds:List Dd}(h:nF w A n ds)(hn:n≤maxLen)(s goal:aK)(hs:s.length≤maxLen)(V:goal.length≤maxLen) :
  Calls Tryz.prog 7 #[.slice A n c,S s,S goal] w fun e w'=>e=.returned (.bool true)∧bf w w':=by
 have HE:=aj hE
 have HD:=aj h
 have hn:n≤9223372036854775807:=hn
 have hs:s.length≤9223372036854775807:=hs
 have V:goal.length≤9223372036854775807:=V
 have HW:=aj (vK hE)
 have HP:Hd (∀v,bf w v→Calls Tryz.prog 13 #[.slice A n c] v (oT w (l6 30 ds))):=fun v hv=>sU HE.ou hv HD.ou hn
 clear hE h
 go_enter Tryz.func7,Tryz.ntmps7
 go_wp2_with fail
 refine HW.ou.mono ?_
 rintro e u1 ⟨rfl,a⟩
 have X1:=aj a
 clear a HW
 go_wp2_with fail
 refine(HP.ou u1 X1.ou).mono ?_
 rintro e u2 k
 clear HP
 rcases k with⟨-,rfl,a⟩|⟨-,dg,xg,rows,fp,rfl,hS,hRe⟩
 ·have X2:=aj a
  clear a
  refine cS ?_
  go_ret
  exact⟨rfl,X2.ou⟩
 have E:=aj hS
 clear hS hRe
 by_cases W:s.length≤800∧goal.length≤20
 case neg=>
  have X2:=aj E.ou.x0
  by_cases h8:s.length≤800
  ·have t8:decide ((800:Int)<(s.length:Int))=false:=by rw[aA];omega
   have t2:decide ((20:Int)<(goal.length:Int))=true:=by rw[aW];have:¬goal.length≤20:=fun h=>W ⟨h8,h⟩;omega
   refine cS ?_
   go_ret
   exact⟨rfl,X2.ou⟩
  ·have t8:decide ((800:Int)<(s.length:Int))=true:=by rw[aW];omega
   refine cS ?_
   go_ret
   exact⟨rfl,X2.ou⟩
 obtain⟨h8,bd⟩:=W
 have t8:decide ((800:Int)<(s.length:Int))=false:=by rw[aA];omega
 have t2:decide ((20:Int)<(goal.length:Int))=false:=by rw[aA];omega
 have Y:=aj (nT HE.ou E.ou s goal (by omega) (by omega))
 go_wp2_with (refine dN ?_)
 refine Y.ou.mono ?_
 rintro e u3 ⟨a,k⟩
 have X3:=aj a
 have S3:=aj (E.ou.ext a)
 clear a Y
 rcases k with⟨h0,rfl⟩|⟨h0,gA,gc,os,B,d,xs,r0,rfl,hL0,hcap,hG,-⟩
 ·rw[bS h0]
  go_wp2_with fail
  go_ret
  exact⟨rfl,S3.ou.x0⟩
 have HG:=aj hG
 have a2:=aj E.ou.lt
 have Z:=aj (mv HE.ou S3.ou (by omega) s goal (by omega) (by omega) false)
 have q:=aj (lV E.ou.ok h0)
 have H0:=aj h0
 have a3:=aj E.ou.ok
 have p:=aj (KF (s:=s) (goal:=goal) E.ou.ok h0)
 obtain⟨gs,F⟩:∃g,g=iI rows s goal:=⟨_,rfl⟩
 have H:=aj F
 rw[←F] at HG q p hcap ⊢
 clear hG hL0 F h0
 go_wp2_with fail
 refine Z.ou.mono ?_
 rintro e u4 k
 clear Z
 rcases k with⟨h0,-⟩|⟨-,r,m,OA,oc,ocs,hL,hB,rfl,hsl,hoc,hR⟩
 ·exact absurd H0.ou h0
 have a9:m≤10:=by
  have h1:=hB.le
  have h2:=q.ou.n
  have h3:=oW (gs:=iI rows s goal) (st:=mZ rows (iI rows s goal)) (r:=r)
  rw[←H.ou] at h1 h3
  omega
 have y:=aj (IQ (c:=oc) hsl (by omega))
 rw[hoc] at y
 have C:=aj (fun x=>xp a3.ou H0.ou hL hB x)
 obtain⟨R,I⟩:∃R,R=ku (iI rows s goal) (dD (iI rows s goal) (mZ rows (iI rows s goal)) r) rows m:=⟨_,rfl⟩
 have ac:Hd (gs=[]→R.1=rows):=fun h=>by
  rw[H.ou] at h
  rw[I,h]
  have:m=0:=by
   have h1:=hB.le
   rw[h] at h1
   simpa [ig] using h1
  rw[this]
  try rfl
 rw[←I] at y C hR
 rw[←H.ou] at C
 obtain⟨f,cs⟩:=R
 obtain⟨bi,ag,ai,-⟩:=hR
 have S4:=aj ag
 have O4:Hd (al fp u3 u4):=ai
 clear hL hB hsl hoc I ag ai
 go_wp2_with fail
 refine y.ou.mono ?_
 rintro e u5 ⟨rfl,a⟩
 have X5:=aj a
 have S5:=aj (S4.ou.ext a)
 clear a y
 obtain⟨z,x⟩:∃z,z=vQ cs:=⟨_,rfl⟩
 have J:vQ (f,cs).2=z:=x.symm
 have e0:vQ cs=z:=x.symm
 rw[e0]
 cases z with
 | false=>
  clear x J e0
  go_wp2_with fail
  go_ret
  exact⟨rfl,S5.ou.x0⟩
 | true=>
  obtain⟨-,ak⟩:=C.ou J
  have am:Hd (∀g∈gs,g.ba=false→∀t∈g.targets,ji t (bL f)=true):=fun g hg hp=>AY (ak g hg hp)
  have ao:Hd (gs=[]→ji goal (bL f)=true):=fun h=>by
   have e1:f=rows:=ac.ou h
   rw[e1];exact p.ou h
  have K:=fh S5.ou.ok.jx S5.ou.ok.E9
  have a4:=K.1
  have M:=aj K.2.1
  have ap:=aj (kS S5.ou)
  clear x J e0 ak C ac p K
  go_wp2_with fail
  refine ap.ou.mono ?_
  rintro e u6 ⟨A6,c6,rfl,hF⟩
  have N:=aj (hF.row (by decide))
  have X6:=aj (S5.ou.x0.ae hF.ext)
  have XG:Hd (al fp u3 u6):=(O4.ou.ae X5.ou).ae hF.ext
  obtain⟨L,hL⟩:∃l,l=bL f:=⟨_,rfl⟩
  rw[←hL] at am ao a4 M N ⊢
  clear hF ap hL
  have bb:=q.ou.n
  go_wp2_with fail
  go_loopw [15] (fun iv wr=>∃i:Nat,i≤gs.length∧iv=.int .i64 i∧bf u6 wr) (fun iv _=>gs.length-(intOf iv).toNat)
  case atStart=>exact⟨0,au _,rfl,al.refl _ _⟩
  case round=>
   obtain⟨i,hi,rfl,a⟩:=hrel
   have XR:=aj a
   clear a
   have O:Hd (jW wr gA os gs):=HG.ou fp wr a2.ou (XG.ou.ae XR.ou)
   by_cases a5:i<gs.length
   ·obtain⟨bg,o,⟨⟨tA,tc,nA,nc,cA,cc⟩,G⟩,rfl,P,c0,c1,c2,c3⟩:=kz O.ou.row a5
    have av:gs[i]?=some G:=by rw[←O.ou.om,bP,P];rfl
    have HT:Hd (di cI wr tA G.targets.length G.targets):=(O.ou.rr _ (ah P)).1
    have D:=ah av
    have a6:=aj (am.ou G D)
    have bk:=(q.ou.b G D).1
    have bc:=aj (q.ou.t G D)
    have C0:Hd (∀ξ:X wr No,ξ.v.cell? ⟨bg,o+i*4,none⟩=some (.slice tA G.targets.length tc)):=c0
    have C3:Hd (∀ξ:X wr No,ξ.v.cell? ⟨bg,o+i*4+3,none⟩=some (.bool G.ba)):=c3
    clear c0 c1 c2 c3 P av D
    go_wp2_with fail
    go_loopw [16] (fun jv wq=>∃j:Nat,j≤G.targets.length∧jv=.int .i64 j∧bf wr wq) (fun jv _=>G.targets.length-(intOf jv).toNat)
    case atStart=>exact⟨0,au _,rfl,al.refl _ _⟩
    case round=>
     obtain⟨j,hj,rfl,a⟩:=hrel
     have XJ:=aj a
     clear a
     rename World=>wq
     have e0:wq.cell? ⟨bg,o+i*4,none⟩=some (.slice tA G.targets.length tc):=C0.ou ⟨wq,XJ.ou⟩
     by_cases a7:j<G.targets.length
     ·obtain⟨bt,ot,t,rfl,aD,ct⟩:=dq HT.ou a7
      have a0:=ah aD
      have e1:wq.cell? ⟨bt,ot+j,none⟩=some (S t):=ct ⟨wq,XJ.ou⟩
      have u:=aj (um (c:=c6) (N.ou.ext (XR.ou.ae XJ.ou)) (by omega) t M.ou)
      have a1:Hd (G.ba=false→ji t L=true):=fun h=>a6.ou h t a0
      clear ct aD a0
      go_wp2_with fail
      refine u.ou.mono ?_
      rintro e u7 ⟨rfl,a⟩
      have U:=aj (XJ.ou.ae a)
      have e3:u7.cell? ⟨bg,o+i*4+3,none⟩=some (.bool G.ba):=C3.ou ⟨u7,U.ou⟩
      clear a u e0 e1
      obtain⟨gb,Q⟩:∃b,b=ji t L:=⟨_,rfl⟩
      obtain⟨ph,T⟩:∃b,b=G.ba:=⟨_,rfl⟩
      rw[←Q,←T] at a1
      rw[←Q]
      rw[←T] at e3
      clear Q T
      cases gb with
      | true=>
       refine cS ?_
       go_roundw
       case rel=>exact⟨j+1,by omega,by go_num,U.ou⟩
       case measure=>simp[intOf];omega
      | false=>
       cases ph with
       | true=>
        refine cS ?_
        go_roundw
        case rel=>exact⟨j+1,by omega,by go_num,U.ou⟩
        case measure=>simp[intOf];omega
       | false=>exact absurd (a1.ou rfl) (by decide)
     ·obtain rfl:j=G.targets.length:=by omega
      go_wp2_with fail
      go_roundw
      case rel=>exact⟨i+1,by omega,by go_num,XR.ou.ae XJ.ou⟩
      case measure=>simp[intOf];omega
   ·obtain rfl:i=gs.length:=by omega
    have u:=aj (um (c:=c6) (N.ou.ext XR.ou) (by omega) goal M.ou)
    go_wp2_with fail
    refine u.ou.mono ?_
    rintro e u7 ⟨rfl,a⟩
    have U:=aj (X6.ou.ae (XR.ou.ae a))
    clear a u
    by_cases x:gs=[]
    ·have a8:gs.length=0:=by rw[x];rfl
     rw[ao.ou x,a8]
     refine cS ?_
     go_ret
     exact⟨rfl,U.ou⟩
    ·have bn:0<gs.length:=List.length_pos_iff.2 x
     have t1:decide ((0:Int)<(gs.length:Int))=true:=by rw[aW];omega
     have bo:decide (0<gs.length)=true:=by rw[aW];omega
     refine cS ?_
     go_ret
     exact⟨rfl,U.ou⟩
end Go.Proofs.YtpgmcijdcnnjpaaGreatDoor
