/- Lemmas for it. -/
import Derived.Test.YtpgmcijdcnnjpaaGreatDoorPk36
import Derived.Test.YtpgmcijdcnnjpaaGreatDoorPx03
set_option linter.all false
set_option maxRecDepth 100000
set_option maxHeartbeats 16000000
namespace Go.Proofs.YtpgmcijdcnnjpaaGreatDoor
open Go Go.RowKit Go.ChangeShapes Go.WideShapes Go.Deep
variable {A:Option Addr}
section
variable {H:Type} {enc:TypeId×Value→H} {w:World} {base:Nat} {held:Bool}
theorem MF{r:Reach}{b0:Nat}{v:Value}{d:DataW H}{p:List MemPlace}(a:Value.okWide Tryz.prog w r b0 54 v)(h:DataW.Trod enc Tryz.prog w base KI held 54 v d p) :
  ∃f:bm,v=.agg #[S f.1,S f.2]∧f.1.length≤maxLen∧f.2.length≤maxLen:=by
 obtain⟨v0,k,l,m,n,rfl,_,_,b,c⟩:=Joins.open_agg2 Tryz.underlying54 (by kernel_rfl) (by kernel_rfl) a h
 obtain⟨e,rfl,g⟩:=nR Tryz.underlying9 b
 obtain⟨i,rfl,j⟩:=nR Tryz.underlying9 c
 exact⟨(e,i),rfl,g,j⟩
end
theorem Jc{l m:List bm}{K:aK→Option iT}{g:dv}(h:∀t,t∈g.targets∨t∈g.aN→dY fk t l=dY fk t m):kV l K g=kV m K g:=by
 unfold kV jw
 rw[s9 fun t ht=>h t (.inl ht),rF fun t ht=>h t (.inr ht)]
theorem xS{l m:List bm}{F:aK→Option (jy×iT)}{gs:List dv}(h:∀g∈gs,ld l F g=ld m F g):∀i,gp l F gs i=gp m F gs i
 | 0=>rfl
 | i+1=>by
  rw[gp,gp,xS h i]
  cases hg:gs[i]? with
  | none=>rfl
  | some g=>
   simp only
   unfold mN
   rw[h g (ah hg)]
theorem Hr(rows:List Ch)(f:bm):(wZ rows f).1=rows∨(dQ (cF f)=0∧(wZ rows f).1=jq rows (cF f)):=by
 unfold wZ
 split
 ·exact .inl rfl
 ·rcases ni rows [cF f] with⟨e,h1,h2⟩|⟨e,-,-⟩
  ·rw[e];exact .inr ⟨h1 _ bO,rfl⟩
  ·exact .inl e
theorem PL{rows:List Ch}{f:bm}{gs:List dv}(h:nu rows)(a:∀g∈gs,f.1∉g.aN∧f.1∉g.targets):mZ (wZ rows f).1 gs=mZ rows gs:=by
 rcases Hr rows f with e|⟨hc,e⟩
 ·rw[e]
 ·rw[e]
  unfold mZ
  rw[xu rows f.1 f.2 false]
  refine xS (fun g hg=>?_) _
  rw[qB,qB]
  refine Jc fun t ht=>?_
  rw[Cn h.jx hc]
  exact my (key:=fk) f (fun e=>by
   have e:t=f.1:=e
   rw[e] at ht
   exact ht.elim (a g hg).2 (a g hg).1) _
theorem Jw{w u:World} {xs:List ((Option Addr×Nat)×List Nat)}{a:List (List Nat)}(h:Be w A xs a)(b:bf w u):Be u A xs a:=⟨h.1.ext b,fun x hm=>(h.2.1 x hm).ext b,h.2.2⟩
theorem FW{w:World}(hE:sF w) {n c:Nat}{ds:List Dd}(h:nF w A n ds)(hn:n≤maxLen)(s goal:aK)(hs:s.length≤maxLen)(a0:goal.length≤maxLen)(f:bm)(a1:f.1.length≤maxLen)(a2:f.2.length≤maxLen) :
  Calls Tryz.prog 6 #[.slice A n c,S s,S goal,.agg #[S f.1,S f.2]] w fun e w'=>e=.returned (.bool true)∧bf w w':=by
 obtain⟨w1,E⟩:∃u,u=(w.alloc (.cells #[S f.1,S f.2] 54)):=⟨_,rfl⟩
 obtain⟨V,W⟩:∃u,u=w.heap.size:=⟨_,rfl⟩
 have x1:=xaE E
 have C1:=nwC E W
 have HE:=aj (hE.ext x1)
 have HD:=aj (h.ext x1)
 have XB:=aj x1
 obtain⟨m,P⟩:=f
 have hn:n≤9223372036854775807:=hn
 have hs:s.length≤9223372036854775807:=hs
 have a0:goal.length≤9223372036854775807:=a0
 have a1:m.length≤9223372036854775807:=a1
 have a2:P.length≤9223372036854775807:=a2
 have HW:=aj (vK (hE.ext x1))
 have HP:Hd (∀v,bf w1 v→Calls Tryz.prog 13 #[.slice A n c] v (oT w1 (l6 30 ds))):=fun v hv=>sU HE.ou hv HD.ou hn
 obtain⟨b1,t1⟩:∃b,decide ((800:Int)<(s.length:Int))=b:=⟨_,rfl⟩
 obtain⟨b2,t2⟩:∃b,decide ((20:Int)<(goal.length:Int))=b:=⟨_,rfl⟩
 obtain⟨b3,t3⟩:∃b,decide ((20:Int)<(m.length:Int))=b:=⟨_,rfl⟩
 obtain⟨b4,t4⟩:∃b,decide ((60:Int)<(P.length:Int))=b:=⟨_,rfl⟩
 clear hE h x1
 go_enter Tryz.func6,Tryz.ntmps6
 go_upto_region 1 with fail
 rw[←E,←W]
 clear E W
 go_wp2_with fail
 refine HW.ou.mono ?_
 rintro e u1 ⟨rfl,l⟩
 have X1:=aj l
 clear l HW
 go_wp2_with fail
 refine(HP.ou u1 X1.ou).mono ?_
 rintro e u2 p
 clear HP
 rcases p with⟨-,rfl,l⟩|⟨-,dg,xg,rows,fp,rfl,hS,hRe⟩
 ·have Y:=aj (XB.ou.ae l)
  clear l
  refine cS ?_
  go_ret
  exact⟨rfl,Y.ou⟩
 have S2:=aj hS
 have Y:=aj (XB.ou.ae hS.x0)
 have Q:u2.cell? ⟨V,0,none⟩=some (S m):=(C1.ou.aP hS.x0 id).cell 0
 have m1:u2.cell? ⟨V,1,none⟩=some (S P):=(C1.ou.aP hS.x0 id).cell 1
 clear hS hRe
 cases b1 with
 | true=>
  refine cS ?_
  go_ret
  exact⟨rfl,Y.ou⟩
 | false=>
 cases b2 with
 | true=>
  refine cS ?_
  go_ret
  exact⟨rfl,Y.ou⟩
 | false=>
 cases b3 with
 | true=>
  refine cS ?_
  go_ret
  exact⟨rfl,Y.ou⟩
 | false=>
 cases b4 with
 | true=>
  refine cS ?_
  go_ret
  exact⟨rfl,Y.ou⟩
 | false=>
 have h8:=of_decide_eq_false t1
 have bw:=of_decide_eq_false t2
 have bx:=of_decide_eq_false t3
 have bz:=of_decide_eq_false t4
 have t:=aj (nT HE.ou S2.ou s goal (by omega) (by omega))
 go_wp2_with (refine dN ?_)
 refine t.ou.mono ?_
 rintro e u3 ⟨l,p⟩
 have S3:=aj (S2.ou.ext l)
 clear l t Q m1 Y
 rcases p with⟨h0,rfl⟩|⟨h0,gA,gc,os,B,d,xs,r0,rfl,hL0,hcap,hG,hU⟩
 ·rw[bS h0]
  go_wp2_with fail
  go_ret
  exact⟨rfl,XB.ou.ae S3.ou.x0⟩
 have HG:=aj hG
 have HU:=aj hU
 have Z:=aj hL0
 have a3:=aj S2.ou.lt
 have F:=aj (lV S2.ou.ok h0)
 have bo:=aj S2.ou.ok
 have a4:=oW (gs:=iI rows s goal) (st:=mZ rows (iI rows s goal)) (r:=r0)
 have ac:=aj (Ag (gs:=iI rows s goal) (st:=mZ rows (iI rows s goal)) (r:=r0))
 obtain⟨us,ag⟩:∃k,k=dD (iI rows s goal) (mZ rows (iI rows s goal)) r0:=⟨_,rfl⟩
 have ai:=aj ag
 rw[←ag] at HU ac a4 ⊢
 obtain⟨gs,a5⟩:∃g,g=iI rows s goal:=⟨_,rfl⟩
 rw[←a5] at HG F hcap Z ai ac a4 ⊢
 clear hG hU hL0 a5 h0 ag
 have bv:=F.ou.n
 go_wp2_with fail
 go_loopw [15] (fun iv wr=>∃i:Nat,i≤gs.length∧iv=.int .i64 i∧(∀(j:Nat) q,j<i→gs[j]?=some q→m∉q.aN∧m∉q.targets)∧bf u3 wr) (fun iv _=>gs.length-(intOf iv).toNat)
 case atStart=>exact⟨0,au _,rfl,fun j _ hj=>absurd hj (kK j),al.refl _ _⟩
 case round=>
  obtain⟨i,hi,rfl,a6,l⟩:=hrel
  have XR:=aj l
  have ak:=aj a6
  have SR:=aj (S3.ou.ext l)
  clear l a6
  by_cases bp:i<gs.length
  ·have am:Hd (jW wr gA os gs):=HG.ou No wr (fun _ e=>e.elim) XR.ou
   obtain⟨bg,o,⟨⟨tA,tc,nA,nc,cA,cc⟩,G⟩,rfl,ao,c0,c1,c2,c3⟩:=kz am.ou.row bp
   have ap:gs[i]?=some G:=by rw[←am.ou.om,bP,ao];rfl
   obtain⟨q1,q2,-⟩:=am.ou.rr _ (ah ao)
   have hz:=Ab F.ou
   obtain⟨z1,z2,-⟩:=hz.2 G (ah ap)
   have H:=aj (fun u (y:bf wr u)=>Tl (c:=nc) (q2.ext y) (by dsimp only;omega) m)
   have I:=aj (fun u (y:bf wr u)=>Tl (c:=tc) (q1.ext y) (by dsimp only;omega) m)
   obtain⟨d1,J⟩:∃b,b=iH G.aN m:=⟨_,rfl⟩
   obtain⟨d2,L⟩:∃b,b=iH G.targets m:=⟨_,rfl⟩
   have bs:Hd (d1=false→d2=false→∀(j:Nat) q,j<i+1→gs[j]?=some q→m∉q.aN∧m∉q.targets):=fun e1 e2 j q hj hq=>by
    by_cases h:j<i
    ·exact ak.ou j q h hq
    ·obtain rfl:j=i:=by omega
     rw[ap] at hq
     cases hq
     rw[e1] at J
     rw[e2] at L
     exact⟨of_decide_eq_false J.symm,of_decide_eq_false L.symm⟩
   dsimp only at H I
   rw[←J] at H
   rw[←L] at I
   have C0:Hd (∀ξ:X wr No,ξ.v.cell? ⟨bg,o+i*4,none⟩=some (.slice tA G.targets.length tc)):=c0
   have cn:∀ξ:X wr No,ξ.v.cell? ⟨bg,o+i*4+1,none⟩=some (.slice nA G.aN.length nc):=c1
   have Q:∀ξ:X wr No,ξ.v.cell? ⟨V,0,none⟩=some (S m):=(C1.ou.aP SR.ou.x0 id).x id 0
   have M0:=aj Q
   clear c0 c1 c2 c3 ao ap q1 q2 hz z1 z2 J L
   go_upto_region 13 with fail
   (refine aV [7,16] 100 (Cl (wr) (No)) (by kernel_rfl) (by kernel_rfl) (Cl.of (al.refl _ _).drew) ?_;refine bK ?_)
   (refine bQ ?_;intro K hK)
   refine(H.ou _ (al.refl No wr).drew).mono ?_
   rintro e u4 ⟨rfl,y⟩
   have U4:Hd (bf wr u4):=(al.refl No wr).drew.ae y
   refine⟨_,rfl,hK _ _ (fun _=>Cl.of U4.ou) ?_⟩
   clear hK K y H cn Q
   have X4:=aj ((XB.ou.ae SR.ou.x0).ae U4.ou)
   cases d1 with
   | true=>
    refine bj ?_
    refine bK ?_
    refine ar ?_
    go_wp2_with fail
    go_ret
    exact⟨rfl,X4.ou⟩
   | false=>
    have ct:∀ξ:X u4 No,ξ.v.cell? ⟨bg,o+i*4,none⟩=some (.slice tA G.targets.length tc):=fun ξ=>C0.ou ⟨_,U4.ou.ae ξ.h⟩
    have Q:∀ξ:X u4 No,ξ.v.cell? ⟨V,0,none⟩=some (S m):=fun ξ=>M0.ou ⟨_,U4.ou.ae ξ.h⟩
    have bu:∀ξ:X wr No,ξ.v.cell? ⟨bg,o+i*4,none⟩=some (.slice tA G.targets.length tc):=C0.ou
    have m2:∀ξ:X wr No,ξ.v.cell? ⟨V,0,none⟩=some (S m):=M0.ou
    refine bj ?_
    refine bK ?_
    (refine bQ ?_;intro K hK)
    refine(I.ou _ U4.ou).mono ?_
    rintro e u5 ⟨rfl,y⟩
    have U5:Hd (bf wr u5):=U4.ou.ae y
    refine⟨_,rfl,hK _ _ (fun _=>Cl.of U5.ou) ?_⟩
    clear hK K y I ct Q bu m2
    have X5:=aj ((XB.ou.ae SR.ou.x0).ae U5.ou)
    cases d2 with
    | true=>
     refine bj ?_
     refine bK ?_
     refine ar ?_
     go_wp2_with fail
     go_ret
     exact⟨rfl,X5.ou⟩
    | false=>
     have X5:=aj (XR.ou.ae U5.ou)
     refine bj ?_
     refine bK ?_
     refine ar ?_
     go_wp2_with fail
     go_roundw
     case rel=>exact⟨i+1,by omega,by go_num,bs.ou rfl rfl,X5.ou⟩
     case measure=>simp[intOf];omega
  ·obtain rfl:i=gs.length:=by omega
   have R:Hd (∀g∈gs,m∉g.aN∧m∉g.targets):=fun g hg=>by
    obtain⟨j,hj⟩:=gi hg
    exact ak.ou j g (aw.1 hj).1 hj
   have Q:wr.cell? ⟨V,0,none⟩=some (S m):=(C1.ou.aP SR.ou.x0 id).cell 0
   have m1:wr.cell? ⟨V,1,none⟩=some (S P):=(C1.ou.aP SR.ou.x0 id).cell 1
   have a7:=aj (El HE.ou SR.ou (by omega) (m,P) (by show m.length≤900;omega) (by show P.length≤900;omega))
   have av:Hd (mZ (wZ rows (m,P)).1 gs=mZ rows gs):=PL bo.ou R.ou
   clear ak R
   go_wp2_with fail
   refine a7.ou.mono ?_
   rintro e u5 ⟨rfl,hR⟩
   obtain⟨bA,a8,a9,-⟩:=hR
   have S5:=aj a8
   have O5:Hd (al fp u3 u5):=(al.any XR.ou).trans a9 fun _ _ e=>e
   clear a7 a8 a9 Q m1
   obtain⟨a,bb⟩:∃r,r=(wZ rows (m,P)).1:=⟨_,rfl⟩
   rw[←bb] at S5 av
   clear bb
   have t:=aj (nT HE.ou S5.ou s goal (by omega) (by omega))
   go_wp2_with fail
   refine t.ou.mono ?_
   rintro e M ⟨l,p⟩
   have O6:=aj (O5.ou.ae l)
   have S6:=aj (S5.ou.ext l)
   have X6:=aj (XB.ou.ae S6.ou.x0)
   clear l t
   rcases p with⟨h1,rfl⟩|⟨h1,hA,hc,ps,C,dd,ys,r1,rfl,hL1,-,hG2,hU2⟩
   ·rw[bS h1]
    refine cS ?_
    go_ret
    exact⟨rfl,X6.ou⟩
   have T:=aj (lV S5.ou.ok h1)
   have bc:Hd (jW M hA ps (iI a s goal)):=hG2 No M (fun _ e=>e.elim) (al.refl _ _)
   have bd:Hd (jW M gA os gs):=HG.ou fp M a3.ou O6.ou
   have bi:Hd (Be M B xs us):=HU.ou fp M a3.ou O6.ou
   have aD:=aj (vX (c:=gc) (d:=hc) bd.ou bc.ou (Ab F.ou) (Ab T.ou))
   have N:Hd (gs=iI a s goal→dD (iI a s goal) (mZ a (iI a s goal)) r1=us):=fun e=>by
    rw[←e] at hL1 ⊢
    rw[av.ou] at hL1 ⊢
    rw[ai.ou,dD,dD,p9 Z.ou hL1]
   have O:Hd (Be M C ys (dD (iI a s goal) (mZ a (iI a s goal)) r1)):=hU2 No M (fun _ e=>e.elim) (al.refl _ _)
   have bk:=T.ou.n
   obtain⟨z,U⟩:∃g,g=iI a s goal:=⟨_,rfl⟩
   rw[←U] at aD N O bk ⊢
   generalize dD z (mZ a z) r1=us2 at N O ⊢
   clear hG2 hU2 hL1 h1 U HG HU av bd bc Z ai
   go_upto_region 17 with fail
   (refine cj [5] (Cl (M) (No)) (Cl.of (al.refl _ _)) ?_;refine bK ?_)
   (refine bQ ?_;intro K hK)
   refine aD.ou.mono ?_
   rintro e u7 ⟨rfl,l⟩
   have X7:=aj l
   refine⟨_,rfl,hK _ _ (fun _=>Cl.of l) ?_⟩
   clear hK K l aD
   by_cases D:gs=z
   case neg=>
    have hd:decide (gs=z)=false:=aG D
    rw[hd]
    clear hd D
    refine bj ?_
    refine bK ?_
    refine ar ?_
    go_wp2_with fail
    go_ret
    exact⟨rfl,X6.ou.ae X7.ou⟩
   have hd:decide (gs=z)=true:=aM D
   rw[hd]
   obtain rfl:us2=us:=N.ou D
   have bn:=aj (Gy (c:=d) (d:=dd) (Jw bi.ou X7.ou) (Jw O.ou X7.ou) (by omega) (fun u y=>by have:=ac.ou u y;omega))
   clear hd D N bi O
   refine bj ?_
   refine bK ?_
   refine ar ?_
   go_wp2_with fail
   refine bn.ou.mono ?_
   rintro e u8 ⟨rfl,l⟩
   have X8:=aj (X7.ou.ae l)
   clear l bn
   go_wp2_with fail
   go_ret
   exact⟨rfl,X6.ou.ae X8.ou⟩
end Go.Proofs.YtpgmcijdcnnjpaaGreatDoor
