/- Lemmas for it. -/
import Derived.Test.YtpgmcijdcnnjpaaGreatDoorPk35
set_option linter.all false
set_option maxRecDepth 100000
set_option maxHeartbeats 8000000
namespace Go.Proofs.YtpgmcijdcnnjpaaGreatDoor
open Go Go.RowKit
theorem Ab{gs:List dv}(h:Ic gs):VJ gs:=⟨by have:=h.n;omega,fun g hg=>by have:=h.b g hg;exact⟨by have:=this.1;omega,by have:=this.2.1;omega,by have:=this.2.2;omega⟩⟩
theorem PG{G H:dv}(a:G.targets=H.targets)(b:G.aN=H.aN)(c:G.bD=H.bD)(d:G.ba=H.ba):G=H:=by
 cases G;cases H;simp_all
theorem vX{w:World}{A B:Option Addr}{c d:Nat}{os ps:List (fW×dv)}{out a:List dv}(h:jW w A os out)(h':jW w B ps a)(f:VJ out)(x:VJ a) :
  Calls Tryz.prog 17 #[.slice A out.length c,.slice B a.length d] w fun e w'=>e=.returned (.bool (decide (out=a)))∧bf w w':=by
 have H:=aj h
 have K:=aj h'
 have HZ:=aj f
 have HY:=aj x
 have hl:=f.1
 have ag:=x.1
 clear h h' f x
 by_cases g:out.length=a.length
 case neg=>
  have Q:decide (out=a)=false:=aG fun e=>g (by rw[e])
  rw[Q]
  clear Q H K HZ HY
  go_enter Tryz.func17,Tryz.ntmps17
  go_wp2_with fail
  go_ret
  exact⟨rfl,al.refl _ _⟩
 have HN:=aj g
 rw[←g]
 clear g ag
 go_enter Tryz.func17,Tryz.ntmps17
 go_wp2_with fail
 go_loopw [5] (fun i wr=>∃k:Nat,k≤out.length∧i=.int .i64 k∧out.take k=a.take k∧bf w wr) (fun i _=>out.length-(intOf i).toNat)
 case atStart=>exact⟨0,au _,rfl,rfl,al.refl _ _⟩
 case round=>
  obtain⟨k,hk,rfl,ht,N⟩:=hrel
  have R:=aj N
  have S:=aj ht
  clear N ht
  by_cases T:k<out.length
  ·obtain⟨b,o,⟨⟨tA,tc,nA,nc,cA,cc⟩,G⟩,rfl,N,d0,d1,d2,d3⟩:=kz H.ou.row T
   obtain⟨b',o',⟨⟨ai,U,ak,V,am,W⟩,j⟩,rfl,y,C,E,F,I⟩:=kz K.ou.row (show k<a.length by rw[←HN.ou];exact T)
   have l:out[k]?=some G:=by rw[←H.ou.om,bP,N];rfl
   have m:a[k]?=some j:=by rw[←K.ou.om,bP,y];rfl
   dsimp only at d0 d1 d2 d3 C E F I
   obtain⟨q1,q2,q3⟩:=H.ou.rr _ (ah N)
   obtain⟨p1,p2,p3⟩:=K.ou.rr _ (ah y)
   obtain⟨z1,z2,z3⟩:=HZ.ou.2 _ (ah l)
   obtain⟨y1,y2,y3⟩:=HY.ou.2 _ (ah m)
   have D:Hd (∀z,bf w z→∀ξ:X z No,ξ.v.cell? ⟨b,o+k*4,none⟩=some (.slice tA G.targets.length tc)∧ξ.v.cell? ⟨b,o+k*4+1,none⟩=some (.slice nA G.aN.length nc)∧ξ.v.cell? ⟨b,o+k*4+2,none⟩=some (.slice cA G.bD.length cc)∧ξ.v.cell? ⟨b,o+k*4+3,none⟩=some (.bool G.ba)):=fun z f ξ=>⟨d0 ⟨_,f.ae ξ.h⟩,d1 ⟨_,f.ae ξ.h⟩,d2 ⟨_,f.ae ξ.h⟩,d3 ⟨_,f.ae ξ.h⟩⟩
   have O:Hd (∀z,bf w z→∀ξ:X z No,ξ.v.cell? ⟨b',o'+k*4,none⟩=some (.slice ai j.targets.length U)∧ξ.v.cell? ⟨b',o'+k*4+1,none⟩=some (.slice ak j.aN.length V)∧ξ.v.cell? ⟨b',o'+k*4+2,none⟩=some (.slice am j.bD.length W)∧ξ.v.cell? ⟨b',o'+k*4+3,none⟩=some (.bool j.ba)):=fun z f ξ=>⟨C ⟨_,f.ae ξ.h⟩,E ⟨_,f.ae ξ.h⟩,F ⟨_,f.ae ξ.h⟩,I ⟨_,f.ae ξ.h⟩⟩
   have HT:=aj (fun z (f:bf w z)=>sK (c:=tc) (d:=U) (q1.ext f) (p1.ext f) (by dsimp only;omega) (by dsimp only;omega))
   have n:=aj (fun z (f:bf w z)=>sK (c:=nc) (d:=V) (q2.ext f) (p2.ext f) (by dsimp only;omega) (by dsimp only;omega))
   have HC:=aj (fun z (f:bf w z)=>sK (c:=cc) (d:=W) (q3.ext f) (p3.ext f) (by dsimp only;omega) (by dsimp only;omega))
   dsimp only at HT n HC
   obtain⟨bx,p⟩:∃b,b=decide (G.targets=j.targets):=⟨_,rfl⟩
   obtain⟨J,q⟩:∃b,b=decide (G.aN=j.aN):=⟨_,rfl⟩
   obtain⟨bz,r⟩:∃b,b=decide (G.bD=j.bD):=⟨_,rfl⟩
   obtain⟨f1,s⟩:∃b,b=G.ba:=⟨_,rfl⟩
   obtain⟨f2,t⟩:∃b,b=j.ba:=⟨_,rfl⟩
   have ao:Hd (bx=true∧J=true∧bz=true∧f1=f2→out.take (k+1)=a.take (k+1)):=fun⟨e1,e2,e3,e4⟩=>by
    rw[p,aW] at e1
    rw[q,aW] at e2
    rw[r,aW] at e3
    exact qR S.ou l m (PG e1 e2 e3 (by rw[←s,←t];exact e4))
   have HF:Hd (¬(bx=true∧J=true∧bz=true∧f1=f2)→decide (out=a)=false):=fun hne=>aG (GJ l m fun e=>hne (by subst e;exact⟨by rw[p];simp,by rw[q];simp,by rw[r];simp,by rw[s,t]⟩))
   rw[←p] at HT
   rw[←q] at n
   rw[←r] at HC
   rw[←s] at D
   rw[←t] at O
   clear d0 d1 d2 d3 C E F I N y l m q1 q2 q3 p1 p2 p3 z1 z2 z3 y1 y2 y3 p q r s t
   go_upto_region 6 with fail
   have P:=fun ξ=>(D.ou wr R.ou ξ).1
   have c1:=fun ξ=>(O.ou wr R.ou ξ).1
   refine aV [10] 100 (Cl wr No) (by kernel_rfl) (by kernel_rfl) (Cl.of (al.refl _ _).drew) ?_
   refine dH ?_
   (refine bQ ?_;intro K hK)
   refine(HT.ou _ (R.ou.ae (al.refl No wr).drew)).mono ?_
   rintro e L ⟨rfl,u⟩
   have U1:Hd (bf wr L):=(al.refl No wr).drew.ae u
   have X1:=aj (R.ou.ae U1.ou)
   refine⟨_,rfl,hK _ _ (fun _=>Cl.of U1.ou) ?_⟩
   clear hK K u P c1
   refine bj ?_
   refine dH ?_
   refine ar ?_
   have P:=fun ξ=>(D.ou L X1.ou ξ).2.1
   have c1:=fun ξ=>(O.ou L X1.ou ξ).2.1
   go_upto_region 7 with fail
   refine aV [10] 100 (Cl L No) (by kernel_rfl) (by kernel_rfl) (Cl.of (al.refl _ _).drew) ?_
   refine dH ?_
   (refine bQ ?_;intro K hK)
   refine(n.ou _ (X1.ou.ae (al.refl No L).drew)).mono ?_
   rintro e M ⟨rfl,u⟩
   have Y:Hd (bf L M):=(al.refl No L).drew.ae u
   have X2:=aj (X1.ou.ae Y.ou)
   refine⟨_,rfl,hK _ _ (fun _=>Cl.of Y.ou) ?_⟩
   clear hK K u P c1
   refine bj ?_
   refine dH ?_
   refine ar ?_
   have P:=fun ξ=>(D.ou M X2.ou ξ).2.2.1
   have c1:=fun ξ=>(O.ou M X2.ou ξ).2.2.1
   go_upto_region 8 with fail
   refine aV [10] 100 (Cl M No) (by kernel_rfl) (by kernel_rfl) (Cl.of (al.refl _ _).drew) ?_
   refine dH ?_
   (refine bQ ?_;intro K hK)
   refine(HC.ou _ (X2.ou.ae (al.refl No M).drew)).mono ?_
   rintro e Z ⟨rfl,u⟩
   have ac:Hd (bf M Z):=(al.refl No M).drew.ae u
   have X3:=aj (X2.ou.ae ac.ou)
   refine⟨_,rfl,hK _ _ (fun _=>Cl.of ac.ou) ?_⟩
   clear hK K u P c1
   refine bj ?_
   refine dH ?_
   refine ar ?_
   have P:=fun ξ=>(D.ou Z X3.ou ξ).2.2.2
   have c1:=fun ξ=>(O.ou Z X3.ou ξ).2.2.2
   have X4:Hd (bf w Z.drew):=X3.ou.drew
   clear D O HT n HC
   go_upto_region 9 with fail
   refine aV [] 100 (Cl Z No) (by kernel_rfl) (by kernel_rfl) (Cl.of (al.refl _ _).drew) ?_
   cases bx<;>cases J<;>cases bz<;>cases f1<;>cases f2
   all_goals
    refine bK ?_
    refine ar ?_
    go_wp2_with fail
    first
    | (go_ret;exact⟨fE (HF.ou (by decide)).symm,X4.ou⟩)
    | (go_roundw;exact⟨k+1,by omega,by go_num,ao.ou (by decide),X4.ou⟩;simp[intOf];omega)
  ·obtain rfl:k=out.length:=by omega
   have Q:decide (out=a)=true:=aM (by have:=S.ou;rwa [ay (aq _),HN.ou,ay (aq _)] at this)
   have ap:=aj Q
   clear Q
   go_wp2_with fail
   go_ret
   exact⟨fE ap.ou.symm,R.ou⟩
end Go.Proofs.YtpgmcijdcnnjpaaGreatDoor
