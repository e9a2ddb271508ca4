/- Lemmas for it. -/
import Derived.Test.YtpgmcijdcnnjpaaGreatDoorPk09
set_option linter.all false
set_option maxRecDepth 100000
set_option maxHeartbeats 4000000
namespace Go.Proofs.YtpgmcijdcnnjpaaGreatDoor
open Go Go.RowKit
variable {v w:World} {b c k n:Nat} {α:Type} {t:TypeId} {A:Option Addr} {F:Nat→Prop} {rs:List (fW×lR)} {G:dv} {f:aK→Option Value} {name:aK} {m:Mk}
theorem yN  {x y z:Value}(h:Cs w b kN #[x,y,z]):(loadVar kN ⟨b,0,none⟩).run Tryz.prog w=.ok (.agg #[x,y,z]) w:=by
 have a:=h.cell 0
 have c1:=h.cell 1
 have c:=h.cell 2
 simp only[aB,aQ,aX] at a c1 c
 go_simp
@[go_sem] theorem Ui (w:World):(Instr.build kN #[]).run Tryz.prog w=.ok (.agg #[.slice none 0 0,.slice none 0 0,.slice none 0 0]) w:=run_build w kN _ _ (by kernel_rfl)
theorem bR.fin {T:kJ α}(d:0<T.size) {a u:World}   {xs:List α}(h:bR T t w a A c xs)(f:al F a u)(g:∀b,F b→b<w.heap.size):di T u A xs.length xs:=
 di.jk d (cl h.own f fun b hb e=>by have:=g b e;have:=h.new b hb;omega)
theorem qp.fin{Q:List lD}{w e u:World}{g:Nat}{F:Nat→Prop}{v:wR}{d:List (fW×lR)}{m:Mk}(h:qp Q w e g v d m)(a:al F e u)(c:∀b,F b→b<w.heap.size):pY u v d m:=by
 refine⟨h.fv.fin (by decide) a c,?_,(h.ss.f ⟨v.pA,v.pc,m.ba⟩ (by simp)).fin (by decide) a c,fun x hm=>?_,h.rm⟩
 ·have:=h.fr.fin (by decide) a c
  rw[h.rl] at this
  exact this
 ·have q:∀y∈oq x,y∈Q++(⟨v.pA,v.pc,m.ba⟩:lD)::d.flatMap oq:=fun y hy=>cN _ (aE _ (cG.2 ⟨x,hm,hy⟩))
  exact⟨(h.ss.f _ (q ⟨x.1.tA,x.1.tc,x.2.targets⟩ (by simp))).fin (by decide) a c,(h.ss.f _ (q ⟨x.1.nA,x.1.nc,x.2.aN⟩ (by simp))).fin (by decide) a c,(h.ss.f _ (q ⟨x.1.cA,x.1.cc,x.2.bD⟩ (by simp))).fin (by decide) a c⟩
theorem qp.qf{w a:World}{g:Nat}{q:lD}(b:bf w a)(c:w.heap.size≤g)(d:Cs a g kN #[.slice none 0 0,.slice none 0 0,.slice none 0 0])(hq:q.F w a):qp [q] w a g Ie [] qf:=by
 refine⟨d,bR.nil _ _ _ _ b,bR.nil _ _ _ _ b,⟨fun x hm=>?_,?_⟩,rfl,c⟩
 ·rcases aY.1 hm with rfl|hm
  ·exact hq
  ·obtain rfl:=aC.1 hm
   exact bR.nil _ _ _ _ b
 ·refine dp.2 ⟨fun y hy=>?_,jM _ _⟩
  obtain rfl:=aC.1 hy
  intro g _ e
  simp[lD.own,Value.ownBlock] at e
theorem Ay(s:aK):(fj s).1.Fit 700:=by
 have a:qf.Fit 700:=⟨nL.v,nL.vt,nL.r,nL.rt,au _⟩
 unfold fj
 split
 ·exact a
 ·rename_i hl
  split
  ·exact a
  ·split
   ·have:=Ci (iG 10 s) qf 0 nL (fun l hx=>by have:=wy 10 s l hx;omega)
    have b:=oG 10 s
    exact⟨this.v,this.vt,this.r,this.rt,by have:=this.p;show(jV (iG 10 s) qf).1.ba.length≤700;omega⟩
   ·exact a
theorem IE(l:aK)(a:List aK)(m:Mk):jV (l::a) m=if (nX m l).2=0 then jV a (nX m l).1 else (qf,(nX m l).2):=rfl
def TY(w:World)(R:Mk×Int)(e:Ending)(w':World):Prop:=∃v rs,e=.returned (.tuple #[Sz v R.1,eT R.2])∧(∀(F:Nat→Prop) (u:World),(∀b,F b→b<w.heap.size)→al F w' u→pY u v rs R.1)∧bf w w'
theorem GQ (hm:Ml w)(s:aK)(hs:s.length≤9223372036854775807):Calls Tryz.prog 40 #[S s] w (TY w (fj s)):=by
 obtain⟨d,B⟩:∃g,g=w.heap.size:=⟨_,rfl⟩
 obtain⟨k,t⟩:∃k,k=w.alloc (.cells #[.slice none 0 0,.slice none 0 0,.slice none 0 0] kN):=⟨_,rfl⟩
 have x1:bf w k:=by rw[t];exact(al.refl No w).alloc _
 have G:Hd (Cs k d kN #[.slice none 0 0,.slice none 0 0,.slice none 0 0]):=by rw[t,B];exact Cs.new _ _ _
 have a2:d<k.heap.size:=by rw[t,B];simp
 have a3:w.heap.size≤d:=by omega
 have X1:=aj x1
 have HM:=aj (hm.ext x1)
 have HX:Hd (∀u v,bf k u→al (fun b=>b=d) u v→bf w v):=fun u v h1 h2=>(x1.ae h1).trans h2 fun b hb e=>by have e:b=d:=e;omega
 have HP:Hd (fj s=if 600<s.length then (qf,2) else if (jV (iG 10 s) qf).2≠0 then (qf,(jV (iG 10 s) qf).2) else if pH (jV (iG 10 s) qf).1=0 then ((jV (iG 10 s) qf).1,0) else (qf,pH (jV (iG 10 s) qf).1)):=rfl
 clear x1 hm
 by_cases hl:600<s.length
 ·have g6:decide ((600:Int)<(s.length:Int))=true:=by rw[aW];omega
  have N:=aj (HP.ou.trans (ab hl))
  have e0:k.cell? ⟨d,0,none⟩=some (.slice none 0 0):=G.ou.cell 0
  have e1:k.cell? ⟨d,1,none⟩=some (.slice none 0 0):=G.ou.cell 1
  have e2:k.cell? ⟨d,2,none⟩=some (.slice none 0 0):=G.ou.cell 2
  have z0:=G.ou.frozen 0
  have z1:=G.ou.frozen 1
  have z2:=G.ou.frozen 2
  have O:Hd (∀a b c,al (fun b=>b=d) k (((k.setCell ⟨d,0,none⟩ a).setCell ⟨d,1,none⟩ b).setCell ⟨d,2,none⟩ c)):=fun a b c=>(((al.refl _ _).at_ 0 a).at_ 1 b).at_ 2 c
  have Z:Hd (∀a b c,Cs (((k.setCell ⟨d,0,none⟩ a).setCell ⟨d,1,none⟩ b).setCell ⟨d,2,none⟩ c) d kN #[a,b,c]):=fun a b c=>((G.ou.cM 0 a).cM 1 b).cM 2 c
  go_enter Tryz.func40,Tryz.ntmps40
  go_upto_region 1 with fail
  rw[←t,←B]
  clear t B
  go_wp2_with fail
  refine eP rfl rfl rfl (yN (Z.ou _ _ _)) ?_
  rw[N.ou]
  exact⟨Ie,[],rfl,fun _ _ _ _=>IG _,HX.ou _ _ (al.refl _ _) (O.ou _ _ _)⟩
 ·have g6:decide ((600:Int)<(s.length:Int))=false:=by rw[aA];omega
  have H:=aj (HP.ou.trans (aa hl))
  clear HP
  obtain⟨E,I⟩:∃g,g=k.heap.size:=⟨_,rfl⟩
  obtain⟨w2,J⟩:∃u,u=k.alloc (.cells #[.slice none 0 0,.slice none 0 0,.slice none 0 0] kN):=⟨_,rfl⟩
  have x2:bf k w2:=by rw[J];exact(al.refl No k).alloc _
  have n:Hd (Cs w2 E kN #[.slice none 0 0,.slice none 0 0,.slice none 0 0]):=by
   rw[J,I]
   exact Cs.new _ _ _
  have ao:k.heap.size≤E:=ij I.symm
  have Q:=aj (Ji s (by omega) 10 (HM.ou.ext x2))
  have X2:=aj x2
  have ac:∀l∈iG 10 s,l.length≤600:=fun l T=>by have:=wy 10 s l T;omega
  have ap:=oG 10 s
  have ag:=aj ac
  clear x2 ac
  obtain⟨y,ai⟩:∃l,l=iG 10 s:=⟨_,rfl⟩
  rw[←ai] at Q ag H ap
  clear ai
  go_enter Tryz.func40,Tryz.ntmps40
  go_upto_region 1 with fail
  rw[←t,←B]
  clear t B
  go_upto_region 4 with fail
  rw[←J,←I]
  clear J I
  go_wp2_with fail
  refine Q.ou.mono ?_
  rintro e w3 ⟨A3,c3,rfl,K⟩
  have P3:Hd (qp [⟨A3,c3,y⟩] k w3 E Ie [] qf):=qp.qf (X2.ou.ae K.ext) ao (n.ou.aP K.ext id) (bR.from K X2.ou)
  clear K n Q X2
  go_wp2_with fail
  go_loopw [18] (fun i wr=>∃j:Nat,j≤y.length∧i=.int .i64 j∧∃v rs m,qp [⟨A3,c3,y⟩] k wr E v rs m∧m.Fit j∧jV y qf=jV (y.drop j) m) (fun i _=>y.length-(intOf i).toNat)
  case atStart=>exact⟨0,au _,rfl,Ie,[],qf,P3.ou,nL,rfl⟩
  case round=>
   clear P3
   obtain⟨j,hj,rfl,v,rs,m,hP,hF,hO⟩:=hrel
   have P:=aj hP
   have z:=aj hF
   have L:=aj hO
   clear hP hF hO
   by_cases av:j<y.length
   ·have aD:=aj ((P.ou.ss.f ⟨A3,c3,y⟩ (by simp)).row (by decide))
    obtain⟨b,o,l,rfl,T,cx⟩:=dq aD.ou av
    have ak:=aj T
    have a0:wr.cell? ⟨b,o+j,none⟩=some (S l):=cx (X.here _ _)
    have am:l.length≤600:=ag.ou l (ah ak.ou)
    have U:=aj (SM HM.ou P.ou z.ou (by omega) l am)
    have D:=aj (Cr z.ou am)
    have A:Hd (jV y qf=if (nX m l).2=0 then jV (y.drop (j+1)) (nX m l).1 else (qf,(nX m l).2)):=by
     rw[Hd,L.ou,sY ak.ou,IE]
    clear T cx L P z
    generalize nX m l=R at U D A
    obtain⟨m',er⟩:=R
    dsimp only at A D
    go_wp2_with fail
    refine U.ou.mono ?_
    rintro e u ⟨v',a1,rfl,hM⟩
    have C:=aj hM
    clear hM U a0
    by_cases M:er=0
    ·subst M
     rw[cO]
     have V:Hd (jV y qf=jV (y.drop (j+1)) m'):=A.ou.trans (ab rfl)
     go_wp2_with fail
     go_roundw
     case rel=>exact⟨j+1,by omega,by go_num,v',a1,m',C.ou,D.ou,V.ou⟩
     case measure=>simp[intOf];omega
    ·have q:=bS M
     have V:Hd (jV y qf=(qf,er)):=A.ou.trans (aa M)
     have N:Hd (fj s=(qf,er)):=by
      rw[Hd,H.ou,V.ou]
      exact ab M
     have n:=aj (G.ou.aP C.ou.x id)
     have O:Hd (∀a b c,al (fun b=>b=d) u (((u.setCell ⟨d,0,none⟩ a).setCell ⟨d,1,none⟩ b).setCell ⟨d,2,none⟩ c)):=fun a b c=>(((al.refl _ _).at_ 0 a).at_ 1 b).at_ 2 c
     have Z:Hd (∀a b c,Cs (((u.setCell ⟨d,0,none⟩ a).setCell ⟨d,1,none⟩ b).setCell ⟨d,2,none⟩ c) d kN #[a,b,c]):=fun a b c=>((n.ou.cM 0 a).cM 1 b).cM 2 c
     have e0:u.cell? ⟨d,0,none⟩=some (.slice none 0 0):=n.ou.cell 0
     have e1:u.cell? ⟨d,1,none⟩=some (.slice none 0 0):=n.ou.cell 1
     have e2:u.cell? ⟨d,2,none⟩=some (.slice none 0 0):=n.ou.cell 2
     have z0:=n.ou.frozen 0
     have z1:=n.ou.frozen 1
     have z2:=n.ou.frozen 2
     rw[q]
     go_wp2_with fail
     refine eP rfl rfl rfl (yN (Z.ou _ _ _)) ?_
     rw[N.ou]
     exact⟨Ie,[],by rw[q];rfl,fun _ _ _ _=>IG _,HX.ou _ _ C.ou.x (O.ou _ _ _)⟩
   ·obtain rfl:j=y.length:=by omega
    have A:Hd (jV y qf=(m,0)):=by
     rw[Hd,L.ou,cr (aq _)]
     try rfl
    have W:Hd (fj s=if pH m=0 then (m,0) else (qf,pH m)):=by
     rw[Hd,H.ou,A.ou]
     exact aa (fun h=>h rfl)
    clear L A H
    have c0:wr.cell? ⟨E,0,none⟩=some (.slice v.vA m.vars.length v.vc):=P.ou.rc.cell 0
    have c1:wr.cell? ⟨E,1,none⟩=some (.slice v.rA m.rules.length v.rc):=by rw[←P.ou.rl];exact P.ou.rc.cell 1
    have c2:wr.cell? ⟨E,2,none⟩=some (.slice v.pA m.ba.length v.pc):=P.ou.rc.cell 2
    have Y:=aj (Lx P.ou.made z.ou.r (fun x T=>⟨(z.ou.rt x T).1,(z.ou.rt x T).2.1⟩) (by have:=z.ou.p;omega))
    generalize pH m=ck at Y W
    go_wp2_with fail
    refine Y.ou.mono ?_
    rintro e u ⟨rfl,hu⟩
    have C:=aj (P.ou.ext hu)
    have n:=aj (G.ou.aP C.ou.x id)
    clear hu Y P c0 c1 c2
    have O:Hd (∀a b c,al (fun b=>b=d) u (((u.setCell ⟨d,0,none⟩ a).setCell ⟨d,1,none⟩ b).setCell ⟨d,2,none⟩ c)):=fun a b c=>(((al.refl _ _).at_ 0 a).at_ 1 b).at_ 2 c
    have Z:Hd (∀a b c,Cs (((u.setCell ⟨d,0,none⟩ a).setCell ⟨d,1,none⟩ b).setCell ⟨d,2,none⟩ c) d kN #[a,b,c]):=fun a b c=>((n.ou.cM 0 a).cM 1 b).cM 2 c
    have e0:u.cell? ⟨d,0,none⟩=some (.slice none 0 0):=n.ou.cell 0
    have e1:u.cell? ⟨d,1,none⟩=some (.slice none 0 0):=n.ou.cell 1
    have e2:u.cell? ⟨d,2,none⟩=some (.slice none 0 0):=n.ou.cell 2
    have z0:=n.ou.frozen 0
    have z1:=n.ou.frozen 1
    have z2:=n.ou.frozen 2
    by_cases M:ck=0
    ·subst M
     rw[cO]
     have N:Hd (fj s=(m,0)):=W.ou.trans (ab rfl)
     have c0:u.cell? ⟨E,0,none⟩=some (.slice v.vA m.vars.length v.vc):=C.ou.rc.cell 0
     have c1:u.cell? ⟨E,1,none⟩=some (.slice v.rA m.rules.length v.rc):=by rw[←C.ou.rl];exact C.ou.rc.cell 1
     have c2:u.cell? ⟨E,2,none⟩=some (.slice v.pA m.ba.length v.pc):=C.ou.rc.cell 2
     go_wp2_with fail
     refine eP rfl rfl rfl (yN (Z.ou _ _ _)) ?_
     rw[N.ou]
     exact⟨v,rs,rfl,fun F u' hF hu'=>C.ou.fin (F:=fun b=>b=d∨F b) (((O.ou _ _ _).gU fun b _ h=>.inl h).trans hu' fun b _ h=>.inr h) (fun b hb=>by
      have:=X1.ou.size
      rcases hb with hb|hb
      ·omega
      ·have:=hF b hb
       omega),HX.ou _ _ C.ou.x (O.ou _ _ _)⟩
    ·have q:=bS M
     have N:Hd (fj s=(qf,ck)):=W.ou.trans (aa M)
     rw[q]
     go_wp2_with fail
     refine eP rfl rfl rfl (yN (Z.ou _ _ _)) ?_
     rw[N.ou]
     exact⟨Ie,[],by rw[q];rfl,fun _ _ _ _=>IG _,HX.ou _ _ C.ou.x (O.ou _ _ _)⟩
abbrev ia:TypeId:=47
def He:kJ (fW×dv):=⟨4,fun x=>[.slice x.1.tA x.2.targets.length x.1.tc,.slice x.1.nA x.2.aN.length x.1.nc,.slice x.1.cA x.2.bD.length x.1.cc,.bool x.2.ba],fun _=>rfl⟩
theorem kz   {d:List (fW×dv)}(h:di He w A n d) (f:k<n) :
  ∃b o x,A=some ⟨b,o,none⟩∧d[k]?=some x∧(∀ξ:X w No,ξ.v.cell? ⟨b,o+k*4,none⟩=some (.slice x.1.tA x.2.targets.length x.1.tc))∧(∀ξ:X w No,ξ.v.cell? ⟨b,o+k*4+1,none⟩=some (.slice x.1.nA x.2.aN.length x.1.nc)) ∧
   (∀ξ:X w No,ξ.v.cell? ⟨b,o+k*4+2,none⟩=some (.slice x.1.cA x.2.bD.length x.1.cc))∧(∀ξ:X w No,ξ.v.cell? ⟨b,o+k*4+3,none⟩=some (.bool x.2.ba)):=by
 obtain⟨b,o,x,e,a,g,c⟩:=h.get f
 exact⟨b,o,x,e,g,fun ξ=>(ξ.h.cell a id).trans (c 0 _ rfl),fun ξ=>(ξ.h.cell a id).trans (c 1 _ rfl),fun ξ=>(ξ.h.cell a id).trans (c 2 _ rfl),fun ξ=>(ξ.h.cell a id).trans (c 3 _ rfl)⟩
abbrev J6(x:fW×lR):Value:=.agg #[.slice x.1.tA x.2.targets.length x.1.tc,.slice x.1.nA x.2.aN.length x.1.nc,.slice x.1.cA x.2.bD.length x.1.cc]
abbrev AP(x:fW×dv):Value:=.agg #[.slice x.1.tA x.2.targets.length x.1.tc,.slice x.1.nA x.2.aN.length x.1.nc,.slice x.1.cA x.2.bD.length x.1.cc,.bool x.2.ba]
def qo(o:Option Nat):Int:=match o with|some i=>(i:Int)|none=>-1
theorem mV {p:α→Bool}{xs:List α} {x:α}(h:∀y∈xs.take k,p y=false)(a:xs[k]?=some x)(b:p x=false):∀y∈xs.take (k+1),p y=false:=fun y hy=>by
 rw[aU,a] at hy
 rcases az.1 hy with hy|hy
 ·exact h y hy
 ·simp at hy;exact hy▸b
theorem uy {p:α→Bool}{xs:List α} {x:α}(h:∀y∈xs.take k,p y=false)(a:xs[k]?=some x)(b:p x=true):qo (xs.findIdx? p)=(k:Int):=by
 obtain⟨c,e⟩:=aw.1 a
 have:xs.findIdx? p=some k:=cK.2 ⟨c,by rw[e];exact b,fun j hj=>by
  have:=h (xs[j]'(by omega)) (by
   rw[jo]
   exact⟨j,by omega,rfl⟩)
  simp[this]⟩
 rw[this];rfl
theorem uz {p:α→Bool}{xs:List α}(h:∀y∈xs,p y=false):qo (xs.findIdx? p)=-1:=by
 have:xs.findIdx? p=none:=fM.2 fun x hx=>by rw[h x hx]
 rw[this];rfl
theorem Pc    {xs:List (fW×lR)} (h:di vV w A n xs) (G:n≤100000) (p:(fW×lR)→Bool) (cap:Array Value)
  (l:∀x∈xs,∀u,bf w u→Calls Tryz.prog 218 (#[J6 x]++cap) u fun e w'=>e=.returned (.bool (p x))∧bf u w') :
  Calls Tryz.prog 217 #[.slice A n c,.func (.func 218) #[] cap] w fun e w'=>e=.returned (.int .i64 (qo (xs.findIdx? p)))∧bf w w':=by
 have m:=aj h
 have a:=aj l
 clear h l
 go_enter Tryz.func217,Tryz.ntmps217
 go_wp2
 go_loopw [8] (fun i wr=>∃k:Nat,k≤n∧i=.int .i64 k∧(∀y∈xs.take k,p y=false)∧∃ξ:X w No,wr=ξ.v) (fun i _=>n-(intOf i).toNat)
 case atStart=>exact⟨0,au _,rfl,by simp,X.here _ _,rfl⟩
 case round=>
  obtain⟨k,H,rfl,r,ξ,rfl⟩:=hrel
  have d:=aj r
  clear r
  by_cases f:k<n
  ·obtain⟨b,o,x,rfl,g,I,D,E,F⟩:=tt m.ou f
   have s:=aj g
   have j:=aj (a.ou x (ah g) _ ξ.h)
   have J:=D _ ξ.h
   have c1:=E _ ξ.h
   have K:=F _ ξ.h
   obtain⟨q,hq⟩:∃q,p x=q:=⟨_,rfl⟩
   have t:=aj hq
   rw[hq] at j
   clear g hq
   go_wp2_with fail
   refine j.ou.mono ?_
   rintro e u ⟨rfl,z⟩
   have B:Hd (bf w u):=aj (ξ.h.ae z)
   clear z j
   cases q with
   | true=>
    go_wp2_with fail
    go_ret
    exact⟨by rw[uy d.ou s.ou t.ou];rfl,B.ou⟩
   | false=>
    go_wp2_with fail
    go_roundw
    case rel=>exact⟨k+1,by omega,by go_num,mV d.ou s.ou t.ou,⟨_,B.ou⟩,rfl⟩
    case measure=>simp[intOf];omega
  ·obtain rfl:k=n:=by omega
   go_wp2_with fail
   go_ret
   have C:=d.ou
   rw[ay (by rw[m.ou.1];exact aq _)] at C
   exact⟨by rw[uz C];rfl,ξ.h⟩
theorem MO    {xs:List (fW×dv)} (h:di He w A n xs) (D:n≤100000) (p:(fW×dv)→Bool) (cap:Array Value)
  (l:∀x∈xs,∀u,bf w u→Calls Tryz.prog 120 (#[AP x]++cap) u fun e w'=>e=.returned (.bool (p x))∧bf u w') :
  Calls Tryz.prog 119 #[.slice A n c,.func (.func 120) #[] cap] w fun e w'=>e=.returned (.int .i64 (qo (xs.findIdx? p)))∧bf w w':=by
 have m:=aj h
 have a:=aj l
 clear h l
 go_enter Tryz.func119,Tryz.ntmps119
 go_wp2
 go_loopw [8] (fun i wr=>∃k:Nat,k≤n∧i=.int .i64 k∧(∀y∈xs.take k,p y=false)∧∃ξ:X w No,wr=ξ.v) (fun i _=>n-(intOf i).toNat)
 case atStart=>exact⟨0,au _,rfl,by simp,X.here _ _,rfl⟩
 case round=>
  obtain⟨k,E,rfl,r,ξ,rfl⟩:=hrel
  have d:=aj r
  clear r
  by_cases f:k<n
  ·obtain⟨b,o,x,rfl,g,F,c1,G,H⟩:=kz m.ou f
   have s:=aj g
   have j:=aj (a.ou x (ah g) _ ξ.h)
   obtain⟨q,hq⟩:∃q,p x=q:=⟨_,rfl⟩
   have t:=aj hq
   rw[hq] at j
   clear g hq
   go_wp2_with fail
   refine j.ou.mono ?_
   rintro e u ⟨rfl,z⟩
   have B:Hd (bf w u):=aj (ξ.h.ae z)
   clear z j
   cases q with
   | true=>
    go_wp2_with fail
    go_ret
    exact⟨by rw[uy d.ou s.ou t.ou];rfl,B.ou⟩
   | false=>
    go_wp2_with fail
    go_roundw
    case rel=>exact⟨k+1,by omega,by go_num,mV d.ou s.ou t.ou,⟨_,B.ou⟩,rfl⟩
    case measure=>simp[intOf];omega
  ·obtain rfl:k=n:=by omega
   go_wp2_with fail
   go_ret
   have C:=d.ou
   rw[ay (by rw[m.ou.1];exact aq _)] at C
   exact⟨by rw[uz C];rfl,ξ.h⟩
structure Uf (G:dv):Prop where
 c:G.bD.length≤100
 n:G.aN.length≤100
 t:G.targets.length≤100
 lc:∀x∈G.bD,x.length≤1000
 ln:∀x∈G.aN,x.length≤10000
 lt:∀x∈G.targets,x.length≤10000
theorem Uf.lim (h:Uf G):G.Ku:=⟨by have:=h.t;omega,by have:=h.n;omega,by have:=h.c;omega,h.lc⟩
structure RO (l:List bm):Prop where
 n:l.length≤1000
 r:eQ fk l
 x:∀f∈l,f.1.length≤10000∧f.2.length≤1000
def OG(w:World)(l:List bm)(G:dv)(e:Ending)(w':World):Prop:=
 ∃(A:Option Addr) (c:Nat) (V:jy),e=.returned (.tuple #[.slice A (gV l G).1.1.length c,vJ V (gV l G).1.2,eT (gV l G).2])∧di br w' A (gV l G).1.1.length (gV l G).1.1∧pz w' V (gV l G).1.2∧bf w w'
theorem pz.zero(w:World):pz w ⟨none,0,none,0,none,0⟩ su:=⟨di.none_,di.none_,di.none_⟩
theorem di.KO {T:kJ α}(a:∀x:α,∃s l,T.enc x=S s::l)  {g:Nat} {xs:List α}(h:di T w A n xs){c d f:Option Addr}{i j k c1 m p:Nat}(r:Cs w g t #[.slice c i c1,.slice d j m,.slice f k p])(u:al (fun q=>q=g) w v):di T v A n xs:=
 h.nW u fun b o e hp hb=>h.PK a r b o e hp hb
theorem pz.KO{w v:World}{V:jy}{r:iT}{g:Nat}{t:TypeId}(h:pz w V r){d e f:Option Addr}{i j k c1 l m:Nat}(a:Cs w g t #[.slice d i c1,.slice e j l,.slice f k m])(b:al (fun q=>q=g) w v):pz v V r:=
 ⟨h.c.KO tN a b,h.n.KO me a b,h.o.KO me a b⟩
theorem Vq  (hE:GL w) {a:fW}  (ht:di cI w a.tA G.targets.length G.targets) (hn:di cI w a.nA G.aN.length G.aN) (hc:di cI w a.cA G.bD.length G.bD) (hb:Uf G)
  {lA:Option Addr} {lc:Nat} {l:List bm} (hl:di br w lA l.length l) (m:RO l) :
  Calls Tryz.prog 125 #[AP (a,G),.slice lA l.length lc] w (OG w l G):=by
 obtain⟨tA,tc,nA,nc,cA,cc⟩:=a
 obtain⟨w1,I⟩:∃u,u=w.alloc (.cells #[.slice tA G.targets.length tc,.slice nA G.aN.length nc,.slice cA G.bD.length cc,.bool G.ba] ia):=⟨_,rfl⟩
 obtain⟨w2,V⟩:∃u,u=w1.alloc (.cells #[.slice none 0 0,.slice none 0 0,.slice none 0 0] pn):=⟨_,rfl⟩
 obtain⟨b2,ao⟩:∃b,b=w.heap.size:=⟨_,rfl⟩
 obtain⟨i,W⟩:∃b,b=w.heap.size+1:=⟨_,rfl⟩
 have s1:w1.heap.size=w.heap.size+1:=by rw[I];simp
 have x1:bf w w1:=by rw[I];exact(al.refl No w).alloc _
 have x2:bf w1 w2:=by rw[V];exact(al.refl No w1).alloc _
 have j:=x1.ae x2
 have C2:Hd (Cs w2 b2 ia #[.slice tA G.targets.length tc,.slice nA G.aN.length nc,.slice cA G.bD.length cc,.bool G.ba]):=(show Cs w1 b2 ia _ by rw[I,ao];exact Cs.new _ _ _).aP x2 id
 have C5:Hd (Cs w2 i pn #[.slice none 0 0,.slice none 0 0,.slice none 0 0]):=by rw[V,W,←s1];exact Cs.new _ _ _
 have X2:=aj j
 have a9:Hd (w.heap.size≤i):=by rw[W];exact fN _
 have HE:=aj (hE.ext j)
 have HA:=aj (Rv (c:=lc) (hE.ext j).ml (hl.ext j) (by have:=m.n;omega) m.r (fun f h=>(m.x f h).2) (v:=⟨tA,tc,nA,nc,cA,cc⟩) (g:=G) ⟨di.ext ht j,di.ext hn j,di.ext hc j⟩ hb.lim)
 have a2:=aj (fun u (k:bf w2 u) (B:Option Addr) (d:Nat) (o:List bm) (ho:di br u B o.length o) (ho2:o.length≤1000)=>Ve (gv:=⟨tA,tc,nA,nc,cA,cc⟩) (c:=lc) (d:=d) (⟨(di.ext ht j).ext k,(di.ext hn j).ext k,(di.ext hc j).ext k⟩:EU u ⟨tA,tc,nA,nc,cA,cc⟩ G) ((hl.ext j).ext k) ho m.r (by have:=hb.c;omega) (by have:=hb.n;omega) m.n ho2)
 have J:=aj (mP l G)
 have ap:=aj (yY (xs:=l) hb.lt)
 have HO:Hd (∀o f,i6 l G=(o,f)→gV l G=if f≠0 then (([],su),f) else if 300<(lQ (jw G l o)).length then (([],su),10) else ((o,jw G l o),0)):=fun o f e=>by unfold gV;rw[e]
 obtain⟨⟨o,f⟩,av⟩:∃R,R=i6 l G:=⟨_,rfl⟩
 rw[←av] at HA J ap
 have L:=aj (HO.ou o f av.symm)
 have M:=aj hb
 have bb:=aj m
 have k0:w2.cell? ⟨b2,0,none⟩=some (.slice tA G.targets.length tc):=C2.ou.cell 0
 have k1:w2.cell? ⟨b2,1,none⟩=some (.slice nA G.aN.length nc):=C2.ou.cell 1
 have k2:w2.cell? ⟨b2,2,none⟩=some (.slice cA G.bD.length cc):=C2.ou.cell 2
 have k3:w2.cell? ⟨b2,3,none⟩=some (.bool G.ba):=C2.ou.cell 3
 clear hE ht hn hc hb hl m x1 x2 j s1 av HO
 go_enter Tryz.func125,Tryz.ntmps125
 go_upto_region 1 with fail
 rw[←I,←V,←W,←ao]
 clear I V ao W
 go_wp2_with fail
 refine HA.ou.mono ?_
 rintro e N ⟨A,c,he,Y⟩
 have he:e=.returned (.tuple #[.slice A o.length c,eT f]):=he
 subst he
 have U3:=aj Y.ext
 have HR:Hd (di br N A o.length o):=Y.row (by decide)
 have Z:=aj (C5.ou.aP Y.ext id)
 have D2:=aj (C2.ou.aP Y.ext id)
 clear Y HA k0 k1 k2 k3 C5 C2
 have y0:N.cell? ⟨i,0,none⟩=some (.slice none 0 0):=Z.ou.cell 0
 have y1:N.cell? ⟨i,1,none⟩=some (.slice none 0 0):=Z.ou.cell 1
 have y2:N.cell? ⟨i,2,none⟩=some (.slice none 0 0):=Z.ou.cell 2
 have z0:=Z.ou.frozen 0
 have z1:=Z.ou.frozen 1
 have z2:=Z.ou.frozen 2
 have aD:Hd (∀u,bf N u→∀a b c,bf w (((u.setCell ⟨i,0,none⟩ a).setCell ⟨i,1,none⟩ b).setCell ⟨i,2,none⟩ c)):=fun u k a b c=>((X2.ou.ae U3.ou).ae k).trans ((((al.refl (fun q=>q=i) u).at_ 0 a).at_ 1 b).at_ 2 c) fun q hq e=>by have e:q=i:=e;have:=a9.ou;omega
 have a0:Hd (∀u,bf N u→∀a b c,Cs (((u.setCell ⟨i,0,none⟩ a).setCell ⟨i,1,none⟩ b).setCell ⟨i,2,none⟩ c) i pn #[a,b,c]):=fun u k a b c=>(((Z.ou.aP k id).cM 0 a).cM 1 b).cM 2 c
 by_cases m:f=0
 case neg=>
  have O:Hd (gV l G=(([],su),f)):=by rw[Hd,L.ou,ab m]
  rw[bS m]
  go_wp2_with fail
  refine rM (t:=4) (p:=5) (u:=6) (ty:=pn) (ad:=⟨i,0,none⟩) rfl rfl rfl (oQ (a0.ou _ (al.refl _ _) _ _ _)) ?_
  refine⟨none,0,⟨none,0,none,0,none,0⟩,?_,?_,?_,aD.ou _ (al.refl _ _) _ _ _⟩
  ·rw[O.ou,show eT (([],su),f).2=E f from bS m]
   try rfl
  ·rw[O.ou];exact di.none_
  ·rw[O.ou];exact pz.zero _
 subst m
 rw[cO]
 have bc:o.length≤100:=aJ J.ou.2.1 M.ou.c
 obtain⟨R,hR⟩:∃R,R=jw G l o:=⟨_,rfl⟩
 have P:=aj (a2.ou N U3.ou A c o HR.ou (by omega))
 have am:R.Ku:=by rw[hR];exact Cp bb.ou.x ap.ou M.ou.c M.ou.n bc (fun x hx=>by have:=M.ou.lc x hx;omega) M.ou.ln
 have a3:=aj am
 rw[←hR] at P L
 have k0:N.cell? ⟨b2,0,none⟩=some (.slice tA G.targets.length tc):=D2.ou.cell 0
 have k1:N.cell? ⟨b2,1,none⟩=some (.slice nA G.aN.length nc):=D2.ou.cell 1
 have k2:N.cell? ⟨b2,2,none⟩=some (.slice cA G.bD.length cc):=D2.ou.cell 2
 have k3:N.cell? ⟨b2,3,none⟩=some (.bool G.ba):=D2.ou.cell 3
 clear hR am a2 J ap
 go_wp2_with fail
 refine P.ou.mono ?_
 rintro e u4 ⟨⟨s,y,z,C,D,H⟩,he,hq,k⟩
 have he:e=.returned (.agg #[.slice s R.bD.length y,.slice z R.aN.length C,.slice D R.ou.length H]):=he
 subst he
 have U4:=aj k
 have HQ:=aj hq
 clear hq k P k0 k1 k2 k3
 obtain⟨w5,ac⟩:∃u,u=u4.alloc (.cells #[.slice s R.bD.length y,.slice z R.aN.length C,.slice D R.ou.length H] pn):=⟨_,rfl⟩
 obtain⟨U,ag⟩:∃b,b=u4.heap.size:=⟨_,rfl⟩
 have x5:bf u4 w5:=by rw[ac];exact(al.refl No u4).alloc _
 have C9:Hd (Cs w5 U pn #[.slice s R.bD.length y,.slice z R.aN.length C,.slice D R.ou.length H]):=by rw[ac,ag];exact Cs.new _ _ _
 have U5:=aj (U4.ou.ae x5)
 have bd:Hd (u4.heap.size≤U):=ij ag.symm
 have bg:=aj U4.ou.size
 have a4:=aj (HQ.ou.ext x5)
 have a5:Hd (Calls Tryz.prog 76 #[.agg #[.slice s R.bD.length y,.slice z R.aN.length C,.slice D R.ou.length H]] w5 fun e w'=>e=.returned (S (lQ R))∧bf w5 w'):=DC (v:=⟨s,y,z,C,D,H⟩) (r:=R) (HE.ou.ext (U3.ou.ae U5.ou)) a4.ou a3.ou
 have j0:w5.cell? ⟨U,0,none⟩=some (.slice s R.bD.length y):=C9.ou.cell 0
 have j1:w5.cell? ⟨U,1,none⟩=some (.slice z R.aN.length C):=C9.ou.cell 1
 have j2:w5.cell? ⟨U,2,none⟩=some (.slice D R.ou.length H):=C9.ou.cell 2
 clear x5
 go_upto_region 5 with fail
 rw[←ac,←ag]
 clear ac ag
 go_wp2_with fail
 refine a5.ou.mono ?_
 rintro e Q ⟨rfl,k⟩
 have U6:=aj (U5.ou.ae k)
 have a1:=aj (C9.ou.aP k id)
 have bi:=aj (a4.ou.ext k)
 have E5:=aj (Z.ou.aP U6.ou id)
 clear k a5 j0 j1 j2 y0 y1 y2 z0 z1 z2 C9
 have y0:Q.cell? ⟨i,0,none⟩=some (.slice none 0 0):=E5.ou.cell 0
 have y1:Q.cell? ⟨i,1,none⟩=some (.slice none 0 0):=E5.ou.cell 1
 have y2:Q.cell? ⟨i,2,none⟩=some (.slice none 0 0):=E5.ou.cell 2
 have z0:=E5.ou.frozen 0
 have z1:=E5.ou.frozen 1
 have z2:=E5.ou.frozen 2
 obtain⟨T,hT⟩:∃T,T=lQ R:=⟨_,rfl⟩
 rw[←hT] at L ⊢
 clear hT
 rcases dm 300 T.length with h3|h3
 ·have O:Hd (gV l G=(([],su),10)):=by rw[Hd,L.ou,aa (fun h=>h rfl),ab h3]
  have g3:decide ((300:Int)<(T.length:Int))=true:=by rw[aW];omega
  go_wp2_with fail
  refine rM (t:=4) (p:=5) (u:=6) (ty:=pn) (ad:=⟨i,0,none⟩) rfl rfl rfl (oQ (a0.ou _ U6.ou _ _ _)) ?_
  refine⟨none,0,⟨none,0,none,0,none,0⟩,?_,?_,?_,aD.ou _ U6.ou _ _ _⟩
  ·rw[O.ou]
   try rfl
  ·rw[O.ou];exact di.none_
  ·rw[O.ou];exact pz.zero _
 ·have O:Hd (gV l G=((o,R),0)):=by rw[Hd,L.ou,aa (fun h=>h rfl),aa (by omega)]
  have g3:decide ((300:Int)<(T.length:Int))=false:=by rw[aA];omega
  have ai:¬(fun q=>q=i) U:=fun e=>by
   have e:U=i:=e
   have h1:=bd.ou
   have h2:=Z.ou.lt
   have h3:=bg.ou
   omega
  obtain⟨F,Y⟩:∃F:Nat→Prop,F=fun q=>q=i:=⟨_,rfl⟩
  rw[←Y] at ai
  have HF:=aj Y
  have j0:∀ξ:X Q F,ξ.v.cell? ⟨U,0,none⟩=some (.slice s R.bD.length y):=a1.ou.x ai 0
  have j1:∀ξ:X Q F,ξ.v.cell? ⟨U,1,none⟩=some (.slice z R.aN.length C):=a1.ou.x ai 1
  have j2:∀ξ:X Q F,ξ.v.cell? ⟨U,2,none⟩=some (.slice D R.ou.length H):=a1.ou.x ai 2
  clear Y
  go_upto_region 7 with fail
  refine aV [3] 100 (Cl Q F) (by kernel_rfl) (by kernel_rfl) (Cl.of (al.refl _ _).drew) ?_
  refine dH ?_
  (refine bQ ?_;intro K hK)
  have a6:=aj (aD.ou _ U6.ou (.slice s R.bD.length y) (.slice z R.aN.length C) (.slice D R.ou.length H))
  have a7:=aj (a0.ou _ U6.ou (.slice s R.bD.length y) (.slice z R.aN.length C) (.slice D R.ou.length H))
  have ak:Hd (al F Q (((Q.setCell ⟨i,0,none⟩ (.slice s R.bD.length y)).setCell ⟨i,1,none⟩ (.slice z R.aN.length C)).setCell ⟨i,2,none⟩ (.slice D R.ou.length H))):=by rw[HF.ou];exact(((al.refl (fun q=>q=i) Q).at_ 0 _).at_ 1 _).at_ 2 _
  obtain⟨v9,a8⟩:∃v,v=((Q.setCell ⟨i,0,none⟩ (.slice s R.bD.length y)).setCell ⟨i,1,none⟩ (.slice z R.aN.length C)).setCell ⟨i,2,none⟩ (.slice D R.ou.length H):=⟨_,rfl⟩
  rw[←a8] at a6 a7 ak ⊢
  clear a8
  refine hK _ _ (fun _=>Cl.of ak.ou.drew) ?_
  clear hK K j0 j1 j2 y0 y1 y2
  refine bj ?_
  refine dH ?_
  refine ar ?_
  go_wp2_with fail
  refine rM (t:=4) (p:=5) (u:=6) (ty:=pn) (ad:=⟨i,0,none⟩) rfl rfl rfl (oQ (a7.ou.drew)) ?_
  refine⟨A,c,⟨s,y,z,C,D,H⟩,?_,?_,?_,a6.ou.drew⟩
  ·rw[O.ou]
   try rfl
  ·rw[O.ou]
   exact((HR.ou.ext U6.ou).KO me E5.ou (by rw[←HF.ou];exact ak.ou)).ext ((al.refl _ _).drew)
  ·rw[O.ou]
   exact(bi.ou.KO E5.ou (by rw[←HF.ou];exact ak.ou)).ext ((al.refl _ _).drew)
abbrev Vc:TypeId:=145
abbrev uj:TypeId:=93
abbrev VE(v:Value):Option (DataW Value×List MemPlace):=some (.held v,[])
abbrev pg:Value:=.agg #[.slice none 0 0,.slice none 0 0,.slice none 0 0]
theorem oX:Go.Maps.Keyed Tryz.prog 9:=Go.Maps.string_keyed Tryz.underlying9
theorem Eu:Tryz.prog.underlying uj=some (.map 9 Vc):=Tryz.underlying93
theorem GF(w:World):(zeroValue Vc).run Tryz.prog w=.ok pg w:=Tryz.zeroValue145 w
def lZ(w:World)(b n:Nat)(f:aK→Option Value):Prop:=
 ∃D:DataW Value,w.ownsMap Tryz.prog 9 VE b n D∧(∀s,Go.Maps.has D (.string s)=(f s).isSome∧∀z,D.atKey (.string s) (.held z)=.held ((f s).getD z))∧∃L:List aK,L.Nodup∧(∀s,s∈L↔(f s).isSome=true)∧Go.Maps.size D=L.length
theorem vm(s:aK)(a:s.length≤maxLen):keyOf Tryz.prog 9 (S s)=some (.string s):=by
 have b:(⟨s.toArray⟩:ByteArray).size≤maxLen:=by simpa [ByteArray.size] using a
 simp[keyOf,mapKey,Tryz.underlying9,b]
theorem lZ.made(w:World):lZ (w.alloc (.map #[] 0)) w.heap.size 0 (fun _=>none):=
 ⟨.map [],World.ownsMap_made w _ _ _,fun s=>⟨rfl,fun z=>rfl⟩,[],List.nodup_nil,fun s=>by simp,rfl⟩
theorem lZ.aP    (h:lZ w b n f)(e:al F w v)(g:¬F b):lZ v b n f:=by
 obtain⟨D,⟨i,a,d,j,k,l⟩,m⟩:=h
 have c:b<w.heap.size:=(bq.1 d).1
 exact⟨D,⟨i,a,(e.block b c g).trans d,j,k,l⟩,m⟩
theorem lZ.lt{w:World}{b n:Nat}{f:aK→Option Value}(h:lZ w b n f):b<w.heap.size:=by
 obtain⟨D,a,_⟩:=h
 exact a.lt
theorem lZ.put{w:World}{b n:Nat}{f:aK→Option Value}(h:lZ w b n f)(r:n<maxLen)(s:aK)(j:s.length≤maxLen)(v:Value) :
  ∃w',(Instr.mapUpdate uj (.map (some b)) (S s) v).run Tryz.prog w=.ok () w'∧lZ w' b (n+1) (fun k=>if k=s then some v else f k)∧al (fun q=>q=b) w w':=by
 obtain⟨D,l,m,L,g,d,o⟩:=h
 have p:Go.Maps.IsMap D:=l.isMap
 have t:Go.Maps.Tidy D:=by
  obtain⟨u,x,y,_⟩:=l.entries oX
  exact⟨u,x,y⟩
 obtain⟨w',A,B,i⟩:=l.update oX Eu r (vm s j) (show VE v=some (.held v,[]) from rfl)
 refine⟨w',A,⟨_,B,fun k=>?_,if s∈L then L else s::L,?_,fun k=>?_,?_⟩,⟨i.os,i.tape,i.output,i.size,fun q hq a=>i.block q hq (fun e=>a (bB e))⟩⟩
 rotate_left
 ·split
  ·exact g
  ·rename_i h;exact gG.2 ⟨h,g⟩
 ·show(k∈if s∈L then L else s::L)↔(if k=s then some v else f k).isSome=true
  by_cases c:k=s
  ·rw[ab c,c]
   split
   ·rename_i h;simp[h]
   ·simp
  ·rw[aa c,←d k]
   split
   ·exact Iff.rfl
   ·simp[c]
 ·rw[Go.Maps.size_put t,(m s).1,o]
  by_cases h:s∈L
  ·rw[ab h,ab ((d s).1 h)]
  ·rw[aa h,aa (fun e=>h ((d s).2 e))]
   try rfl
 show Go.Maps.has (D.put (.string s) (.held v)) (.string k)=(if k=s then some v else f k).isSome∧∀z,(D.put (.string s) (.held v)).atKey (.string k) (.held z)=.held ((if k=s then some v else f k).getD z)
 by_cases c:k=s
 ·rw[ab c,c]
  exact⟨Go.Maps.has_put_same p (oX.key (vm s j)) _,fun z=>Go.Maps.atKey_put_same p (oX.key (vm s j)) _ _⟩
 ·rw[aa c]
  have a:(Lit.string k)≠Lit.string s:=fun e=>c (by injection e)
  refine⟨?_,fun z=>?_⟩
  ·rw[Go.Maps.has_put_other a];exact(m k).1
  ·rw[Go.Maps.atKey_put_other a];exact(m k).2 z
theorem lZ.look   (h:lZ w b n f)(s:aK)(g:s.length≤maxLen) :
  (Instr.lookup uj (.map (some b)) (S s) true).run Tryz.prog w=.ok (.tuple #[(f s).getD pg,.bool (f s).isSome]) w:=by
 obtain⟨D,i,a,_⟩:=h
 obtain⟨v,j,c,d⟩:=i.look_ok oX Eu (GF w) (show VE pg=some (.held pg,[]) from rfl) (vm s g)
 rw[(a s).1] at c
 rw[(a s).2 pg] at d
 have e:v=(f s).getD pg:=by
  have:=congrArg (Option.map Prod.fst) d
  simp only[Option.map_some,Option.some.injEq] at this
  injection this
 rw[c,e]
theorem lZ.get   (h:lZ w b n f)(s:aK)(c:s.length≤maxLen) :
  (Instr.lookup uj (.map (some b)) (S s) false).run Tryz.prog w=.ok ((f s).getD pg) w:=by
 obtain⟨D,d,g,_⟩:=h
 obtain⟨v,j,i,a⟩:=d.lookup oX Eu (GF w) (show VE pg=some (.held pg,[]) from rfl) (vm s c)
 rw[(g s).2 pg] at a
 have e:v=(f s).getD pg:=by
  have:=congrArg (Option.map Prod.fst) a
  simp only[Option.map_some,Option.some.injEq] at this
  injection this
 rw[i,e]
theorem lZ.cell{w v:World}{b n:Nat}{f:aK→Option Value}(h:lZ w b n f)(d:al (fun q=>q=b) w v){p:Addr}(g:p.block<w.heap.size){u:Value}(a:w.cell? p=some u):v.cell? p=some u:=by
 obtain⟨D,⟨j,c,i,_⟩,_⟩:=h
 refine(d.cell g fun e=>?_).trans a
 have e:p.block=b:=e
 unfold World.cell? at a
 rw[e,i] at a
 simp at a
theorem UO {x:fW×lR}  (h:di cI w x.1.tA x.2.targets.length x.2.targets)(k:x.2.targets.length≤1000000)(d:w.cell? ⟨b,0,none⟩=some (S name)) :
  Calls Tryz.prog 218 #[J6 x,.pointer (some ⟨b,0,none⟩)] w fun e w'=>e=.returned (.bool (iH x.2.targets name))∧bf w w':=by
 have l:=World.block_lt_of_cell? _ _ d
 obtain⟨f,a⟩:∃u,u=w.alloc (.cells #[.slice x.1.tA x.2.targets.length x.1.tc,.slice x.1.nA x.2.aN.length x.1.nc,.slice x.1.cA x.2.bD.length x.1.cc] kP):=⟨_,rfl⟩
 have g:Hd (bf w f):=by rw[a];exact(al.refl No w).alloc _
 have i:=aj (jr (c:=x.1.tc) (h.ext g.ou) k name)
 have c1:f.cell? ⟨b,0,none⟩=some (S name):=(g.ou.cell l id).trans d
 have n:f.cell? ⟨w.heap.size,0,none⟩=some (.slice x.1.tA x.2.targets.length x.1.tc):=by rw[a];exact(Cs.new w kP _).cell 0
 clear h d
 go_enter Tryz.func218,Tryz.ntmps218
 go_upto_region 1 with fail
 rw[←a]
 clear a
 go_wp2_with fail
 refine i.ou.mono ?_
 rintro e u ⟨rfl,j⟩
 have m:=aj (g.ou.ae j)
 clear j i
 go_wp2_with fail
 go_ret
 exact⟨rfl,m.ou⟩
theorem Lm  (h:rs.map (·.2)=m.rules)(a:aK):rs.findIdx? (fun x=>iH x.2.targets a)=m.rules.findIdx? (fun r=>iH r.targets a):=by
 rw[←h,List.findIdx?_map]
 try rfl
theorem zK {v:wR}  (h:pY w v rs m)(A:m.rules.length≤100)(t:∀r∈m.rules,r.targets.length≤1000)(a:aK) :
  Calls Tryz.prog 177 #[Sz v m,S a] w fun e w'=>e=.returned (.int .i64 (qo (m.rules.findIdx? fun r=>iH r.targets a)))∧bf w w':=by
 obtain⟨g,d⟩:∃u,u=w.alloc (.cells #[.slice v.vA m.vars.length v.vc,.slice v.rA m.rules.length v.rc,.slice v.pA m.ba.length v.pc] kN):=⟨_,rfl⟩
 obtain⟨i,f⟩:∃u,u=g.alloc (.cells #[S a] 9):=⟨_,rfl⟩
 obtain⟨b,l⟩:∃b,b=g.heap.size:=⟨_,rfl⟩
 have p:bf w g:=by rw[d];exact(al.refl No w).alloc _
 have n:bf g i:=by rw[f];exact(al.refl No g).alloc _
 have o:Hd (bf w i):=p.ae n
 have q:Cs i b 9 #[S a]:=by rw[f,l];exact Cs.new _ _ _
 have B:i.cell? ⟨w.heap.size,1,none⟩=some (.slice v.rA m.rules.length v.rc):=by
  have:Cs g w.heap.size kN #[.slice v.vA m.vars.length v.vc,.slice v.rA m.rules.length v.rc,.slice v.pA m.ba.length v.pc]:=by rw[d];exact Cs.new _ _ _
  exact(this.aP n id).cell 1
 have s:Hd (Calls Tryz.prog 217 #[.slice v.rA m.rules.length v.rc,.func (.func 218) #[] #[.pointer (some ⟨b,0,none⟩)]] i fun e w'=>e=.returned (.int .i64 (qo (m.rules.findIdx? fun r=>iH r.targets a)))∧bf i w'):=by
  rw[←Lm h.rm a]
  refine Pc (c:=v.rc) (h.fr.ext o.ou) (by omega) (fun x=>iH x.2.targets a) #[.pointer (some ⟨b,0,none⟩)] fun x hx u j=>?_
  exact UO ((h.rr x hx).1.ext (o.ou.ae j)) (by have:=t x.2 (by rw[←h.rm];exact cC hx);omega) ((q.aP j id).cell 0)
 have y:∀(fn:Fn) (first cap:Array Value) (w:World),(Instr.makeFunc fn first cap).run Tryz.prog w=.ok (.func fn first cap) w:=fun _ _ _ _=>rfl
 have k:b=w.heap.size+1:=by rw[l,d];simp
 clear h q p n
 go_enter Tryz.func177,Tryz.ntmps177
 go_upto_region 1 with fail
 rw[←d,←f,←k]
 clear d f k l
 go_wp2_with fail
 refine s.ou.mono ?_
 rintro e u ⟨rfl,j⟩
 have z:=aj (o.ou.ae j)
 clear j s
 go_wp2_with fail
 go_ret
 exact⟨rfl,z.ou⟩
theorem Vo {x:fW×dv}  (h:di cI w x.1.tA x.2.targets.length x.2.targets)(k:x.2.targets.length≤1000000)(d:w.cell? ⟨b,0,none⟩=some (S name)) :
  Calls Tryz.prog 120 #[AP x,.pointer (some ⟨b,0,none⟩)] w fun e w'=>e=.returned (.bool (iH x.2.targets name))∧bf w w':=by
 have l:=World.block_lt_of_cell? _ _ d
 obtain⟨f,a⟩:∃u,u=w.alloc (.cells #[.slice x.1.tA x.2.targets.length x.1.tc,.slice x.1.nA x.2.aN.length x.1.nc,.slice x.1.cA x.2.bD.length x.1.cc,.bool x.2.ba] ia):=⟨_,rfl⟩
 have g:Hd (bf w f):=by rw[a];exact(al.refl No w).alloc _
 have i:=aj (jr (c:=x.1.tc) (h.ext g.ou) k name)
 have c1:f.cell? ⟨b,0,none⟩=some (S name):=(g.ou.cell l id).trans d
 have n:f.cell? ⟨w.heap.size,0,none⟩=some (.slice x.1.tA x.2.targets.length x.1.tc):=by rw[a];exact(Cs.new w ia _).cell 0
 clear h d
 go_enter Tryz.func120,Tryz.ntmps120
 go_upto_region 1 with fail
 rw[←a]
 clear a
 go_wp2_with fail
 refine i.ou.mono ?_
 rintro e u ⟨rfl,j⟩
 have m:=aj (g.ou.ae j)
 clear j i
 go_wp2_with fail
 go_ret
 exact⟨rfl,m.ou⟩
structure jW (w:World) (A:Option Addr) (os:List (fW×dv)) (out:List dv):Prop where
 row:di He w A out.length os
 rr:∀x∈os,di cI w x.1.tA x.2.targets.length x.2.targets∧di cI w x.1.nA x.2.aN.length x.2.aN∧di cI w x.1.cA x.2.bD.length x.2.bD
 om:os.map (·.2)=out
theorem jW.ext{w u:World}{A:Option Addr}{os:List (fW×dv)}{out:List dv}(h:jW w A os out)(a:bf w u):jW u A os out:=⟨h.row.ext a,fun x hm=>⟨(h.rr x hm).1.ext a,(h.rr x hm).2.1.ext a,(h.rr x hm).2.2.ext a⟩,h.om⟩
theorem Jq   {os:List (fW×dv)}{out:List dv}(h:jW w A os out)(q:out.length≤100)(n:∀g∈out,g.targets.length≤1000)(a:aK) :
  Calls Tryz.prog 71 #[.slice A out.length c,S a] w fun e w'=>e=.returned (.int .i64 (qo (gQ out a)))∧bf w w':=by
 obtain⟨i,d⟩:∃u,u=w.alloc (.cells #[S a] 9):=⟨_,rfl⟩
 obtain⟨b,j⟩:∃b,b=w.heap.size:=⟨_,rfl⟩
 have k:Hd (bf w i):=by rw[d];exact(al.refl No w).alloc _
 have l:Cs i b 9 #[S a]:=by rw[d,j];exact Cs.new _ _ _
 have m:Hd (Calls Tryz.prog 119 #[.slice A out.length c,.func (.func 120) #[] #[.pointer (some ⟨b,0,none⟩)]] i fun e w'=>e=.returned (.int .i64 (qo (gQ out a)))∧bf i w'):=by
  have e:gQ out a=os.findIdx? (fun x=>iH x.2.targets a):=by
   unfold gQ
   rw[←h.om,List.findIdx?_map]
   try rfl
  rw[e]
  refine MO (c:=c) (h.row.ext k.ou) (by omega) (fun x=>iH x.2.targets a) #[.pointer (some ⟨b,0,none⟩)] fun x hx u f=>?_
  exact Vo ((h.rr x hx).1.ext (k.ou.ae f)) (by have:=n x.2 (by rw[←h.om];exact cC hx);omega) ((l.aP f id).cell 0)
 have o:∀(fn:Fn) (first cap:Array Value) (w:World),(Instr.makeFunc fn first cap).run Tryz.prog w=.ok (.func fn first cap) w:=fun _ _ _ _=>rfl
 clear h l
 go_enter Tryz.func71,Tryz.ntmps71
 go_upto_region 1 with fail
 rw[←d,←j]
 clear d j
 go_wp2_with fail
 refine m.ou.mono ?_
 rintro e u ⟨rfl,f⟩
 have p:=aj (k.ou.ae f)
 clear f m
 go_wp2_with fail
 go_ret
 exact⟨rfl,p.ou⟩
end Go.Proofs.YtpgmcijdcnnjpaaGreatDoor
