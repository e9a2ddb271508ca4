/- Lemmas for it. -/
import Derived.Test.YtpgmcijdcnnjpaaGreatDoorPk20
set_option linter.all false
set_option maxRecDepth 100000
set_option maxHeartbeats 4000000
namespace Go.Proofs.YtpgmcijdcnnjpaaGreatDoor
open Go Go.RowKit
variable {b c c' g j n:Nat} {α:Type} {A A':Option Addr} {xs:List bm} {w5:World} {t:bm}
theorem Kb(f:bm)(k:aK) {w:World}(a:b<w.heap.size)(c:w.cell? ⟨b,0,none⟩=some (S k)) :
  Calls Tryz.prog 58 #[.agg #[S f.1,S f.2],.pointer (some ⟨b,0,none⟩)] w fun e w'=>e=.returned (.bool (f.1==k))∧bf w w':=by
 go_enter Tryz.func58,Tryz.ntmps58
 refine cS ?_
 go_ret
 exact⟨rfl,(al.refl No w).alloc _⟩
def DS{α:Type}(p:α→Bool)(xs:List α):Int:=match xs.findIdx? p with|some i=>(i:Int)|none=>-1
theorem xr {p:α→Bool}{xs:List α}(h:∀y∈xs,p y=false):DS p xs=-1:=by
 unfold DS
 rw[fM.2 h]
theorem Qe {p:α→Bool}{xs:List α} {x:α}(h:∀y∈xs.take j,p y=false)(a:xs[j]?=some x)(b:p x=true):DS p xs=j:=by
 unfold DS
 obtain⟨c,rfl⟩:=aw.1 a
 rw[cK.2 ⟨c,b,fun i hi=>?_⟩]
 have:=h xs[i] (jo.2 ⟨i,by omega,rfl⟩)
 simp[this]
theorem Ky {p:α→Bool}{xs:List α}(h:¬∀y∈xs,p y=false):∃(i:Nat) (x:α),DS p xs=(i:Int)∧xs[i]?=some x∧p x=true∧∀y∈xs.take i,p y=false:=by
 unfold DS
 cases hf:xs.findIdx? p with
 | none=>exact absurd (fM.1 hf) h
 | some i=>
  obtain⟨a,b,c⟩:=cK.1 hf
  refine⟨i,xs[i],rfl,aF a,b,fun y hy=>?_⟩
  obtain⟨m,d,rfl⟩:=jo.1 hy
  simpa using c m (by omega)
theorem Ou {p:α→Bool}{xs:List α} {x:α}(h:∀y∈xs.take j,p y=false)(a:xs[j]?=some x)(b:p x=false):∀y∈xs.take (j+1),p y=false:=fun y hy=>by
 rw[aU,a] at hy
 rcases az.1 hy with hy|hy
 ·exact h y hy
 ·simp at hy;exact hy▸b
theorem yh{w:World}   (h:di br w A n xs)(D:n≤1000000)(k:aK) (r:b<w.heap.size)(s:w.cell? ⟨b,0,none⟩=some (S k)) :
  Calls Tryz.prog 94 #[.slice A n c,.func (.func 58) #[] #[.pointer (some ⟨b,0,none⟩)]] w fun e w'=>e=.returned (.int .i64 (DS (fun f=>f.1==k) xs))∧bf w w':=by
 have C:Hd (∀(f:bm) (v:World),bf w v→Calls Tryz.prog 58 #[.agg #[S f.1,S f.2],.pointer (some ⟨b,0,none⟩)] v fun e w'=>e=.returned (.bool (f.1==k))∧bf v w'):=fun f v a=>Kb f k (bZ r a.size) ((a.cell r id).trans s)
 clear s
 go_enter Tryz.func94,Tryz.ntmps94
 go_wp2_with (refine lM ?_ ?_<;>intro hq)
 go_loopw [8] (fun i wr=>∃j:Nat,j≤n∧i=.int .i64 j∧(∀y∈xs.take j,(y.1==k)=false)∧∃ξ:X w No,wr=ξ.v) (fun i _=>n-(intOf i).toNat)
 case atStart=>exact⟨0,au _,rfl,by simp,X.here _ _,rfl⟩
 case round=>
  obtain⟨j,E,rfl,t,ξ,rfl⟩:=hrel
  have l:=aj t
  clear t
  by_cases m:j<n
  ·obtain⟨F,o,x,rfl,a,G,c1⟩:=jI h m
   have z:=aj a
   clear a
   have H:=aj h.1
   obtain⟨p,q⟩:∃p,p=(x.1==k):=⟨_,rfl⟩
   have d:=C.ou x
   rw[←q] at d
   have B:=aj q
   have d:=aj d
   clear q
   cases p with
   | true=>
    go_wp2_with fail
    refine(d.ou _ ξ.h).mono ?_
    rintro e u ⟨rfl,g⟩
    have U:=aj (ξ.h.ae g)
    clear g
    go_wp2_with fail
    go_ret
    exact⟨by rw[Qe l.ou z.ou B.ou.symm];rfl,U.ou⟩
   | false=>
    go_wp2_with fail
    refine(d.ou _ ξ.h).mono ?_
    rintro e u ⟨rfl,g⟩
    have U:=aj (ξ.h.ae g)
    clear g
    go_wp2_with fail
    go_roundw
    case rel=>exact⟨j+1,by omega,by go_num,Ou l.ou z.ou B.ou.symm,⟨_,U.ou⟩,rfl⟩
    case measure=>simp[intOf];omega
  ·go_wp2_with fail
   go_ret
   exact⟨by rw[xr (fun y hy=>l.ou y (by rw[ay (by rw[h.1];omega)];exact hy))];rfl,ξ.h⟩
structure sk (w:World) (g:Nat) (rest:List Value) (ys:List bm):Prop where
 cs:Cs w g 54 (ys.flatMap br.enc++rest).toArray
theorem sk.cell{w:World}{g:Nat}{rest:List Value}{ys:List bm}(h:sk w g rest ys){j:Nat}{x:bm}(a:ys[j]?=some x):w.cell? ⟨g,j*2,none⟩=some (S x.1)∧w.cell? ⟨g,j*2+1,none⟩=some (S x.2):=by
 have f:=(aw.1 a).1
 have k:(ys.flatMap br.enc).length=ys.length*2:=bC br ys
 have b:∀i u,i<2→(br.enc x)[i]?=some u→w.cell? ⟨g,j*2+i,none⟩=some u:=fun i u hi hu=>by
  rw[h.cs.cell,aB,bG (by omega),ke br (by decide)]
  have c:br.size=2:=rfl
  have d:(j*2+i)/br.size=j:=by rw[c];omega
  have e:(j*2+i)%br.size=i:=by rw[c];omega
  rw[d,e,a]
  exact hu
 exact⟨b 0 _ (by omega) rfl,b 1 _ (by omega) rfl⟩
theorem sk.aP{w v:World}{g:Nat}{rest:List Value}{ys:List bm}{F:Nat→Prop}(h:sk w g rest ys)(a:al F w v)(b:¬F g):sk v g rest ys:=⟨h.cs.aP a b⟩
theorem sk.cM{w:World}{g:Nat}{rest:List Value}{ys:List bm}(h:sk w g rest ys)(p:Nat)(f:bm)(b:p<ys.length):sk ((w.setCell ⟨g,p*2,none⟩ (S f.1)).setCell ⟨g,p*2+1,none⟩ (S f.2)) g rest (ys.set p f):=by
 have a:=(h.cs.cM (p*2) (S f.1)).cM (p*2+1) (S f.2)
 have c:(ys.flatMap br.enc).length=ys.length*2:=bC br ys
 rw[ax,ax,eJ _ _ (by omega),eJ _ _ (by rw[bT];omega),←zG ys p f b] at a
 exact⟨a⟩
theorem AS {ys:List α}{i:Nat}{x:α}{l:List α}(h:ys.take i=l)(a:i<ys.length):(ys.set i x).take (i+1)=l++[x]:=by
 rw[aU,List.take_set_of_le (aq _),h]
 simp[a]
theorem Ds{w:World}  {rest:List Value}(h:sk w g rest xs)(C:xs.length=n)(hr:(xs.flatMap br.enc++rest).length=c*2)(hc:n≤c)(ak:c≤maxLen)(hn:n≤1000000)(k:aK) (hb:b<w.heap.size)(am:b≠g)(hk:w.cell? ⟨b,0,none⟩=some (S k)) :
  Calls Tryz.prog 57 #[.slice (some ⟨g,0,none⟩) n c,.func (.func 58) #[] #[.pointer (some ⟨b,0,none⟩)]] w fun e w'=>
   ∃rest',e=.returned (.slice (some ⟨g,0,none⟩) (kD fk k xs).length c)∧sk w' g rest' (kD fk k xs)∧((kD fk k xs).flatMap br.enc++rest').length=c*2∧(kD fk k xs).length≤c∧al (fun b=>b=g) w w':=by
 have HD:Hd (∀(f:bm) (v:World),al (fun b=>b=g) w v→Calls Tryz.prog 58 #[.agg #[S f.1,S f.2],.pointer (some ⟨b,0,none⟩)] v fun e w'=>e=.returned (.bool (f.1==k))∧bf v w'):=fun f v q=>Kb f k (bZ hb q.size) ((q.cell hb am).trans hk)
 have ao:=h.cs.lt
 have hI:=yh (c:=c) (k:=k) (A:=some ⟨g,0,none⟩) (n:=n) (xs:=xs) (w:=w) ⟨C,fun hn=>⟨g,0,rfl,ao,fun p x q j u o=>by
  have:=h.cell q
  rw[bX]
  match j,o with
  | 0,o=>injection o with o;rw[←o];exact this.1
  | 1,o=>injection o with o;rw[←o];exact this.2⟩⟩ (by omega) hb hk
 unfold maxLen at ak
 have HI:=aj hI
 have HR:=aj hr
 have D:=aj C
 have HW:=aj h
 clear hI hk hr C h
 go_enter Tryz.func57,Tryz.ntmps57
 go_wp2_with (refine dN ?_)
 refine HI.ou.mono ?_
 rintro e u ⟨rfl,o⟩
 rcases Classical.em (∀y∈xs,(fk y==k)=false) with d|hex
 ·have Q:DS (fun f=>f.1==k) xs=-1:=xr d
  have e2:kD fk k xs=xs:=by
   unfold kD
   rw[List.filter_eq_self]
   intro y J
   have:=d y J
   simpa using this
  rw[Q]
  have E2:=aj e2
  have E:=aj o
  clear Q e2 o d HI
  go_wp2_with fail
  go_ret
  rw[E2.ou]
  exact⟨rest,by rw[D.ou];rfl,HW.ou.aP E.ou id,HR.ou,by rw[D.ou];exact hc,E.ou.any⟩
 ·obtain⟨F,x0,Q,L,R,d⟩:=Ky hex
  rw[show DS (fun f=>f.1==k) xs=(F:Int) from Q]
  have T:Hd (xs.take F=(xs.take (F+1)).filter fun y=>decide (fk y≠k)):=by
   rw[Hd,aU,L,ib]
   have s:(xs.take F).filter (fun y=>decide (fk y≠k))=xs.take F:=by
    rw[List.filter_eq_self]
    intro y J
    simpa using d y J
   have P:fk x0=k:=by simpa using R
   rw[s]
   simp[P]
  have ap:F<n:=by rw[←D.ou];exact(aw.1 L).1
  have E:=aj o
  have av:((F:Int)==-1)=false:=by rw[bl];omega
  clear Q hex L R d HI o
  go_wp2_with (refine lM ?_ ?_<;>intro hq)
  go_loopw [5,6,7] (fun i j _ wr=>∃a m:Nat,a<m∧m≤n∧i=.int .i64 a∧j=.int .i64 m∧∃ys,sk wr g rest ys∧ys.length=n∧ys.take a=(xs.take m).filter (fun y=>decide (fk y≠k))∧ys.drop m=xs.drop m∧∃ξ:X w (fun b=>b=g),wr=ξ.v) (fun _ j _ _=>n-(intOf j).toNat)
  case atStart=>exact⟨F,F+1,by omega,by omega,rfl,by go_num,xs,HW.ou.aP E.ou id,D.ou,T.ou,rfl,⟨u,E.ou.any⟩,rfl⟩
  case round=>
   clear E T ap
   obtain⟨a,m,aD,a1,rfl,rfl,ys,hW,U,t,B,ξ,rfl⟩:=hrel
   have W:=aj hW
   have G:=aj U
   have TK:=aj t
   have DR:=aj B
   clear hW U t B
   by_cases Y:m<n
   ·have q:xs[m]?=some (xs[m]'(by rw[D.ou];exact Y)):=aF _
    obtain⟨x,Z⟩:∃x,x=xs[m]'(by rw[D.ou];exact Y):=⟨_,rfl⟩
    rw[←Z] at q
    have J:ys[m]?=some x:=by
     have s:(ys.drop m)[0]?=(xs.drop m)[0]?:=by rw[DR.ou]
     rw[cQ,cQ,fK,q] at s
     exact s
    obtain⟨c0,c1⟩:=W.ou.cell J
    have E:=aj q
    have HY:=aj J
    have HC:=aj (HD.ou x)
    clear q J Z
    go_upto_region 8 with fail
    obtain⟨v0,H⟩:∃v0,v0=ξ.v.alloc (.cells #[S x.1,S x.2] 54):=⟨_,rfl⟩
    rw[←H]
    have B0:Hd (Cs v0 ξ.v.heap.size 54 #[S x.1,S x.2]):=by rw[Hd,H];exact Cs.new _ _ _
    have X0:Hd (bf ξ.v v0):=by rw[Hd,H];exact(al.refl No _).alloc _
    clear H c0 c1
    have b0:v0.cell? ⟨ξ.v.heap.size,0,none⟩=some (S x.1):=B0.ou.cell 0
    have b1:v0.cell? ⟨ξ.v.heap.size,1,none⟩=some (S x.2):=B0.ou.cell 1
    have a2:Hd (g<ξ.v.heap.size):=W.ou.cs.lt
    obtain⟨p,hp⟩:∃p,p=(x.1==k):=⟨_,rfl⟩
    rw[←hp] at HC
    have HP:=aj hp
    clear hp
    cases p with
    | true=>
     go_wp2_with fail
     refine(HC.ou v0 (ξ.h.ae X0.ou)).mono ?_
     rintro e I ⟨rfl,r⟩
     have X1:=aj (X0.ou.ae r)
     clear r b0 b1
     go_wp2_with fail
     go_roundw
     case rel=>
      refine⟨a,m+1,by omega,by omega,rfl,by go_num,ys,W.ou.aP X1.ou id,G.ou,?_,?_,⟨I,ξ.h.ae X1.ou⟩,rfl⟩
      ·have M:x.1=k:=by simpa using HP.ou.symm
       rw[TK.ou,aU,E.ou,ib]
       simp[fk,M]
      ·rw[←cX,←cX,DR.ou]
     case measure=>simp[intOf];omega
    | false=>
     go_wp2_with fail
     refine(HC.ou v0 (ξ.h.ae X0.ou)).mono ?_
     rintro e I ⟨rfl,r⟩
     have X1:=aj (X0.ou.ae r)
     have B1:Hd (Cs I ξ.v.heap.size 54 #[S x.1,S x.2]):=B0.ou.aP r id
     have W2:Hd (sk I g rest ys):=W.ou.aP X1.ou id
     have a3:I.cell? ⟨ξ.v.heap.size,0,none⟩=some (S x.1):=B1.ou.cell 0
     have a4:I.cell? ⟨ξ.v.heap.size,1,none⟩=some (S x.2):=B1.ou.cell 1
     have ac:ys[a]?=some (ys[a]'(by rw[G.ou];omega)):=aF _
     obtain⟨d0,d1⟩:=W2.ou.cell ac
     have f0:=W2.ou.cs.frozen (a*2)
     have f1:=W2.ou.cs.frozen (a*2+1)
     clear r b0 b1 ac
     go_wp2_with fail
     go_roundw
     case rel=>
      have hO:al (fun b=>b=g) I ((I.setCell ⟨g,a*2,none⟩ (S x.1)).setCell ⟨g,a*2+1,none⟩ (S x.2)):=((al.refl _ _).at_ _ _).at_ _ _
      refine⟨a+1,m+1,by omega,by omega,by go_num,by go_num,ys.set a x,W2.ou.cM a x (by rw[G.ou];omega),by simp[G.ou],?_,?_,⟨_,(ξ.h.ae X1.ou).trans hO fun _ _ h=>h⟩,rfl⟩
      ·have M:¬x.1=k:=by simpa using HP.ou.symm
       rw[AS TK.ou (by rw[G.ou];omega),aU,E.ou,ib]
       simp[fk,M]
      ·rw[List.drop_set_of_lt (by omega),←cX,←cX,DR.ou]
     case measure=>simp[intOf];omega
   ·obtain rfl:m=n:=by omega
    go_upto_region 11 with fail
    refine cj [3] (Cl ξ.v (fun b=>b=g)) (Cl.of (al.refl _ _)) ?_
    refine dH ?_
    refine cH rfl rfl ?_
    intro K hK
    refine uX (z:=.agg #[S [],S []]) Tryz.underlying39 (fun w=>by kernel_rfl) rfl rfl W.ou.cs ?_ ?_ ?_
    ·have C:=bC br ys
     have hR:=HR.ou
     have N:=bC br xs
     have s:=G.ou;have P:=D.ou
     simp only[Value.cells,af,s,P,show br.size=2 from rfl] at C N hR ⊢
     show a*2+(m-a)*2≤_
     omega
    ·intro v hv
     simp[Value.cells] at hv
     subst hv;rfl
    intro v hv q
    have ag:Hd (ys.take a=kD fk k xs):=by
     have:=TK.ou
     rw[ay (l:=xs) (by rw[D.ou];exact aq _)] at this
     exact this
    have O:Hd ((kD fk k xs).length=a):=by
     rw[Hd,←ag.ou,aH,G.ou];omega
    have E1:Hd ((ys.flatMap br.enc++rest).take (a*2)=(kD fk k xs).flatMap br.enc):=by
     have s:=lF br ys a
     have C:=bC br ys
     have P:=G.ou
     rw[show br.size=2 from rfl] at s C
     rw[Hd,gh (by omega),←s,ag.ou]
    have V:=aj hv
    have O1:=aj (ξ.h.trans q fun _ _ h=>h)
    refine hK _ _ (fun _=>Cl.of q) ?_
    clear hK K hv q TK DR
    refine bj ?_
    refine dH ?_
    refine ar ?_
    go_wp2
    go_ret
    have hV:=V.ou
    rw[E1.ou,aT] at hV
    refine⟨_,by rw[O.ou];rfl,⟨hV⟩,?_,by rw[O.ou];omega,O1.ou⟩
    have C:=bC br (kD fk k xs)
    have ai:=bC br ys
    have hR:=HR.ou
    have N:=bC br xs
    have s:=G.ou;have P:=D.ou;have h3:=O.ou
    simp only[af,be,ir,s,P,h3,show br.size=2 from rfl] at C N ai hR ⊢
    rw[C,ai,show(Value.agg #[S [],S []]).cells.size=2 from rfl]
    omega
theorem Al{w:World}  (k:aK) (f:b<w.heap.size)(a:w.cell? ⟨b,0,none⟩=some (S k)) :
  Calls Tryz.prog 57 #[.slice A 0 c,.func (.func 58) #[] #[.pointer (some ⟨b,0,none⟩)]] w fun e w'=>e=.returned (.slice A 0 c)∧bf w w':=by
 have d:=yh (c:=c) (A:=A) (xs:=[]) (w:=w) (n:=0) ⟨rfl,fun h=>by omega⟩ (by omega) k f a
 rw[xr (fun y hy=>by cases hy)] at d
 clear a
 go_enter Tryz.func57,Tryz.ntmps57
 go_wp2_with fail
 refine d.mono ?_
 rintro e u ⟨rfl,g⟩
 go_wp2_with fail
 go_ret
 exact⟨rfl,g⟩
theorem Tc{w:World}   (h:di br w A n xs)(N:n≤100000)(k:aK) :
  Calls Tryz.prog 33 #[.slice A n c,S k] w fun e w'=>∃d f,e=.returned (.slice d (kD fk k xs).length f)∧bR br 54 w w' d f (kD fk k xs):=by
 obtain⟨w0,i⟩:∃w0,w0=w.alloc (.cells #[S k] 9):=⟨_,rfl⟩
 have j:bf w w0:=by rw[i];exact(al.refl No w).alloc _
 have l:Cs w0 w.heap.size 9 #[S k]:=by rw[i];exact Cs.new _ _ _
 have q:=mD (c:=c) (h.ext j) h.kR (by omega)
 have t:=h.1
 have x:Hd (∀{v:World} {d:Option Addr} {f:Nat},bR br 54 w0 v d f xs →
   Calls Tryz.prog 57 #[.slice d xs.length f,.func (.func 58) #[] #[.pointer (some ⟨w.heap.size,0,none⟩)]] v fun e w'=>∃d f,e=.returned (.slice d (kD fk k xs).length f)∧bR br 54 w w' d f (kD fk k xs)):=fun {v d f} a=>by
  have m:w.heap.size<v.heap.size:=bZ l.lt a.ext.size
  have r:v.cell? ⟨w.heap.size,0,none⟩=some (S k):=(l.aP a.ext id).cell 0
  by_cases y:xs.length=0
  ·obtain rfl:xs=[]:=bM y
   refine(Al k m r).mono ?_
   rintro e w' ⟨rfl,z⟩
   exact⟨d,f,rfl,(a.on z).from j⟩
  ·obtain⟨g,rest,rfl,B,O,C,o,s⟩:=kU a.own (by omega) (by decide)
   have D:=a.new g rfl
   have E:=l.lt
   refine(Ds ⟨B⟩ rfl C o s (by omega) k m (by omega) r).mono ?_
   rintro e w' ⟨p,rfl,F,G,H,I⟩
   refine⟨_,_,rfl,bR.from (w:=w0) ⟨iM F.cs (au _) (bC _ _) G H s,a.ext.trans I fun b m e=>by omega,fun g' hg'=>?_⟩ j⟩
   simp[Value.ownBlock] at hg'
   omega
 clear l t h
 go_enter Tryz.func33,Tryz.ntmps33
 go_upto_region 1 with fail
 rw[←i]
 clear i
 go_wp2_with fail
 refine q.mono ?_
 clear q
 rintro e u ⟨d,f,rfl,a⟩
 have J:=aj a
 clear a
 go_wp2_with fail
 refine(x.ou J.ou).mono ?_
 rintro e u ⟨K,L,rfl,a⟩
 have M:=aj a
 clear a
 go_wp2_with fail
 go_ret
 exact⟨K,L,rfl,M.ou⟩
theorem Qi(n:Int)(a:TypeId)(w:World):(Instr.typeAssert (E n) a 50 true).run Tryz.prog w=.ok (.tuple #[.int .i64 n,.bool true]) w:=by
 unfold Instr.typeAssert
 rw[Sem.run_bind,run_underlying Tryz.underlying50]
 simp[Result.andThen,Sem.run_pure,E]
theorem OZ:Tryz.prog.stoodInHeld 107=false:=by kernel_rfl
@[go_sem] theorem U9:Tryz.prog.eqGuardType Tryz.prog.depth 107=false:=by kernel_rfl
theorem Oy:Tryz.prog.underlying 107=some (.struct (Tryz.prog.fieldsOf 107)):=by kernel_rfl
def JR(x y:aK)(g:Bool)(x' y':aK)(g':Bool):Bool:=decide (x=x'∧y=y'∧g=g')
theorem Jr(a b:aK)(g:Bool)(c d:aK)(h:Bool)(w:World):(Op.equalIn 10000 107 (.agg #[S a,S b,.bool g]) (.agg #[S c,S d,.bool h])).run Tryz.prog w=.ok (JR a b g c d h) w:=by
 have i:=Tryz.underlying9
 have j:=Tryz.isAgg9
 have k:=Tryz.sizeOf9
 have l:=Tryz.underlying4
 have m:=Tryz.isAgg4
 have n:=Tryz.sizeOf4
 unfold JR
 rw[show(10000:Nat)=9999+1 from rfl,run_equalIn_agg w 9999 107 _ _ Oy OZ]
 simp only[Program.fieldsOf,Tryz.underlying107]
 go_simp
 by_cases e:a=c<;>by_cases f:b=d<;>cases g<;>cases h<;>simp[e,f]
@[go_sem high] theorem VI (a b:aK) (g:Bool) (c d:aK) (h:Bool) (w:World):(binOp .eql 107 (.agg #[S a,S b,.bool g]) (.agg #[S c,S d,.bool h])).run Tryz.prog w=.ok (.bool (JR a b g c d h)) w:=by
 rw[run_eql_struct,Jr];rfl
@[go_sem high] theorem VK (a b:aK) (g:Bool) (c d:aK) (h:Bool) (w:World):(binOp .neq 107 (.agg #[S a,S b,.bool g]) (.agg #[S c,S d,.bool h])).run Tryz.prog w=.ok (.bool (!JR a b g c d h)) w:=by
 rw[run_neq_struct,Jr];rfl
theorem Iw(s:aK)(a:s.length≤10000)(w:World):Calls Tryz.prog 50 #[S s] w fun e w'=>e=.returned (S (102::47::s))∧bf w w':=by
 go_enter Tryz.func50,Tryz.ntmps50
 refine cS ?_
 go_ret
 exact⟨rfl,al.refl _ _⟩
theorem Th(s:aK)(a:s.length≤10000)(w:World):Calls Tryz.prog 75 #[S s] w fun e w'=>e=.returned (S (100::47::s))∧bf w w':=by
 go_enter Tryz.func75,Tryz.ntmps75
 refine cS ?_
 go_ret
 exact⟨rfl,al.refl _ _⟩
theorem nG{c:Ch}(h:dQ c=0):c.1.length≤10:=by
 unfold dQ at h
 split at h
 ·rename_i hs
  unfold rD at hs
  match hc:c.1,hs with
  | k::s::n,hs=>
   simp only[aI] at hs
   have a:=hs.1.2
   unfold i7 at a
   simp only[aI,bh] at a
   simp only[an];omega
  | [],hs=>simp
  | [_],hs=>simp
 ·cases h
theorem Ta (h:n<256):(bt ((n:Int)%256)).toNat=n:=by
 have e:((n:Int)%256).toNat=n:=by omega
 unfold bt
 rw[e]
 simp
 omega
theorem Kn{c:Ch}(h:dQ c=0):EF (gE c)=some c:=by
 have e:=nG h
 have a:(bt ((c.1.length:Int)%256)).toNat=c.1.length:=Ta (by omega)
 have b:(bt (if c.2.2 then 1 else 0)).toNat≤1:=by cases c.2.2<;>decide
 have d:(bt (if c.2.2 then 1 else 0)==1)=c.2.2:=by cases c.2.2<;>decide
 unfold gE EF
 simp only[a,d]
 rw[ab ⟨b,by simp⟩,fJ rfl,List.drop_left' rfl]
theorem IK{c:Ch}(h:dQ c=0):lu (gE c)=some c:=by
 unfold lu
 rw[Kn h]
 simp[Option.filter,h]
theorem oV{c:Ch}(h:dQ c=0):c.2.1.length≤300:=by
 unfold dQ at h
 split at h
 ·split at h
  ·cases h
  ·omega
 ·cases h
theorem pU(rows:List Ch)(c:Ch)(k:aK):dY ck k (jq rows c)=if k=c.1 then (if c.2.2 then none else some c) else dY ck k rows:=by
 unfold jq
 by_cases a:k=c.1
 ·subst a
  rw[ab rfl]
  cases c.2.2 with
  | true=>exact CN _ _
  | false=>exact sM c rows
 ·rw[aa a]
  cases c.2.2 with
  | true=>exact sG a rows
  | false=>exact my c a rows
abbrev VC:TypeId:=219
abbrev Br(g:Nat):Value:=.pointer (some ⟨g,0,none⟩)
def sx(w:World)(g:Nat)(s:aK)(bad:Bool):Prop:=Cs w g VC #[S s,.bool bad]
theorem sx.ext{w v:World} {s:aK}{b:Bool}(h:sx w g s b)(a:bf w v):sx v g s b:=Cs.aP h a id
def ik(s:aK)(bad:Bool)(c:UInt8):aK×Bool×aK:=if (dB c s).2.2=true then ((dB c s).2.1,bad,(dB c s).1) else (s,true,[])
theorem tq(s:aK)(a:Bool)(c:UInt8):(ik s a c).1.length≤s.length∧(ik s a c).2.2.length≤s.length:=by
 have:=qw c s
 unfold ik
 split
 ·exact⟨by show(dB c s).2.1.length≤_;omega,by show(dB c s).1.length≤_;omega⟩
 ·exact⟨aq _,au _⟩
def CP(w:World)(g:Nat)(s:aK)(b:Bool)(v:Value)(e:Ending)(w':World):Prop:=e=.returned v∧sx w' g s b∧al (fun b=>b=g) w w'
theorem OD{w:World}(k:Ml w) {s:aK}{d:Bool}(h:sx w g s d)(m:s.length≤100000)(c:UInt8) :
  Calls Tryz.prog 144 #[Br g,S [c]] w (CP w g (ik s d c).1 (ik s d c).2.1 (S (ik s d c).2.2)):=by
 have i:=aj (Dz s c (by omega) k)
 have l:w.cell? ⟨g,0,none⟩=some (S s):=Cs.cell h 0
 have e:Hd (ik s d c=if (dB c s).2.2=true then ((dB c s).2.1,d,(dB c s).1) else (s,true,[])):=rfl
 generalize ik s d c=R at e ⊢
 generalize dB c s=q at i e
 obtain⟨a,b,is⟩:=q
 dsimp only at i e
 have H:=aj h
 clear h k
 go_enter Tryz.func144,Tryz.ntmps144
 go_wp2_with (refine dN ?_)
 refine lL (X.here w No) (i.ou) fun ξ1 Hξ1=>?_
 have f:=aj (H.ou.ext ξ1.h)
 have n:ξ1.v.cell? ⟨g,0,none⟩=some (S s):=Cs.cell f.ou 0
 have o:ξ1.v.cell? ⟨g,1,none⟩=some (.bool d):=Cs.cell f.ou 1
 have p:=Cs.frozen f.ou 0
 have r:=Cs.frozen f.ou 1
 clear i l
 cases is with
 | false=>
  have j:Hd (R=(s,true,[])):=e.ou
  clear e
  refine cS ?_
  go_ret
  rw[j.ou]
  exact⟨rfl,Cs.cM f.ou 1 (.bool true),ξ1.h.any.trans ((al.refl _ _).at_ 1 _) fun _ _ h=>h⟩
 | true=>
  have j:Hd (R=(b,d,a)):=e.ou
  clear e
  refine cS ?_
  go_ret
  rw[j.ou]
  exact⟨rfl,Cs.cM f.ou 0 (S b),ξ1.h.any.trans ((al.refl _ _).at_ 0 _) fun _ _ h=>h⟩
def Ik(w:aK)(eA:Int):Bool:=FD w&&(Lib.itoa (EL w)==w)&&decide (0≤EL w)&&decide (EL w≤eA)
def km(s:aK)(bad:Bool)(c:UInt8)(eA:Int):aK×Bool×Int:=if Ik (ik s bad c).2.2 eA=true then ((ik s bad c).1,(ik s bad c).2.1,EL (ik s bad c).2.2) else ((ik s bad c).1,true,0)
theorem lC(s:aK)(a:Bool)(c:UInt8)(eA:Int)(d:0≤eA):(km s a c eA).1.length≤s.length∧0≤(km s a c eA).2.2∧(km s a c eA).2.2≤eA:=by
 have b:=(tq s a c).1
 unfold km
 split
 ·rename_i h
  simp only[Ik,aI,bh] at h
  exact⟨b,h.1.2,h.2⟩
 ·exact⟨b,fO _,d⟩
theorem vu{w0 w:World}(F:sF w0)(G:bf w0 w) (W:w0.heap.size≤g){s:aK}{a:Bool}(h:sx w g s a)(N:s.length≤100000)(c:UInt8)(eA:Int)(O:eA≤100000) :
  Calls Tryz.prog 142 #[Br g,S [c],.int .i64 eA] w (CP w g (km s a c eA).1 (km s a c eA).2.1 (.int .i64 (km s a c eA).2.2)):=by
 have B:=aj (OD (F.ext G).ml h N c)
 have t:=(tq s a c).2
 have f:Hd (km s a c eA=if Ik (ik s a c).2.2 eA=true then ((ik s a c).1,(ik s a c).2.1,EL (ik s a c).2.2) else ((ik s a c).1,true,0)):=rfl
 generalize km s a c eA=R at f ⊢
 generalize ik s a c=q at B f t
 obtain⟨x,b1,wd⟩:=q
 dsimp only at B f t
 have I:=aj (fun v (hv:bf w0 v)=>F.ext hv)
 have y:=aj G
 have m:=I4 wd
 have i:Hd (Ik wd eA=(FD wd&&(Lib.itoa (EL wd)==wd)&&decide (0≤EL wd)&&decide (EL wd≤eA))):=rfl
 generalize Ik wd eA=nb at f i
 clear h G F
 go_enter Tryz.func142,Tryz.ntmps142
 go_wp2_with (refine dN ?_)
 refine B.ou.mono ?_
 rintro e u ⟨rfl,z,r⟩
 have j:=aj z
 have k:=aj r
 have J:Hd (bf w0 u):=y.ou.trans r fun b hb e=>by have e:b=g:=e;omega
 clear z r B y
 have C:=aj (TO wd (by omega) (I.ou u J.ou))
 have l:=aj (fun v (hv:bf u v)=>TA (EL wd) m.1 m.2 (I.ou v (J.ou.ae hv)))
 generalize EL wd=v at C l f i m
 generalize FD wd=ok at C i
 obtain⟨P,Q⟩:=m
 go_wp2_with (refine dN ?_)
 refine C.ou.mono ?_
 rintro e L ⟨Y,rfl,H,M⟩
 obtain⟨ξ,rfl⟩:∃ξ:X u No,L=ξ.v:=⟨⟨L,M⟩,rfl⟩
 clear M C
 rcases H with⟨rfl,rfl⟩|⟨rfl,te,pe,rfl⟩
 ·obtain⟨is,A⟩:∃is,is=Lib.itoa v:=⟨_,rfl⟩
  rw[←A] at l i
  clear A
  obtain⟨p,T⟩:∃p,(is==wd)=p:=⟨_,rfl⟩
  rw[T] at i
  cases p with
  | false=>
   have n:Hd (R=(x,true,0)):=by rw[Hd,f.ou,i.ou];rfl
   go_upto_region 3 with fail
   refine cj [4] (Cl u No) (Cl.of ξ.h) ?_
   refine bK ?_
   (refine bQ ?_;intro K hK);refine kF ξ (l.ou _ ξ.h) hK fun ξ1 Hξ1=>?_;clear hK K;refine bj ?_;refine bK ?_
   refine ar ?_
   have d:=aj (j.ou.ext ξ1.h)
   have o:Hd (al (fun b=>b=g) w ξ1.v):=k.ou.ae ξ1.h
   have D:ξ1.v.cell? ⟨g,1,none⟩=some (.bool b1):=Cs.cell d.ou 1
   have E:=Cs.frozen d.ou 1
   clear l i f
   refine cS ?_
   go_ret
   rw[n.ou]
   exact⟨rfl,Cs.cM d.ou 1 (.bool true),o.ou.trans ((al.refl _ _).at_ 1 _) fun _ _ h=>h⟩
  | true=>
   by_cases z:v<0
   ·have U:decide (v<0)=true:=aM z
    have n:Hd (R=(x,true,0)):=by rw[Hd,f.ou,i.ou,aG (show ¬0≤v by omega)];rfl
    go_upto_region 3 with fail
    refine cj [4] (Cl u No) (Cl.of ξ.h) ?_
    refine bK ?_
    (refine bQ ?_;intro K hK);refine kF ξ (l.ou _ ξ.h) hK fun ξ1 Hξ1=>?_;clear hK K;refine bj ?_;refine bK ?_
    refine ar ?_
    have d:=aj (j.ou.ext ξ1.h)
    have o:Hd (al (fun b=>b=g) w ξ1.v):=k.ou.ae ξ1.h
    have D:ξ1.v.cell? ⟨g,1,none⟩=some (.bool b1):=Cs.cell d.ou 1
    have E:=Cs.frozen d.ou 1
    clear l i f
    refine cS ?_
    go_ret
    rw[n.ou]
    exact⟨rfl,Cs.cM d.ou 1 (.bool true),o.ou.trans ((al.refl _ _).at_ 1 _) fun _ _ h=>h⟩
   ·have U:decide (v<0)=false:=aG z
    by_cases r:eA<v
    ·have V:decide (eA<v)=true:=aM r
     have n:Hd (R=(x,true,0)):=by rw[Hd,f.ou,i.ou,aG (show ¬v≤eA by omega),iJ];rfl
     go_upto_region 3 with fail
     refine cj [4] (Cl u No) (Cl.of ξ.h) ?_
     refine bK ?_
     (refine bQ ?_;intro K hK);refine kF ξ (l.ou _ ξ.h) hK fun ξ1 Hξ1=>?_;clear hK K;refine bj ?_;refine bK ?_
     refine ar ?_
     have d:=aj (j.ou.ext ξ1.h)
     have o:Hd (al (fun b=>b=g) w ξ1.v):=k.ou.ae ξ1.h
     have D:ξ1.v.cell? ⟨g,1,none⟩=some (.bool b1):=Cs.cell d.ou 1
     have E:=Cs.frozen d.ou 1
     clear l i f
     refine cS ?_
     go_ret
     rw[n.ou]
     exact⟨rfl,Cs.cM d.ou 1 (.bool true),o.ou.trans ((al.refl _ _).at_ 1 _) fun _ _ h=>h⟩
    ·have V:decide (eA<v)=false:=aG r
     have n:Hd (R=(x,b1,v)):=by rw[Hd,f.ou,i.ou,aM (show 0≤v by omega),aM (show v≤eA by omega)];rfl
     go_upto_region 3 with fail
     refine cj [4] (Cl u No) (Cl.of ξ.h) ?_
     refine bK ?_
     (refine bQ ?_;intro K hK);refine kF ξ (l.ou _ ξ.h) hK fun ξ1 Hξ1=>?_;clear hK K;refine bj ?_;refine bK ?_
     refine ar ?_
     have d:=aj (j.ou.ext ξ1.h)
     have o:Hd (al (fun b=>b=g) w ξ1.v):=k.ou.ae ξ1.h
     have D:ξ1.v.cell? ⟨g,1,none⟩=some (.bool b1):=Cs.cell d.ou 1
     have E:=Cs.frozen d.ou 1
     clear l i f
     refine cS ?_
     go_ret
     rw[n.ou]
     exact⟨rfl,d.ou,o.ou⟩
 ·have n:Hd (R=(x,true,0)):=by rw[Hd,f.ou,i.ou];rfl
  have d:=aj (j.ou.ext ξ.h)
  have o:Hd (al (fun b=>b=g) w ξ.v):=k.ou.ae ξ.h
  have D:ξ.v.cell? ⟨g,1,none⟩=some (.bool b1):=Cs.cell d.ou 1
  have E:=Cs.frozen d.ou 1
  clear l
  refine cS ?_
  go_ret
  rw[n.ou]
  exact⟨rfl,Cs.cM d.ou 1 (.bool true),o.ou.trans ((al.refl _ _).at_ 1 _) fun _ _ h=>h⟩
def KQ(s:aK)(n:Nat):Bool:=decide (n<s.length)&&(s[n]?==some 32)
def lG(s:aK)(bad:Bool)(eA:Int):aK×Bool×aK:=
 if KQ (km s bad 58 eA).1 (km s bad 58 eA).2.2.toNat=true then ((km s bad 58 eA).1.drop ((km s bad 58 eA).2.2.toNat+1),(km s bad 58 eA).2.1,(km s bad 58 eA).1.take (km s bad 58 eA).2.2.toNat)
 else ((km s bad 58 eA).1,true,[])
theorem Pd{w0 w:World}(z:sF w0)(r:bf w0 w) (E:w0.heap.size≤g){s:aK}{a:Bool}(h:sx w g s a)(F:s.length≤100000)(eA:Int)(v:0≤eA)(y:eA≤100000) :
  Calls Tryz.prog 143 #[Br g,.int .i64 eA] w (CP w g (lG s a eA).1 (lG s a eA).2.1 (S (lG s a eA).2.2)):=by
 have t:=aj (vu z r E h F 58 eA y)
 obtain⟨A,l,m⟩:=lC s a 58 eA v
 have f:Hd (lG s a eA=if KQ (km s a 58 eA).1 (km s a 58 eA).2.2.toNat=true then ((km s a 58 eA).1.drop ((km s a 58 eA).2.2.toNat+1),(km s a 58 eA).2.1,(km s a 58 eA).1.take (km s a 58 eA).2.2.toNat) else ((km s a 58 eA).1,true,[])):=rfl
 generalize lG s a eA=R at f ⊢
 generalize km s a 58 eA=q at t f A l m
 obtain⟨c,b1,B⟩:=q
 dsimp only at t f A l m
 obtain⟨n,rfl⟩:∃n:Nat,B=n:=⟨B.toNat,by omega⟩
 have i:Hd (KQ c n=(decide (n<c.length)&&(c[n]?==some 32))):=rfl
 rw[dh] at f
 generalize KQ c n=tb at f i
 clear h r z
 go_enter Tryz.func143,Tryz.ntmps143
 go_wp2_with (refine dN ?_)
 refine t.ou.mono ?_
 rintro e u ⟨rfl,C,D⟩
 have b:=aj C
 have j:=aj D
 clear C D t
 have J:u.cell? ⟨g,0,none⟩=some (S c):=Cs.cell b.ou 0
 have c1:u.cell? ⟨g,1,none⟩=some (.bool b1):=Cs.cell b.ou 1
 have K:=Cs.frozen b.ou 0
 have L:=Cs.frozen b.ou 1
 by_cases k:n<c.length
 ·obtain⟨x,r⟩:∃x,c[n]=x:=⟨_,rfl⟩
  have G:=x.toNat_lt
  have o:c[n]?=some x:=by rw[aF k,r]
  have H:decide ((c.length:Int)<(n:Int)+1)=false:=by rw[aA];omega
  rw[aM k,o] at i
  clear o
  by_cases d:x=32
  ·have I:((x.toNat:Int)==32)=true:=by rw[d];rfl
   have p:Hd (R=(c.drop (n+1),b1,c.take n)):=by rw[Hd,f.ou,i.ou,d];rfl
   clear i f d
   refine cS ?_
   go_ret
   rw[p.ou]
   exact⟨rfl,Cs.cM b.ou 0 _,j.ou.trans ((al.refl _ _).at_ 0 _) fun _ _ h=>h⟩
  ·have I:((x.toNat:Int)==32)=false:=by
    rw[bl]
    intro h
    apply d
    apply im.1
    show x.toNat=32
    omega
   have p:Hd (R=(c,true,[])):=by
    have:(some x==some (32:UInt8))=false:=by simpa using d
    rw[Hd,f.ou,i.ou,this];rfl
   clear i f d
   refine cS ?_
   go_ret
   rw[p.ou]
   exact⟨rfl,Cs.cM b.ou 1 (.bool true),j.ou.trans ((al.refl _ _).at_ 1 _) fun _ _ h=>h⟩
 ·have H:decide ((c.length:Int)<(n:Int)+1)=true:=by rw[aW];omega
  have p:Hd (R=(c,true,[])):=by rw[Hd,f.ou,i.ou,aG k];rfl
  clear i f
  refine cS ?_
  go_ret
  rw[p.ou]
  exact⟨rfl,Cs.cM b.ou 1 (.bool true),j.ou.trans ((al.refl _ _).at_ 1 _) fun _ _ h=>h⟩
structure uP (w wr:World) (g2 g4 g8:Nat) (s:aK) (bad:Bool) (v:jy) (cs:List aK) (nd od:List bm):Prop where
 rd:sx wr g4 s bad
 rc:Cs wr g8 pn #[.slice v.cA cs.length v.cc,.slice v.nA nd.length v.nc,.slice v.oA od.length v.oc]
 rs:Cs wr g2 pn #[.slice none 0 0,.slice none 0 0,.slice none 0 0]
 fc:bR cI 9 w wr v.cA v.cc cs
 fn:bR br 54 w wr v.nA v.nc nd
 fo:bR br 54 w wr v.oA v.oc od
 ne:∀g,(Value.slice v.nA nd.length v.nc).ownBlock=some g→(Value.slice v.oA od.length v.oc).ownBlock≠some g
 n2:w.heap.size≤g2
 n4:w.heap.size≤g4
 n8:w.heap.size≤g8
 n28:g2≠g8
section
variable {w wr u:World} {g2 g4 g8:Nat} {s s':aK} {bad bad':Bool} {v:jy} {cs:List aK} {nd od:List bm}
theorem uP.x(h:uP w wr g2 g4 g8 s bad v cs nd od):bf w wr:=h.fc.ext
theorem uP.ext(h:uP w wr g2 g4 g8 s bad v cs nd od)(a:bf wr u):uP w u g2 g4 g8 s bad v cs nd od:=
 ⟨h.rd.ext a,h.rc.aP a id,h.rs.aP a id,h.fc.on a,h.fn.on a,h.fo.on a,h.ne,h.n2,h.n4,h.n8,h.n28⟩
theorem uP.read(h:uP w wr g2 g4 g8 s bad v cs nd od)(d:sx u g4 s' bad')(a:al (fun b=>b=g4) wr u):uP w u g2 g4 g8 s' bad' v cs nd od:=by
 have c:bf w u:=h.x.trans a fun b hb e=>by have e:b=g4:=e;have:=h.n4;omega
 exact⟨d,h.rc.aP a (fun e=>Cs.oC h.rc h.rd (by decide) e),h.rs.aP a (fun e=>Cs.oC h.rs h.rd (by decide) e),
  h.fc.aP a c (aO h.fc.own h.rd (by decide)),h.fn.aP a c (aO h.fn.own h.rd (by decide)),h.fo.aP a c (aO h.fo.own h.rd (by decide)),h.ne,h.n2,h.n4,h.n8,h.n28⟩
theorem uP.VL (h:uP w wr g2 g4 g8 s bad v cs nd od)  (a:al (fun b=>b=g) wr u) (m:w.heap.size≤g) (d:g2≠g) (f:g4≠g) (i:g8≠g)
  (j:∀b,(Value.slice v.cA cs.length v.cc).ownBlock=some b→¬b=g) (k:∀b,(Value.slice v.nA nd.length v.nc).ownBlock=some b→¬b=g) (l:∀b,(Value.slice v.oA od.length v.oc).ownBlock=some b→¬b=g):uP w u g2 g4 g8 s bad v cs nd od:=by
 have c:bf w u:=h.x.trans a fun b hb e=>by have e:b=g:=e;omega
 exact⟨Cs.aP h.rd a f,h.rc.aP a i,h.rs.aP a d,h.fc.aP a c j,h.fn.aP a c k,h.fo.aP a c l,h.ne,h.n2,h.n4,h.n8,h.n28⟩
theorem uP.zC(h:uP w wr g2 g4 g8 s bad v cs nd od):(∀b,(Value.slice v.cA cs.length v.cc).ownBlock=some b→b<wr.heap.size)∧(∀b,(Value.slice v.nA nd.length v.nc).ownBlock=some b→b<wr.heap.size)∧(∀b,(Value.slice v.oA od.length v.oc).ownBlock=some b→b<wr.heap.size):=by
 refine⟨fun b hb=>?_,fun b hb=>?_,fun b hb=>?_⟩
 ·obtain⟨_,a⟩:=fI h.fc.own hb;exact a.lt
 ·obtain⟨_,a⟩:=fI h.fn.own hb;exact a.lt
 ·obtain⟨_,a⟩:=fI h.fo.own hb;exact a.lt
theorem uP.NH (h:uP w u g2 g4 g8 s bad v cs nd od)    {t:aK}
  (c:w5.ownsRow 0 9 1 (.slice A' (cs.length+1:Nat) c') (cs.length+1) (cs.flatMap cI.enc++[t].flatMap cI.enc)) (k:u.grownBy w5 (Value.slice v.cA cs.length v.cc).ownBlock)
  (l:(Value.slice A' (cs.length+1:Nat) c').ownBlock=(Value.slice v.cA cs.length v.cc).ownBlock∨(Value.slice A' (cs.length+1:Nat) c').ownBlock=some u.heap.size) :
  uP w (w5.setCell ⟨g8,0,none⟩ (.slice A' (cs.length+1:Nat) c')) g2 g4 g8 s bad { v with cA:=A',cc:=c' } (cs++[t]) nd od:=by
 have d:al (fun b=>(Value.slice v.cA cs.length v.cc).ownBlock=some b) u w5:=(al.refl _ _).grown k fun g e=>.inr e
 have f:=h.fc.grow (ys:=[t]) rfl c k l
 have m:=h.fn.aP d f.ext (fun g h1 h2=>fG h.fn.own h.fc.own (by decide) g h1 h2)
 have n:=h.fo.aP d f.ext (fun g h1 h2=>fG h.fo.own h.fc.own (by decide) g h1 h2)
 have i:=h.rc.aP d (fun e=>aO h.fc.own h.rc (by decide) _ e rfl)
 have p:=h.rs.aP d (fun e=>aO h.fc.own h.rs (by decide) _ e rfl)
 have o:sx w5 g4 s bad:=Cs.aP h.rd d (fun e=>aO h.fc.own h.rd (by decide) _ e rfl)
 have a:al (fun b=>b=g8) w5 (w5.setCell ⟨g8,0,none⟩ (.slice A' (cs.length+1:Nat) c')):=(al.refl _ _).at_ 0 _
 have j:bf w (w5.setCell ⟨g8,0,none⟩ (.slice A' (cs.length+1:Nat) c')):=f.ext.trans a fun b l e=>by have e:b=g8:=e;have:=h.n8;omega
 refine⟨Cs.aP o a (fun e=>Cs.oC i o (by decide) e.symm),?_,p.aP a h.n28,f.aP a j (aO f.own i (by decide)),m.aP a j (aO m.own i (by decide)),n.aP a j (aO n.own i (by decide)),h.ne,h.n2,h.n4,h.n8,h.n28⟩
 have:=i.cM 0 (.slice A' (cs.length+1:Nat) c')
 rw[af]
 exact this
theorem uP.GA (h:uP w u g2 g4 g8 s bad v cs nd []) (k:v.oA=none)    
  (c:w5.ownsRow 0 54 2 (.slice A' (nd.length+1:Nat) c') (nd.length+1) (nd.flatMap br.enc++[t].flatMap br.enc)) (l:u.grownBy w5 (Value.slice v.nA nd.length v.nc).ownBlock)
  (m:(Value.slice A' (nd.length+1:Nat) c').ownBlock=(Value.slice v.nA nd.length v.nc).ownBlock∨(Value.slice A' (nd.length+1:Nat) c').ownBlock=some u.heap.size) :
  uP w (w5.setCell ⟨g8,1,none⟩ (.slice A' (nd.length+1:Nat) c')) g2 g4 g8 s bad { v with nA:=A',nc:=c' } cs (nd++[t]) []:=by
 have d:al (fun b=>(Value.slice v.nA nd.length v.nc).ownBlock=some b) u w5:=(al.refl _ _).grown l fun g e=>.inr e
 have f:=h.fn.grow (ys:=[t]) rfl c l m
 have n:=h.fc.aP d f.ext (fun g h1 h2=>fG h.fc.own h.fn.own (by decide) g h1 h2)
 have o:=h.fo.aP d f.ext (fun g h1 h2=>by rw[k] at h1;simp[Value.ownBlock] at h1)
 have i:=h.rc.aP d (fun e=>aO h.fn.own h.rc (by decide) _ e rfl)
 have q:=h.rs.aP d (fun e=>aO h.fn.own h.rs (by decide) _ e rfl)
 have p:sx w5 g4 s bad:=Cs.aP h.rd d (fun e=>aO h.fn.own h.rd (by decide) _ e rfl)
 have a:al (fun b=>b=g8) w5 (w5.setCell ⟨g8,1,none⟩ (.slice A' (nd.length+1:Nat) c')):=(al.refl _ _).at_ 1 _
 have j:bf w (w5.setCell ⟨g8,1,none⟩ (.slice A' (nd.length+1:Nat) c')):=f.ext.trans a fun b m e=>by have e:b=g8:=e;have:=h.n8;omega
 refine⟨Cs.aP p a (fun e=>Cs.oC i p (by decide) e.symm),?_,q.aP a h.n28,n.aP a j (aO n.own i (by decide)),f.aP a j (aO f.own i (by decide)),o.aP a j (aO o.own i (by decide)),fun g _ h2=>by simp[k,Value.ownBlock] at h2,h.n2,h.n4,h.n8,h.n28⟩
 have:=i.cM 1 (.slice A' (nd.length+1:Nat) c')
 rw[af]
 exact this
theorem uP.EA (h:uP w u g2 g4 g8 s bad v cs nd od)    
  (d:w5.ownsRow 0 54 2 (.slice A' (od.length+1:Nat) c') (od.length+1) (od.flatMap br.enc++[t].flatMap br.enc)) (l:u.grownBy w5 (Value.slice v.oA od.length v.oc).ownBlock)
  (a:(Value.slice A' (od.length+1:Nat) c').ownBlock=(Value.slice v.oA od.length v.oc).ownBlock∨(Value.slice A' (od.length+1:Nat) c').ownBlock=some u.heap.size) :
  uP w (w5.setCell ⟨g8,2,none⟩ (.slice A' (od.length+1:Nat) c')) g2 g4 g8 s bad { v with oA:=A',oc:=c' } cs nd (od++[t]):=by
 have f:al (fun b=>(Value.slice v.oA od.length v.oc).ownBlock=some b) u w5:=(al.refl _ _).grown l fun g e=>.inr e
 have i:=h.fo.grow (ys:=[t]) rfl d l a
 have m:=h.fc.aP f i.ext (fun g h1 h2=>fG h.fc.own h.fo.own (by decide) g h1 h2)
 have n:=h.fn.aP f i.ext (fun g h1 h2=>h.ne g h1 h2)
 have j:=h.rc.aP f (fun e=>aO h.fo.own h.rc (by decide) _ e rfl)
 have q:=h.rs.aP f (fun e=>aO h.fo.own h.rs (by decide) _ e rfl)
 have o:sx w5 g4 s bad:=Cs.aP h.rd f (fun e=>aO h.fo.own h.rd (by decide) _ e rfl)
 have c:al (fun b=>b=g8) w5 (w5.setCell ⟨g8,2,none⟩ (.slice A' (od.length+1:Nat) c')):=(al.refl _ _).at_ 2 _
 have k:bf w (w5.setCell ⟨g8,2,none⟩ (.slice A' (od.length+1:Nat) c')):=i.ext.trans c fun b a e=>by have e:b=g8:=e;have:=h.n8;omega
 refine⟨Cs.aP o c (fun e=>Cs.oC j o (by decide) e.symm),?_,q.aP c h.n28,m.aP c k (aO m.own j (by decide)),n.aP c k (aO n.own j (by decide)),i.aP c k (aO i.own j (by decide)),fun g h1 h2=>?_,h.n2,h.n4,h.n8,h.n28⟩
 ·have:=j.cM 2 (.slice A' (od.length+1:Nat) c')
  rw[af]
  exact this
 ·rw[af] at h2
  rcases a with a|a
  ·exact h.ne g h1 (a.symm.trans h2)
  ·have p:some u.heap.size=some g:=a.symm.trans h2
   injection p with p
   obtain⟨cur,r⟩:=fI h.fn.own h1
   have:=r.lt
   omega
end
def kB:Nat→aK→Bool→aK×Bool×List aK
 | 0,s,b=>(s,b,[])
 | k+1,s,b=>((kB k (lG s b 300).1 (lG s b 300).2.1).1,(kB k (lG s b 300).1 (lG s b 300).2.1).2.1,(lG s b 300).2.2::(kB k (lG s b 300).1 (lG s b 300).2.1).2.2)
def qZ(s:aK)(b:Bool):aK×Bool×bm:=
 ((lG (ik s b 32).1 (ik s b 32).2.1 20).1,(lG (ik s b 32).1 (ik s b 32).2.1 20).2.1||!i7 (ik s b 32).2.2,((ik s b 32).2.2,(lG (ik s b 32).1 (ik s b 32).2.1 20).2.2))
def jL:Nat→aK→Bool→aK×Bool×List bm
 | 0,s,b=>(s,b,[])
 | k+1,s,b=>((jL k (qZ s b).1 (qZ s b).2.1).1,(jL k (qZ s b).1 (qZ s b).2.1).2.1,(qZ s b).2.2::(jL k (qZ s b).1 (qZ s b).2.1).2.2)
theorem vh:∀(k:Nat) (s:aK) (b:Bool),(kB k s b).2.2.length=k
 | 0,_,_=>rfl
 | k+1,s,b=>by
  show(_::(kB k _ _).2.2).length=k+1
  rw[an,vh k]
theorem wi:∀(k:Nat) (s:aK) (b:Bool),(jL k s b).2.2.length=k
 | 0,_,_=>rfl
 | k+1,s,b=>by
  show(_::(jL k _ _).2.2).length=k+1
  rw[an,wi k]
theorem zX(s:aK)(b:Bool)(eA:Int)(a:0≤eA):(lG s b eA).1.length≤s.length∧(lG s b eA).2.2.length≤s.length∧((lG s b eA).2.2.length:Int)≤eA:=by
 obtain⟨c,d,e⟩:=lC s b 58 eA a
 unfold lG
 split
 ·refine⟨?_,?_,?_⟩
  ·simp only[be];omega
  ·simp only[aH];omega
  ·simp only[aH];omega
 ·exact⟨c,au _,by simpa using a⟩
theorem N7(s:aK)(b:Bool):(qZ s b).1.length≤s.length∧(qZ s b).2.2.1.length≤s.length∧(qZ s b).2.2.2.length≤20:=by
 have a:=tq s b 32
 have c:=zX (ik s b 32).1 (ik s b 32).2.1 20 (by omega)
 exact⟨aJ c.1 a.1,a.2,by have:=c.2.2;show(lG (ik s b 32).1 (ik s b 32).2.1 20).2.2.length≤20;omega⟩
end Go.Proofs.YtpgmcijdcnnjpaaGreatDoor
