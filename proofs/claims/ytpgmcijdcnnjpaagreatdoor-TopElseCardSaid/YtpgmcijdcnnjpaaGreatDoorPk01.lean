/- Lemmas for it. -/
import Derived.Test.YtpgmcijdcnnjpaaGreatDoorPkS
import Derived.ProofKit
import Derived.OpenShut
import Derived.WalkLawsBesides
import Derived.WalkSpells
import Derived.HandedShaped
import Derived.ShutString
import Derived.LaidMore
import Derived.Lay
import Derived.SevenTiedAt
set_option linter.all false
set_option maxRecDepth 100000
namespace Go.Proofs.YtpgmcijdcnnjpaaGreatDoor
open Go Go.RowKit
variable {p:Prop} {f:FuncId} {dj i id j:Nat} {args av:Array Value} {r:Result Next} {K K':Act→World→Prop} {oi oj:Oper} {want:Bool} {pr:Program}
section
variable {P:Program} {ops:Array Oper} {C:World→Prop}
theorem Gk{a:Act}{d:Nat}{v:Value}(h:a.tmps[d]?=some v):a.put (some d) v=a:=by
 have:a.tmps.setIfInBounds d v=a.tmps:=by
  rw[bq] at h
  obtain⟨c,b⟩:=h
  subst b
  apply Array.ext
  ·simp
  ·intro i f g
   rw[Array.getElem_setIfInBounds]
   split
   ·rename_i e;subst e;rfl
   ·rfl
 unfold Act.put
 simp[this]
end
abbrev aK:=List UInt8
abbrev S(l:aK):Value:=.string ⟨l.toArray⟩
theorem OB(x y:aK):(⟨x.toArray⟩++⟨y.toArray⟩:ByteArray)=⟨(x++y).toArray⟩:=by
 apply ByteArray.ext
 simp
attribute [go_sem] OB
theorem Mb(s:aK)(k:Nat)(h:k<s.length)(a:k<(⟨s.toArray⟩:ByteArray).size):(⟨s.toArray⟩:ByteArray)[k]'a=s[k]:=rfl
attribute [go_sem] Mb
structure al (F:Nat→Prop) (w v:World):Prop where
 os:v.os=w.os
 tape:v.tape=w.tape
 output:v.output=w.output
 size:w.heap.size≤v.heap.size
 block:∀b,b<w.heap.size→¬F b→v.heap[b]?=w.heap[b]?
abbrev No:Nat→Prop:=fun _=>False
abbrev bf(w v:World):Prop:=al No w v
section
variable {F G:Nat→Prop} {w u v:World}
theorem al.refl(F:Nat→Prop)(w:World):al F w w:=⟨rfl,rfl,rfl,aq _,fun _ _ _=>rfl⟩
theorem al.gU(h:al F w v)(a:∀b,b<w.heap.size→F b→G b):al G w v:=⟨h.os,h.tape,h.output,h.size,fun b hb hn=>h.block b hb fun hf=>hn (a b hb hf)⟩
theorem al.any(h:bf w v):al F w v:=h.gU fun _ _ h=>h.elim
theorem al.trans(h:al F w u)(k:al G u v)(a:∀b,b<w.heap.size→G b→F b):al F w v:=
 ⟨k.os.trans h.os,k.tape.trans h.tape,k.output.trans h.output,aJ h.size k.size,
  fun b hb hn=>(k.block b (bZ hb h.size) fun hg=>hn (a b hb hg)).trans (h.block b hb hn)⟩
theorem al.ae(h:al F w u)(k:bf u v):al F w v:=h.trans k fun _ _ h=>h.elim
theorem al.drew(h:al F w v):al F w v.drew:=⟨h.os,h.tape,h.output,h.size,h.block⟩
theorem al.drewN(h:al F w v)(n:Nat):al F w (v.drewN n):=⟨h.os,h.tape,h.output,h.size,h.block⟩
theorem al.alloc(h:al F w v)(o:Obj):al F w (v.alloc o):=
 h.trans (G:=No) ⟨rfl,rfl,rfl,by simp,fun b hb _=>Below.heap_alloc _ _ _ hb⟩ fun _ _ h=>h.elim
theorem al.setCell(h:al F w v){p:Addr}(a:w.heap.size≤p.block∨F p.block)(x:Value):al F w (v.setCell p x):=
 h.trans (G:=fun b=>b=p.block) ⟨rfl,rfl,rfl,by simp[World.setCell],fun b _ hn=>Below.heap_setCell _ _ _ _ hn⟩ fun b hb e=>by
  subst e
  rcases a with a|a
  ·omega
  ·exact a
theorem al.at_{g:Nat}(h:al (·=g) w v)(i:Nat)(x:Value):al (·=g) w (v.setCell ⟨g,i,none⟩ x):=h.setCell (p:=⟨g,i,none⟩) (.inr rfl) x
theorem al.grown{row:Option Nat}(h:al F w u)(a:u.grownBy v row)(c:∀g,row=some g→w.heap.size≤g∨F g):al F w v:=
 h.trans (G:=fun b=>some b=row) ⟨a.os,a.tape,a.output,a.size,fun b hb hn=>a.block b hb hn⟩ fun b hb e=>by
  rcases c b e.symm with hp|hp
  ·omega
  ·exact hp
theorem al.below(h:Below w.heap.size w v):bf w v:=⟨h.os,h.tape,h.output,h.size,fun b hb _=>h.block b hb⟩
theorem al.toBelow(h:bf w v):Below w.heap.size w v:=
 ⟨h.os,h.tape,h.output,h.size,fun b hb=>h.block b hb id⟩
theorem al.cell(h:al F w v){p:Addr}(a:p.block<w.heap.size)(b:¬F p.block):v.cell? p=w.cell? p:=World.cell?_of_block (w:=w) (h.block p.block a b)
end
structure X (w:World) (F:Nat→Prop) where
 v:World
 h:al F w v
section
variable {w:World} {F:Nat→Prop}
def X.here(w:World)(F:Nat→Prop):X w F:=⟨w,al.refl _ _⟩
instance X.has (w:World) (F:Nat→Prop):Nonempty (X w F):=⟨X.here w F⟩
def X.on(ξ:X w F){v:World}(h:bf ξ.v v):X w F:=⟨v,ξ.h.ae h⟩
abbrev Cl(w:World)(F:Nat→Prop):World→Prop:=fun w'=>∃ξ:X w F,w'=ξ.v
theorem Cl.eU(ξ:X w F):Cl w F ξ.v.drew:=⟨⟨ξ.v.drew,ξ.h.drew⟩,rfl⟩
theorem Cl.of{v:World}(h:al F w v):Cl w F v:=⟨⟨v,h⟩,rfl⟩
end
theorem xaE{w u:World}{o:Obj}(h:u=w.alloc o):bf w u:=by rw[h];exact(al.refl No w).alloc o
def Ml(w:World):Prop:=∃m,w.cell? ⟨0,0,none⟩=some (.int .i64 m)
theorem Ml.only{w v:World}{F:Nat→Prop}(h:Ml w)(b:al F w v)(c:¬F 0):Ml v:=by
 obtain⟨m,a⟩:=h
 exact⟨m,(b.cell (World.block_lt_of_cell? _ _ a) c).trans a⟩
theorem Ml.ext{w v:World}(h:Ml w)(a:bf w v):Ml v:=h.only a id
theorem rp{W:World}(h:W.ShapedOpen Tryz.prog):Ml W:=
 cell_of_shapedOpen_int (t:=3) (zero:=#[.int .i64 0]) h (of_decide_eq_true (by kernel_rfl)) (by kernel_rfl) rfl (by kernel_rfl) (by kernel_rfl) Tryz.underlying3
open Go Go.RowKit Go.ChangeShapes Go.WideShapes Go.ChangeAt
section
variable {H:Type} {enc:TypeId×Value→H}
theorem j8 {a:Assume} {C:Checked} {os:Os}  {p:Func} {s:ChangeSpec} {k:List PathCond} {b l g m:Bool} {X:World→Array Value→Prop}
  (G:∀(w w':World) (args:Array Value),w.heap=w'.heap→X w args→X w' args)
  (own:ownKnob C.prog.godebug=none) (n:os.Started) (q:C.prog.inits.idxOf? f=none) (z:C.prog.funcs[f]?=some p)
  (o:∃(w:World) (c:Tape) (i:Input),w.os=os∧(w.forCall c i).Shaped C.prog∧i.vars=[]∧Input.okWide C.prog (w.forCall c i) .any w.heap.size f i ∧
   ((s.pre enc C.prog p k b (w.forCall c i).memory i.args∧X (w.forCall c i).memory i.args)∧sizedMet enc C.prog p (OpenSpec.ofChange s) b (w.forCall c i).memory i.args)∧a.holds C.prog (lone (Frame.enter C.prog f i.args .normal) [] (w.forCall c i)))
  (h:∀(W:World) (base:Nat) (args:Array Value) (A gs:List (DataW H)) (d:List MemPlace),
   (∀(j:Nat) t v,p.params[j]?=some t→args[j]?=some v→Value.okWide C.prog W .any base t v) →
   DataW.Whole enc C.prog p.params.toList s.vars b W args.toList A gs d →
   W.ShapedOpen C.prog→X W args →
   Calls C.prog f args W fun e W'=>∃v,e=.returned v∧s.post enc C.prog p b l g m W args v W') :
  ReturnsInHanded a C os f .any (fun w args=>(s.pre enc C.prog p k b w args∧X w args)∧sizedMet enc C.prog p (OpenSpec.ofChange s) b w args) (s.post enc C.prog p b l g m):=by
 refine returnsInHanded_of_calls own n q o ?_
 intro w c i _ B _ D r y
 obtain⟨_,_,_,E,u,_,_,_,_,x⟩:=D
 have e:E=p:=bB (u.symm.trans z)
 subst e
 obtain⟨⟨⟨A,gs,d,I,K⟩,J⟩,L⟩:=r
 have F:=DataW.Whole.of_heap (w':=w.forCall c i) (by rfl) I
 refine(h (w.forCall c i) w.heap.size i.args A gs d x F B (G _ _ _ (by rfl) J)).mono fun e W' ⟨v,he,hp⟩=>?_
 subst he
 exact ChangeSpec.post_blind hp
end
theorem gL{α:Type}(l:List α)(i:Nat)(a:α):l.toArray.setIfInBounds i a=(l.set i a).toArray:=ax ..
theorem gK{α:Type}{a:α}{l:List α} {b:α}:(a::l).set (i+1) b=a::l.set i b:=rfl
theorem gJ{α:Type}{a:α}{l:List α}{b:α}:(a::l).set 0 b=b::l:=rfl
theorem mu [Decidable p]:(decide p=true)=p:=bh
theorem mh [Decidable p]:decide p=false↔¬p:=aA
theorem mj{α:Type}[BEq α][LawfulBEq α]{a b:α}:(a==b)=true↔a=b:=bY
theorem mm{α:Type}[BEq α][LawfulBEq α]{a b:α}:(a==b)=false↔a≠b:=bl
section
variable {P:Program} {ops:Array Oper} {md:Region.Mode} {C:World→Prop} {E:List Nat} {N:Nat}
def jS(o:Oper):Bool:=match o.op with
 | .call c=>(match c.callee with|.builtin .len|.builtin .cap|.builtin .max|.builtin .min=>false|_=>true)
 | .go _|.defer _|.send _ _|.recv _ _ _|.select _ _=>true
 | _=>false
theorem qL{s:Sem Value}{w w':World}   : (do let a ←s;pure (Next.value a):Sem Next).run P w≠.ok (.enter f args) w':=by
 rw[Sem.run_bind]
 cases s.run P w<;>simp[Result.andThen]
theorem yx{s:Sem Unit}{w w':World}   : (do s;pure Next.skip:Sem Next).run P w≠.ok (.enter f args) w':=by
 rw[Sem.run_bind]
 cases s.run P w<;>simp[Result.andThen]
def fe(P:Program)(N:Value→World→Prop):Result Next→Prop
 | .ok (.value v) w'=>N v w'
 | .ok .skip w'=>N undef w'
 | .ok (.enter f args) w'=>Calls P f args w' fun e w''=>∃v,e=.returned v∧N v w''
 | _=>False
def cT(P:Program)(o:Oper)(a:Act)(w:World)(N:Value→World→Prop):Prop:=fe P N ((execOp a.eval o).run P w)
theorem iy{N b:Value→World→Prop} (h:∀v w,N v w→b v w)(a:fe P N r):fe P b r:=by
 unfold fe at *
 split at a<;>first
  | exact h _ _ a
  | exact a.mono fun e w ⟨v,he,hn⟩=>⟨v,he,h _ _ hn⟩
  | exact a.elim
theorem zD{N:Value→World→Prop} (a:fe P N r):∃v w,N v w:=by
 unfold fe at a
 split at a<;>first
  | exact⟨_,_,a⟩
  | (obtain⟨e,w',c,⟨v,_,b⟩,_⟩:=a [];exact⟨v,w',b⟩)
  | exact a.elim
theorem kk {o:Oper} {a:Act} {w:World}  {Q:Exit→Act→World→Prop} {N:Value→World→Prop}
  (h:∀v w',N v w'→K (a.put o.dst v) w') (b:cT P o a w N):o.wp P a w K Q:=by
 unfold cT at b
 unfold Oper.wp
 generalize (execOp a.eval o).run P w=r at *
 unfold fe at b
 split at b
 ·exact h _ _ b
 ·exact h _ _ b
 ·exact b.mono fun e w ⟨v,he,hn⟩=>by subst he;exact h _ _ hn
 ·exact b.elim
def iB(P:Program)(ops:Array Oper)(C:World→Prop)(E:List Nat)(N:Nat)(i:Nat)(o:Oper)(a:Act)(w:World)(K:Act→World→Prop):Prop:=
 if Region.wanted o (yielded ops a.tmps) then
  (if E.contains i then cT P o a w (fun v w'=>(i≠N→C w')∧K (a.put o.dst v) w') else jS o=false∧o.quiet P a C (fun a'=>K a' w))
 else K (a.put o.dst undef) w
def fC(P:Program)(ops:Array Oper)(C:World→Prop)(E:List Nat)(N:Nat)(Q:Act→World→Prop):Nat→List Oper→Act→World→Prop
 | _,[],a,w=>Q a w
 | k,o::l,a,w=>iB P ops C E N k o a w (fC P ops C E N Q (k+1) l)
def gP(P:Program)(ops:Array Oper)(C:World→Prop)(E:List Nat)(N:Nat)(i:Nat)(K:Act→World→Prop)(a:Act)(w:World):Prop:=
 match ops[i]? with
 | none=>K a w
 | some o=>iB P ops C E N i o a w K
def kX(P:Program)(md:Region.Mode)(ops:Array Oper)(C:World→Prop)(E:List Nat)(N:Nat)(Q:Act→World→Prop):Nat→Array Bool→Act→World→Prop
 | 0,listed,a,w=>Region.ready md ops listed=[]∧Q a w
 | fuel+1,listed,a,w=>
  (Region.ready md ops listed=[]→Q a w) ∧
  ∀i∈Region.ready md ops listed,gP P ops C E N i (fun a' w'=>if i=N then Region.ready md ops (listed.setIfInBounds i true)=[]∧Q a' w' else kX P md ops C E N Q fuel (listed.setIfInBounds i true) a' w') a w
theorem kq{w w':World}   : (runtimePanic .nilDeref:Sem Next).run P w≠.ok (.enter f args) w':=by
 simp[runtimePanic,goPanic,go_sem]
theorem lY{o:Oper}(h:jS o=false){ρ:Operand→Value}{w w':World}   : (execOp ρ o).run P w≠.ok (.enter f args) w':=by
 unfold jS at h
 unfold execOp
 cases ho:o.op<;>simp only[ho] at h ⊢<;>first
  | exact qL
  | exact yx
  | (cases h;done)
  | (simp[Sem.run_pure];done)
  | skip
 case pick c a b=>
  rw[Sem.run_bind]
  cases (asBool (ρ c)).run P w<;>simp[Result.andThen]
 case nilCheck x=>
  split
  ·exact kq
  ·exact kq
  ·exact kq
  ·split
   ·exact kq
   ·rw[Sem.run_bind]
    cases program.run P w with
    | halt x w'=>simp[Result.andThen]
    | ok p w'=>
     simp only[Result.andThen]
     rw[Sem.run_bind]
     cases (nilAhead _ _ _ _:Sem (Option Bool)).run P w' with
     | halt x w'=>simp[Result.andThen]
     | ok b w'=>
      simp only[Result.andThen]
      split
      ·simp[unsupported,Sem.run_bind,Sem.run]
      ·simp[Sem.run_pure]
   ·simp[Sem.run_pure]
  ·simp[Sem.run_pure]
 case call c=>
  rw[Sem.run_bind]
  unfold resolve
  split at h
  case h_5=>cases h
  all_goals
   rename_i hc
   simp only[hc,Sem.run_pure,Result.andThen,invoke,builtin]
   exact qL
theorem zE{o:Oper}{v d:Value}{a:Act}{w:World}(e:C w)(h:YieldsIn P ops C o v a)(g:YieldsIn P ops C o d a)(i:jS o=false):v=d:=by
 rcases h with⟨h1,h2⟩|⟨h1,rfl⟩<;>rcases g with⟨k1,k2⟩|⟨k1,rfl⟩
 ·have b:=h2 w e
  have c:=k2 w e
  unfold Oper.quietAt at b c
  have j:=fun f args w'=>lY (P:=P) i (ρ:=a.eval) (w:=w) (w':=w') (f:=f) (args:=args)
  generalize (execOp a.eval o).run P w=r at *
  unfold Oper.quietUpon at b c
  split at b
  ·simp only at c;rw[←b.2,←c.2]
  ·simp only at c;rw[b.2,c.2]
  ·exact absurd rfl (j _ _ _)
  ·exact b.elim
 ·rw[h1] at k1;cases k1
 ·rw[h1] at k1;cases k1
 ·rfl
theorem Em {o:Oper}{a:Act}{w:World} (h:∀a w,K a w→K' a w)(b:iB P ops C E N i o a w K):iB P ops C E N i o a w K':=by
 unfold iB at *
 split
 ·rename_i hw
  rw[ab hw] at b
  split
  ·rename_i he;rw[ab he] at b;exact iy (fun v w ⟨c,k⟩=>⟨c,h _ _ k⟩) b
  ·rename_i he;rw[aa he] at b;exact⟨b.1,Oper.quiet_mono (fun a k=>h _ _ k) b.2⟩
 ·rename_i hw
  rw[aa hw] at b
  exact h _ _ b
theorem Fq {a:Act}{w:World} (h:∀a w,K a w→K' a w)(b:gP P ops C E N i K a w):gP P ops C E N i K' a w:=by
 unfold gP at *
 split
 ·rename_i e;simp only[e] at b;exact h _ _ b
 ·rename_i o e;simp only[e] at b;exact Em h b
theorem xh {o:Oper}{a:Act}{w:World} (c:ops[i]?=some o)(b:gP P ops C E N i K a w):∃v w',K (a.put o.dst v) w':=by
 unfold gP at b
 simp only[c] at b
 unfold iB at b
 split at b
 ·split at b
  ·obtain⟨v,w',_,k⟩:=zD b;exact⟨v,w',k⟩
  ·obtain⟨_,v,_,k⟩:=b;exact⟨v,w,k⟩
 ·exact⟨undef,w,b⟩
theorem CT   {u:Value} {a:Act} {w:World}  (l:ops[i]?=some oi) (e:oi.apart ops oj=true)
  (f:∀cs b,oi.op≠.select cs b) (d:gP P ops C E N i K a w) (h:∀v w',K (a.put oi.dst v) w'→K' ((a.put oj.dst u).put oi.dst v) w'):gP P ops C E N i K' (a.put oj.dst u) w:=by
 obtain⟨n,o,g⟩:=Oper.apart_spec e
 unfold gP at *
 simp only[l] at *
 unfold iB at *
 rw[wanted_put oi a oj.dst u g]
 have j:=execOp_put oi f a oj.dst u g
 split
 ·rename_i hw
  rw[ab hw] at d
  split
  ·rename_i hE
   rw[ab hE] at d
   unfold cT at *
   rw[j]
   exact iy (fun v w' ⟨c,k⟩=>⟨c,h v w' k⟩) d
  ·rename_i hE
   rw[aa hE] at d
   obtain⟨m,v,hq,k⟩:=d
   refine⟨m,v,fun w' hw'=>?_,h v w k⟩
   have:=hq w' hw'
   unfold Oper.quietAt at *
   rwa [j]
 ·rename_i hw
  rw[aa hw] at d
  exact h undef w d
theorem sn {u v:Value}{a:Act}(c:oi.apart ops oj=true)(d:∀cs b,oj.op≠.select cs b) :
  YieldsIn P ops C oj v (a.put oi.dst u)↔YieldsIn P ops C oj v a:=by
 obtain⟨e,_,_⟩:=Oper.apart_spec c
 unfold YieldsIn Oper.quietAt
 rw[wanted_put oj a oi.dst u e,execOp_put oj d a oi.dst u e]
theorem kC  {a:Act}{w:World} (c:ops[j]?=some oj)(d:E.contains j=false)(b:gP P ops C E N j K a w) :
  ∃v,YieldsIn P ops C oj v a∧K (a.put oj.dst v) w:=by
 unfold gP at b
 simp only[c] at b
 unfold iB at b
 split at b
 ·rename_i hw
  rw[aa (by rw[d];exact dI)] at b
  obtain⟨_,v,hq,k⟩:=b
  exact⟨v,.inl ⟨hw,hq⟩,k⟩
 ·rename_i hw
  exact⟨undef,.inr ⟨by simpa using hw,rfl⟩,b⟩
theorem nh   {v:Value} {a:Act} {w:World}  (b:ops[j]?=some oj) (c:E.contains j=false) (d:jS oj=false)
  (e:YieldsIn P ops C oj v a) (k:K (a.put oj.dst v) w):gP P ops C E N j K a w:=by
 unfold gP
 simp only[b]
 unfold iB
 rcases e with⟨hw,hv⟩|⟨hw,rfl⟩
 ·rw[ab hw,aa (by rw[c];exact dI)];exact⟨d,v,hv,k⟩
 ·rw[aa (by simp[hw])];exact k
theorem l8 {Q:Act→World→Prop}   {v:Value} (L:ops[i]?=some oi) (X:E.contains i=false) (Y:jS oi=false)
  (D:i≠N) (W:Nat→Prop)
  (M:∀j,W j→j≠i→∃o e,ops[j]?=some o∧e∈o.after∧Region.binds md e=true∧W e.on) (O:ops[N]?=none∨W N)
  (r:∀(j:Nat) (o:Oper) cs b,ops[j]?=some o→o.op≠.select cs b) :
  ∀(g:Nat) (d:Array Bool) (a:Act) (w:World),C w→(∀j,W j→d.getD j true=false) →
   (∀j m,ops[j]?=some m→j≠i→d.getD j true=false→(∀e∈m.after,Region.binds md e=true→e.on≠i)→oi.apart ops m=true) →
   i∈Region.ready md ops d→YieldsIn P ops C oi v a →
   kX P md ops C E N Q g (d.setIfInBounds i true) (a.put oi.dst v) w→kX P md ops C E N Q (g+1) d a w:=by
 intro g
 induction g with
 | zero=>
  intro d a w _ _ _ y K H
  refine⟨fun h=>(by rw[h] at y;cases y),fun j hj=>?_⟩
  by_cases l:j=i
  ·subst l;exact nh L X Y K (by rw[aa D];exact H)
  ·have:=ready_mono hj l
   rw[H.1] at this
   cases this
 | succ g ih=>
  intro d a w Z s n y K H
  refine⟨fun h=>(by rw[h] at y;cases y),fun j hj=>?_⟩
  by_cases l:j=i
  ·subst l;exact nh L X Y K (by rw[aa D];exact H)
  ·have f:=H.2 j (ready_mono hj l)
   obtain⟨t,m,p,x⟩:=mem_ready.1 hj
   have F:¬W j:=fun hW=>by
    obtain⟨o,e,ho,B,R,S⟩:=M j hW l
    rw[p] at ho
    cases ho
    have f:=x e B R
    have G:=s _ S
    rcases dm e.on d.size with h'|h'
    ·simp[h'] at G f;rw[G] at f;cases f
    ·simp[dx h'] at f
   have z:j≠N:=fun e=>by
    subst e
    rcases O with h'|h'
    ·rw[p] at h';cases h'
    ·exact F h'
   have I:∀e∈m.after,Region.binds md e=true→e.on≠i:=fun e B R heq=>by
    have f:=x e B R
    have G:=(mem_ready.1 y).1
    rw[heq] at f
    rcases dm i d.size with h'|h'
    ·simp[h'] at G f;rw[G] at f;cases f
    ·simp[dx h'] at f
   have T:=n j m p l t I
   obtain⟨bj,U,p3⟩:=Oper.apart_spec T
   have A:∀k,W k→(d.setIfInBounds j true).getD k true=false:=fun k hk=>by
    rw[getD_set_ne true (fun e=>F (by rw[e];exact hk))]
    exact s k hk
   have q:∀k ok,ops[k]?=some ok→k≠i→(d.setIfInBounds j true).getD k true=false →
     (∀e∈ok.after,Region.binds md e=true→e.on≠i)→oi.apart ops ok=true:=fun k ok hk hki hun hno=>by
    refine n k ok hk hki ?_ hno
    by_cases J:j=k
    ·subst J;exact t
    ·rw[getD_set_ne true J] at hun;exact hun
   have hback:gP P ops C E N j (fun a' w'=>∃u,C w'∧a'=a.put m.dst u∧kX P md ops C E N Q g ((d.setIfInBounds i true).setIfInBounds j true) (a'.put oi.dst v) w') a w:=by
    unfold gP at f ⊢
    simp only[p,aa z] at f ⊢
    unfold iB at f ⊢
    rw[wanted_put m a oi.dst v bj] at f
    have B:=execOp_put m (fun cs b=>r j m cs b p) a oi.dst v bj
    split
    ·rename_i hw
     rw[ab hw] at f
     split
     ·rename_i hEj
      rw[ab hEj] at f
      unfold cT at *
      rw[B] at f
      refine iy (fun u w' ⟨c,k⟩=>⟨c,u,c z,rfl,?_⟩) f
      rw[Act.put_comm a v u U] at k
      exact k
     ·rename_i hEj
      rw[aa hEj] at f
      obtain⟨V,u,hq,k⟩:=f
      refine⟨V,u,fun w' hw'=>?_,u,Z,rfl,?_⟩
      ·have:=hq w' hw'
       unfold Oper.quietAt at *
       rwa [B] at this
      ·rw[Act.put_comm a v u U] at k
       exact k
    ·rename_i hw
     rw[aa hw] at f
     refine⟨undef,Z,rfl,?_⟩
     rw[Act.put_comm a v undef U] at f
     exact f
   refine Fq (fun a' w' ⟨u,hC',ha',h3⟩=>?_) hback
   subst ha'
   rw[aa z]
   refine ih (d.setIfInBounds j true) _ w' hC' A q (ready_mono y (Ne.symm l)) ?_ ?_
   ·refine K.of_same (execOp_put oi (fun cs b=>r i oi cs b L) a m.dst u p3) (wanted_put oi a m.dst u p3)
   ·rw[Array.setIfInBounds_comm _ _ l]
    exact h3
theorem wD {Q:Act→World→Prop}   (D:ops[i]?=some oi) (W:Nat→Prop)
  (O:∀j,W j→j≠i→∃o e,ops[j]?=some o∧e∈o.after∧Region.binds md e=true∧W e.on) (R:ops[N]?=none∨W N)
  (S:∀j n,ops[j]?=some n→¬W j→E.contains j=false→jS n=false)
  (x:∀(j:Nat) (o:Oper) cs b,ops[j]?=some o→o.op≠.select cs b) (w:World) (hC:C w) :
  ∀(d:Nat) (c:Array Bool) (a:Act),
   (∀j,W j→c.getD j true=false) →
   (∀j n,ops[j]?=some n→¬W j→c.getD j true=false→oi.apart ops n=true∧E.contains j=false) →
   i∈Region.ready md ops c →
   gP P ops C E N i (fun a' w'=>if i=N then Region.ready md ops (c.setIfInBounds i true)=[]∧Q a' w' else kX P md ops C E N Q d (c.setIfInBounds i true) a' w') a w →
   kX P md ops C E N Q (d+1) c a w:=by
 intro d
 induction d with
 | zero=>
  intro c a _ _ B H
  refine⟨fun h=>(by rw[h] at B;cases B),fun j hj=>?_⟩
  by_cases f:j=i
  ·subst f;exact H
  ·obtain⟨v,w',T⟩:=xh D H
   have:=ready_mono hj f
   split at T
   ·rw[T.1] at this;cases this
   ·rw[T.1] at this;cases this
 | succ d ih=>
  intro c a y l B H
  refine⟨fun h=>(by rw[h] at B;cases B),fun j hj=>?_⟩
  by_cases f:j=i
  ·subst f;exact H
  ·obtain⟨z,n,g,F⟩:=mem_ready.1 hj
   have p:j∈Region.ready md ops (c.setIfInBounds i true):=ready_mono hj f
   have q:¬W j:=fun hW=>by
    obtain⟨o,e,ho,U,hb,V⟩:=O j hW f
    rw[g] at ho
    cases ho
    have L:=F e U hb
    have h0:=y _ V
    rcases dm e.on c.size with h'|h'
    ·simp[h'] at h0 L;rw[h0] at L;cases L
    ·simp[dx h'] at L
   have G:j≠N:=fun e=>by
    subst e
    rcases R with h'|h'
    ·rw[g] at h';cases h'
    ·exact q h'
   obtain⟨r,s⟩:=l j n g q z
   obtain⟨bj,p2,p3⟩:=Oper.apart_spec r
   have I:=S j n g q s
   have J:=fun cs b=>x j n cs b g
   by_cases A:i=N
   ·obtain⟨v0,w0,M⟩:=xh D H
    rw[ab A] at M
    rw[M.1] at p
    cases p
   have H:gP P ops C E N i (kX P md ops C E N Q (d+1) (c.setIfInBounds i true)) a w:=by
    simpa only [aa A] using H
   obtain⟨v0,w0,M⟩:=xh D H
   obtain⟨vj,t,_⟩:=kC g s (M.2 j p)
   have t:=(sn (u:=v0) r J).1 t
   refine nh g s I t ?_
   rw[aa G]
   refine ih (c.setIfInBounds j true) _ (fun k hk=>?_) (fun k ok hok hnk hun=>?_) (ready_mono B (Ne.symm f)) ?_
   ·have X:j≠k:=fun e=>q (e▸hk)
    rw[getD_set_ne true X]
    exact y k hk
   ·refine l k ok hok hnk ?_
    by_cases K:j=k
    ·subst K;exact z
    ·rw[getD_set_ne true K] at hun;exact hun
   ·refine CT D r (fun cs b=>x i oi cs b D) H (fun v w' k=>?_)
    rw[aa A]
    obtain⟨Y,m,Z⟩:=kC g s (k.2 j p)
    rw[aa G] at Z
    have m:=(sn (u:=v) r J).1 m
    have U:=zE hC m t I
    subst U
    rw[Act.put_comm a v Y p2] at Z
    rw[Array.setIfInBounds_comm _ _ f]
    exact Z
def gZ(md:Region.Mode)(ops:Array Oper)(i:Nat):Nat→List Nat
 | 0=>[]
 | n+1=>if n=i then n::gZ md ops i n else
  match ops[n]? with
  | some o=>if o.after.any (fun e=>Region.binds md e&&(gZ md ops i n).contains e.on) then n::gZ md ops i n else gZ md ops i n
  | none=>gZ md ops i n
theorem sd{i n j:Nat}(h:j∈gZ md ops i n):j∈gZ md ops i (n+1):=by
 unfold gZ
 split
 ·exact aE _ h
 ·split
  ·split
   ·exact aE _ h
   ·exact h
  ·exact h
theorem nj{i:Nat}:∀n j,j∈gZ md ops i n→i≤j∧j<n
 | 0,j,h=>by simp[gZ] at h
 | n+1,j,h=>by
  unfold gZ at h
  split at h
  ·rename_i e
   rcases aY.1 h with h|h
   ·omega
   ·have:=nj n j h;omega
  ·split at h
   ·split at h
    ·rename_i o ho hany
     rcases aY.1 h with h|h
     ·subst h
      obtain⟨e,b,a⟩:=ic.1 hany
      simp only[aI,dJ] at a
      have:=nj j e.on a.2
      omega
     ·have:=nj n j h;omega
    ·have:=nj n j h;omega
   ·have:=nj n j h;omega
theorem qn{i:Nat}:∀n j,j∈gZ md ops i n→j≠i→∃o e,ops[j]?=some o∧e∈o.after∧Region.binds md e=true∧e.on∈gZ md ops i n
 | 0,j,h,_=>by simp[gZ] at h
 | n+1,j,h,hne=>by
  have a:(j∈gZ md ops i n)→∃o e,ops[j]?=some o∧e∈o.after∧Region.binds md e=true∧e.on∈gZ md ops i (n+1):=fun h=>by
   obtain⟨o,e,c,d,f,g⟩:=qn n j h hne
   exact⟨o,e,c,d,f,sd g⟩
  have l:=h
  unfold gZ at h
  split at h
  ·rename_i e
   rcases aY.1 h with h|h
   ·exact absurd (h.trans e) hne
   ·exact a h
  ·split at h
   ·split at h
    ·rename_i o ho hany
     rcases aY.1 h with h|h
     ·subst h
      obtain⟨e,k,b⟩:=ic.1 hany
      simp only[aI,dJ] at b
      exact⟨o,e,ho,k,b.1,sd b.2⟩
     ·exact a h
    ·exact a h
   ·exact a h
theorem Do{i n:Nat}(h:i<n):i∈gZ md ops i n:=by
 induction n with
 | zero=>omega
 | succ n ih=>
  by_cases e:n=i
  ·subst e;unfold gZ;simp
  ·exact sd (ih (by omega))
def qV(md:Region.Mode)(ops:Array Oper)(E:List Nat)(N:Nat):Bool:=
 E.all (fun i=>decide (i<ops.size)&&E.all fun j=>decide (j≤i)||(gZ md ops i ops.size).contains j) &&
 ((List.range ops.size).all fun j=>E.contains j||((ops[j]?).map fun o=>!jS o).getD true) &&
 (decide (ops.size≤N)||(decide (N+1=ops.size)&&E.contains N&&(List.range ops.size).all fun j=>(gZ md ops j ops.size).contains N))
def wm(md:Region.Mode)(ops:Array Oper)(E:List Nat):Bool:=
 E.all fun i=>match ops[i]? with
  | none=>false
  | some oi=>(List.range ops.size).all fun j=>decide (j≤i)||(gZ md ops i ops.size).contains j||((ops[j]?).map fun oj=>oi.apart ops oj).getD true
theorem rK{Q:Act→World→Prop}(J:Region.noSelect ops=true)(K:qV md ops E N=true)(L:wm md ops E=true) :
  ∀(l:List Oper) (k:Nat) (listed:Array Bool) (a:Act) (w:World),C w→(∀j,l[j]?=ops[k+j]?)→k+l.length=ops.size →
  (∀j,k≤j→j<ops.size→listed.getD j true=false)→(∀j,j<k→listed.getD j true=true) →
  Region.lexFrom md ops l.length k listed=true→fC P ops C E N Q k l a w→kX P md ops C E N Q l.length listed a w
 | [],_,_,_,_,_,_,_,_,_,hB,h=>⟨by simpa [Region.lexFrom] using hB,h⟩
 | o::l,k,listed,a,w,hC,hl,hlen,hun,hdone,hB,h=>by
  have i:ops[k]?=some o:=by simpa using (hl 0).symm
  have u:k<ops.size:=by simp at hlen;omega
  simp only[an,Region.lexFrom,aI] at hB
  obtain⟨⟨R,S⟩,r⟩:=hB
  have m:=Region.noSelect_spec J
  have x:k∈Region.ready md ops listed:=by simpa using R
  have y:=K
  simp only[qV,aI,bJ,cd,bh,dS] at K
  obtain⟨⟨M,O⟩,s⟩:=K
  have z:∀j oj,ops[j]?=some oj→E.contains j=false→jS oj=false:=fun j oj hoj hE=>by
   have t:j<ops.size:=(bq.1 hoj).1
   rcases O j t with h|h
   ·rw[hE] at h;cases h
   ·simpa [hoj] using h
  have A:ops[N]?=none∨N∈gZ md ops k ops.size:=by
   rcases s with h|⟨_,h⟩
   ·exact .inl (dx h)
   ·exact .inr (by simpa using h k u)
  have B:∀j,l[j]?=ops[(k+1)+j]?:=fun j=>by have:=hl (j+1);simpa [Nat.add_assoc,fL 1 j] using this
  have n:∀j,k+1≤j→j<ops.size→(listed.setIfInBounds k true).getD j true=false:=fun j h1 h2=>by
   rw[getD_set_ne true (by omega)];exact hun j (by omega) h2
  have b:∀j,j<k+1→(listed.setIfInBounds k true).getD j true=true:=fun j h1=>by
   by_cases e:k=j
   ·subst e
    by_cases D:k<listed.size
    ·simp[D]
    ·simp[Nat.not_lt.1 D]
   ·rw[getD_set_ne true e];exact hdone j (by omega)
  have p:gP P ops C E N k (fC P ops C E N Q (k+1) l) a w:=by unfold gP;simp only[i];exact h
  have q:∀j,j∈gZ md ops k ops.size→listed.getD j true=false:=fun j hj=>by
   have:=nj _ j hj
   exact hun j this.1 this.2
  cases hE:E.contains k with
  | false=>
   obtain⟨v,T,hK⟩:=kC i hE p
   have d:k≠N:=fun e=>by
    rcases s with h|⟨⟨_,h⟩,_⟩
    ·omega
    ·rw[←e,hE] at h;cases h
   exact l8 i hE (z k o i hE) d (fun j=>j∈gZ md ops k ops.size) (fun j hj g=>qn _ j hj g) A m l.length listed a w hC q (Region.free_spec i S) x T
    (rK J y L l (k+1) _ _ w hC B (by simp at hlen;omega) n b r hK)
  | true=>
   have F:k∈E:=by simpa using hE
   have G:=M k F
   have H:=(bJ.1 L) k F
   simp only[i,bJ,dS,cd,bh,dJ] at H
   refine wD i (fun j=>j∈gZ md ops k ops.size) (fun j hj g=>qn _ j hj g) A
    (fun j oj hoj _ hEj=>z j oj hoj hEj) m w hC l.length listed a q (fun j oj hoj hnW hunj=>?_) x ?_
   ·have t:j<ops.size:=(bq.1 hoj).1
    have U:k≤j:=by
     rcases dm j k with h'|h'
     ·rw[hdone j h'] at hunj;cases hunj
     ·exact h'
    have g:j≠k:=fun e=>hnW (by rw[e];exact Do u)
    refine⟨?_,?_⟩
    ·rcases H j t with(h'|h')|h'
     ·omega
     ·exact absurd h' hnW
     ·simpa [hoj] using h'
    ·cases hEj:E.contains j with
     | false=>rfl
     | true=>
      have:=G
      simp only[bh,dJ,aI,bJ,cd] at this
      rcases this.2 j (by simpa using hEj) with h'|h'
      ·omega
      ·exact absurd h' hnW
   ·
    have f:∀a' w',(k≠N→C w')→fC P ops C E N Q (k+1) l a' w' →
      (if k=N then Region.ready md ops (listed.setIfInBounds k true)=[]∧Q a' w' else kX P md ops C E N Q l.length (listed.setIfInBounds k true) a' w'):=fun a' w' c hK=>by
     by_cases d:k=N
     ·rw[ab d]
      have I:l=[]:=by
       apply bM
       rcases s with h|⟨⟨h,_⟩,_⟩
       ·omega
       ·simp at hlen;omega
      subst I
      exact⟨by simpa [Region.lexFrom] using r,hK⟩
     ·rw[aa d]
      exact rK J y L l (k+1) _ _ w' (c d) B (by simp at hlen;omega) n b r hK
    unfold gP at p ⊢
    simp only[i] at p ⊢
    unfold iB at p ⊢
    split
    ·rename_i hw
     rw[ab hw,ab hE] at p
     exact iy (fun v w' ⟨c,hK⟩=>⟨c,f _ w' c hK⟩) p
    ·rename_i hw
     rw[aa hw] at p
     exact f _ w (fun _=>hC) p
theorem As{Q:Exit→Act→World→Prop} {a:Act}{w:World} (g:C w)(h:∀a w,(i≠N→C w)→K a w→K' a w)(b:gP P ops C E N i K a w):wpOp P ops Q i K' a w:=by
 unfold gP at b
 unfold wpOp
 split
 ·rename_i e;simp only[e] at b;exact h _ _ (fun _=>g) b
 ·rename_i o e
  simp only[e] at b
  unfold iB at b
  split
  ·rename_i hw
   rw[ab hw] at b
   refine .inl ?_
   split at b
   ·exact kk (fun v w' ⟨c,k⟩=>h _ _ c k) b
   ·obtain⟨m,v,hq,k⟩:=b
    have d:=hq w g
    have n:=fun f args w'=>lY (P:=P) m (ρ:=a.eval) (w:=w) (w':=w') (f:=f) (args:=args)
    unfold Oper.quietAt at d
    unfold Oper.wp
    generalize (execOp a.eval o).run P w=r at *
    unfold Oper.quietUpon at d
    split at d
    ·obtain⟨j,l⟩:=d;subst j;subst l;exact h _ _ (fun _=>g) k
    ·obtain⟨j,l⟩:=d;subst j;subst l;exact h _ _ (fun _=>g) k
    ·exact absurd rfl (n _ _ _)
    ·exact d.elim
  ·rename_i hw
   rw[aa hw] at b
   exact h _ _ (fun _=>g) b
theorem Bl{c:Exit→Act→World→Prop}{b:Array Bool}{a:Act}{w:World}(d:Region.ready md ops b=[])(e:c .normal a w):∀fuel,wpAny P md ops c fuel b a w
 | 0=>⟨d,e⟩
 | _+1=>⟨fun _=>e,fun i hi=>by rw[d] at hi;cases hi⟩
theorem lW{c:Exit→Act→World→Prop}:∀(fuel:Nat) (listed:Array Bool) (a:Act) (w:World),C w →
  kX P md ops C E N (fun a w=>c .normal a w) fuel listed a w→wpAny P md ops c fuel listed a w
 | 0,_,_,_,_,h=>h
 | fuel+1,_,_,_,hw,h=>⟨h.1,fun i hi=>As hw (fun a' w' hC' k=>by
  by_cases b:i=N
  ·rw[ab b] at k
   exact Bl k.1 k.2 fuel
  ·rw[aa b] at k
   exact lW fuel _ a' w' (hC' b) k) (h.2 i hi)⟩
theorem nE{Q:Exit→Act→World→Prop}:∀(k:Nat) (l:List Oper) (a:Act) (w:World),C w→k+l.length≤N+1 →
  fC P ops C E N (fun a w=>Q .normal a w) k l a w→wpList P ops Q l a w
 | _,[],_,_,_,_,h=>h
 | k,o::rest,a,w,hC,hN,h=>by
  simp only[an] at hN
  have on:∀a' w',(k≠N→C w')→fC P ops C E N (fun a w=>Q .normal a w) (k+1) rest a' w'→wpList P ops Q rest a' w':=fun a' w' c h'=>by
   by_cases e:k=N
   ·have d:rest=[]:=bM (by omega)
    subst d
    exact h'
   ·exact nE (k+1) rest a' w' (c e) (by omega) h'
  unfold fC iB at h
  unfold wpList
  split
  ·rename_i hw
   rw[ab hw] at h
   refine .inl ?_
   split at h
   ·exact kk (fun v w' ⟨c,k⟩=>on _ w' c k) h
   ·obtain⟨m,v,hq,n⟩:=h
    have b:=hq w hC
    have p:=fun f args w'=>lY (P:=P) m (ρ:=a.eval) (w:=w) (w':=w') (f:=f) (args:=args)
    have j:=on _ w (fun _=>hC) n
    unfold Oper.quietAt at b
    unfold Oper.wp
    generalize (execOp a.eval o).run P w=r at *
    unfold Oper.quietUpon at b
    split at b
    ·obtain⟨g,i⟩:=b;subst g;subst i;exact j
    ·obtain⟨g,i⟩:=b;subst g;subst i;exact j
    ·exact absurd rfl (p _ _ _)
    ·exact b.elim
  ·rename_i hw
   rw[aa hw] at h
   exact on _ w (fun _=>hC) h
theorem aV  {Q:Exit→Act→World→Prop} {a:Act} {w:World} {l:List Oper} (E:List Nat) (N:Nat) (C:World→Prop) (d:P.follows .mixedOrders=true)
  (b:(Region.lexB .any l.toArray&&qV .any l.toArray E N&&wm .any l.toArray E)=true) (c:C w.drew)
  (h:fC P l.toArray C E N (fun a' w'=>Q .normal a' w') 0 l a w.drew):(Code.region id l.toArray true).wp P Q a w:=by
 simp only[aI] at b
 obtain⟨⟨b,e⟩,f⟩:=b
 simp only[Region.lexB,aI] at b
 refine wp_region_any d (lW (C:=C) (E:=E) (N:=N) _ _ _ _ c ?_)
 have:=rK (C:=C) (E:=E) (N:=N) (md:=.any) b.1 e f l 0 (Array.replicate l.toArray.size false) a w.drew c (by simp) (by simp) (fun j _ hj=>by simp at hj;simp[hj]) (fun j hj=>by omega) (by simpa using b.2) h
 simpa using this
theorem cj  {Q:Exit→Act→World→Prop} {a:Act} {w:World} {l:List Oper} (E:List Nat) (C:World→Prop) (b:C w)
  (h:fC P l.toArray C E (l.length-1) (fun a' w'=>Q .normal a' w') 0 l a w):(Code.region id l.toArray false).wp P Q a w:=
 wp_region_lit (nE 0 l a w b (by omega) h)
end
section
variable {P:Program} {ops:Array Oper} {C:World→Prop} {E:List Nat} {N:Nat}
variable {Q:Act→World→Prop} {k:Nat} {o:Oper} {l:List Oper} {a:Act} {w:World}
theorem ar(h:Q a w):fC P ops C E N Q k [] a w:=h
theorem sC(b:Region.wanted o (yielded ops a.tmps)=false)(h:fC P ops C E N Q (k+1) l (a.put o.dst undef) w):fC P ops C E N Q k (o::l) a w:=by
 unfold fC iB
 rw[aa (by rw[b];exact dI)]
 exact h
theorem wC (b:Region.wanted o (yielded ops a.tmps)=true) (c:E.contains k=false) (d:jS o=false)
  (h:∀K:Act→Prop,(∀a',fC P ops C E N Q (k+1) l a' w→K a')→o.quiet P a C K):fC P ops C E N Q k (o::l) a w:=by
 unfold fC iB
 rw[ab b,aa (by rw[c];exact dI)]
 exact⟨d,h _ fun _ h=>h⟩
theorem yj (b:Region.wanted o (yielded ops a.tmps)=true) (c:E.contains k=true)
  (h:∀K:Value→World→Prop,(∀v w',(k≠N→C w')→fC P ops C E N Q (k+1) l (a.put o.dst v) w'→K v w')→cT P o a w K):fC P ops C E N Q k (o::l) a w:=by
 unfold fC iB
 rw[ab b,ab c]
 exact h _ fun _ _ h1 h2=>⟨h1,h2⟩
theorem jQ(b:o.guard=none):Region.wanted o (yielded ops a.tmps)=true:=by simp[Region.wanted,b]
theorem lT {v:Value}(d:(ops[j]?).bind (·.dst)=some dj)(c:a.tmps.toList[dj]?=some v):yielded ops a.tmps j=(match v with|.bool b=>some b|_=>none):=by
 rw[Array.getElem?_toList] at c
 unfold yielded
 simp only[d,c,Option.bind_some]
 cases v<;>rfl
theorem dO (b:o.guard=none) (c:E.contains k=false) (d:jS o=false)
 (h:∀K:Act→Prop,(∀a',fC P ops C E N Q (k+1) l a' w→K a')→o.quiet P a C K):fC P ops C E N Q k (o::l) a w:=wC (jQ b) c d h
theorem dP   {v:Value} (b:o.guard=some (j,want)) (c:(ops[j]?).bind (·.dst)=some dj) (d:a.tmps.toList[dj]?=some v) (e:v=.bool want)
  (f:E.contains k=false) (g:jS o=false) (h:∀K:Act→Prop,(∀a',fC P ops C E N Q (k+1) l a' w→K a')→o.quiet P a C K):fC P ops C E N Q k (o::l) a w:=
 wC (by subst e;simp[Region.wanted,b,lT c d]) f g h
theorem cH (b:o.guard=none) (c:E.contains k=true)
 (h:∀K:Value→World→Prop,(∀v w',(k≠N→C w')→fC P ops C E N Q (k+1) l (a.put o.dst v) w'→K v w')→cT P o a w K):fC P ops C E N Q k (o::l) a w:=yj (jQ b) c h
theorem lI   {v:Value} (b:o.guard=some (j,want)) (c:(ops[j]?).bind (·.dst)=some dj) (d:a.tmps.toList[dj]?=some v) (e:v=.bool want)
  (f:E.contains k=true) (h:∀K:Value→World→Prop,(∀v w',(k≠N→C w')→fC P ops C E N Q (k+1) l (a.put o.dst v) w'→K v w')→cT P o a w K):fC P ops C E N Q k (o::l) a w:=
 yj (by subst e;simp[Region.wanted,b,lT c d]) f h
theorem el  {v:Value} (b:o.guard=some (j,true)) (c:(ops[j]?).bind (·.dst)=some dj) (d:a.tmps.toList[dj]?=some v) (e:v=.bool false)
  (h:fC P ops C E N Q (k+1) l (a.put o.dst undef) w):fC P ops C E N Q k (o::l) a w:=
 sC (by subst e;simp[Region.wanted,b,lT c d]) h
theorem eh  {v:Value} (b:o.guard=some (j,false)) (c:(ops[j]?).bind (·.dst)=some dj) (d:a.tmps.toList[dj]?=some v) (e:v=.bool true)
  (h:fC P ops C E N Q (k+1) l (a.put o.dst undef) w):fC P ops C E N Q k (o::l) a w:=
 sC (by subst e;simp[Region.wanted,b,lT c d]) h
theorem eo   {v:Value} (b:o.guard=some (j,want)) (c:(ops[j]?).bind (·.dst)=some dj) (d:a.tmps.toList[dj]?=some v) (e:v=undef)
  (h:fC P ops C E N Q (k+1) l (a.put o.dst undef) w):fC P ops C E N Q k (o::l) a w:=
 sC (by subst e;simp[Region.wanted,b,lT c d,undef]) h
theorem eK  {b:Bool} (d:E.contains k=false) (e:o.guard=some (j,want)) (f:(ops[j]?).bind (·.dst)=some dj) (c:a.tmps.toList[dj]?=some (.bool b))
  (g:b=true→fC P ops C E N Q k (o::l) (a.put (some dj) (.bool true)) w)
  (h:b=false→fC P ops C E N Q k (o::l) (a.put (some dj) (.bool false)) w):fC P ops C E N Q k (o::l) a w:=by
 rw[Array.getElem?_toList] at c
 cases b with
 | true=>have:=g rfl;rwa [Gk c] at this
 | false=>have:=h rfl;rwa [Gk c] at this
theorem aZ {Q:Exit→Act→World→Prop} {l:List Oper} (b:(l.any fun o=>o.guard.isSome)=true)
  (h:fC P ops (fun w'=>w'=w) [] l.length (fun a' w'=>Q .normal a' w') 0 l a w):wpList P ops Q l a w:=
 nE (C:=fun w'=>w'=w) 0 l a w rfl (by omega) h
theorem bV  {Q:Exit→Act→World→Prop} {l:List Oper} (b:P.follows .mixedOrders=true)
  (c:(Region.lexB .any l.toArray&&qV .any l.toArray [] l.length&&wm .any l.toArray [])=true)
  (h:fC P l.toArray (fun w'=>w'=w.drew) [] l.length (fun a' w'=>Q .normal a' w') 0 l a w.drew):(Code.region id l.toArray true).wp P Q a w:=
 aV [] l.length (fun w'=>w'=w.drew) b c rfl h
end
attribute [go_sem] cT fe
attribute [irreducible] fC iB
structure pd (P:Prop):Prop where
 o:P
theorem cS{P Q:Prop}(k:Q)(h:pd Q→P:=by intro k;go_wp2_with (first|((first|refine aZ rfl ?_|refine bV (by kernel_rfl) (by kernel_rfl) ?_);(repeat' (first|(refine dO rfl rfl rfl ?_;intro K hK;go_big_quiet_op;go_big_quiet_on)|(refine dP rfl rfl rfl (by with_reducible rfl) rfl rfl ?_;intro K hK;go_big_quiet_op;go_big_quiet_on)|((first|refine el rfl rfl rfl (by with_reducible rfl) ?_|refine eh rfl rfl rfl (by with_reducible rfl) ?_|refine eo rfl rfl rfl (by with_reducible rfl) ?_);simp only[Act.put,gL,gK,gJ])|(refine eK rfl rfl rfl rfl (fun hq=>?_) (fun hq=>?_)<;>(fail_if_success (guard_hyp hq :ₛ true=true))<;>(fail_if_success (guard_hyp hq :ₛ false=false))<;>first|(exfalso;cases hq;done)|(exfalso;simp only[mu,mh,mj,mm,ne_eq,da,cZ] at hq;omega)|simp only[Act.put,gL,gK,gJ])));all_goals (refine ar ?_)));exact k.o):P:=h ⟨k⟩
theorem bK{P Q:Prop}(k:Q)(h:pd Q→P:=by intro k;(repeat' (first|(refine dO rfl rfl rfl ?_;intro K hK;go_big_quiet_op;go_big_quiet_on)|(refine dP rfl rfl rfl (by with_reducible rfl) rfl rfl ?_;intro K hK;go_big_quiet_op;go_big_quiet_on)|((first|refine el rfl rfl rfl (by with_reducible rfl) ?_|refine eh rfl rfl rfl (by with_reducible rfl) ?_|refine eo rfl rfl rfl (by with_reducible rfl) ?_);simp only[Act.put,gL,gK,gJ])|(refine eK rfl rfl rfl rfl (fun hq=>?_) (fun hq=>?_)<;>(fail_if_success (guard_hyp hq :ₛ true=true))<;>(fail_if_success (guard_hyp hq :ₛ false=false))<;>first|(exfalso;cases hq;done)|(exfalso;simp only[mu,mh,mj,mm,ne_eq,da,cZ] at hq;omega)|simp only[Act.put,gL,gK,gJ])));exact k.o):P:=h ⟨k⟩
theorem dH{P Q:Prop}(k:Q)(h:pd Q→P:=by intro k;(repeat' (refine dO rfl rfl rfl ?_;intro K hK;go_big_quiet_op;go_big_quiet_on));exact k.o):P:=h ⟨k⟩
theorem NV{P Q:Prop}(k:Q)(h:pd Q→P:=by intro k;(repeat' (first|(refine dO rfl rfl rfl ?_;intro K hK;go_big_quiet_op;go_big_quiet_on)|(refine dP rfl rfl rfl (by with_reducible rfl) rfl rfl ?_;intro K hK;go_big_quiet_op;go_big_quiet_on)|((first|refine el rfl rfl rfl (by with_reducible rfl) ?_|refine eh rfl rfl rfl (by with_reducible rfl) ?_|refine eo rfl rfl rfl (by with_reducible rfl) ?_);simp only[Act.put,gL,gK,gJ])));exact k.o):P:=h ⟨k⟩
theorem bj{P Q:Prop}(k:Q)(h:pd Q→P:=by intro k;simp only[Act.put,gL,gK,gJ];exact k.o):P:=h ⟨k⟩
theorem dN{P Q:Prop}(k:Q)(h:pd Q→P:=by intro k;(first|refine aZ rfl ?_|refine bV (by kernel_rfl) (by kernel_rfl) ?_);(repeat' (first|(refine dO rfl rfl rfl ?_;intro K hK;go_big_quiet_op;go_big_quiet_on)|(refine dP rfl rfl rfl (by with_reducible rfl) rfl rfl ?_;intro K hK;go_big_quiet_op;go_big_quiet_on)|((first|refine el rfl rfl rfl (by with_reducible rfl) ?_|refine eh rfl rfl rfl (by with_reducible rfl) ?_|refine eo rfl rfl rfl (by with_reducible rfl) ?_);simp only[Act.put,gL,gK,gJ])|(refine eK rfl rfl rfl rfl (fun hq=>?_) (fun hq=>?_)<;>(fail_if_success (guard_hyp hq :ₛ true=true))<;>(fail_if_success (guard_hyp hq :ₛ false=false))<;>first|(exfalso;cases hq;done)|(exfalso;simp only[mu,mh,mj,mm,ne_eq,da,cZ] at hq;omega)|simp only[Act.put,gL,gK,gJ])));all_goals (refine ar ?_);exact k.o):P:=h ⟨k⟩
theorem lM{P Q R:Prop}(k:Q)(l:R)(h:pd Q→pd R→P:=by intro k l;(first|refine aZ rfl ?_|refine bV (by kernel_rfl) (by kernel_rfl) ?_);(repeat' (first|(refine dO rfl rfl rfl ?_;intro K hK;go_big_quiet_op;go_big_quiet_on)|(refine dP rfl rfl rfl (by with_reducible rfl) rfl rfl ?_;intro K hK;go_big_quiet_op;go_big_quiet_on)|((first|refine el rfl rfl rfl (by with_reducible rfl) ?_|refine eh rfl rfl rfl (by with_reducible rfl) ?_|refine eo rfl rfl rfl (by with_reducible rfl) ?_);simp only[Act.put,gL,gK,gJ])|(refine eK rfl rfl rfl rfl (fun hq=>?_) (fun hq=>?_)<;>(fail_if_success (guard_hyp hq :ₛ true=true))<;>(fail_if_success (guard_hyp hq :ₛ false=false))<;>first|(exfalso;cases hq;done)|(exfalso;simp only[mu,mh,mj,mm,ne_eq,da,cZ] at hq;omega)|simp only[Act.put,gL,gK,gJ])));all_goals (refine ar ?_);focus (revert hq;exact k.o);revert hq;exact l.o):P:=h ⟨k⟩ ⟨l⟩
theorem mx_l2{P Q R:Prop}(k:Q)(l:R)(h:pd Q→pd R→P:=by intro k l;(repeat' (first|(refine dO rfl rfl rfl ?_;intro K hK;go_big_quiet_op;go_big_quiet_on)|(refine dP rfl rfl rfl (by with_reducible rfl) rfl rfl ?_;intro K hK;go_big_quiet_op;go_big_quiet_on)|((first|refine el rfl rfl rfl (by with_reducible rfl) ?_|refine eh rfl rfl rfl (by with_reducible rfl) ?_|refine eo rfl rfl rfl (by with_reducible rfl) ?_);simp only[Act.put,gL,gK,gJ])|(refine eK rfl rfl rfl rfl (fun hq=>?_) (fun hq=>?_)<;>(fail_if_success (guard_hyp hq :ₛ true=true))<;>(fail_if_success (guard_hyp hq :ₛ false=false))<;>first|(exfalso;cases hq;done)|(exfalso;simp only[mu,mh,mj,mm,ne_eq,da,cZ] at hq;omega)|simp only[Act.put,gL,gK,gJ])));focus (revert hq;exact k.o);revert hq;exact l.o):P:=h ⟨k⟩ ⟨l⟩
theorem lL   {w:World}(x:X w No){v:Value}{R:Ending→World→Prop}(h:Calls pr f av x.v fun e u=>e=.returned v∧bf x.v u)(k:∀y:X w No,Hd (bf x.v y.v)→R (.returned v) y.v):Calls pr f av x.v R:=h.mono fun _ u ⟨h1,h2⟩=>by subst h1;exact k ⟨u,x.h.ae h2⟩ (aj h2)
theorem kF   {w:World}(x:X w No){v:Value} {K L:Value→World→Prop}(h:Calls pr f av x.v fun e u=>e=.returned v∧bf x.v u)(hK:∀v u,(p→Cl w No u)→L v u→K v u)(k:∀y:X w No,Hd (bf x.v y.v)→L v y.v):Calls pr f av x.v fun e u=>∃v,e=.returned v∧K v u:=lL x h fun y hy=>⟨_,rfl,hK _ _ (fun _=>⟨y,rfl⟩) (k y hy)⟩
theorem bQ{P Q:Prop}(k:Q)(h:pd Q→P:=by intro k;((first|refine cH rfl rfl ?_|refine lI rfl rfl rfl (by with_reducible rfl) rfl ?_);intro K hK;go_simp);revert K;exact k.o):P:=h ⟨k⟩
theorem fZ{P Q:Prop}(k:Q)(h:pd Q→P:=by intro k;(first|(refine dO rfl rfl rfl ?_;intro K hK;go_big_quiet_op;go_big_quiet_on)|(refine dP rfl rfl rfl (by with_reducible rfl) rfl rfl ?_;intro K hK;go_big_quiet_op;go_big_quiet_on)|((first|refine el rfl rfl rfl (by with_reducible rfl) ?_|refine eh rfl rfl rfl (by with_reducible rfl) ?_|refine eo rfl rfl rfl (by with_reducible rfl) ?_);simp only[Act.put,gL,gK,gJ]));exact k.o):P:=h ⟨k⟩
theorem gd{P Q:Prop}(k:Q)(h:pd Q→P:=by intro k;(refine eK rfl rfl rfl rfl (fun hq=>?_) (fun hq=>?_)<;>(fail_if_success (guard_hyp hq :ₛ true=true))<;>(fail_if_success (guard_hyp hq :ₛ false=false))<;>first|(exfalso;cases hq;done)|(exfalso;simp only[mu,mh,mj,mm,ne_eq,da,cZ] at hq;omega)|simp only[Act.put,gL,gK,gJ]);revert hq;exact k.o;done):P:=h ⟨k⟩
theorem gg{P Q R:Prop}(k:Q)(l:R)(h:pd Q→pd R→P:=by intro k l;(refine eK rfl rfl rfl rfl (fun hq=>?_) (fun hq=>?_)<;>(fail_if_success (guard_hyp hq :ₛ true=true))<;>(fail_if_success (guard_hyp hq :ₛ false=false))<;>first|(exfalso;cases hq;done)|(exfalso;simp only[mu,mh,mj,mm,ne_eq,da,cZ] at hq;omega)|simp only[Act.put,gL,gK,gJ]);focus (revert hq;exact k.o);revert hq;exact l.o):P:=h ⟨k⟩ ⟨l⟩
theorem si{P:Prop}(h:P:=by exfalso;simp only[bh,aA,bY,bl,ne_eq,da,cZ,fT,gy,cd,dM,aI,eD,fS,eF,eS] at *;omega):P:=h
structure kJ (α:Type) where
 size:Nat
 enc:α→List Value
 len:∀x,(enc x).length=size
abbrev bm:=aK×aK
def cI:kJ aK:=⟨1,fun s=>[S s],fun _=>rfl⟩
def br:kJ bm:=⟨2,fun f=>[S f.1,S f.2],fun _=>rfl⟩
def di{α:Type}(T:kJ α)(w:World)(A:Option Addr)(n:Nat)(xs:List α):Prop:=
 xs.length=n∧(0<n→∃b o,A=some ⟨b,o,none⟩∧b<w.heap.size∧∀k x,xs[k]?=some x→∀j u,(T.enc x)[j]?=some u→w.cell? ⟨b,o+k*T.size+j,none⟩=some u)
section
variable {α:Type} {T:kJ α} {w v:World} {A:Option Addr} {n:Nat} {xs:List α}
theorem di.get(h:di T w A n xs){k:Nat}(c:k<n):∃b o x,A=some ⟨b,o,none⟩∧b<w.heap.size∧xs[k]?=some x ∧
  ∀j u,(T.enc x)[j]?=some u→w.cell? ⟨b,o+k*T.size+j,none⟩=some u:=by
 obtain⟨b,o,e,d,f⟩:=h.2 (by omega)
 have a:k<xs.length:=by rw[h.1];exact c
 exact⟨b,o,xs[k],e,d,aF a,f k _ (aF a)⟩
theorem di.none_:di T w none 0 []:=⟨rfl,fun h=>absurd h (by omega)⟩
theorem di.Sq(h:di T w A 0 xs):xs=[]:=bM h.1
theorem di.aP(h:di T w A n xs)(f:w.heap.size≤v.heap.size)(a:∀p:Addr,p.block<w.heap.size→v.cell? p=w.cell? p):di T v A n xs:=
 ⟨h.1,fun hn=>by
  obtain⟨b,o,e,c,d⟩:=h.2 hn
  exact⟨b,o,e,by omega,fun k x hx j u hu=>(a _ c).trans (d k x hx j u hu)⟩⟩
theorem di.ext(h:di T w A n xs)(a:bf w v):di T v A n xs:=h.aP a.size fun _ hp=>a.cell hp id
end
theorem jI{w:World}{A:Option Addr}{n:Nat}{xs:List bm}(h:di br w A n xs){k:Nat}(d:k<n) :
  ∃b o f,A=some ⟨b,o,none⟩∧xs[k]?=some f∧(∀ξ:X w No,ξ.v.cell? ⟨b,o+k*2,none⟩=some (S f.1))∧(∀ξ:X w No,ξ.v.cell? ⟨b,o+k*2+1,none⟩=some (S f.2)):=by
 obtain⟨b,o,x,e,a,g,c⟩:=h.get d
 exact⟨b,o,x,e,g,fun ξ=>(ξ.h.cell a id).trans (c 0 _ rfl),fun ξ=>(ξ.h.cell a id).trans (c 1 _ rfl)⟩
theorem dq{w:World}{A:Option Addr}{n:Nat}{xs:List aK}(h:di cI w A n xs){k:Nat}(a:k<n) :
  ∃b o s,A=some ⟨b,o,none⟩∧xs[k]?=some s∧(∀ξ:X w No,ξ.v.cell? ⟨b,o+k,none⟩=some (S s)):=by
 obtain⟨b,o,x,e,c,d,f⟩:=h.get a
 exact⟨b,o,x,e,d,fun ξ=>(ξ.h.cell c id).trans (by simpa [cI] using f 0 _ rfl)⟩
theorem qR{α:Type}{xs ys:List α}{k:Nat}{x y:α}(h:xs.take k=ys.take k)(a:xs[k]?=some x)(b:ys[k]?=some y)(e:x=y):xs.take (k+1)=ys.take (k+1):=by
 rw[aU,aU,h,a,b,e]
theorem GJ{α:Type}{xs ys:List α}{k:Nat}{x y:α}(b:xs[k]?=some x)(a:ys[k]?=some y)(e:x≠y):xs≠ys:=by
 intro h;subst h;rw[b] at a;exact e (bB a)
theorem rW{α:Type}{xs ys:List α}{k n:Nat}(h:xs.take k=ys.take k)(a:xs.length=n)(b:ys.length=n)(c:n≤k):xs=ys:=by
 rw[ay (by omega),ay (by omega)] at h;exact h
theorem fE{a b:Bool}(h:a=b):Ending.returned (.bool a)=.returned (.bool b):=by rw[h]
end Go.Proofs.YtpgmcijdcnnjpaaGreatDoor
