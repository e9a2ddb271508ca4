/- Lemmas for it. -/
import Derived.Test.YtpgmcijdcnnjpaaGreatDoorPk01
import Derived.Deep.AppendLies
import Derived.Lib.SmallJoins
import Derived.Lib.AppendIntMem
set_option linter.all false
set_option maxRecDepth 100000
namespace Go.Proofs.YtpgmcijdcnnjpaaGreatDoor
open Go Go.RowKit
variable {p:Tmp} {B b b0 c fuel i k m n size:Nat} {dT e sT ty:TypeId} {news xs:List Value} {A:Option Addr} {K:Value→World→Prop} {d s:Operand} {fs:Array Field} {v0:Value} {r:Reach} {W:World} {L:List (String×DataW Unit)} {ms:Array (String×TypeId)} {fn:Func} {R:Ending→World→Prop} {ad:Addr}
def Cs(w:World)(g:Nat)(t:TypeId)(cs:Array Value):Prop:=w.heap[g]?=some (.cells cs t (0,0))
section
variable {w v:World} {g:Nat} {t:TypeId} {cs:Array Value} {F:Nat→Prop}
theorem Cs.lt(h:Cs w g t cs):g<w.heap.size:=by
 rcases dm g w.heap.size with hlt|hge
 ·exact hlt
 ·unfold Cs at h;rw[dx hge] at h;cases h
theorem Cs.cell(h:Cs w g t cs)(i:Nat):w.cell? ⟨g,i,none⟩=cs[i]?:=cell_of_row w g i cs t (0,0) h
theorem Cs.frozen(h:Cs w g t cs)(i:Nat):w.frozen? ⟨g,i,none⟩=false:=by
 unfold Cs at h
 simp[World.frozen?,h]
theorem Cs.new(w:World)(t:TypeId)(cs:Array Value):Cs (w.alloc (.cells cs t)) w.heap.size t cs:=heap_alloc_new w _
theorem Cs.drew(h:Cs w g t cs):Cs w.drew g t cs:=h
theorem Cs.alloc(h:Cs w g t cs)(o:Obj):Cs (w.alloc o) g t cs:=(Below.heap_alloc w o g h.lt).trans h
theorem Cs.cM(h:Cs w g t cs)(i:Nat)(u:Value):Cs (w.setCell ⟨g,i,none⟩ u) g t (cs.setIfInBounds i u):=by
 unfold Cs at h ⊢
 simp[World.setCell,Array.getElem?_modify,h]
theorem Cs.far(h:Cs w g t cs){p:Addr}(a:g≠p.block)(u:Value):Cs (w.setCell p u) g t cs:=(Below.heap_setCell w p u g a).trans h
theorem Cs.aP(h:Cs w g t cs)(a:al F w v)(b:¬F g):Cs v g t cs:=(a.block g h.lt b).trans h
theorem Cs.oC{d:Nat}{e:TypeId}{b:Array Value}(h:Cs w g t cs)(a:Cs w d e b)(c:t≠e):g≠d:=by
 rintro rfl
 unfold Cs at h a
 rw[h] at a
 injection a with a
 injection a with _ ht
 exact c ht
end
theorem cl{w v:World}{F:Nat→Prop}   {x:Value} (h:w.ownsRow B e size x n xs)(b:al F w v)(c:∀g,x.ownBlock=some g→¬F g):v.ownsRow B e size x n xs:=by
 obtain⟨d,a⟩:=h
 refine⟨d,?_⟩
 rcases a with a|⟨g,cap,cur,hv,hg,hh,r⟩
 ·exact Or.inl a
 ·refine Or.inr ⟨g,cap,cur,hv,hg,?_,r⟩
  rw[b.block g (bq.1 hh).1 (c g (by rw[hv];rfl))]
  exact hh
theorem Cs.x{w:World}{g:Nat}{t:TypeId}{cs:Array Value}{F:Nat→Prop}(h:Cs w g t cs)(a:¬F g)(i:Nat):∀ξ:X w F,ξ.v.cell? ⟨g,i,none⟩=cs[i]?:=fun ξ=>(h.aP ξ.h a).cell i
theorem Cs.jk{w:World}  {a g n cap:Nat} (h:w.ownsRow B e a (.slice (some ⟨g,0,none⟩) n cap) n xs):∃cur,Cs w g e cur:=by
 rcases h.2 with⟨h2,_⟩|⟨g',cap',cur,hv,hb,hh,_⟩
 ·cases h2
 ·injection hv with hv1 hv2 hv3
  injection hv1 with hv1
  injection hv1 with hv1
  subst hv1
  exact⟨cur,hh⟩
theorem Rp{w:World}  {g n cap:Nat} (h:w.ownsRow B e 1 (.slice (some ⟨g,0,none⟩) n cap) n xs)(k:Nat)(c:k<n)(u:Value) :
  (w.setCell ⟨g,k,none⟩ u).ownsRow B e 1 (.slice (some ⟨g,0,none⟩) n cap) n (xs.set k u):=by
 obtain⟨b,a⟩:=h
 refine⟨by simpa using b,.inr ?_⟩
 rcases a with⟨a,_⟩|⟨g',cap',cur,hv,hb,hh,hn,hc,hs,ht⟩
 ·cases a
 ·injection hv with hv1 hv2 hv3
  injection hv1 with hv1
  injection hv1 with hv1
  subst hv1;subst hv3
  refine⟨g,cap,cur.setIfInBounds k u,rfl,hb,?_,hn,hc,by simpa using hs,?_⟩
  ·simp[World.setCell,Array.getElem?_modify,hh]
  ·rw[Array.toList_setIfInBounds,List.take_set,ht]
theorem nwC{w u:World} {t:TypeId}{cs:Array Value}(h:u=w.alloc (.cells cs t))(a:b=w.heap.size):Hd (Cs u b t cs):=by rw[h,a];exact Cs.new _ _ _
def Rd(w:World)(A:Option Addr)(n size:Nat)(cs:List Value):Prop:=
 cs.length=n*size∧(0<n→∃b o,A=some ⟨b,o,none⟩∧∀j u,cs[j]?=some u→w.cell? ⟨b,o+j,none⟩=some u)
theorem ke{α:Type}(T:kJ α)(a:0<T.size):∀(xs:List α) (i:Nat),(xs.flatMap T.enc)[i]?=(xs[i/T.size]?).bind fun x=>(T.enc x)[i%T.size]?
 | [],i=>by simp
 | x::xs,i=>by
  rw[bN]
  by_cases h:i<T.size
  ·rw[bG (by rw[T.len];exact h),Nat.div_eq_of_lt h,kp h];rfl
  ·have b:T.size≤i:=by omega
   rw[dG (by rw[T.len];exact b),T.len,ke T a xs (i-T.size)]
   have c:i/T.size=(i-T.size)/T.size+1:=by
    rw[Nat.div_eq i,ab ⟨a,b⟩]
   have d:i%T.size=(i-T.size)%T.size:=by rw[Nat.mod_eq_sub_mod b]
   rw[c,d,aQ]
theorem bC{α:Type}(T:kJ α)(xs:List α):(xs.flatMap T.enc).length=xs.length*T.size:=by
 induction xs with
 | nil=>simp
 | cons x xs ih=>rw[bN,af,T.len,ih,an,ey,fL]
theorem di.rd{α:Type}{T:kJ α}{w:World}  {xs:List α}(a:0<T.size)(h:di T w A n xs):Rd w A n T.size (xs.flatMap T.enc):=by
 refine⟨by rw[bC,h.1],fun hn=>?_⟩
 obtain⟨b,o,e,_,c⟩:=h.2 hn
 refine⟨b,o,e,fun j u hu=>?_⟩
 rw[ke T a] at hu
 cases hx:xs[j/T.size]? with
 | none=>rw[hx] at hu;cases hu
 | some x=>
  rw[hx] at hu
  have:=c _ x hx _ u hu
  rwa [Nat.add_assoc,Nat.mul_comm,Nat.div_add_mod] at this
theorem di.jk{α:Type}{T:kJ α}(a:0<T.size){w:World}   {xs:List α}(h:w.ownsRow B e T.size (.slice A n c) n (xs.flatMap T.enc)):di T w A n xs:=by
 have d:xs.length=n:=by
  have:=h.1
  rw[bC] at this
  exact Nat.eq_of_mul_eq_mul_right a this
 refine⟨d,fun hn=>?_⟩
 rcases h.2 with⟨hv,h0⟩|⟨g,cap,cur,hv,hb,hh,_,_,_,ht⟩
 ·omega
 ·injection hv with hv1 hv2 hv3
  subst hv1;subst hv3
  refine⟨g,0,rfl,(bq.1 hh).1,fun k x hx j u hu=>?_⟩
  have f:j<T.size:=by
   rw[←T.len x]
   exact(aw.1 hu).1
  have i:k<n:=by rw[←d];exact(aw.1 hx).1
  have b:k*T.size+j<n*T.size:=by
   have:(k+1)*T.size≤n*T.size:=fy _ i
   rw[ey] at this
   omega
  rw[bX,World.ownsRow.cellAt h _ b,ke T a]
  have l:(k*T.size+j)/T.size=k:=by
   rw[Nat.mul_comm,Nat.mul_add_div a,Nat.div_eq_of_lt f,fK]
  have m:(k*T.size+j)%T.size=j:=by
   rw[Nat.mul_comm,Nat.mul_add_mod,kp f]
  rw[l,m,hx]
  exact hu
theorem sW(w:World)(o:Obj)(p:Addr){u:Value}(h:w.cell? p=some u):(w.alloc o).cell? p=some u:=
 (World.cell?_alloc_lt w o p (World.block_lt_of_cell? w p h)).trans h
theorem Rd.alloc{w:World}{A:Option Addr}{n a:Nat}{cs:List Value}(h:Rd w A n a cs)(o:Obj):Rd (w.alloc o) A n a cs:=
 ⟨h.1,fun hn=>by
  obtain⟨b,c,e,d⟩:=h.2 hn
  exact⟨b,c,e,fun j u hu=>sW _ _ _ (d j u hu)⟩⟩
theorem tH(w:World)(e:TypeId)(a:Nat):(w.alloc (.cells #[] e)).ownsRow 0 e a (.slice (some ⟨w.heap.size,0,none⟩) 0 0) 0 []:=
 ⟨by simp,.inr ⟨w.heap.size,0,#[],rfl,au _,Cs.new w _ _,aq _,by simp[maxLen],by simp,by simp⟩⟩
section
variable {P:Program} (w:World)
theorem wj (base:Nat) (t ty e:TypeId) (i:TypeInfo) (a:Nat) (d:P.underlying t=some (.slice e)) (f:P.info? e=some i)
  (v:Value) (n:Nat) (xs:List Value) (b:w.ownsRow base e a v n xs) (c:Nat):(Builtin.append_ #[t,t] ty #[v,.slice none 0 c]).run P w=.ok v w:=by
 rcases b.2 with⟨rfl,rfl⟩|⟨g,cap,cur,rfl,_,_,hnc,_⟩
 ·simp[Builtin.append_,run_underlying d,sizeOf,typeInfo,f,Builtin.lenOf,Builtin.firstCells]
 ·simp[Builtin.append_,run_underlying d,sizeOf,typeInfo,f,Builtin.lenOf,Builtin.firstCells,hnc,storeCells]
structure tf (P:Program) (t e:TypeId) (size:Nat):Prop where
 under:P.underlying t=some (.slice e)
 info:∃i z,P.info? e=some i∧i.zero=some z∧i.size=size∧i.bytes≤256∧z.cells.size=size
 pos:0<size
theorem tf.mk' {P:Program} {t e:TypeId} {a:Nat} {z:Value} (b:P.underlying t=some (.slice e)) (c:(P.info? e).map (fun i=>(i.zero,i.size,i.bytes))=some (some z,size,a))
  (d:z.cells.size=size) (f:0<size) (g:a≤256):tf P t e size:=by
 obtain⟨i,h,j,k,l⟩:=info_parts c
 exact⟨b,⟨i,z,h,j,k,by rw[l];exact g,d⟩,f⟩
theorem zx {t ty e:TypeId}  (l:tf P t e size) {v:Value}   (a:w.ownsRow 0 e size v n xs)
   (g:Rd w A m size news) (B:∀u∈news,u.oneCell'=true) (s:A=none→c=c) (p:n+m≤100000000) :
  ∃f w',(Builtin.append_ #[t,t] ty #[v,.slice A m c]).run P w=.ok f w'∧w'.ownsRow 0 e size f (n+m) (xs++news)∧w.grownBy w' v.ownBlock ∧
   (f.ownBlock=v.ownBlock∨f.ownBlock=some w.heap.size):=by
 obtain⟨i,z,x,C,D,E,q⟩:=l.info
 rcases A with _|ad
 ·have F:m=0:=by
   rcases fY m with h0|h0
   ·exact h0
   ·obtain⟨_,_,h,_⟩:=g.2 h0
    cases h
  subst F
  have r:news=[]:=bM (by simpa using g.1)
  subst r
  exact⟨v,w,wj w 0 t ty e i size l.under x v n xs a c,by simpa using a,World.grownBy.refl w _,.inl rfl⟩
 ·have d:∀j u,news[j]?=some u→w.cell? (ad.add j)=some u:=by
   intro j u y
   rcases fY m with h0|h0
   ·subst h0
    have r:news=[]:=bM (by simpa using g.1)
    subst r
    simp at y
   ·obtain⟨b,o,h,G⟩:=g.2 h0
    injection h with h
    subst h
    have:=G j u y
    unfold Addr.add
    split
    ·rename_i e;subst e;simpa using this
    ·exact this
  obtain⟨f,w',k,H,I,_,J⟩:=run_append_own_at (P:=P) w 0 t ty e i z size i.bytes l.under x C D rfl q l.pos v n xs a ad m c news g.1 d B
   (by simp only[maxLen];omega) (by
    have:(n+m)*i.bytes≤100000000*256:=kb p E
    omega) (au _)
  exact⟨f,w',k,H,I,J⟩
end
theorem BS{w:World}   {v:Value} (h:w.ownsRow B e size v n xs):∃A c,v=.slice A n c:=by
 rcases h.2 with⟨rfl,rfl⟩|⟨g,cap,cur,rfl,_⟩
 ·exact⟨none,0,rfl⟩
 ·exact⟨_,_,rfl⟩
section
variable {P:Program} {w:World} {o:Oper} {a:Act}
theorem eO  {t e:TypeId}  (l:tf P t e size) {s x:Operand} (p:o.op=.call { callee:=.builtin .append,args:=#[s,x],argTypes:=#[t,t] })
  {v:Value}   (q:a.eval s=v)   (r:a.eval x=.slice A m c) (f:w.ownsRow 0 e size v n xs)  (y:Rd w A m size news)
  (z:∀u∈news,u.oneCell'=true) (i:n+m≤100000000)
  (h:∀b d w',w'.ownsRow 0 e size (.slice b (n+m:Nat) d) (n+m) (xs++news)→w.grownBy w' v.ownBlock→((Value.slice b (n+m:Nat) d).ownBlock=v.ownBlock∨(Value.slice b (n+m:Nat) d).ownBlock=some w.heap.size)→K (.slice b (n+m:Nat) d) w'):cT P o a w K:=by
 obtain⟨C,w',g,j,B,k⟩:=zx (P:=P) w (ty:=o.type) l f (c:=c) y z (fun _=>rfl) i
 unfold cT fe execOp
 simp only[p,resolve,invoke,builtin,Sem.run_bind,Sem.run_pure,Result.andThen_ok,fi,du,eG,q,r,g]
 obtain⟨b,d,e⟩:=BS j
 rw[e] at j k ⊢
 exact h b d w' j B k
theorem dy {ops:Array Oper} {rest:List Oper} {Q:Exit→Act→World→Prop} (d:o.guard=none) {t e:TypeId}  (g:tf P t e size) {s x:Operand} (i:o.op=.call { callee:=.builtin .append,args:=#[s,x],argTypes:=#[t,t] })
  {v:Value}   (j:a.eval s=v)   (k:a.eval x=.slice A m c) (b:w.ownsRow 0 e size v n xs)  (l:Rd w A m size news)
  (p:∀u∈news,u.oneCell'=true) (f:n+m≤100000000)
  (h:∀A' c' w',w'.ownsRow 0 e size (.slice A' (n+m:Nat) c') (n+m) (xs++news)→w.grownBy w' v.ownBlock→((Value.slice A' (n+m:Nat) c').ownBlock=v.ownBlock∨(Value.slice A' (n+m:Nat) c').ownBlock=some w.heap.size)→wpList P ops Q rest (a.put o.dst (.slice A' (n+m:Nat) c')) w'):wpList P ops Q (o::rest) a w:=
 wpList_plain d fun _ hK=>kk (N:=fun v' w'=>wpList P ops Q rest (a.put o.dst v') w') (fun _ _ h=>hK _ _ h) (eO g i j k b l p f h)
theorem Lz   (q:P.underlying dT=some (.slice e)) (r:(P.info? e).map (·.size)=some 1) 
  (t:o.op=.call { callee:=.builtin .copy,args:=#[d,s],argTypes:=#[dT,sT] }) {g n cap:Nat} (x:a.eval d=.slice (some ⟨g,0,none⟩) n cap)   (y:a.eval s=.slice A n c)
  {ys:List Value} (z:0<n) (f:w.ownsRow 0 e 1 (.slice (some ⟨g,0,none⟩) n cap) n xs) (p:Rd w A n 1 ys) (B:∀u∈ys,u.oneCell'=true)
  (h:∀w',w'.ownsRow 0 e 1 (.slice (some ⟨g,0,none⟩) n cap) n ys→al (fun b=>b=g) w w'→K (.int .i64 n) w'):cT P o a w K:=by
 obtain⟨b,l,rfl,C⟩:=p.2 z
 have m:ys.length=n:=by have:=p.1;omega
 rcases f.2 with⟨h2,_⟩|⟨g',cap',cur,hv,hb,hh,hnc,hcm,hs',ht⟩
 ·cases h2
 ·injection hv with hv1 hv2 hv3
  injection hv1 with hv1
  injection hv1 with hv1
  subst hv1;subst hv3
  have i:=run_copy_row (P:=P) w dT sT o.type e g 0 n cap ⟨b,l,none⟩ n c cur e ys q r hh (by rw[m];exact(Nat.min_self n).symm) (fun j v hj=>by
   have:=C j v hj
   unfold Addr.add
   split
   ·rename_i e;subst e;simpa using this
   ·exact this) (by omega) B
  unfold cT fe execOp
  simp only[t,resolve,invoke,builtin,Sem.run_bind,Sem.run_pure,Result.andThen_ok,fi,du,eG,x,y,i]
  have D:goInt (ys.length:Nat)=.int .i64 (n:Int):=by rw[m];rfl
  rw[D]
  refine h _ ⟨by omega,.inr ⟨g,cap,_,rfl,hb,setRow_heap w g _ _ e _ hh,hnc,hcm,?_,?_⟩⟩ ⟨rfl,rfl,rfl,by simp[World.setRow],fun k _ hne=>setRow_other w g k _ hne⟩
  ·have:cur.size=cap:=by omega
   simp only[j5,cW,bX,eE,af,be,Array.length_toList]
   omega
  ·simp only[j5,cW,bX]
   rw[Nat.mul_one,←m,gX]
theorem uh   (z:P.underlying dT=some (.slice e)) (A:(P.info? e).map (·.size)=some 1) 
  (B:o.op=.call { callee:=.builtin .copy,args:=#[d,s],argTypes:=#[dT,sT] }) {g f i m:Nat} (C:a.eval d=.slice (some ⟨g,f,none⟩) i m) {r l:Nat} (D:a.eval s=.slice (some ⟨b,r,none⟩) l c)
  {t:TypeId} {cur cs:List Value} (y:Cs w g t cur.toArray) (E:cs.length=Nat.min l i) (n:∀j u,cs[j]?=some u→w.cell? ⟨b,r+j,none⟩=some u) (p:f+cs.length≤cur.length) (F:∀u∈cs,u.oneCell'=true)
  (h:∀w',Cs w' g t (cur.take f++cs++cur.drop (f+cs.length)).toArray→al (fun x=>x=g) w w'→K (.int .i64 (cs.length:Nat)) w'):cT P o a w K:=by
 have q:=run_copy_row (P:=P) w dT sT o.type e g f i m ⟨b,r,none⟩ l c cur.toArray t cs z A y E (fun j v hj=>by
  have:=n j v hj
  unfold Addr.add
  split
  ·rename_i e;subst e;simpa using this
  ·exact this) (by simpa using p) F
 unfold cT fe execOp
 simp only[B,resolve,invoke,builtin,Sem.run_bind,Sem.run_pure,Result.andThen_ok,fi,du,eG,C,D,q]
 exact h _ (setRow_heap w g _ _ t _ y) ⟨rfl,rfl,rfl,by simp[World.setRow],fun k _ hne=>setRow_other w g k _ hne⟩
theorem BP{w:World}      (h:w.ownsRow B e size (.slice A n c) n xs):Rd w A n size xs:=by
 refine⟨h.1,fun hn=>?_⟩
 rcases h.2 with⟨hv,h0⟩|⟨g,cap,cur,hv,hb,hh,_,_,_,ht⟩
 ·omega
 ·injection hv with hv1 hv2 hv3
  subst hv1;subst hv3
  refine⟨g,0,rfl,fun j u hu=>?_⟩
  have a:j<n*size:=by rw[←h.1];exact(aw.1 hu).1
  rw[bX,World.ownsRow.cellAt h j a]
  exact hu
theorem iQ(w:World)(e:TypeId)(cs:List Value):Rd (w.alloc (.cells cs.toArray e)) (some ⟨w.heap.size,0,none⟩) 1 cs.length cs:=
 ⟨by simp,fun _=>⟨w.heap.size,0,rfl,fun j u hu=>by
  rw[(Cs.new w e cs.toArray).cell,bX]
  simpa using hu⟩⟩
end
abbrev Ch:=aK×aK×Bool
def fA:kJ Ch:=⟨3,fun c=>[S c.1,S c.2.1,.bool c.2.2],fun _=>rfl⟩
abbrev VB(c:Ch):Value:=.agg #[S c.1,S c.2.1,.bool c.2.2]
theorem nK{w:World}  {xs:List Ch}(h:di fA w A n xs) (f:k<n) :
  ∃b o c,A=some ⟨b,o,none⟩∧xs[k]?=some c∧(∀ξ:X w No,ξ.v.cell? ⟨b,o+k*3,none⟩=some (S c.1))∧(∀ξ:X w No,ξ.v.cell? ⟨b,o+k*3+1,none⟩=some (S c.2.1)) ∧
   (∀ξ:X w No,ξ.v.cell? ⟨b,o+k*3+2,none⟩=some (.bool c.2.2)):=by
 obtain⟨b,o,x,e,a,g,d⟩:=h.get f
 exact⟨b,o,x,e,g,fun ξ=>(ξ.h.cell a id).trans (d 0 _ rfl),fun ξ=>(ξ.h.cell a id).trans (d 1 _ rfl),fun ξ=>(ξ.h.cell a id).trans (d 2 _ rfl)⟩
def py(eA:Nat)(l:List Ch):Bool:=decide (l.length≤eA)&&l.all fun c=>decide (c.1.length≤20)&&decide (c.2.1.length≤400)
theorem ql{α:Type}{p:α→Bool}{l:List α} {x:α}(h:(l.take k).all p=true)(a:l[k]?=some x)(b:p x=true):(l.take (k+1)).all p=true:=by
 rw[aU,a]
 simp only[Option.toList,List.all_append,h,List.all_cons,b,List.all_nil,Bool.and_self]
theorem mL{α:Type}{p:α→Bool}{l:List α} {x:α}(a:l[k]?=some x)(b:p x=false):l.all p=false:=by
 rw[List.all_eq_false]
 exact⟨x,ah a,by rw[b];exact dI⟩
theorem zU{w:World}  {xs:List Ch}(h:di fA w A n xs)(eA:Nat)(u:eA≤1000) :
  Calls Tryz.prog 64 #[.slice A n c,.int .i64 eA] w fun e w'=>e=.returned (.bool (py eA xs))∧bf w w':=by
 by_cases m:n≤eA
 ·have a:Hd (decide (xs.length≤eA)=true):=by rw[Hd,h.1];simpa using m
  go_enter Tryz.func64,Tryz.ntmps64
  go_wp2_with (refine lM ?_ ?_<;>intro hq)
  go_loopw [5] (fun i wr=>∃k:Nat,k≤n∧i=.int .i64 k∧((xs.take k).all fun c=>decide (c.1.length≤20)&&decide (c.2.1.length≤400))=true∧∃ξ:X w No,wr=ξ.v) (fun i _=>n-(intOf i).toNat)
  case atStart=>exact⟨0,au _,rfl,rfl,X.here _ _,rfl⟩
  case round=>
   obtain⟨k,y,rfl,p,ξ,rfl⟩:=hrel
   have q:=aj p
   clear p
   by_cases d:k<n
   ·obtain⟨b,o,x,rfl,r,z,c1,_⟩:=nK h d
    have s:=aj r
    clear r
    by_cases f:x.1.length≤20∧x.2.1.length≤400
    ·have g:=f.1
     have j:=f.2
     have l:Hd ((decide (x.1.length≤20)&&decide (x.2.1.length≤400))=true):=by simp[Hd,g,j]
     clear f
     refine cS ?_
     all_goals try exact si
     go_roundw
     case rel=>exact⟨k+1,by omega,by go_num,ql q.ou s.ou l.ou,ξ,rfl⟩
     case measure=>simp[intOf];omega
    ·have l:Hd ((decide (x.1.length≤20)&&decide (x.2.1.length≤400))=false):=by
      rw[Hd,eD,aA,aA];omega
     go_wp2_with (refine dN ?_)
     all_goals first
      | (go_ret;exact⟨fE (by unfold py;rw[mL s.ou l.ou,iJ]),ξ.h⟩)
      | exact si
   ·refine cS ?_
    go_ret
    have t:=q.ou
    rw[ay (by have:=h.1;omega)] at t
    exact⟨fE (by unfold py;rw[a.ou,t];rfl),ξ.h⟩
 ·have a:Hd (py eA xs=false):=by
   have:decide (xs.length≤eA)=false:=by rw[h.1];simpa using m
   rw[Hd,py,this];rfl
  go_enter Tryz.func64,Tryz.ntmps64
  refine cS ?_
  go_ret
  exact⟨fE a.ou.symm,al.refl _ _⟩
structure Dd where
 kind:aK
 s:aK
 t:aK
 a:Int
 k:Nat
 ca:Option Addr
 cn:Nat
 cc:Nat
 ch:List Ch
def Dd.enc(d:Dd):List Value:=[S d.kind,S d.s,S d.t,.int .i64 d.a,.int .u64 (d.k:Int),.slice d.ca d.cn d.cc]
def ddF:kJ Dd:=⟨6,Dd.enc,fun _=>rfl⟩
structure nF (w:World) (A:Option Addr) (n:Nat) (ds:List Dd):Prop where
 row:di ddF w A n ds
 ch:∀d∈ds,di fA w d.ca d.cn d.ch
 a:∀d∈ds,-9223372036854775808≤d.a∧d.a≤9223372036854775807
 k:∀d∈ds,d.k<18446744073709551616
theorem nF.ext{w v:World}{A:Option Addr}{n:Nat}{b:List Dd}(h:nF w A n b)(c:bf w v):nF v A n b:=
 ⟨h.row.ext c,fun d hd=>(h.ch d hd).ext c,h.a,h.k⟩
theorem BG{w:World}  {a:List Dd}(h:nF w A n a) (f:i<n) :
  ∃b o d,A=some ⟨b,o,none⟩∧a[i]?=some d∧d∈a∧∀j,∀ξ:X w No,∀u,d.enc[j]?=some u→ξ.v.cell? ⟨b,o+i*6+j,none⟩=some u:=by
 obtain⟨b,o,d,e,g,c,k⟩:=h.row.get f
 exact⟨b,o,d,e,c,ah c,fun j ξ u hu=>(ξ.h.cell g id).trans (k j u hu)⟩
def l6(eA:Nat)(l:List Dd):Bool:=decide (l.length≤eA)&&l.all fun d=>decide (d.s.length≤800)&&decide (d.t.length≤400)&&py 50 d.ch
open Go Go.RowKit Go.ChangeShapes Go.WideShapes Go.Deep
section
variable {H:Type} {enc:TypeId×Value→H} {P:Program} {w:World} {base:Nat} {spare:Nat→Bool} {held:Bool}
theorem JX{α:Type}:∀(n:Nat) (R:Nat→α→Prop),(∀i,i<n→∃x,R i x)→∃xs:List α,xs.length=n∧∀k x,xs[k]?=some x→R k x
 | 0,_,_=>⟨[],rfl,fun k x h=>by simp at h⟩
 | n+1,R,h=>by
  obtain⟨xs,a,b⟩:=JX n R fun i hi=>h i (by omega)
  obtain⟨y,c⟩:=h n (by omega)
  refine⟨xs++[y],by simp[a],fun k x hk=>?_⟩
  by_cases d:k<n
  ·rw[bG (by omega)] at hk;exact b k x hk
  ·have:k=n:=by
    have:=(aw.1 hk).1
    simp[a] at this;omega
   subst this
   rw[dG (by omega)] at hk
   simp[a] at hk
   subst hk;exact c
theorem GP {t e:TypeId}    {x:DataW H×List MemPlace} (u:P.underlying t=some (.slice e)) (z:P.underlying e=some (.struct fs))
  (g:oneCellFields P fs=true) (A:P.cellsOf e=fs.size) (h:DataW.trod enc P w base (fun _=>true) held fuel t [v0]=some x) :
  v0=.slice none 0 0 ∨
  ∃(a:Addr) (len cap:Nat),v0=.slice (some a) len cap∧len≤cap∧cap≤maxLen ∧
   ∀i,i<cap→∃n,∀(j:Nat) (f:Field),fs[j]?=some f→∃(v:Value) (y:DataW H×List MemPlace),w.cell? (a.add (i*fs.size+j))=some v∧DataW.trod enc P w base (fun _=>true) held n f.type [v]=some y:=by
 rcases open_slice u h with⟨h0,_⟩|⟨a,len,cap,m,n,D,Pl,hcs,_,hl,hm,hmm,_,hi⟩
 ·injection h0 with h0;exact .inl h0
 ·injection hcs with hcs
  refine .inr ⟨a,len,cap,hcs,hl,hm,fun i hi'=>?_⟩
  obtain⟨b,r,k⟩:=hi i (by simpa [hmm] using hi')
  rw[A] at r
  obtain⟨ys,B,C,L,s,E,F⟩:=DataW.trod_struct z k
  obtain⟨_,G,l⟩:=World.cells?_some r
  refine⟨B,fun j f hj=>?_⟩
  obtain⟨I,J⟩:=hone_of g j f hj
  have o:j<fs.size:=(bq.1 hj).1
  have c:=l j o
  have K:b[j]?=some (b[j]'(by omega)):=aF (by omega)
  have p:=F j f hj
  rw[I,J] at p
  have d:(b.drop j).take 1=[b[j]'(by omega)]:=by
   rw[cB (by omega)]
   try rfl
  rw[d] at p
  have q:ys[j]?=some (ys[j]'(by omega)):=aF (by omega)
  refine⟨_,_,?_,p.trans q⟩
  rw[←Go.Deep.add_add,c,K]
theorem Ce {α:Type} {T:kJ α} {t e:TypeId}    {x:DataW H×List MemPlace} (D:P.underlying t=some (.slice e)) (E:P.underlying e=some (.struct fs))
  (d:oneCellFields P fs=true) (F:P.cellsOf e=fs.size) (G:fs.size=T.size) (z:0<T.size) (jx:α→Prop)
  (m:∀(n:Nat) (c:Nat→Option Value),(∀(j:Nat) (f:Field),fs[j]?=some f→∃(v:Value) (y:DataW H×List MemPlace),c j=some v∧DataW.trod enc P w base (fun _=>true) held n f.type [v]=some y) →
   ∃x:α,jx x∧∀j u,(T.enc x)[j]?=some u→c j=some u)
  (h:DataW.trod enc P w base (fun _=>true) held fuel t [v0]=some x) :
  ∃A n c xs,v0=.slice A n c∧di T w A n xs∧(∀x∈xs,jx x)∧n≤maxLen:=by
 rcases GP D E d F h with rfl|⟨a,len,cap,rfl,hl,hm,hf⟩
 ·exact⟨none,0,0,[],rfl,di.none_,(fun x g=>by cases g),au _⟩
 ·obtain⟨xs,p,g⟩:=JX len (fun i x=>jx x∧∀j u,(T.enc x)[j]?=some u→w.cell? (a.add (i*fs.size+j))=some u) fun i hi=>by
   obtain⟨n,I⟩:=hf i (by omega)
   exact m n (fun j=>w.cell? (a.add (i*fs.size+j))) I
  refine⟨some a,len,cap,xs,rfl,⟨p,fun h0=>?_⟩,fun x hx'=>?_,by omega⟩
  ·have q:=g 0 (xs[0]'(by omega)) (aF (by omega))
   have B:=T.len (xs[0]'(by omega))
   have l:=q.2 0 ((T.enc (xs[0]'(by omega)))[0]'(by omega)) (aF (by omega))
   obtain⟨b,o,s⟩:=a
   have J:s=none:=by simpa [Addr.add] using World.cell?_spot l
   subst J
   refine⟨b,o,rfl,by simpa [Addr.add] using World.block_lt_of_cell? _ _ l,fun k x r j u hu=>?_⟩
   have:=(g k x r).2 j u hu
   rw[G] at this
   rw[Nat.add_assoc]
   by_cases C:k*T.size+j=0
   ·rw[C] at this ⊢
    simpa [Addr.add] using this
   ·unfold Addr.add at this
    rw[aa C] at this
    exact this
  ·obtain⟨k,r⟩:=gi hx'
   exact(g k x r).1
theorem nR{t:TypeId} {v:Value}{y:DataW H×List MemPlace}(b:P.underlying t=some .string)(h:DataW.trod enc P w base spare held n t [v]=some y):∃s:aK,v=S s∧s.length≤maxLen:=by
 obtain⟨s,a,_,c⟩:=DataW.trod_string b h
 injection a with a
 exact⟨s.data.toList,by rw[a],c⟩
theorem Nh{t:TypeId}{k:IntKind} {v:Value}{y:DataW H×List MemPlace}(b:P.underlying t=some (.int k))(h:DataW.trod enc P w base spare held n t [v]=some y):∃i:Int,v=.int k i∧(Lit.int k i).wf=true:=by
 obtain⟨i,a,_,c⟩:=DataW.trod_int b h
 injection a with a
 exact⟨i,a,c⟩
theorem TF{t:TypeId} {v:Value}{y:DataW H×List MemPlace}(c:P.underlying t=some .bool)(h:DataW.trod enc P w base spare held n t [v]=some y):∃b:Bool,v=.bool b:=by
 obtain⟨b,a,_⟩:=DataW.trod_bool c h
 injection a with a
 exact⟨b,a⟩
end
open Go Go.RowKit Go.ChangeShapes Go.WideShapes Go.Deep
section
variable {H:Type} {enc:TypeId×Value→H} {w:World} {base:Nat} {held:Bool}
abbrev KI:Nat→Bool:=fun _=>true
theorem Sh{a:Int}(h:(Lit.int .i64 a).wf=true):-9223372036854775808≤a∧a≤9223372036854775807:=by
 simp[Lit.wf,IntKind.min,IntKind.max,IntKind.signed,IntKind.bits] at h;omega
theorem SX{a:Int}(h:(Lit.int .u64 a).wf=true):0≤a∧a≤18446744073709551615:=by
 simp[Lit.wf,IntKind.min,IntKind.max,IntKind.signed,IntKind.bits] at h;omega
theorem nH  {v:Value}{d:DataW H}{p:List MemPlace}(b:Value.okWide Tryz.prog w r b0 9 v)(h:DataW.Trod enc Tryz.prog w base KI held 9 v d p) :
  ∃s:aK,v=S s∧s.length≤maxLen:=by
 obtain⟨s,rfl⟩:=okWide_string Tryz.underlying9 b
 obtain⟨a,c⟩:=h
 exact nR Tryz.underlying9 (v:=.string s) c
end
open Go Go.RowKit Go.ChangeShapes Go.WideShapes Go.Deep
section
variable {H:Type} {enc:TypeId×Value→H} {w:World} {base:Nat} {held:Bool}
theorem MX  {x:DataW H×List MemPlace}(h:DataW.trod enc Tryz.prog w base KI held fuel 81 [v0]=some x) :
  ∃A n c xs,v0=.slice A n c∧di fA w A n xs∧n≤maxLen:=by
 obtain⟨A,n,c,xs,a,b,_,d⟩:=Ce (T:=fA) Tryz.underlying81 Tryz.underlying107 (by kernel_rfl) (by kernel_rfl) rfl (by decide) (fun _=>True) (fun n c hf=>by
  obtain⟨v0,l,e,f⟩:=hf 0 _ rfl
  obtain⟨m,o,c1,a⟩:=hf 1 _ rfl
  obtain⟨p,q,g,b⟩:=hf 2 _ rfl
  obtain⟨i,rfl,_⟩:=nR Tryz.underlying9 f
  obtain⟨k,rfl,_⟩:=nR Tryz.underlying9 a
  obtain⟨b2,rfl⟩:=TF Tryz.underlying4 b
  refine⟨(i,k,b2),trivial,fun j u hu=>?_⟩
  match j,hu with
  | 0,hu=>injection hu with hu;rw[e,hu]
  | 1,hu=>injection hu with hu;rw[c1,hu]
  | 2,hu=>injection hu with hu;rw[g,hu]) h
 exact⟨A,n,c,xs,a,b,d⟩
end
open Go Go.RowKit Go.ChangeShapes Go.WideShapes Go.Deep
open Go Go.RowKit Go.ChangeShapes Go.WideShapes Go.Deep
section
variable {H:Type} {enc:TypeId×Value→H} {w:World} {base:Nat} {held:Bool}
theorem Hk  {x:DataW H×List MemPlace}(h:DataW.trod enc Tryz.prog w base KI held fuel 22 [v0]=some x) :
  ∃A n c xs,v0=.slice A n c∧nF w A n xs∧n≤maxLen:=by
 obtain⟨A,n,c,xs,b,e,f,g⟩:=Ce (T:=ddF) Tryz.underlying22 Tryz.underlying83 (by kernel_rfl) (by kernel_rfl) rfl (by decide)
  (fun d=>di fA w d.ca d.cn d.ch∧(-9223372036854775808≤d.a∧d.a≤9223372036854775807)∧d.k<18446744073709551616) (fun n c hf=>by
  obtain⟨v0,J,o,p⟩:=hf 0 _ rfl
  obtain⟨K,L,c1,b⟩:=hf 1 _ rfl
  obtain⟨M,N,q,e⟩:=hf 2 _ rfl
  obtain⟨O,P,r,g⟩:=hf 3 _ rfl
  obtain⟨Q,R,s,t⟩:=hf 4 _ rfl
  obtain⟨S,U,v,y⟩:=hf 5 _ rfl
  obtain⟨z,rfl,_⟩:=nR Tryz.underlying9 p
  obtain⟨B,rfl,_⟩:=nR Tryz.underlying9 b
  obtain⟨C,rfl,_⟩:=nR Tryz.underlying9 e
  obtain⟨D,rfl,i⟩:=Nh Tryz.underlying3 g
  obtain⟨l,rfl,m⟩:=Nh Tryz.underlying72 t
  obtain⟨E,F,G,xs,rfl,I,_⟩:=MX y
  have i:=Sh i
  have m:=SX m
  obtain⟨k,rfl⟩:∃k:Nat,l=(k:Int):=⟨l.toNat,by omega⟩
  refine⟨⟨z,B,C,D,k,E,F,G,xs⟩,⟨I,i,by show k<_;omega⟩,fun j u hu=>?_⟩
  match j,hu with
  | 0,hu=>injection hu with hu;rw[o,hu]
  | 1,hu=>injection hu with hu;rw[c1,hu]
  | 2,hu=>injection hu with hu;rw[q,hu]
  | 3,hu=>injection hu with hu;rw[r,hu]
  | 4,hu=>injection hu with hu;rw[s,hu]
  | 5,hu=>injection hu with hu;rw[v,hu]) h
 exact⟨A,n,c,xs,b,⟨e,fun d hd=>(f d hd).1,fun d hd=>(f d hd).2.1,fun d hd=>(f d hd).2.2⟩,g⟩
theorem rh  {v:Value}{d:DataW H}{p:List MemPlace}(b:Value.okWide Tryz.prog w r b0 22 v)(h:DataW.Trod enc Tryz.prog w base KI held 22 v d p) :
  ∃A n c xs,v=.slice A n c∧nF w A n xs∧n≤maxLen:=by
 obtain⟨A,n,c,rfl⟩:=okWide_slice Tryz.underlying22 b
 obtain⟨a,e⟩:=h
 exact Hk (v0:=.slice A n c) e
end
open Go Go.RowKit Go.ChangeShapes Go.WideShapes Go.Deep
def dB(c:UInt8):aK→aK×aK×Bool
 | []=>([],[],false)
 | x::s=>if x=c then ([],s,true) else (x::(dB c s).1,(dB c s).2.1,(dB c s).2.2)
theorem yr(c x:UInt8)(s:aK):Lib.index (x::s) [c]=if x=c then 0 else if Lib.index s [c]=-1 then -1 else Lib.index s [c]+1:=by
 have e:List.isPrefixOf [c] (x::s)=decide (x=c):=by
  simp only[List.isPrefixOf,Bool.and_true]
  by_cases h:x=c
  ·simp[h]
  ·simp[h,Ne.symm h]
 rw[Lib.index,e]
 simp
theorem uU(c:UInt8):∀s:aK,Lib.cut s [c]=dB c s
 | []=>by simp[Lib.cut,Lib.index,dB]
 | x::s=>by
  have ih:=uU c s
  have g:=Lib.index_ge s [c]
  unfold Lib.cut at ih ⊢
  rw[yr]
  unfold dB
  by_cases h:x=c
  ·simp[h]
  ·rw[aa h,aa h,←ih]
   by_cases a:Lib.index s [c]=-1
   ·rw[a];simp
   ·rw[aa a]
    obtain⟨i,b⟩:∃i:Nat,Lib.index s [c]=i:=⟨(Lib.index s [c]).toNat,by omega⟩
    rw[b]
    have d:(0:Int)≤(i:Int)+1:=by omega
    have e:(0:Int)≤(i:Int):=by omega
    have f:((i:Int)+1).toNat=i+1:=by omega
    simp[d,e,f]
theorem Jg(s sep:aK)(b:s.length<4294967281){w:World}(a:Ml w) :
  Calls Tryz.prog 115 #[S s,S sep] w fun e w'=>e=.returned (.tuple #[S (Lib.cut s sep).1,S (Lib.cut s sep).2.1,.bool (Lib.cut s sep).2.2])∧bf w w':=by
 obtain⟨m,a⟩:=a
 refine(Tryz.strings_Cut ⟨s.toArray⟩ ⟨sep.toArray⟩ m w b a).mono ?_
 rintro e w' ⟨rfl,n,rfl⟩
 exact⟨rfl,(al.refl No w).drewN n⟩
theorem Dz(s:aK)(c:UInt8)(a:s.length<4294967281){w:World}(b:Ml w) :
  Calls Tryz.prog 115 #[S s,S [c]] w fun e w'=>e=.returned (.tuple #[S (dB c s).1,S (dB c s).2.1,.bool (dB c s).2.2])∧bf w w':=by
 have:=Jg s [c] a b
 rwa [uU] at this
theorem qw(c:UInt8):∀s:aK,(dB c s).1.length+(dB c s).2.1.length≤s.length
 | []=>by simp[dB]
 | x::s=>by
  have:=qw c s
  unfold dB
  split
  ·simp
  ·simp only[an];omega
abbrev tw:String:= "internal/strconv.uint64pow10"
structure GL (w:World):Prop where
 ml:Ml w
 tb:Lib.TabIs Tryz.prog w tw .u64 Lib.pow10Tab
theorem GL.ext{w v:World}(h:GL w)(a:bf w v):GL v:=⟨h.1.ext a,Lib.tabBelow_of_tabIs h.2 v a.toBelow⟩
theorem Nj(n:Int)(a:-9223372036854775808≤n)(b:n≤9223372036854775807){w:World}(h:GL w) :
  Calls Tryz.prog 126 #[.int .i64 n] w fun e w'=>e=.returned (S (Lib.itoa n))∧bf w w':=by
 refine(Tryz.strconv_Itoa n a b w h.tb).mono ?_
 rintro e w' ⟨rfl,k,os,rfl⟩
 exact⟨rfl,al.below (Lib.below_grow _ w (aq _) k os)⟩
def VD(v:Value):Prop:=v=.nilIface∨∃te pe,v=.iface te pe
structure sF (w:World):Prop where
 ml:Ml w
 tb:Lib.TabIs Tryz.prog w tw .u64 Lib.pow10Tab
 es:∃ev,w.cell? ⟨4,0,none⟩=some ev∧VD ev
 er:∃ev,w.cell? ⟨5,0,none⟩=some ev∧VD ev
theorem sF.ext{w v:World}(h:sF w)(a:bf w v):sF v:=by
 obtain⟨c,d,⟨e,c1,f⟩,g,b,i⟩:=h
 exact⟨c.ext a,Lib.tabBelow_of_tabIs d v a.toBelow,⟨e,(a.cell (World.block_lt_of_cell? _ _ c1) id).trans c1,f⟩,⟨g,(a.cell (World.block_lt_of_cell? _ _ b) id).trans b,i⟩⟩
theorem sF.t{w:World}(h:sF w):GL w:=⟨h.ml,h.tb⟩
theorem TA(n:Int)(a:-9223372036854775808≤n)(b:n≤9223372036854775807){w:World}(h:sF w) :
 Calls Tryz.prog 126 #[.int .i64 n] w fun e w'=>e=.returned (S (Lib.itoa n))∧bf w w':=Nj n a b h.t
def EL(s:aK):Int:=match Lib.atoiAll s with|.ok v=>v|.range=>Lib.atoiSat s|_=>0
def FD(s:aK):Bool:=match Lib.atoiAll s with|.ok _=>true|_=>false
theorem I4(s:aK):-9223372036854775808≤EL s∧EL s≤9223372036854775807:=by
 unfold EL
 split
 ·rename_i v h
  exact Lib.atoiAll_bounds h
 ·exact Lib.atoiSat_bounds s
 ·omega
theorem TO(s:aK)(k:s.length≤1000000){w:World}(h:sF w) :
  Calls Tryz.prog 193 #[S s] w fun e w'=>∃ev,e=.returned (.tuple #[.int .i64 (EL s),ev])∧((FD s=true∧ev=.nilIface)∨(FD s=false∧∃te pe,ev=.iface te pe))∧bf w w':=by
 have b:(⟨s.toArray⟩:ByteArray).size=s.length:=by simp[ByteArray.size]
 obtain⟨_,_,⟨c,c1,d⟩,f,g,i⟩:=h
 unfold EL FD
 cases ha:Lib.atoiAll s
 ·rename_i v
  refine(Tryz.strconv_Atoi_ok ⟨s.toArray⟩ (by omega) v ha w).mono ?_
  rintro e w' ⟨rfl,j⟩
  refine⟨_,rfl,.inl ⟨rfl,rfl⟩,?_⟩
  rcases j with rfl|⟨t,rfl⟩
  ·exact al.refl _ _
  ·exact al.below (Joins.below_bytesWorld _ _ _ _ (aq _))
 ·refine(Tryz.strconv_Atoi_syntax ⟨s.toArray⟩ (by omega) ha c w c1 d).mono ?_
  rintro e w' ⟨N,rfl,_,_,a⟩
  exact⟨_,rfl,.inr ⟨rfl,_,_,rfl⟩,al.below a⟩
 ·refine(Tryz.strconv_Atoi_range ⟨s.toArray⟩ (by omega) ha f w g i).mono ?_
  rintro e w' ⟨N,rfl,_,_,a⟩
  exact⟨_,rfl,.inr ⟨rfl,_,_,rfl⟩,al.below a⟩
theorem zL{P:Program}{w:World}:∀{L:List (String×DataW Unit)} {ps:List MemPlace},DataW.LaidVars P w L ps→∀{n:String} {d:DataW Unit},(n,d)∈L →
  ∃g t cs a p,P.globalNamed n=some g∧(P.globals[g]?).map (·.type)=some t∧w.var? P n=some cs∧DataW.trod (fun _=>()) P w 0 (fun _=>true) false a t cs.toList=some (d,p)
 | [],_,_,_,_,hm=>by cases hm
 | (n',d')::r,ps,h,n,d,hm=>by
  obtain⟨g,t,cs,a,p,q,b,c,f,i,j,_⟩:=h
  rcases aY.1 hm with e|hm
  ·obtain⟨rfl,rfl⟩:=Prod.mk.inj e
   exact⟨g,t,cs,a,p,b,c,f,i⟩
  ·exact zL j hm
theorem TN  (h:laidMet Tryz.prog L W)(b:(tw,Lib.tabData .u64 Lib.pow10Tab)∈L):Lib.TabIs Tryz.prog W tw .u64 Lib.pow10Tab:=by
 obtain⟨i,c,_⟩:=h
 obtain⟨j,k,cs,a,p,d,e,f,g⟩:=zL c b
 obtain rfl:=bB ((show Tryz.prog.globalNamed tw=some 3 by kernel_rfl).symm.trans d)
 obtain rfl:=bB ((show(Tryz.prog.globals[3]?).map (·.type)=some 337 by kernel_rfl).symm.trans e)
 unfold Lib.TabIs
 rw[f,←Lib.cells_of_tab Tryz.underlying337 Tryz.underlying72 (by kernel_rfl) (by kernel_rfl) g]
theorem NM {H:Type} {enc:TypeId×Value→H} {P:Program} {w:World} {base:Nat} {c:Nat→Bool} {a:Bool}  {t:TypeId}  {cs:List Value} {x:DataW H×List MemPlace} (b:P.underlying t=some (.interface ms))
  (h:DataW.trod enc P w base c a fuel t cs=some x):∃v,cs=[v]∧VD v:=by
 cases fuel with
 | zero=>simp[DataW.trod] at h
 | succ fuel=>
  match cs,h with
  | [v],h=>
   cases v<;>first
    | exact⟨_,rfl,.inl rfl⟩
    | exact⟨_,rfl,.inr ⟨_,_,rfl⟩⟩
    | (exfalso;simp[DataW.trod,b] at h;done)
    | (exfalso;rename_i o;cases o<;>simp[DataW.trod,b] at h;done)
    | (exfalso;rename_i o _ _;cases o<;>simp[DataW.trod,b] at h;done)
  | [],h=>simp[DataW.trod,b] at h
  | _::_::_,h=>simp[DataW.trod,b] at h
theorem AU{cs:Array Value}{v:Value}(h:cs.toList=[v]):cs=#[v]:=by
 cases cs;simp_all
theorem Ni {n:String}{g:Nat}{t:TypeId} (b:Tryz.prog.globalNamed n=some g)(a:(Tryz.prog.globals[g]?).map (·.type)=some t)(e:Tryz.prog.underlying t=some (.interface ms)) (h:laidMet Tryz.prog L W){d:DataW Unit}(f:(n,d)∈L) :
  ∃ev,W.cell? ⟨g,0,none⟩=some ev∧VD ev:=by
 obtain⟨r,i,_⟩:=h
 obtain⟨s,u,cs,c,p,j,k,l,m⟩:=zL i f
 obtain rfl:=bB (b.symm.trans j)
 obtain rfl:=bB (a.symm.trans k)
 obtain⟨v,o,q⟩:=NM e m
 refine⟨v,?_,q⟩
 rw[World.var?_cell b l 0,AU o]
 try rfl
theorem Ak (a:Ml W) (h:laidMet Tryz.prog L W)(b:(tw,Lib.tabData .u64 Lib.pow10Tab)∈L){c d:DataW Unit}(e:("strconv.ErrSyntax",c)∈L)(f:("strconv.ErrRange",d)∈L):sF W:=
 ⟨a,TN h b,Ni (t:=31) (by kernel_rfl) (by kernel_rfl) Tryz.underlying31 h e,Ni (t:=31) (by kernel_rfl) (by kernel_rfl) Tryz.underlying31 h f⟩
theorem xU:(Tryz.prog.info? 9).map (fun i=>(i.zero,i.size,i.bytes))=some (some (S []),1,16):=by kernel_rfl
theorem KH:tf Tryz.prog 44 9 1:=tf.mk' Tryz.underlying44 xU rfl (by omega) (by omega)
theorem ye{w:World}  {cs:List Value}(h:Rd w A n 1 cs)(j:∀u∈cs,u.oneCell'=true)(k:A=none→n=0)(o:n≤1000000) :
  Calls Tryz.prog 95 #[.slice A n c] w fun e w'=>∃b d,e=.returned (.slice b n d)∧w'.ownsRow 0 9 1 (.slice b n d) n cs∧bf w w'∧∀g,(Value.slice b n d).ownBlock=some g→w.heap.size≤g:=by
 have p:=fun(W:World)=>Lib.run_eql_slice_nil (P:=Tryz.prog) W 44 9 A n c 0 0 Tryz.underlying44
 rcases A with _|ad
 ·obtain rfl:=k rfl
  obtain rfl:cs=[]:=bM (by simpa using h.1)
  go_enter Tryz.func95,Tryz.ntmps95
  go_wp2
  go_ret
  exact⟨none,0,rfl,World.ownsRow_nil _ _ _ _,al.refl _ _,fun g hg=>by simp[Value.ownBlock] at hg⟩
 ·have H:=aj h
  clear h
  go_enter Tryz.func95,Tryz.ntmps95
  go_wp2_with (at_builtin;go_must (refine dy (v:=.slice (some ⟨w.heap.size,0,none⟩) 0 0) (n:=0) (xs:=[]) rfl KH rfl rfl rfl (tH w _ _) (H.ou.alloc _) j (by omega) ?_);intro b d l a i f)
  go_ret
  rw[bX] at a f
  have m:bf w l:=((al.refl _ _).alloc (.cells #[] 9)).grown i (fun g hg=>by simp[Value.ownBlock] at hg;left;omega)
  refine⟨b,d,?_,by simpa using a,m,fun g hg=>?_⟩
  ·simp[bX]
  ·rcases f with h|h<;>rw[h] at hg<;>simp[Value.ownBlock] at hg<;>omega
theorem eP {P:Program}   {a:Act} {w:World} {u:Tmp}   {v:Value} (h:fn.results=#[.cell p ty,.tmp u])
  (b:a.tmps.getD p undef=.pointer (some ad)) (c:a.defers=[]) (d:(loadVar ty ad).run P w=.ok v w) (e:R (.returned (.tuple #[v,a.tmps.getD u undef])) w):bodyPost P fn R .ret a w:=by
 refine bodyPost_ret (v:=.tuple #[v,a.tmps.getD u undef]) ?_ c e
 rw[results_cell_tmp h,b]
 simp[asAddr,Sem.run_pure,Result.andThen,d]
theorem AX   (h:fn.results=#[.cell p ty])(tmps:Array Value)(P:Program)(w:World) :
  (results fn tmps).run P w=((asAddr (tmps.getD p undef)).run P w).andThen fun a w₁=>(loadVar ty a).run P w₁:=by
 simp only[results,h]
 simp[Sem.run_bind,Result.andThen]
theorem jN {P:Program}   {a:Act} {w:World}    {v:Value} (h:fn.results=#[.cell p ty])
  (b:a.tmps.getD p undef=.pointer (some ad)) (c:a.defers=[]) (d:(loadVar ty ad).run P w=.ok v w) (e:R (.returned v) w):bodyPost P fn R .ret a w:=by
 refine bodyPost_ret (v:=v) ?_ c e
 rw[AX h,b]
 simp[asAddr,Sem.run_pure,Result.andThen,d]
theorem me(x:bm):∃s l,br.enc x=S s::l:=⟨_,_,rfl⟩
theorem tN(x:aK):∃s l,cI.enc x=S s::l:=⟨_,_,rfl⟩
theorem yS:(Tryz.prog.info? 9).map (fun i=>(i.zero,i.size,i.bytes))=some (some (.string ⟨#[]⟩),1,16):=by kernel_rfl
theorem p8:tf Tryz.prog 44 9 1:=tf.mk' Tryz.underlying44 yS rfl (by omega) (by omega)
theorem di.nW{α:Type}{T:kJ α}{w v:World}  {xs:List α}{F:Nat→Prop}(h:di T w A n xs)(a:al F w v)(d:∀b o,A=some ⟨b,o,none⟩→0<n→¬F b):di T v A n xs:=
 ⟨h.1,fun hp=>by
  obtain⟨b,o,e,c,f⟩:=h.2 hp
  exact⟨b,o,e,bZ c a.size,fun k x hk j u hu=>(a.cell (p:=⟨b,_,none⟩) c (d b o e hp)).trans (f k x hk j u hu)⟩⟩
theorem Ia:Tryz.prog.stoodInHeld 54=false:=by kernel_rfl
@[go_sem] theorem SE:Tryz.prog.eqGuardType Tryz.prog.depth 54=false:=by kernel_rfl
theorem Hc:Tryz.prog.underlying 54=some (.struct (Tryz.prog.fieldsOf 54)):=by kernel_rfl
def tU(x y x' y':aK):Bool:=decide (x=x'∧y=y')
theorem Ar{f g:bm}(h:tU f.1 f.2 g.1 g.2=true):f=g:=by
 unfold tU at h;have:=of_decide_eq_true h;exact Prod.ext this.1 this.2
theorem yo{f g:bm}(h:tU f.1 f.2 g.1 g.2=false):f≠g:=by
 unfold tU at h;have:=of_decide_eq_false h;intro e;subst e;exact this ⟨rfl,rfl⟩
theorem Cm(a b c d:aK)(w:World):(Op.equalIn 10000 54 (.agg #[S a,S b]) (.agg #[S c,S d])).run Tryz.prog w=.ok (tU a b c d) w:=by
 have g:=Tryz.underlying9
 have h:=Tryz.isAgg9
 have i:=Tryz.sizeOf9
 unfold tU
 rw[show(10000:Nat)=9999+1 from rfl,run_equalIn_agg w 9999 54 _ _ Hc Ia]
 simp only[Program.fieldsOf,Tryz.underlying54]
 go_simp
 by_cases e:a=c<;>by_cases f:b=d<;>simp[e,f]
@[go_sem high] theorem UM (a b c d:aK) (w:World):(binOp .eql 54 (.agg #[S a,S b]) (.agg #[S c,S d])).run Tryz.prog w=.ok (.bool (tU a b c d)) w:=by
 rw[run_eql_struct,Cm];rfl
@[go_sem high] theorem UK (a b c d:aK) (w:World):(binOp .neq 54 (.agg #[S a,S b]) (.agg #[S c,S d])).run Tryz.prog w=.ok (.bool (!tU a b c d)) w:=by
 rw[run_neq_struct,Cm];rfl
@[go_sem] theorem Sm (a b:ByteArray) (w:World):(Instr.build 54 #[(0,.string a),(1,.string b)]).run Tryz.prog w=.ok (.agg #[.string a,.string b]) w:=run_build w 54 _ _ (by kernel_rfl)
theorem lH{a b c:aK}(h:a<b)(k:b<c):a<c:=List.lt_trans h k
theorem uM(a:aK):¬a<a:=List.lt_irrefl a
theorem xi{a b:aK}(h:a<b):¬b<a:=List.lt_asymm h
theorem tJ{a b:aK}:a≤b↔¬b<a:=List.not_lt.symm
theorem DO{a b:aK}(h:¬a<b)(k:¬b<a):a=b:=List.le_antisymm (List.not_lt.1 k) (List.not_lt.1 h)
theorem rC{a b:aK}(h:a≤b)(k:a≠b):a<b:=by
 by_cases c:a<b
 ·exact c
 ·exact absurd (DO c (tJ.1 h)) k
theorem pa{a b:aK}(h:a<b):a≠b:=fun e=>uM b (e▸h)
theorem Du{a b c:aK}(h:a≤b)(k:b<c):a<c:=by
 by_cases e:a=b
 ·exact e▸k
 ·exact lH (rC h e) k
theorem wY:∀a b:aK,(Lib.compareBytes a b=-1∧a<b)∨(Lib.compareBytes a b=0∧a=b)∨(Lib.compareBytes a b=1∧b<a)
 | [],[]=>.inr (.inl ⟨rfl,rfl⟩)
 | [],_::_=>.inl ⟨rfl,by simp⟩
 | _::_,[]=>.inr (.inr ⟨rfl,by simp⟩)
 | x::a,y::b=>by
  unfold Lib.compareBytes
  by_cases h:x<y
  ·exact .inl ⟨ab h,fR.2 (.inl h)⟩
  ·rw[aa h]
   by_cases c:y<x
   ·exact .inr (.inr ⟨ab c,fR.2 (.inl c)⟩)
   ·rw[aa c]
    obtain rfl:x=y:=UInt8.le_antisymm (UInt8.not_lt.1 c) (UInt8.not_lt.1 h)
    rcases wY a b with⟨h1,h2⟩|⟨h1,h2⟩|⟨h1,h2⟩
    ·exact .inl ⟨h1,fR.2 (.inr ⟨rfl,h2⟩)⟩
    ·exact .inr (.inl ⟨h1,by rw[h2]⟩)
    ·exact .inr (.inr ⟨h1,fR.2 (.inr ⟨rfl,h2⟩)⟩)
def zo(a b:aK):Int:=Lib.compareBytes a b
theorem Jl(a b:aK):decide (zo a b<0)=decide (a<b):=by
 unfold zo
 rcases wY a b with⟨h1,h2⟩|⟨h1,h2⟩|⟨h1,h2⟩<;>rw[h1]
 ·simp[h2]
 ·subst h2;simp[uM]
 ·simp[xi h2]
theorem JL(a b:aK):(zo a b==0)=decide (a=b):=by
 unfold zo
 rcases wY a b with⟨h1,h2⟩|⟨h1,h2⟩|⟨h1,h2⟩<;>rw[h1]
 ·simp[pa h2]
 ·simp[h2]
 ·simp[(pa h2).symm]
theorem rE:∀a b:aK,Op.bytesLess a b=decide (a<b)
 | [],[]=>by simp[Op.bytesLess]
 | [],_::_=>by simp[Op.bytesLess]
 | _::_,[]=>by simp[Op.bytesLess]
 | x::a,y::b=>by
  unfold Op.bytesLess
  rw[rE a b,eu]
  simp[fR]
def Pj(a b:aK):Bool:=decide (a<b)
def Mn(a b:aK):Bool:=decide (a≤b)
theorem ET{a b:aK}(h:Pj a b=true):a<b:=of_decide_eq_true h
theorem Mw{a b:aK}(h:Mn a b=true):a≤b:=of_decide_eq_true h
theorem BK{a b:aK}(h:Mn a b=false):b<a:=by
 have:=of_decide_eq_false h
 rw[tJ] at this
 exact Classical.not_not.1 this
theorem xN(b:ByteArray)(i:Nat)(r:List UInt8):ByteArray.toList.loop b i r=r.reverse++b.data.toList.drop i:=by
 rw[ByteArray.toList.loop]
 split
 ·rename_i h
  rw[xN b (i+1)]
  have a:i<b.data.toList.length:=by simpa using h
  rw[cB a]
  have:b.get! i=b.data.toList[i]:=by
   simp[ByteArray.get!]
   rw[getElem!_pos b.data i (by simpa using a)]
  simp[this]
 ·rename_i h
  rw[dR (by simpa using h)];simp
termination_by b.size-i
theorem y8(a:List UInt8):ByteArray.toList ⟨a.toArray⟩=a:=by
 unfold ByteArray.toList
 rw[xN];simp
@[go_sem high] theorem lss_S (t:TypeId) (a b:aK):binOp .lss t (.string ⟨a.toArray⟩) (.string ⟨b.toArray⟩)=pure (.bool (Pj a b)):=by
 simp[binOp,Op.stringOp,y8,rE,Pj]
@[go_sem high] theorem leq_S (t:TypeId) (a b:aK):binOp .leq t (.string ⟨a.toArray⟩) (.string ⟨b.toArray⟩)=pure (.bool (Mn a b)):=by
 have:(decide (a<b)||a==b)=Mn a b:=by
  unfold Mn
  rw[eu]
  simp only[cd,bh,bY]
  constructor
  ·rintro(h|rfl)
   ·exact tJ.2 (xi h)
   ·exact tJ.2 (uM _)
  ·intro h
   by_cases e:a=b
   ·exact .inr e
   ·exact .inl (rC h e)
 simp[binOp,Op.stringOp,y8,rE,this]
section
variable {α:Type} (key:α→aK)
def eQ(l:List α):Prop:=l.Pairwise fun a b=>key a<key b
def j9(l:List α)(k:aK):Nat:=(l.takeWhile fun x=>Pj (key x) k).length
variable {key}
theorem eQ.Jv{l:List α}(h:eQ key l){j:Nat}(a:i<j){x y:α}(b:l[i]?=some x)(c:l[j]?=some y):key x<key y:=by
 obtain⟨d,rfl⟩:=aw.1 b
 obtain⟨e,rfl⟩:=aw.1 c
 exact cL.1 h i j d e a
theorem Ao(l:List α)(k:aK):j9 key l k≤l.length:=by
 unfold j9
 induction l with
 | nil=>simp
 | cons x l ih=>
  rw[jz]
  split
  ·simp;exact ih
  ·simp
theorem FQ{l:List α}{k:aK} (a:i≤l.length)(b:∀j x,j<i→l[j]?=some x→key x<k)(c:∀x,l[i]?=some x→¬key x<k):j9 key l k=i:=by
 unfold j9
 induction l generalizing i with
 | nil=>simp at a;simp[a]
 | cons x l ih=>
  rw[jz]
  cases i with
  | zero=>
   have:Pj (key x) k=false:=aG (c x rfl)
   simp[this]
  | succ i=>
   have:Pj (key x) k=true:=aM (b 0 x (by omega) rfl)
   simp only[this,if_true,an]
   rw[ih (by simpa using a) (fun j y hj hy=>b (j+1) y (by omega) (by simpa using hy)) (fun y hy=>c y (by simpa using hy))]
end
end Go.Proofs.YtpgmcijdcnnjpaaGreatDoor
