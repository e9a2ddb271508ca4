/- Lemmas for it. -/
import Derived.Test.YtpgmcijdcnnjpaaGreatDoorPk28
set_option linter.all false
set_option maxRecDepth 100000
set_option maxHeartbeats 8000000
namespace Go.Proofs.YtpgmcijdcnnjpaaGreatDoor
open Go Go.RowKit
variable {d:Dk} {W W' w:World} {r r0:jZ} {B D b b2 b6 cap q0:Nat} {row:Option Nat} {t:aK} {cs tm:Array Value} {h':V7} {f:Int}
attribute [local go_sem] Oper.semAt_some
abbrev Vh:TypeId:=92
abbrev RG:TypeId:=31
def pL(t:aK)(k:Nat):aK:=(t.drop (340*k)).take 340
def ru(t:aK):List aK:=(List.range (yl t.length)).map (pL t)
def sV(p:Nat):List aK→Dk→Dk×Int
 | [],d=>(d,0)
 | s::r,d=>if d.jJ (p:Int) s=0 then sV (p+1) r (d.wr (p:Int) s) else (d.wr (p:Int) s,d.jJ (p:Int) s)
def lf(h:V7)(l:eX)(t:aK):V7:=⟨h.bU+1,1-h.side,t.length,l.first+l.many⟩
def AV(h':V7)(t:aK)(d:Dk):Dk×Int:=
 if (sV (2+h'.side*21) (ru t) d).2≠0 then sV (2+h'.side*21) (ru t) d
 else if (sV (2+h'.side*21) (ru t) d).1.oK≠0 then ((sV (2+h'.side*21) (ru t) d).1.fl,(sV (2+h'.side*21) (ru t) d).1.oK)
 else if (sV (2+h'.side*21) (ru t) d).1.fl.jJ ((h'.bU%2:Nat):Int) (pM h')≠0 then ((sV (2+h'.side*21) (ru t) d).1.fl.wr ((h'.bU%2:Nat):Int) (pM h'),(sV (2+h'.side*21) (ru t) d).1.fl.jJ ((h'.bU%2:Nat):Int) (pM h'))
 else (((sV (2+h'.side*21) (ru t) d).1.fl.wr ((h'.bU%2:Nat):Int) (pM h')).fl,((sV (2+h'.side*21) (ru t) d).1.fl.wr ((h'.bU%2:Nat):Int) (pM h')).oK)
theorem pN(d:Dk):d.cJ.now=d.now:=by
 unfold Dk.cJ
 repeat' split
 all_goals rfl
theorem Jm (h:∀s∈d.now,s.length=340)(p:Int){x:aK}(a:x.length≤340):∀s∈(d.wr p x).now,s.length=340:=by
 unfold Dk.wr
 split
 ·exact h
 ·split
  ·rw[pN];exact h
  ·show ∀s∈d.cJ.now.set _ (ec x),_
   rw[pN]
   exact mF h (fV _ a)
theorem JE(d:Dk):d.fl.now=d.now:=by
 unfold Dk.fl
 split
 ·exact pN d
 ·exact pN d
theorem Rm (h:d.oK=0):d.fl.down=false:=by
 unfold Dk.oK at h
 split at h
 ·cases h
 ·rename_i hf
  unfold Dk.fl
  rw[aa hf]
  show d.cJ.down=false
  unfold Dk.lU at hf
  simp only[cd,bh,not_or,fT] at hf
  unfold Dk.cJ
  rw[hf.1,aa dI,aa hf.2]
theorem JI:∀(l:List aK) (p:Nat) (d:Dk),(sV p l d).1.now.length=d.now.length
 | [],_,_=>rfl
 | a::l,p,d=>by
  show(if d.jJ (p:Int) a=0 then sV (p+1) l (d.wr (p:Int) a) else (d.wr (p:Int) a,d.jJ (p:Int) a)).1.now.length=_
  split
  ·rw[JI];exact Dc _ _ _
  ·exact Dc _ _ _
theorem GO:∀(l:List aK) (p:Nat) (d:Dk),(∀s∈l,s.length≤340)→(∀s∈d.now,s.length=340)→∀s∈(sV p l d).1.now,s.length=340
 | [],_,_,_,h=>h
 | a::l,p,d,hl,h=>by
  show ∀s∈(if d.jJ (p:Int) a=0 then sV (p+1) l (d.wr (p:Int) a) else (d.wr (p:Int) a,d.jJ (p:Int) a)).1.now,_
  have b:=Jm h (p:Int) (hl a (by simp))
  split
  ·exact GO l _ _ (fun s hs=>hl s (by simp[hs])) b
  ·exact b
theorem Mt(t:aK):∀s∈ru t,s.length≤340:=fun s hs=>by
 obtain⟨k,_,rfl⟩:=cw.1 hs
 simp[pL]
 omega
theorem AL   (h:ef w r d) (c:r.fp b):∃cs t,Cs w b t cs∧(t=yp∨t=GR∨t=xZ):=by
 rcases c with e|e|e|e
 ·subst e;exact⟨_,_,h.cs,.inl rfl⟩
 ·subst e
  obtain⟨cur,a⟩:=fI h.kept rfl
  exact⟨_,_,a,.inr (.inl rfl)⟩
 ·subst e
  obtain⟨cur,a⟩:=fI h.now rfl
  exact⟨_,_,a,.inr (.inl rfl)⟩
 ·obtain⟨cur,a⟩:=fI h.wait e
  exact⟨_,_,a,.inr (.inr rfl)⟩
theorem nD{F:Nat→Prop} (h:al F W W')(a:∀b,F b→∃cs t,Cs W b t cs):KeepsOthers W W':=⟨h.size,fun k o hk ho=>by
 rw[h.block k (bq.1 hk).1 (fun hf=>by
  obtain⟨cs,t,c⟩:=a k hf
  rw[show W.heap[k]?=_ from c] at hk
  cases hk
  cases ho)]
 exact hk⟩
theorem mf  (a:W.grownBy W' row):al (fun b=>row=some b) W W':=⟨a.os,a.tape,a.output,a.size,fun b hb hn=>a.block b hb fun e=>hn e.symm⟩
structure Vt (w W:World) (r:jZ) (d:Dk) (q0 b1 b2 g4 b5 b6 Bs Bn sg cap:Nat) (h':V7) (t:aK) (pre:List Nat):Prop where
 dk:∃r' d',mW w W r r' d'∧sV q0 (pre.map (pL t)) d=(d',0)∧d'.wait.length≤500+pre.length
 c1:Cs W b1 Vh #[pt sg]
 c2:Cs W b2 RG #[.nilIface]
 c4:Cs W g4 o6 h'.cells
 c5:Cs W b5 3 #[.int .i64 (pre.length:Nat)]
 cs:Cs W Bs 233 #[.slice (some ⟨b6,0,none⟩) t.length cap]
 cn:Cs W Bn 3 #[.int .i64 340]
 by_:∃fz,W.heap[b6]?=some (.cells (bytesRow ⟨t.toArray⟩ cap) 5 fz)
structure VF (w W:World) (r:jZ) (d:Dk) (q0 b2:Nat) (t:aK) (pre:List Nat):Prop where
 dk:∃r' d' f,mW w W r r' d'∧sV q0 (pre.map (pL t)) d=(d',f)∧f≠0∧Cs W b2 RG #[eT f]
theorem FJ:∀(l:List aK) (p:Nat) (s:aK) (d d':Dk),sV p l d=(d',0)→sV p (l++[s]) d=(d'.wr ((p+l.length:Nat):Int) s,d'.jJ ((p+l.length:Nat):Int) s)
 | [],p,s,d,d',h=>by
  injection h with h1 h2
  subst h1
  show(if d.jJ (p:Int) s=0 then (d.wr (p:Int) s,0) else (d.wr (p:Int) s,d.jJ (p:Int) s))=_
  by_cases b:d.jJ (p:Int) s=0
  ·rw[ab b];simp[b]
  ·rw[aa b];simp
 | a::l,p,s,d,d',h=>by
  show(if d.jJ (p:Int) a=0 then sV (p+1) (l++[s]) (d.wr (p:Int) a) else (d.wr (p:Int) a,d.jJ (p:Int) a))=_
  have c:(if d.jJ (p:Int) a=0 then sV (p+1) l (d.wr (p:Int) a) else (d.wr (p:Int) a,d.jJ (p:Int) a))=(d',0):=h
  by_cases b:d.jJ (p:Int) a=0
  ·rw[ab b] at c ⊢
   rw[FJ l (p+1) s _ d' c,an,show p+1+l.length=p+(l.length+1) by omega]
  ·rw[aa b] at c
   injection c with _ h2
   exact absurd h2 b
theorem GM:∀(l m:List aK) (p:Nat) (d d':Dk) (f:Int),sV p l d=(d',f)→f≠0→sV p (l++m) d=(d',f)
 | [],m,p,d,d',f,h,hf=>by
  injection h with _ h2
  exact absurd h2.symm hf
 | a::l,m,p,d,d',f,h,hf=>by
  show(if d.jJ (p:Int) a=0 then sV (p+1) (l++m) (d.wr (p:Int) a) else (d.wr (p:Int) a,d.jJ (p:Int) a))=_
  have b:(if d.jJ (p:Int) a=0 then sV (p+1) l (d.wr (p:Int) a) else (d.wr (p:Int) a,d.jJ (p:Int) a))=(d',f):=h
  by_cases c:d.jJ (p:Int) a=0
  ·rw[ab c] at b ⊢
   exact GM l m (p+1) _ d' f b hf
  ·rw[aa c] at b ⊢
   exact b
theorem mW.grown     (h:mW w W r0 r d)(m:w.heap.size≤B)(a:W.grownBy W' row)(c:∀k,row=some k→B≤k∧∃o:Obj,W.heap[k]?=some o∧o.isCells=false):mW w W' r0 r d:=
 ⟨h.dk.aP (mf a) (fun b hb e=>by
  obtain⟨cs,t,j,_⟩:=AL h.dk hb
  obtain⟨_,o,i,l⟩:=c b e
  rw[show W.heap[b]?=_ from j] at i
  cases i
  cases l),h.g,h.o.trans (mf a) (fun b hb e=>by have:=(c b e).1;omega),h.f⟩
theorem mW.box   (h:mW w W r0 r d) {t:TypeId} (a:Cs W b t cs)(c:yp≠t)(i:GR≠t)(j:xZ≠t)(k:w.heap.size≤b)(v:Value):mW w (W.setCell ⟨b,0,none⟩ v) r0 r d:=
 ⟨h.dk.aP ((al.refl (fun x=>x=b) W).at_ 0 v) (fun x hx e=>by subst e;exact jl h.dk a c i j hx),h.g,h.o.trans ((al.refl (fun x=>x=b) W).at_ 0 v) (fun x hx e=>by omega),h.f⟩
theorem Cs.grown  {g:Nat}{t:TypeId} (h:Cs W g t cs)(b:W.grownBy W' row)(c:∀k,row=some k→B≤k∧∃o:Obj,W.heap[k]?=some o∧o.isCells=false):Cs W' g t cs:=
 h.aP (mf b) fun e=>by
  obtain⟨_,o,a,d⟩:=c g e
  rw[show W.heap[g]?=_ from h] at a
  cases a
  cases d
theorem Vt.own   {b1 c f g i j:Nat}   (k:w.heap.size≤B):OwnFrom B (fun(pre:List Nat) W=>Vt w W r d q0 b1 b2 c f b6 g i j cap h' t pre):=fun pre W W' row h hg hr=>by
 obtain⟨⟨l,m,n,p⟩,c1,q,s,u,cs,v,x,a⟩:=h
 refine⟨⟨l,m,n.grown k hg hr,p⟩,c1.grown hg hr,q.grown hg hr,s.grown hg hr,u.grown hg hr,cs.grown hg hr,v.grown hg hr,x,?_⟩
 refine((mf hg).block b6 (bq.1 a).1 fun e=>?_).trans a
 obtain⟨_,o,b,y⟩:=hr b6 e
 rw[a] at b
 cases b
 cases y
theorem VF.own      (a:w.heap.size≤B)(c:Code):OwnFrom B (fun(pre:List Nat) W=>c=.ret∧VF w W r d q0 b2 t pre):=fun pre W W' row h hg hr=>by
 obtain⟨b,⟨e,g,f,i,j,k,l⟩⟩:=h
 exact⟨b,⟨e,g,f,i.grown a hg hr,j,k,l.grown hg hr⟩⟩
theorem H7(t:aK)(k:Nat):(pL t k).length=min 340 (t.length-340*k):=by simp[pL]
theorem Qy   {b:Nat×Nat}(c:W.heap[b6]?=some (.cells (bytesRow ⟨t.toArray⟩ cap) 5 b))(k:Nat):(convert 233 9 (Sa b6 t.length k)).run Tryz.prog W=.ok (S (pL t k)) W:=by
 have:=run_convert_bytes_back (P:=Tryz.prog) W 233 9 5 ⟨b6,340*k,none⟩ (min 340 (t.length-340*k)) (pL t k) Tryz.underlying233 Tryz.underlying5 Tryz.underlying9 (fun j hj=>by
  have a:=hj
  rw[H7] at a
  rw[pG,cell_of_row _ _ _ _ _ _ c,bytesRow_at _ _ _ (by simp;omega)]
  simp[pL])
 rw[H7] at this
 exact this
theorem gq.on {Z:pq}  (h:gq w Z r.g)(a:ef w r d)(o:al r.fp w W):gq W Z r.g:=
 ⟨h.cs.aP o (jl a h.cs (by decide) (by decide) (by decide)),h.lg.aP o (jl a h.lg (by decide) (by decide) (by decide)),cl h.own o fun g hg e=>by
  obtain⟨cur,b⟩:=fI h.own hg
  exact jl a b (by decide) (by decide) (by decide) e⟩
theorem gq.grown{W c:World}{Z:pq}{dg:Nat}{row:Option Nat}{B:Nat}(h:gq W Z dg)(a:W.grownBy c row)(b:∀k,row=some k→B≤k∧∃o:Obj,W.heap[k]?=some o∧o.isCells=false):gq c Z dg:=
 ⟨h.cs.grown a b,Cs.grown h.lg a b,cl h.own (mf a) fun g hx e=>by
  obtain⟨cur,f⟩:=fI h.own hx
  obtain⟨_,o,d,i⟩:=b g e
  rw[show W.heap[g]?=_ from f] at d
  cases d
  cases i⟩
def pq.fp(S:pq)(r:jZ)(b:Nat):Prop:=r.fp b∨b=S.g∨b=S.l.g
structure lP (w0 w:World) (S0:pq) (r0:jZ) (S:pq) (r:jZ) (d:Dk):Prop where
 dk:ef w r d
 g:r.g=r0.g
 st:gq w S r0.g
 sg:S.g=S0.g
 o:al (S0.fp r0) w0 w
 f:∀b,S.fp r b→S0.fp r0 b∨w0.heap.size≤b
theorem lP.of {Z a:pq}{c:jZ} (h:mW w W r c d)(j:gq W a r.g)(i:a.g=Z.g)(m:a.l.g=Z.l.g∨w.heap.size≤a.l.g):lP w W Z r a c d:=
 ⟨h.dk,h.g,j,i,h.o.gU fun b _ e=>.inl e,fun b hb=>by
  rcases hb with e|e|e
  ·rcases h.f b e with e|e
   ·exact .inl (.inl e)
   ·exact .inr e
  ·exact .inl (.inr (.inl (e.trans i)))
  ·rcases m with k|k
   ·exact .inl (.inr (.inr (e.trans k)))
   ·exact .inr (by rw[e];exact k)⟩
theorem EP {P:Program} {F:Fence} {n:Nat} {α:Type} {g:Operand} {r:Array Tmp} {b f:Code} {Q:Exit→Act→World→Prop} {a:Act}  (G:Array Value→α→Act)
  (s:F.round=none) (M:1≤n) {gf:Nat} {lb:Array Value} (O:a.eval g=.func (.func gf) #[] lb) (u:F.fn gf) (R:∀args w,(callFunc gf args).run P w=.ok (.enter gf args) w)
  {d:α→Array Value} {h:World→World→Prop} {S L:List α→Prop} {N:Nat} {w0:World} (m:SeqStopsK F (n-1) P gf lb d h S L N w0)
  (y:∀{A B C:World},h A B→h B C→h A C) (z:∀(W:World) (l:Nat) (o o':Obj),w.heap.size≤l→W.heap[l]?=some o→o.isCells=false→o.isWalk=false→h W (W.putObj l o')) (E:Below w0.heap.size w0 w) (H:∀x,(d x).size=r.size)
  (I:List α→World→Prop) (q:Code→List α→World→Prop) (T:OwnFrom w.heap.size I) (J:∀c,OwnFrom w.heap.size (q c)) (U:I [] w)
  (e:∀(l:Nat) (pre:List α) (x:α) (W:World) (K:Act→World→Prop),I pre W→(∀a' W',KeepsFrom w.heap.size W W'→h W W'→I pre W'→a'=G a.tmps x→K a' W') →
   b.wpIn (F.inRound l) (n-1-1) P (Exit.then K (fun _ _ _=>False)) { tmps:=(r.zip (d x)).foldl (fun t (p,v)=>t.setIfInBounds p v) a.tmps,defers:=[] } W)
  (i:∀(l:Nat) (pre:List α) (x:α) (W:World),I pre W→pre.length<N→f.wpIn (F.inRound l) (n-1-1) P (ownPostG w.heap.size h I q (pre++[x]) W) (G a.tmps x) W)
  (j:∀(D:Nat) (xs:List α) (W:World),w.heap.size≤D→S xs→I xs W→W.heap[D]?=some (.deferred (some []))→Q .normal { a with defers:={ target:=.collected D,args:=#[] }::a.defers } W)
  (k:∀(D:Nat) (c:Code) (pre:List α) (W:World),w.heap.size≤D→L pre→q c pre W→W.heap[D]?=some (.deferred (some []))→c.wpIn F n P Q { a with defers:={ target:=.collected D,args:=#[] }::a.defers } W) :
  (Code.rangeFunc g r b f).wpIn F n P Q a w:=
 wpIn_rangeFunc_ownH s M O u R m y z E H I q T J U (fun x a' _=>a'=G a.tmps x) (fun x a'=>ownFrom_pure _ _) e
  (fun l pre x a' W _ _ hi hax hlt=>by rw[hax];exact i l pre x W hi hlt) j k
theorem uQ     {R:Ending→World→Prop} (hK:W.heap[D]?=some (.deferred (some []))) (b:Cs W b2 RG #[eT f]) (c:tm.getD 2 undef=.pointer (some ⟨b2,0,none⟩))
  (d:R (.returned (eT f)) (W.putObj D (.deferred none))):bodyPostM Fence.wide 4 Tryz.prog Tryz.f110 R Exit.ret { tmps:=tm,defers:=[{ target:=.collected D,args:=#[] }] } W:=by
 refine⟨by simp,.inl ⟨_,_,rfl,run_takeDeferred hK,?_⟩⟩
 have g:(W.putObj D (.deferred none)).cell? ⟨b2,0,none⟩=some (eT f):=cell_kept (b.cell 0) (grownBy_putObj' _ D (.deferred none)) (fun r e=>by cases e;exact⟨_,hK,rfl⟩)
 refine⟨eT f,?_,d⟩
 have a:=c
 simp only[dr] at a
 simp[results,Tryz.f110,go_sem,g,a]
def R8(w:World)(Z:pq)(r:jZ)(d:Dk)(h':V7)(t:aK)(e:Ending)(w':World):Prop:=
 ∃d' f,AV h' t d=(d',f)∧e=.returned (eT f) ∧
  ∃Z' r',lP w w' Z r Z' r' d'∧Z'.rows=Z.rows∧(if f=0 then Z'.h=h'∧∃lg,Z'.l=⟨lg,44,d.now.length-44,Z.l.first+Z.l.many,(ee (Z.l.first+Z.l.many) ((d'.now.drop 44).take (d.now.length-44)) 0 [] [] 0).2⟩ else Z'.h=Z.h∧Z'.l=Z.l)
theorem DT {u:World} {Z:pq} {l:jZ} {i:Dk}      (q:gq w Z r.g) (s:ef w r d) (h:mW w u r l i) (v:w.heap.size≤D) (hK:u.heap[D]?=some (.deferred (some []))) (m:Cs u b2 RG #[.nilIface]) (j:w.heap.size≤b2)
  (n:f≠0) (x:AV h' t d=(i,f)) (y:tm.getD 2 undef=.pointer (some ⟨b2,0,none⟩)):bodyPostM Fence.wide 4 Tryz.prog Tryz.f110 (R8 w Z r d h' t) Exit.ret { tmps:=tm,defers:=[{ target:=.collected D,args:=#[] }] } (u.setCell ⟨b2,0,none⟩ (E f)):=by
 have a:=h.box m (by decide) (by decide) (by decide) j (E f)
 have b:=(KeepsOthers.setCell u ⟨b2,0,none⟩ (E f)).same _ _ hK rfl
 have p:=grownBy_putObj' (u.setCell ⟨b2,0,none⟩ (E f)) D (.deferred none)
 have c:∀k,some D=some k→w.heap.size≤k∧∃o:Obj,(u.setCell ⟨b2,0,none⟩ (E f)).heap[k]?=some o∧o.isCells=false:=fun k e=>by cases e;exact⟨v,_,b,rfl⟩
 refine uQ (f:=f) b (by rw[bS n];exact m.cM 0 (E f)) y ⟨i,f,x,rfl,Z,l,lP.of (a.grown (aq _) p c) ((q.on s a.o).grown p c) rfl (.inl rfl),rfl,?_⟩
 rw[aa n]
 exact⟨rfl,rfl⟩
theorem Pi  (hm:Ml w) {Z:pq}   (h:gq w Z r.g) (hd:ef w r d) (hw:∀s∈d.now,s.length=340) (h1:50≤d.now.length) (h2:d.now.length≤120) (e9:d.wait.length≤500) (fb:¬r.fp 0)
  (hl:Z.l.from_=44∧Z.l.many=d.now.length-44∧Z.l.first≤1000000000) (hh:Z.h.side≤1∧Z.h.bU≤1000000000) (hr:∀x∈Z.rows,x.1.length≤1000∧x.2.1.length≤1000) (fc:Z.rows.length≤1000) (ht:(eY Z.rows).length≤7140) :
  Calls Tryz.prog 110 #[pt Z.g] w (R8 w Z r d (lf Z.h Z.l (eY Z.rows)) (eY Z.rows)):=by
 have HS:=aj h
 have HD:=aj hd
 have HW:=aj hw
 have HM:=aj hm
 have ct:=aj (fun v (hv:bf w v)=>QK (c:=Z.c) (h.ext hv).sl fc hr)
 obtain⟨t,c7⟩:∃t,t=eY Z.rows:=⟨_,rfl⟩
 rw[←c7] at ht ct ⊢
 have HT:=aj c7
 obtain⟨a,c8⟩:∃a,a=lf Z.h Z.l t:=⟨_,rfl⟩
 rw[←c8]
 have HH:=aj c8
 have fd:Hd (∀v,bf w v→Calls Tryz.prog 164 #[pt Z.l.g] v fun e u=>e=.returned (.int .i64 ((Z.l.first+Z.l.many:Nat):Int))∧bf v u):=fun v hv=>Sw (h.lg.ext hv) (by have:=hl.2.1;omega) (by have:=hl.2.2;omega)
 have HL:=aj hl
 have c9:=aj hh
 clear h hd hw hm hr c7 c8 hl hh
 refine(callsIn_wide (n:=4)).1 ?_
 refine callsIn_of_wp_marks Tryz.func110 rfl trivial ?_ rfl
 simp only[Tryz.ntmps110,eE,an,bI,Nat.reduceAdd,Nat.reduceSub,fq,fx,gr,fH,cW,dV]
 refine wpIn_wide.2 ?_
 go_upto_region 1 with fail
 obtain⟨b1,b8⟩:∃x,x=w.heap.size:=⟨_,rfl⟩
 obtain⟨b2,b9⟩:∃x,x=w.heap.size+1:=⟨_,rfl⟩
 obtain⟨w1,bi⟩:∃v,v=(w.alloc (.cells #[pt Z.g] Vh)).alloc (.cells #[.nilIface] RG):=⟨_,rfl⟩
 have X1:Hd (bf w w1):=by rw[bi];exact((al.refl No w).alloc _).alloc _
 have B1:Hd (Cs w1 b1 Vh #[pt Z.g]):=by rw[bi,b8];exact(Cs.new _ _ _).alloc _
 have B2:Hd (Cs w1 b2 RG #[.nilIface]):=by
  rw[bi,b9]
  have:=Cs.new (w.alloc (.cells #[pt Z.g] Vh)) RG #[.nilIface]
  rw[World.size_alloc] at this
  exact this
 have HB:Hd (w.heap.size≤b1∧w.heap.size≤b2):=by rw[b8,b9];exact⟨aq _,fN _⟩
 rw[←bi,←b9,←b8]
 clear bi b8 b9
 have q1:w1.cell? ⟨b1,0,none⟩=some (pt Z.g):=B1.ou.cell 0
 have s6:w1.cell? ⟨Z.g,6,none⟩=some (.slice Z.A Z.rows.length Z.c):=(HS.ou.ext X1.ou).cs.cell 6
 go_wp2_with (refine dN ?_)
 refine(ct.ou w1 X1.ou).mono ?_
 rintro e w2 ⟨rfl,hu⟩
 have X2:=aj (X1.ou.ae hu)
 have C1:=aj (B1.ou.aP hu id)
 have C2:=aj (B2.ou.aP hu id)
 clear hu q1 s6 X1 B1 B2
 go_upto_region 2 with fail
 have gc:=c9.ou.2
 have gk:=c9.ou.1
 have ca:Hd (a=⟨Z.h.bU+1,1-Z.h.side,t.length,Z.l.first+Z.l.many⟩):=HH.ou
 go_cut [4] from 16 to 5 (fun v u=>∃B,v=pt B∧Cs u B o6 a.cells∧bf w2 u∧w2.heap.size≤B)
 case first=>
  have Q1:∀ξ:X w2 No,ξ.v.cell? ⟨b1,0,none⟩=some (pt Z.g):=Cs.x C1.ou id 0
  have Q2:∀ξ:X w2 No,ξ.v.cell? ⟨Z.g,1,none⟩=some (.int .i64 (Z.h.bU:Nat)):=Cs.x (HS.ou.ext X2.ou).cs id 1
  have Q3:∀ξ:X w2 No,ξ.v.cell? ⟨Z.g,2,none⟩=some (.int .i64 (Z.h.side:Nat)):=Cs.x (HS.ou.ext X2.ou).cs id 2
  have Q4:∀ξ:X w2 No,ξ.v.cell? ⟨Z.g,5,none⟩=some (pt Z.l.g):=Cs.x (HS.ou.ext X2.ou).cs id 5
  have cu:=fd.ou
  have gl:t.length≤7140:=ht
  have ff:Hd (((1:Int)-(Z.h.side:Int))=((1-Z.h.side:Nat):Int)):=by have:=c9.ou.1;show _=_;omega
  have fg:Hd (((Z.h.bU:Int)+1)=((Z.h.bU+1:Nat):Int)):=by show _=_;omega
  refine uE 22 [18,20,21] (Cl w2 No) rfl (by kernel_rfl) (by kernel_rfl) (Cl.eU (X.here w2 No)) ?_
  obtain⟨μ0,ak⟩:∃u,u=w2.drew:=⟨_,rfl⟩
  have xμ:bf w2 μ0:=by rw[ak];exact(al.refl No w2).drew
  rw[←ak]
  clear ak
  (refine bW (i:=0) (by kernel_rfl) rfl rfl rfl rfl ?_;intro K hK;go_big_quiet_op;go_big_quiet_on);(refine bW (i:=1) (by kernel_rfl) rfl rfl rfl rfl ?_;intro K hK;go_big_quiet_op;go_big_quiet_on);(refine bW (i:=2) (by kernel_rfl) rfl rfl rfl rfl ?_;intro K hK;go_big_quiet_op;go_big_quiet_on);(refine bW (i:=3) (by kernel_rfl) rfl rfl rfl rfl ?_;intro K hK;go_big_quiet_op;go_big_quiet_on);(refine bW (i:=4) (by kernel_rfl) rfl rfl rfl rfl ?_;intro K hK;go_big_quiet_op;go_big_quiet_on);(refine bW (i:=5) (by kernel_rfl) rfl rfl rfl rfl ?_;intro K hK;go_big_quiet_op;go_big_quiet_on);(refine bW (i:=6) (by kernel_rfl) rfl rfl rfl rfl ?_;intro K hK;go_big_quiet_op;go_big_quiet_on);(refine bW (i:=7) (by kernel_rfl) rfl rfl rfl rfl ?_;intro K hK;go_big_quiet_op;go_big_quiet_on);(refine bW (i:=8) (by kernel_rfl) rfl rfl rfl rfl ?_;intro K hK;go_big_quiet_op;go_big_quiet_on);(refine bW (i:=9) (by kernel_rfl) rfl rfl rfl rfl ?_;intro K hK;go_big_quiet_op;go_big_quiet_on);(refine bW (i:=10) (by kernel_rfl) rfl rfl rfl rfl ?_;intro K hK;go_big_quiet_op;go_big_quiet_on);(refine bW (i:=11) (by kernel_rfl) rfl rfl rfl rfl ?_;intro K hK;go_big_quiet_op;go_big_quiet_on);(refine bW (i:=12) (by kernel_rfl) rfl rfl rfl rfl ?_;intro K hK;go_big_quiet_op;go_big_quiet_on);(refine bW (i:=13) (by kernel_rfl) rfl rfl rfl rfl ?_;intro K hK;go_big_quiet_op;go_big_quiet_on);(refine bW (i:=14) (by kernel_rfl) rfl rfl rfl rfl ?_;intro K hK;go_big_quiet_op;go_big_quiet_on);(refine bW (i:=15) (by kernel_rfl) rfl rfl rfl rfl ?_;intro K hK;go_big_quiet_op;go_big_quiet_on);(refine bW (i:=16) (by kernel_rfl) rfl rfl rfl rfl ?_;intro K hK;go_big_quiet_op;go_big_quiet_on);(refine bW (i:=17) (by kernel_rfl) rfl rfl rfl rfl ?_;intro K hK;go_big_quiet_op;go_big_quiet_on)
  rw[ff.ou,fg.ou]
  refine pP (i:=18) (j:=20) (by kernel_rfl) (by kernel_rfl) rfl rfl rfl rfl rfl rfl ?_ ?_
  ·intro K hK
   go_simp
   refine(cu μ0 (X2.ou.ae xμ)).mono ?_
   rintro e u3 ⟨rfl,hu⟩
   have x3:=xμ.ae hu
   refine⟨_,rfl,hK _ _ (Cl.of x3) ?_⟩
   clear hK K hu
   refine bj ?_
   (refine bW (i:=19) (by kernel_rfl) rfl rfl rfl rfl ?_;intro K hK;go_big_quiet_op;go_big_quiet_on)
   (refine gB (i:=20) (by kernel_rfl) (by kernel_rfl) rfl rfl rfl ?_;intro K hK;go_simp)
   obtain⟨B,T⟩:∃x,x=u3.heap.size:=⟨_,rfl⟩
   obtain⟨J,U⟩:∃v,v=u3.alloc (.cells #[.int .i64 0,.int .i64 0,.int .i64 0,.int .i64 0] o6):=⟨_,rfl⟩
   have C:Cs J B o6 #[.int .i64 0,.int .i64 0,.int .i64 0,.int .i64 0]:=by rw[U,T];exact Cs.new _ _ _
   have x4:bf w2 J:=by rw[U];exact x3.alloc _
   have L:w2.heap.size≤B:=by rw[T];exact x3.size
   rw[←U,←T]
   refine hK _ _ (Cl.of x4) ?_
   clear hK K U T
   refine bj ?_
   have y0:=C.frozen 0
   have y1:=C.frozen 1
   have y2:=C.frozen 2
   have y3:=C.frozen 3
   have c0:J.cell? ⟨B,0,none⟩=some (.int .i64 0):=C.cell 0
   have c1:J.cell? ⟨B,1,none⟩=some (.int .i64 0):=C.cell 1
   have c2:J.cell? ⟨B,2,none⟩=some (.int .i64 0):=C.cell 2
   have c3:J.cell? ⟨B,3,none⟩=some (.int .i64 0):=C.cell 3
   (refine gB (i:=21) (by kernel_rfl) (by kernel_rfl) rfl rfl rfl ?_;intro K hK;go_simp)
   have dc:=po C (.int .i64 (Z.h.bU+1:Nat)) (.int .i64 (1-Z.h.side:Nat)) (.int .i64 (t.length:Nat)) (.int .i64 (Z.l.first+Z.l.many:Nat))
   have x5:=o7 x4 L (.int .i64 (Z.h.bU+1:Nat)) (.int .i64 (1-Z.h.side:Nat)) (.int .i64 (t.length:Nat)) (.int .i64 (Z.l.first+Z.l.many:Nat))
   refine hK _ _ (Cl.of x5) ?_
   clear hK K y0 y1 y2 y3 c0 c1 c2 c3
   refine bj ?_
   refine lE ?_
   go_wp2_with fail
   go_meet
   exact⟨B,rfl,by rw[ca.ou];exact dc,x5,L⟩
  ·intro K hK
   go_simp
   obtain⟨B,T⟩:∃x,x=μ0.heap.size:=⟨_,rfl⟩
   obtain⟨J,U⟩:∃v,v=μ0.alloc (.cells #[.int .i64 0,.int .i64 0,.int .i64 0,.int .i64 0] o6):=⟨_,rfl⟩
   have C:Cs J B o6 #[.int .i64 0,.int .i64 0,.int .i64 0,.int .i64 0]:=by rw[U,T];exact Cs.new _ _ _
   have x4:bf w2 J:=by rw[U];exact xμ.alloc _
   have L:w2.heap.size≤B:=by rw[T];exact xμ.size
   rw[←U,←T]
   refine hK _ _ (Cl.of x4) ?_
   clear hK K U T
   refine bj ?_
   refine gB (i:=18) (by kernel_rfl) (by kernel_rfl) rfl rfl rfl ?_
   intro K hK
   go_simp
   refine(cu J (X2.ou.ae x4)).mono ?_
   rintro e u5 ⟨rfl,hu⟩
   have x5:=x4.ae hu
   have G:=C.aP hu id
   refine⟨_,rfl,hK _ _ (Cl.of x5) ?_⟩
   clear hK K hu
   refine bj ?_
   (refine bW (i:=19) (by kernel_rfl) rfl rfl rfl rfl ?_;intro K hK;go_big_quiet_op;go_big_quiet_on)
   have y0:=G.frozen 0
   have y1:=G.frozen 1
   have y2:=G.frozen 2
   have y3:=G.frozen 3
   have c0:u5.cell? ⟨B,0,none⟩=some (.int .i64 0):=G.cell 0
   have c1:u5.cell? ⟨B,1,none⟩=some (.int .i64 0):=G.cell 1
   have c2:u5.cell? ⟨B,2,none⟩=some (.int .i64 0):=G.cell 2
   have c3:u5.cell? ⟨B,3,none⟩=some (.int .i64 0):=G.cell 3
   (refine gB (i:=21) (by kernel_rfl) (by kernel_rfl) rfl rfl rfl ?_;intro K hK;go_simp)
   have dc:=po G (.int .i64 (Z.h.bU+1:Nat)) (.int .i64 (1-Z.h.side:Nat)) (.int .i64 (t.length:Nat)) (.int .i64 (Z.l.first+Z.l.many:Nat))
   have x6:=o7 x5 L (.int .i64 (Z.h.bU+1:Nat)) (.int .i64 (1-Z.h.side:Nat)) (.int .i64 (t.length:Nat)) (.int .i64 (Z.l.first+Z.l.many:Nat))
   refine hK _ _ (Cl.of x6) ?_
   clear hK K y0 y1 y2 y3 c0 c1 c2 c3
   refine bj ?_
   refine lE ?_
   go_wp2_with fail
   go_meet
   exact⟨B,rfl,by rw[ca.ou];exact dc,x6,L⟩
 case rest=>
  obtain⟨B,hv,C,cb,L⟩:=hcut
  subst hv
  have X3:=aj (X2.ou.ae cb)
  have H4:=aj C
  have D1:=aj (C1.ou.aP cb id)
  have D2:=aj (C2.ou.aP cb id)
  have gm:Hd (w.heap.size≤B∧B≠b1∧B≠b2):=by
   have k1:=D1.ou.oC C (by decide)
   have k2:=D2.ou.oC C (by decide)
   exact⟨aJ X2.ou.size L,k1.symm,k2.symm⟩
  clear C cb L C1 C2 X2
  go_upto_region 4 with fail
  obtain⟨b5,cc⟩:∃x,x=wc.heap.size:=⟨_,rfl⟩
  obtain⟨w5,am⟩:∃v,v=wc.alloc (.cells #[.int .i64 0] 3):=⟨_,rfl⟩
  have X5:Hd (bf w w5):=by rw[am];exact X3.ou.alloc _
  have E1:Hd (Cs w5 b1 Vh #[pt Z.g]):=by rw[am];exact D1.ou.alloc _
  have E2:Hd (Cs w5 b2 RG #[.nilIface]):=by rw[am];exact D2.ou.alloc _
  have E4:Hd (Cs w5 B o6 a.cells):=by rw[am];exact H4.ou.alloc _
  have E5:Hd (Cs w5 b5 3 #[.int .i64 0]):=by rw[am,cc];exact Cs.new _ _ _
  have fm:Hd (w.heap.size≤b5):=by rw[cc];exact X3.ou.size
  rw[←am,←cc]
  clear am cc X3 H4 D1 D2
  obtain⟨cap,cx⟩:∃cap,cap=grownCap w5 (⟨t.toArray⟩:ByteArray).size 0 5:=⟨_,rfl⟩
  have h1:=run_bytes_of_string (P:=Tryz.prog) w5 9 233 5 ⟨t.toArray⟩ Tryz.underlying9 Tryz.underlying233 Tryz.underlying5
  have ao:=grownCap_ge w5 (⟨t.toArray⟩:ByteArray).size 0 5
  have ap:=grownCap_le_maxLen w5 (⟨t.toArray⟩:ByteArray).size 0 5 (by show t.length≤_;unfold maxLen;omega)
  rw[←cx] at h1 ao ap
  obtain⟨w6,bk⟩:∃W,W=w5.drew.alloc (.cells (bytesRow ⟨t.toArray⟩ cap) 5 ((bytesRow ⟨t.toArray⟩ cap).size,(bytesRow ⟨t.toArray⟩ cap).size+1)):=⟨_,rfl⟩
  obtain⟨R,a5⟩:∃x,x=w5.heap.size:=⟨_,rfl⟩
  rw[←bk,←a5] at h1
  have fn:(convert 9 233 (S t)).run Tryz.prog w5=.ok (.slice (some ⟨R,0,none⟩) t.length cap) w6:=h1
  have fo:Hd (∃fz,w6.heap[R]?=some (.cells (bytesRow ⟨t.toArray⟩ cap) 5 fz)):=⟨_,by rw[bk,a5];exact heap_alloc_new w5.drew _⟩
  have ei:Hd (b5<R):=by rw[a5];exact E5.ou.lt
  have x6:bf w5 w6:=by rw[bk];exact(al.refl No w5).drew.alloc _
  have fr:Hd (w.heap.size≤R∧R<w6.heap.size):=⟨by rw[a5];exact X5.ou.size,by rw[a5,bk];simp⟩
  have cy:Hd (t.length≤cap∧cap≤maxLen):=⟨ao,ap⟩
  clear cx bk a5 h1 ao ap
  have ej:=(callsIn_wide (n:=3)).1 (MY 3 R t.length cap w6)
  go_wp2_with (refine dN ?_)
  refine ej.mono ?_
  rintro e w7 ⟨rfl,fs⟩
  refine cS ?_
  obtain⟨Bs,dd⟩:∃x,x=w6.heap.size:=⟨_,rfl⟩
  obtain⟨Bn,de⟩:∃x,x=w6.heap.size+1:=⟨_,rfl⟩
  obtain⟨w8,bn⟩:∃v,v=(w6.alloc (.cells #[.slice (some ⟨R,0,none⟩) t.length cap] 233)).alloc (.cells #[.int .i64 340] 3):=⟨_,rfl⟩
  have ek:bf w6 w8:=by rw[bn];exact((al.refl No w6).alloc _).alloc _
  have bo:Cs w8 Bs 233 #[.slice (some ⟨R,0,none⟩) t.length cap]:=by rw[bn,dd];exact(Cs.new _ _ _).alloc _
  have bp:Cs w8 Bn 3 #[.int .i64 340]:=by
   rw[bn,de]
   have:=Cs.new (w6.alloc (.cells #[.slice (some ⟨R,0,none⟩) t.length cap] 233)) 3 #[.int .i64 340]
   rw[World.size_alloc] at this
   exact this
  have av:=x6.ae ek
  have ft:Hd (w6.heap.size≤Bs∧w6.heap.size≤Bn):=⟨by omega,by omega⟩
  rw[←bn,←de,←dd]
  clear bn de dd fn fs ej
  obtain⟨q0,em⟩:∃q,q=2+a.side*21:=⟨_,rfl⟩
  have bs:=aj em
  clear em
  have I0:Vt w w8 r d q0 b1 b2 B b5 R Bs Bn Z.g cap a t []:=⟨⟨r,d,(mW.start HD.ou).ext (X5.ou.ae av),rfl,e9⟩,E1.ou.aP av id,E2.ou.aP av id,E4.ou.aP av id,E5.ou.aP av id,bo,bp,by obtain⟨fz,hf⟩:=fo.ou;exact⟨fz,(ek.block R fr.ou.2 id).trans hf⟩⟩
  have O:w.heap.size≤w8.heap.size:=(X5.ou.ae av).size
  have ac:b5≠b1∧b5≠b2∧b5≠B∧b5<w8.heap.size∧Bs≠b5∧Bn≠b5∧R≠b5:=by
   have k1:=E5.ou.oC E1.ou (by decide)
   have k2:=E5.ou.oC E2.ou (by decide)
   have k3:=E5.ou.oC E4.ou (by decide)
   have k4:=E5.ou.lt
   have k5:=x6.size
   have k6:=ft.ou
   have k7:=av.size
   have k8:=E5.ou.lt
   exact⟨k1,k2,k3,by omega,by omega,by omega,by have:=ei.ou;omega⟩
  refine(wpIn_wide (n:=3)).1 ?_
  refine EP (F:=Fence.wide) (n:=3) (fun tm (x:Nat)=>{ tmps:=(tm.setIfInBounds 39 (Sa R t.length x)).setIfInBounds 6 (Sa R t.length x),defers:=[] }) rfl (by omega) (gf:=QJ) (lb:=#[.pointer (some ⟨Bs,0,none⟩),.pointer (some ⟨Bn,0,none⟩)]) rfl trivial (enters_of Tryz.func207 (by kernel_rfl) rfl)
   (FE 2 (by omega) Bs Bn R t.length cap cy.ou.1 cy.ou.2 (by omega) w8 (bo.cell 0) (bp.cell 0)) Qd.trans
   (fun W l o o' hl _ _ _=>⟨World.cell?_of_block (World.putObj_heap_other (by have:=bo.lt;dsimp only;omega)),World.cell?_of_block (World.putObj_heap_other (by have:=bp.lt;dsimp only;omega))⟩) (Below.refl _ _) (fun _=>rfl)
   (fun z W=>Vt w W r d q0 b1 b2 B b5 R Bs Bn Z.g cap a t z) (fun c z W=>c=.ret∧VF w W r d q0 b2 t z) (Vt.own O) (VF.own O) I0 ?assign ?body ?done ?stop_
  case assign=>
   rintro l z x W K hI hK
   gi_wp2
   exact hK _ _ (KeepsFrom.refl _ _) ⟨rfl,rfl⟩ hI rfl
  case body=>
   rintro l z x W hI hlt
   have HI:=aj hI
   obtain⟨⟨r',d',y,ag,en⟩,c1,c2,c4,c5,cs,cn,fz,M⟩:=hI
   have gn:z.length≤30:=by unfold yl at hlt;omega
   have n1:=jl y.dk c1 (by decide) (by decide) (by decide)
   have n4:=jl y.dk c4 (by decide) (by decide) (by decide)
   have n5:=jl y.dk c5 (by decide) (by decide) (by decide)
   have cz:Cs W Z.g nC (Z.cells r.g):=HS.ou.cs.aP y.o (jl HD.ou HS.ou.cs (by decide) (by decide) (by decide))
   have nz:=jl y.dk cz (by decide) (by decide) (by decide)
   have n6:¬r'.fp R:=fun e=>by
    obtain⟨Q,t',hc,fu⟩:=AL y.dk e
    rw[show W.heap[R]?=_ from hc] at M
    cases M
    revert fu
    decide
   have Q1:∀ξ:X W r'.fp,ξ.v.cell? ⟨b1,0,none⟩=some (pt Z.g):=Cs.x c1 n1 0
   have Q2:∀ξ:X W r'.fp,ξ.v.cell? ⟨Z.g,0,none⟩=some (pt r.g):=Cs.x cz nz 0
   have Q3:∀ξ:X W r'.fp,ξ.v.cell? ⟨B,1,none⟩=some (.int .i64 (a.side:Nat)):=Cs.x c4 n4 1
   have Q4:∀ξ:X W r'.fp,ξ.v.cell? ⟨b5,0,none⟩=some (.int .i64 (z.length:Nat)):=Cs.x c5 n5 0
   have Q5:∀ξ:X W r'.fp,(convert 233 9 (Sa R t.length x)).run Tryz.prog ξ.v=.ok (S (pL t x)) ξ.v:=fun ξ=>Qy ((ξ.h.block R (bq.1 M).1 n6).trans M) x
   have fv:=H7 t x
   have a6:Hd (∀v,bf W v→Calls Tryz.prog 107 #[pt r.g,.int .i64 ((2:Int)+(a.side:Int)*21+(z.length:Int)),S (pL t x)] v (mY v r' (d'.wr ((q0+z.length:Nat):Int) (pL t x)) (eT (d'.jJ ((q0+z.length:Nat):Int) (pL t x))))):=fun v hv=>by
    have:=oS (y.dk.ext hv) ((q0+z.length:Nat):Int) (pL t x) (by omega) (by omega)
    rw[y.g] at this
    rw[show(2:Int)+(a.side:Int)*21+(z.length:Int)=((q0+z.length:Nat):Int) by have:=bs.ou;omega]
    exact this
   have fw:a.side≤1:=by rw[ca.ou];show 1-Z.h.side≤1;omega
   simp only[ax,aR,aS]
   obtain⟨tx,a7⟩:∃s,s=pL t x:=⟨_,rfl⟩
   rw[←a7] at Q5 a6
   have ep:=aj a7
   obtain⟨V,hV⟩:∃V,V=Sa R t.length x:=⟨_,rfl⟩
   rw[←hV] at Q5 ⊢
   clear a7 hV fv
   gi_wp2
   refine CR [12] 100 (Cl W r'.fp) (by kernel_rfl) (by kernel_rfl) (Cl.eU (X.here W r'.fp)) ?_
   refine bK ?_
   (refine bQ ?_;intro K hK)
   refine(a6.ou _ (al.refl No W).drew).mono ?_
   intro e u3 aD
   obtain⟨rfl,r3,a8⟩:=(y.ext (al.refl No W).drew).step aD
   have o3:al r'.fp W u3:=(al.any (al.refl No W).drew).trans aD.2.choose_spec.2.2.1 fun _ _ e=>e
   refine⟨_,rfl,hK _ _ (fun _=>Cl.of o3) ?_⟩
   clear hK K aD a6 Q1 Q2 Q3 Q4 Q5
   refine bj ?_
   refine bK ?_
   refine ar ?_
   have kO:KeepsOthers W u3:=nD o3 fun b M=>by
    obtain⟨Q,t',hc,_⟩:=AL y.dk M
    exact⟨Q,t',hc⟩
   have n2:=jl y.dk c2 (by decide) (by decide) (by decide)
   have d1:=c1.aP o3 n1
   have d2:=c2.aP o3 n2
   have d4:=c4.aP o3 n4
   have d5:=c5.aP o3 n5
   have ds:=cs.aP o3 (jl y.dk cs (by decide) (by decide) (by decide))
   have dn:=cn.aP o3 (jl y.dk cn (by decide) (by decide) (by decide))
   have db:=(o3.block R (bq.1 M).1 n6).trans M
   have bu:=FJ _ _ tx _ _ ag
   rw[bH,ep.ou] at bu
   have er:(z++[x]).map (pL t)=z.map (pL t)++[pL t x]:=by simp
   rw[←er,←ep.ou] at bu
   have es:(d'.wr ((q0+z.length:Nat):Int) tx).wait.length≤500+(z++[x]).length:=by
    have:=oa d' ((q0+z.length:Nat):Int) tx
    rw[af,bE];omega
   obtain⟨f,hf⟩:∃f,f=d'.jJ ((q0+z.length:Nat):Int) tx:=⟨_,rfl⟩
   rw[←hf] at bu ⊢
   have et:=aj bu
   have HK:=aj kO
   have ev:=aj a8
   have f4:=aj es
   clear bu kO a8 es hf ag y c1 c2 c4 c5
   by_cases I:f=0
   ·subst I
    rw[cO]
    have q5:u3.cell? ⟨b5,0,none⟩=some (.int .i64 (z.length:Nat)):=d5.cell 0
    have z5:=d5.frozen 0
    gi_wp2
    have e5:Cs (u3.setCell ⟨b5,0,none⟩ (.int .i64 ((z.length:Int)+1))) b5 3 #[.int .i64 ((z++[x]).length:Nat)]:=by
     have:=d5.cM 0 (.int .i64 ((z.length:Int)+1))
     simp only[ax,aS] at this
     rw[af,bE,show((z.length+1:Nat):Int)=(z.length:Int)+1 by omega]
     exact this
    refine⟨(HK.ou.trans (KeepsOthers.setCell _ _ _)).from _,⟨?_,?_⟩,⟨⟨r3,_,ev.ou.box d5 (by decide) (by decide) (by decide) fm.ou _,et.ou,f4.ou⟩,d1.far ac.1.symm _,d2.far ac.2.1.symm _,d4.far ac.2.2.1.symm _,e5,ds.far ac.2.2.2.2.1 _,dn.far ac.2.2.2.2.2.1 _,fz,(Below.heap_setCell _ _ _ _ ac.2.2.2.2.2.2).trans db⟩⟩
    ·exact((ds.far (p:=⟨b5,0,none⟩) ac.2.2.2.2.1 _).cell 0).trans (cs.cell 0).symm
    ·exact((dn.far (p:=⟨b5,0,none⟩) ac.2.2.2.2.2.1 _).cell 0).trans (cn.cell 0).symm
   ·rw[bS I]
    have q2:u3.cell? ⟨b2,0,none⟩=some .nilIface:=d2.cell 0
    have z2:=d2.frozen 0
    gi_wp2
    refine⟨(HK.ou.trans (KeepsOthers.setCell _ _ _)).from _,rfl,⟨r3,_,f,ev.ou.box d2 (by decide) (by decide) (by decide) HB.ou.2 _,et.ou,I,?_⟩⟩
    rw[bS I]
    exact d2.cM 0 (E f)
  case done=>
   rintro D xs W hD rfl hI hK
   have ex:(List.range (yl t.length)).map (pL t)=ru t:=rfl
   obtain⟨⟨r',d',y,ag,en⟩,c1,c2,c4,-,-,-,-⟩:=hI
   rw[ex] at ag
   have H:gq W Z r.g:=HS.ou.on HD.ou y.o
   have q1:W.cell? ⟨b1,0,none⟩=some (pt Z.g):=c1.cell 0
   have q2:W.cell? ⟨Z.g,0,none⟩=some (pt r.g):=H.cs.cell 0
   have hF:=qQ y.dk
   rw[y.g] at hF
   go_wp2_with (refine dN ?_)
   refine hF.mono ?_
   intro e u1 dj
   obtain⟨rfl,r1,dl⟩:=y.step dj
   have o1:al r'.fp W u1:=dj.2.choose_spec.2.2.1
   have K1:u1.heap[D]?=some (.deferred (some [])):=(nD o1 fun b M=>by obtain⟨Q,t',hc,_⟩:=AL y.dk M;exact⟨Q,t',hc⟩).same _ _ hK rfl
   have n1:=jl y.dk c1 (by decide) (by decide) (by decide)
   have n2:=jl y.dk c2 (by decide) (by decide) (by decide)
   have n4:=jl y.dk c4 (by decide) (by decide) (by decide)
   have a1:=c1.aP o1 n1
   have a2:=c2.aP o1 n2
   have a4:=c4.aP o1 n4
   have ce:sV q0 (ru t) d=(d',0):=ag
   have f5:d'.fl.wait.length≤600:=by
    have h3:=qu d'
    have h4:(List.range (yl t.length)).length≤30:=by rw[fD];unfold yl;omega
    omega
   obtain⟨d1,bv⟩:∃x,x=d'.fl:=⟨_,rfl⟩
   obtain⟨f1,dt⟩:∃x,x=d'.oK:=⟨_,rfl⟩
   rw[←dt]
   rw[←bv] at dl f5
   have cf:=aj ce
   have a0:=aj bv
   have dA:=aj dt
   have D1:=aj dl
   have dT:=aj K1
   have A1:=aj a1
   have A2:=aj a2
   have A4:=aj a4
   have eL:Hd (∀f0:Int,f1≠0→AV a t d=(d1,f1)):=fun _ hf=>by
    unfold AV
    rw[←bs.ou,cf.ou,aa (by simp),←dA.ou,←a0.ou,ab hf]
   clear ce bv dt dl K1 a1 a2 a4 dj o1 y c1 c2 c4 H q1 q2 hF ag
   by_cases I:f1=0
   ·subst I
    rw[cO]
    have a9:Hd (∀f0:Int,d1.jJ ((a.bU%2:Nat):Int) (pM a)≠0→AV a t d=(d1.wr ((a.bU%2:Nat):Int) (pM a),d1.jJ ((a.bU%2:Nat):Int) (pM a))):=fun _ hf=>by
     unfold AV
     rw[←bs.ou,cf.ou,aa (by simp),←dA.ou,←a0.ou,aa (by simp),ab hf]
    have bb:Hd (d1.jJ ((a.bU%2:Nat):Int) (pM a)=0→AV a t d=((d1.wr ((a.bU%2:Nat):Int) (pM a)).fl,(d1.wr ((a.bU%2:Nat):Int) (pM a)).oK)):=fun hf=>by
     unfold AV
     rw[←bs.ou,cf.ou,aa (by simp),←dA.ou,←a0.ou,aa (by simp),aa (by rw[hf];simp)]
    have bw:=aj (fun v=>Ke a v)
    have f6:=tL a
    obtain⟨tx,a7⟩:∃x,x=pM a:=⟨_,rfl⟩
    rw[←a7] at a9 bb bw f6
    clear a7 eL
    go_upto_region 12 with fail
    have m1:=jl D1.ou.dk A1.ou (by decide) (by decide) (by decide)
    have m4:=jl D1.ou.dk A4.ou (by decide) (by decide) (by decide)
    have H:gq u1 Z r.g:=HS.ou.on HD.ou D1.ou.o
    have mz:=jl D1.ou.dk H.cs (by decide) (by decide) (by decide)
    have Q1:∀ξ:X u1 r1.fp,ξ.v.cell? ⟨b1,0,none⟩=some (pt Z.g):=Cs.x A1.ou m1 0
    have Q2:∀ξ:X u1 r1.fp,ξ.v.cell? ⟨Z.g,0,none⟩=some (pt r.g):=Cs.x H.cs mz 0
    have Q3:∀ξ:X u1 r1.fp,ξ.v.cell? ⟨B,0,none⟩=some (.int .i64 (a.bU:Nat)):=Cs.x A4.ou m4 0
    have Q4:∀ξ:X u1 r1.fp,ξ.v.cell? ⟨B,1,none⟩=some (.int .i64 (a.side:Nat)):=Cs.x A4.ou m4 1
    have Q5:∀ξ:X u1 r1.fp,ξ.v.cell? ⟨B,2,none⟩=some (.int .i64 (a.size:Nat)):=Cs.x A4.ou m4 2
    have Q6:∀ξ:X u1 r1.fp,ξ.v.cell? ⟨B,3,none⟩=some (.int .i64 (a.first:Nat)):=Cs.x A4.ou m4 3
    refine aV [8,9] 100 (Cl u1 r1.fp) (by kernel_rfl) (by kernel_rfl) (Cl.eU (X.here u1 r1.fp)) ?_
    refine bK ?_
    (refine bQ ?_;intro K hK)
    refine(bw.ou _).mono ?_
    rintro e u2 ⟨rfl,hu⟩
    have y2:bf u1 u2:=(al.refl No u1).drew.ae hu
    refine⟨_,rfl,hK _ _ (fun _=>Cl.of y2.any) ?_⟩
    clear hK K hu
    refine bj ?_
    refine bK ?_
    have a6:Calls Tryz.prog 107 #[pt r.g,.int .i64 ((a.bU:Int)%2),S tx] u2 (mY u2 r1 (d1.wr ((a.bU%2:Nat):Int) tx) (eT (d1.jJ ((a.bU%2:Nat):Int) tx))):=by
     have:=oS (D1.ou.ext y2).dk ((a.bU%2:Nat):Int) tx (by omega) (by omega)
     rw[D1.ou.g] at this
     exact this
    (refine bQ ?_;intro K hK)
    refine a6.mono ?_
    intro e u3 aD
    obtain⟨rfl,r3,a8⟩:=(D1.ou.ext y2).step aD
    have o3:al r1.fp u1 u3:=(al.any y2).trans aD.2.choose_spec.2.2.1 fun _ _ e=>e
    refine⟨_,rfl,hK _ _ (fun _=>Cl.of o3) ?_⟩
    clear hK K aD a6 Q1 Q2 Q3 Q4 Q5 Q6
    refine bj ?_
    refine bK ?_
    refine ar ?_
    have bx:Hd ((∀s∈d1.now,s.length=340)∧d1.now.length=d.now.length):=by
     have k1:=GO (ru t) q0 d (Mt t) HW.ou
     have k2:=JI (ru t) q0 d
     rw[cf.ou] at k1 k2
     rw[Hd,a0.ou,JE]
     exact⟨k1,k2⟩
    have K3:Hd (u3.heap[D]?=some (.deferred (some []))):=(nD o3 fun b M=>by obtain⟨Q,t',hc,_⟩:=AL D1.ou.dk M;exact⟨Q,t',hc⟩).same _ _ dT.ou rfl
    have ch:=aj (A1.ou.aP o3 m1)
    have bc:=aj (A2.ou.aP o3 (jl D1.ou.dk A2.ou (by decide) (by decide) (by decide)))
    have d0:=aj (A4.ou.aP o3 m4)
    have e0:=oa d1 ((a.bU%2:Nat):Int) tx
    have bz:Hd ((∀s∈(d1.wr ((a.bU%2:Nat):Int) tx).now,s.length=340)∧(d1.wr ((a.bU%2:Nat):Int) tx).now.length=d.now.length):=⟨Jm bx.ou.1 _ (by omega),(Dc _ _ _).trans bx.ou.2⟩
    obtain⟨d3,cA⟩:∃x,x=d1.wr ((a.bU%2:Nat):Int) tx:=⟨_,rfl⟩
    obtain⟨f2,ai⟩:∃x,x=d1.jJ ((a.bU%2:Nat):Int) tx:=⟨_,rfl⟩
    rw[←ai] at a9 bb ⊢
    rw[←cA] at a9 bb a8 e0 bz
    have D3:=aj a8
    clear a8 cA ai o3 y2 H mz m1 m4 bw A1 A2 A4 dT D1 bx
    by_cases ai:f2=0
    ·have bd:=aj (bb.ou ai)
     subst ai
     rw[cO]
     have H:gq u3 Z r.g:=HS.ou.on HD.ou D3.ou.o
     have q1:u3.cell? ⟨b1,0,none⟩=some (pt Z.g):=ch.ou.cell 0
     have q2:u3.cell? ⟨Z.g,0,none⟩=some (pt r.g):=H.cs.cell 0
     have hF:=qQ D3.ou.dk
     rw[D3.ou.g] at hF
     clear a9 bb
     go_wp2_with (refine dN ?_)
     refine hF.mono ?_
     intro e J d6
     obtain⟨rfl,r4,d7⟩:=D3.ou.step d6
     have o4:al r3.fp u3 J:=d6.2.choose_spec.2.2.1
     have K4:Hd (J.heap[D]?=some (.deferred (some []))):=(nD o4 fun b M=>by obtain⟨Q,t',hc,_⟩:=AL D3.ou.dk M;exact⟨Q,t',hc⟩).same _ _ K3.ou rfl
     have e1:=aj (ch.ou.aP o4 (jl D3.ou.dk ch.ou (by decide) (by decide) (by decide)))
     have ci:=aj (bc.ou.aP o4 (jl D3.ou.dk bc.ou (by decide) (by decide) (by decide)))
     have e2:=aj (d0.ou.aP o4 (jl D3.ou.dk d0.ou (by decide) (by decide) (by decide)))
     have Y:Hd ((∀s∈d3.fl.now,s.length=340)∧d3.fl.now.length=d.now.length):=by rw[Hd,JE];exact bz.ou
     have bA:Hd (d3.oK=0→d3.fl.down=false):=Rm
     obtain⟨d4,c6⟩:∃x,x=d3.fl:=⟨_,rfl⟩
     obtain⟨f3,bg⟩:∃x,x=d3.oK:=⟨_,rfl⟩
     rw[←bg] at bd bA ⊢
     rw[←c6] at bd d7 Y bA
     have D4:=aj d7
     clear d7 c6 bg o4 d6 H q1 q2 hF ch bc d0 K3
     by_cases bg:f3=0
     ·subst bg
      rw[cO]
      have e3:=bA.ou rfl
      go_upto_region 17 with fail
      have H:gq J Z r.g:=HS.ou.on HD.ou D4.ou.o
      have b4:Hd (a.first=Z.l.first+Z.l.many):=by rw[Hd,ca.ou]
      have Q1:∀ξ:X J No,ξ.v.cell? ⟨b1,0,none⟩=some (pt Z.g):=Cs.x e1.ou id 0
      have Q2:∀ξ:X J No,ξ.v.cell? ⟨Z.g,0,none⟩=some (pt r.g):=Cs.x H.cs id 0
      have Q3:∀ξ:X J No,ξ.v.cell? ⟨B,3,none⟩=some (.int .i64 (a.first:Nat)):=Cs.x e2.ou id 3
      have d8:Hd (∀v,bf J v→Calls Tryz.prog 82 #[pt r.g] v fun e u=>e=.returned (.int .i64 d.now.length)∧bf v u):=fun v hv=>by
       have:=qX (D4.ou.ext hv).dk
       rw[Y.ou.2,D4.ou.g] at this
       exact this
      have d9:Hd (∀v,bf J v→Calls Tryz.prog 86 #[pt r.g,.int .i64 44,.int .i64 ((d.now.length:Int)-44),.int .i64 (a.first:Nat)] v (Nd v r.g 44 (d.now.length-44) a.first (ee a.first ((d4.now.drop 44).take (d.now.length-44)) 0 [] [] 0))):=fun v hv=>by
       have eb:=HL.ou
       have:=Kf (HM.ou.only (D4.ou.o.ae hv) fb) (D4.ou.ext hv).dk e3 Y.ou.1 44 (d.now.length-44) a.first (by omega) (by have:=Y.ou.2;omega) (by have:=b4.ou;have:=eb.2.1;omega) (by have:=b4.ou;have:=eb.2.2;have:=eb.2.1;omega)
       rw[D4.ou.g] at this
       rw[show((d.now.length:Int)-44)=((d.now.length-44:Nat):Int) by omega]
       exact this
      obtain⟨N,hN⟩:∃N,N=d.now.length:=⟨_,rfl⟩
      have HN:=aj hN
      rw[←hN] at d8 d9 h1 h2
      clear hN
      refine aV [8,12] 100 (Cl J No) (by kernel_rfl) (by kernel_rfl) (Cl.eU (X.here J No)) ?_
      refine bK ?_
      (refine bQ ?_;intro K hK)
      refine(d8.ou _ (al.refl No J).drew).mono ?_
      rintro e u5 ⟨rfl,hu⟩
      have y5:bf J u5:=(al.refl No J).drew.ae hu
      refine⟨_,rfl,hK _ _ (fun _=>Cl.of y5) ?_⟩
      clear hK K hu
      refine bj ?_
      refine bK ?_
      (refine bQ ?_;intro K hK)
      refine(d9.ou _ y5).mono ?_
      rintro e u6 ⟨lg,oA,oc,ys,rfl,e4,e6,f7,f8,hx⟩
      have y6:bf J u6:=y5.ae hx
      refine⟨_,rfl,hK _ _ (fun _=>Cl.of y6) ?_⟩
      clear hK K d9 d8
      refine bj ?_
      refine bK ?_
      refine ar ?_
      have Y6:=aj y6
      have L6:=aj e6
      have f9:Hd (w.heap.size≤lg):=aJ (D4.ou.o.size) (aJ y5.size e4)
      have ZC:=aj (H.cs.aP y6 id)
      have P1:=aj (e1.ou.aP y6 id)
      have P2:=aj (ci.ou.aP y6 id)
      have P4:=aj (e2.ou.aP y6 id)
      have PZ:=aj (H.ext y6)
      have K6:Hd (u6.heap[D]?=some (.deferred (some []))):=(nD y6 fun b M=>M.elim).same _ _ K4.ou rfl
      clear Q1 Q2 Q3 e4 e6 f7 f8 hx y6 y5 H
      go_upto_region 19 with fail
      have e7:=Cs.oC P1.ou ZC.ou (by decide)
      have a3:=Cs.oC P4.ou ZC.ou (by decide)
      have Q1:∀ξ:X u6 (fun b=>b=Z.g),ξ.v.cell? ⟨b1,0,none⟩=some (pt Z.g):=Cs.x P1.ou e7 0
      have Q3:∀ξ:X u6 (fun b=>b=Z.g),ξ.v.cell? ⟨B,0,none⟩=some (.int .i64 (a.bU:Nat)):=Cs.x P4.ou a3 0
      have Q4:∀ξ:X u6 (fun b=>b=Z.g),ξ.v.cell? ⟨B,1,none⟩=some (.int .i64 (a.side:Nat)):=Cs.x P4.ou a3 1
      have Q5:∀ξ:X u6 (fun b=>b=Z.g),ξ.v.cell? ⟨B,2,none⟩=some (.int .i64 (a.size:Nat)):=Cs.x P4.ou a3 2
      have Q6:∀ξ:X u6 (fun b=>b=Z.g),ξ.v.cell? ⟨B,3,none⟩=some (.int .i64 (a.first:Nat)):=Cs.x P4.ou a3 3
      refine aV [6,9] 100 (Cl u6 (fun b=>b=Z.g)) (by kernel_rfl) (by kernel_rfl) (Cl.eU (X.here u6 _)) ?_
      obtain⟨μ0,ak⟩:∃u,u=u6.drew:=⟨_,rfl⟩
      have xμ:bf u6 μ0:=by rw[ak];exact(al.refl No u6).drew
      rw[←ak]
      clear ak
      have ZM:=ZC.ou.aP xμ id
      refine bK ?_
      have c1:μ0.cell? ⟨Z.g,1,none⟩=some (.int .i64 (Z.h.bU:Nat)):=ZM.cell 1
      have c2:μ0.cell? ⟨Z.g,2,none⟩=some (.int .i64 (Z.h.side:Nat)):=ZM.cell 2
      have c3:μ0.cell? ⟨Z.g,3,none⟩=some (.int .i64 (Z.h.size:Nat)):=ZM.cell 3
      have c4:μ0.cell? ⟨Z.g,4,none⟩=some (.int .i64 (Z.h.first:Nat)):=ZM.cell 4
      have z1:=ZM.frozen 1
      have z2:=ZM.frozen 2
      have z3:=ZM.frozen 3
      have z4:=ZM.frozen 4
      (refine bQ ?_;intro K hK)
      obtain⟨v1,cm⟩:∃v,v=((((μ0.setCell ⟨Z.g,1,none⟩ (.int .i64 (a.bU:Nat))).setCell ⟨Z.g,2,none⟩ (.int .i64 (a.side:Nat))).setCell ⟨Z.g,3,none⟩ (.int .i64 (a.size:Nat))).setCell ⟨Z.g,4,none⟩ (.int .i64 (a.first:Nat))):=⟨_,rfl⟩
      have C1:Cs v1 Z.g nC (jB r.g a (pt Z.l.g) (.slice Z.A Z.rows.length Z.c)):=by
       have:=(((ZM.cM 1 (.int .i64 (a.bU:Nat))).cM 2 (.int .i64 (a.side:Nat))).cM 3 (.int .i64 (a.size:Nat))).cM 4 (.int .i64 (a.first:Nat))
       simp only[ax,aR,aS] at this
       rw[cm];exact this
      have O1:al (fun b=>b=Z.g) u6 v1:=by rw[cm];exact((((al.any xμ:al (fun b=>b=Z.g) u6 μ0).at_ 1 _).at_ 2 _).at_ 3 _).at_ 4 _
      rw[←cm]
      refine hK _ _ (fun _=>Cl.of O1) ?_
      clear hK K cm c1 c2 c3 c4 z1 z2 z3 z4
      refine bj ?_
      refine bK ?_
      have c5:v1.cell? ⟨Z.g,5,none⟩=some (pt Z.l.g):=C1.cell 5
      have z5:=C1.frozen 5
      (refine bQ ?_;intro K hK)
      obtain⟨v2,co⟩:∃v,v=v1.setCell ⟨Z.g,5,none⟩ (pt lg):=⟨_,rfl⟩
      have C2:Hd (Cs v2 Z.g nC (jB r.g a (pt lg) (.slice Z.A Z.rows.length Z.c))):=by
       have:=C1.cM 5 (pt lg)
       simp only[ax,aR,aS] at this
       rw[co];exact this
      have O2:Hd (al (fun b=>b=Z.g) u6 v2):=by rw[co];exact O1.at_ 5 _
      rw[←co]
      refine hK _ _ (fun _=>Cl.of O2.ou) ?_
      clear hK K co c5 z5 C1 O1 Q1 Q3 Q4 Q5 Q6 ZM xμ
      refine bj ?_
      refine bK ?_
      refine ar ?_
      have R2:=aj (P2.ou.aP O2.ou fun e=>Cs.oC P2.ou ZC.ou (by decide) e)
      have K7:Hd (v2.heap[D]?=some (.deferred (some []))):=(nD O2.ou fun b M=>by cases M;exact⟨_,_,ZC.ou⟩).same _ _ K6.ou rfl
      have p2:v2.cell? ⟨b2,0,none⟩=some .nilIface:=R2.ou.cell 0
      have z2:=R2.ou.frozen 0
      refine cS ?_
      have gb:=(KeepsOthers.setCell v2 ⟨b2,0,none⟩ .nilIface).same _ _ K7.ou rfl
      have cq:∀{g:Nat} {t':TypeId} {Q:Array Value},Cs u6 g t' Q→g≠D:=fun hc e=>by
       subst e
       have:=K6.ou
       rw[show u6.heap[_]?=_ from hc] at this
       cases this
      obtain⟨WF,eg⟩:∃W,W=(v2.setCell ⟨b2,0,none⟩ .nilIface).putObj D (.deferred none):=⟨_,rfl⟩
      have gw:w.heap.size≤D:=aJ O hD
      have OF:al (fun b=>b=Z.g∨b=b2∨b=D) u6 WF:=by
       rw[eg]
       exact((O2.ou.gU (fun b _ e=>.inl e)).setCell (p:=⟨b2,0,none⟩) (.inr (.inr (.inl rfl))) .nilIface).trans (mf (grownBy_putObj' _ D _)) (fun b _ e=>by cases e;exact .inr (.inr rfl))
      have CF:Cs WF Z.g nC (jB r.g a (pt lg) (.slice Z.A Z.rows.length Z.c)):=by
       rw[eg]
       exact(C2.ou.far (p:=⟨b2,0,none⟩) (fun e=>Cs.oC P2.ou ZC.ou (by decide) e.symm) .nilIface).aP (mf (grownBy_putObj' _ D _)) fun e=>by cases e;exact cq ZC.ou rfl
      refine uQ (f:=0) gb (by rw[cO];exact R2.ou.cM 0 .nilIface) rfl ?_
      rw[←eg]
      refine⟨d4,0,bd.ou,rfl,⟨Z.g,a,⟨lg,44,N-44,a.first,(ee a.first ((d4.now.drop 44).take (N-44)) 0 [] [] 0).2⟩,Z.A,Z.c,Z.rows⟩,r4,⟨?_,D4.ou.g,⟨CF,?_,?_⟩,rfl,?_,?_⟩,rfl,?_⟩
      ·refine(D4.ou.ext Y6.ou).dk.aP OF fun b M e=>?_
       have b7:=(D4.ou.ext Y6.ou).dk
       rcases e with e|e|e
       ·subst e;exact jl b7 ZC.ou (by decide) (by decide) (by decide) M
       ·subst e;exact jl b7 P2.ou (by decide) (by decide) (by decide) M
       ·obtain⟨Q,t',hc,_⟩:=AL b7 M
        exact cq hc e
      ·refine L6.ou.aP OF fun e=>?_
       rcases e with e|e|e
       ·exact Cs.oC L6.ou ZC.ou (by decide) e
       ·exact Cs.oC L6.ou P2.ou (by decide) e
       ·exact cq L6.ou e
      ·refine cl PZ.ou.own OF fun g hg e=>?_
       obtain⟨cur,hc⟩:=fI PZ.ou.own hg
       rcases e with e|e|e
       ·exact Cs.oC hc ZC.ou (by decide) e
       ·exact Cs.oC hc P2.ou (by decide) e
       ·exact cq hc e
      ·refine((D4.ou.o.gU fun b _ e=>.inl e).ae Y6.ou).trans OF fun b M e=>?_
       rcases e with e|e|e
       ·exact .inr (.inl e)
       ·have:=HB.ou.2;omega
       ·omega
      ·intro b M
       rcases M with e|e|e
       ·rcases D4.ou.f b e with e|e
        ·exact .inl (.inl e)
        ·exact .inr e
       ·exact .inl (.inr (.inl e))
       ·exact .inr (by rw[e];exact f9.ou)
      ·rw[ab rfl,←b4.ou,←HN.ou]
       exact⟨rfl,lg,rfl⟩
     ·rw[bS bg]
      have p2:J.cell? ⟨b2,0,none⟩=some .nilIface:=ci.ou.cell 0
      have z2:=ci.ou.frozen 0
      refine cS ?_
      exact DT HS.ou HD.ou D4.ou (aJ O hD) K4.ou ci.ou HB.ou.2 bg bd.ou rfl
    ·have bd:=aj (a9.ou 0 ai)
     rw[bS ai]
     have p2:u3.cell? ⟨b2,0,none⟩=some .nilIface:=bc.ou.cell 0
     have z2:=bc.ou.frozen 0
     clear a9 bb
     refine cS ?_
     exact DT HS.ou HD.ou D3.ou (aJ O hD) K3.ou bc.ou HB.ou.2 ai bd.ou rfl
   ·rw[bS I]
    have p2:u1.cell? ⟨b2,0,none⟩=some .nilIface:=A2.ou.cell 0
    have z2:=A2.ou.frozen 0
    refine cS ?_
    exact DT HS.ou HD.ou D1.ou (aJ O hD) dT.ou A2.ou HB.ou.2 I (eL.ou 0 I) rfl
  case stop_=>
   rintro D c z W hD ⟨k,hk,rfl⟩ ⟨rfl,⟨r',d',f,y,ag,I,hc2⟩⟩ hK
   gi_wp2
   obtain⟨m,hm⟩:∃m,List.range (yl t.length)=List.range k++m:=⟨(List.range (yl t.length)).drop k,by rw[show List.range k=(List.range (yl t.length)).take k by rw[List.take_range,gH hk]];exact(dX _ _).symm⟩
   have ce:sV q0 (ru t) d=(d',f):=by unfold ru;rw[hm,cU];exact GM _ _ _ _ _ _ ag I
   have hg:=grownBy_putObj' W D (.deferred none)
   have e8:∀k,some D=some k→w8.heap.size≤k∧∃o:Obj,W.heap[k]?=some o∧o.isCells=false:=fun k e=>by cases e;exact⟨hD,_,hK,rfl⟩
   refine uQ hK hc2 rfl ⟨d',f,?_,rfl,Z,r',lP.of (y.grown O hg e8) ((HS.ou.on HD.ou y.o).grown hg e8) rfl (.inl rfl),rfl,?_⟩
   ·unfold AV
    rw[←bs.ou,ce,ab I]
   ·rw[aa I];exact⟨rfl,rfl⟩
end Go.Proofs.YtpgmcijdcnnjpaaGreatDoor
