/- Lemmas for it. -/
import Derived.Test.YtpgmcijdcnnjpaaGreatDoorPk16
set_option linter.all false
set_option maxRecDepth 100000
set_option maxHeartbeats 8000000
namespace Go.Proofs.YtpgmcijdcnnjpaaGreatDoor
open Go Go.RowKit
variable {A':Option Addr} {c':Nat} {w5:World} {ts:List aK}
abbrev TT:TypeId:=137
structure AR where
 wA:Option Addr
 wc:Nat
 dA:Option Addr
 dc:Nat
 oA:Option Addr
 oc:Nat
def sP(g:Nat)(a:AR)(wn dn on:Nat):Nat→Prop:=fun b=>b=g∨(Value.slice a.wA wn a.wc).ownBlock=some b∨(Value.slice a.dA dn a.dc).ownBlock=some b∨(Value.slice a.oA on a.oc).ownBlock=some b
def yg(F:Nat→Prop)(u:World)(A:Option Addr)(xs:List aK):Prop:=∀v,al F u v→di cI v A xs.length xs
section
variable {F F':Nat→Prop} {u u':World} {A:Option Addr} {xs:List aK} {c:Nat}
theorem yg.step(h:yg F u A xs)(a:al F u u')(c:∀b,F' b→F b∨u.heap.size≤b):yg F' u' A xs:=fun v hv=>h v (a.trans hv fun b hb e=>by
 rcases c b e with h1|h1
 ·exact h1
 ·omega)
def JD(n:Nat)(F:Nat→Prop):Nat→Prop:=fun b=>b<n∨F b
theorem yg.kY{n:Nat}(h:yg (JD n F) u A xs)(a:al F u u')(c:∀b,F' b→F b∨u.heap.size≤b):yg (JD n F') u' A xs:=
 h.step (a.gU fun _ _ e=>.inr e) fun b e=>e.elim (fun e=>.inl (.inl e)) fun e=>(c b e).imp .inr id
theorem yg.ext(h:yg F u A xs)(a:bf u u'):yg F u' A xs:=h.step (al.any a) fun _ e=>.inl e
theorem yg.here(h:yg F u A xs):di cI u A xs.length xs:=h u (al.refl _ _)
theorem yg.fresh(h:bR cI 9 u u' A c xs)(a:∀b,F b→b<u.heap.size):yg F u' A xs:=fun v hv=>di.jk (T:=cI) (by decide) (cl h.own hv fun g hg e=>by
 have:=h.new g hg
 have:=a g e
 omega)
end
structure Gw (w u:World) (g:Nat) (v:wR) (m:Mk) (lA:Option Addr) (lc ll:Nat) (a:AR) (way done:List aK) (gs:List (fW×dv)):Prop where
 cs:Cs u g TT #[.slice v.vA m.vars.length v.vc,.slice v.rA m.rules.length v.rc,.slice v.pA m.ba.length v.pc,.slice lA ll lc,.slice a.wA way.length a.wc,.slice a.dA done.length a.dc,.slice a.oA gs.length a.oc]
 fw:bR cI 9 w u a.wA a.wc way
 fd:bR cI 9 w u a.dA a.dc done
 fo:bR He ia w u a.oA a.oc gs
 hg:w.heap.size≤g
 wd:∀b,(Value.slice a.wA way.length a.wc).ownBlock=some b→(Value.slice a.dA done.length a.dc).ownBlock≠some b
 rw:∀x∈gs,yg (JD w.heap.size (sP g a way.length done.length gs.length)) u x.1.tA x.2.targets∧yg (JD w.heap.size (sP g a way.length done.length gs.length)) u x.1.nA x.2.aN∧yg (JD w.heap.size (sP g a way.length done.length gs.length)) u x.1.cA x.2.bD
section
variable {w u u':World} {g:Nat} {v:wR} {m:Mk} {lA:Option Addr} {lc ll:Nat} {a:AR} {way done:List aK} {gs:List (fW×dv)}
theorem Gw.x(h:Gw w u g v m lA lc ll a way done gs):bf w u:=h.fw.ext
theorem Gw.ext(h:Gw w u g v m lA lc ll a way done gs)(b:bf u u'):Gw w u' g v m lA lc ll a way done gs:=
 ⟨h.cs.aP b id,h.fw.on b,h.fd.on b,h.fo.on b,h.hg,h.wd,fun x hm=>⟨(h.rw x hm).1.ext b,(h.rw x hm).2.1.ext b,(h.rw x hm).2.2.ext b⟩⟩
theorem Gw.Us (h:Gw w u g v m lA lc ll a way done gs)    
  (d:w5.ownsRow 0 9 1 (.slice A' (way.length+ts.length:Nat) c') (way.length+ts.length) (way.flatMap cI.enc++ts.flatMap cI.enc)) (p:u.grownBy w5 (Value.slice a.wA way.length a.wc).ownBlock)
  (b:(Value.slice A' (way.length+ts.length:Nat) c').ownBlock=(Value.slice a.wA way.length a.wc).ownBlock∨(Value.slice A' (way.length+ts.length:Nat) c').ownBlock=some u.heap.size) :
  Gw w (w5.setCell ⟨g,4,none⟩ (.slice A' (way.length+ts.length:Nat) c')) g v m lA lc ll { a with wA:=A',wc:=c' } (way++ts) done gs:=by
 have k:al (fun q=>(Value.slice a.wA way.length a.wc).ownBlock=some q) u w5:=(al.refl _ _).grown p fun q e=>.inr e
 have f:=h.fw.grow (ys:=ts) rfl d p b
 have r:=h.fd.aP k f.ext (fun q h1 h2=>h.wd q h2 h1)
 have s:=h.fo.aP k f.ext (fun q h1 h2=>fG h.fw.own h.fo.own (by decide) q h2 h1)
 have l:=h.cs.aP k (fun e=>aO h.fw.own h.cs (by decide) _ e rfl)
 have i:al (fun q=>q=g) w5 (w5.setCell ⟨g,4,none⟩ (.slice A' (way.length+ts.length:Nat) c')):=(al.refl _ _).at_ 4 _
 have n:bf w (w5.setCell ⟨g,4,none⟩ (.slice A' (way.length+ts.length:Nat) c')):=f.ext.trans i fun q hq e=>by have e:q=g:=e;have:=h.hg;omega
 have o:al (sP g a way.length done.length gs.length) u (w5.setCell ⟨g,4,none⟩ (.slice A' (way.length+ts.length:Nat) c')):=(k.gU fun q _ e=>.inr (.inl e)).trans i fun q _ e=>.inl e
 have c:∀q,sP g { a with wA:=A',wc:=c' } (way++ts).length done.length gs.length q→sP g a way.length done.length gs.length q∨u.heap.size≤q:=by
  rintro q (e|e|e|e)
  ·exact .inl (.inl e)
  ·rw[af] at e
   rcases b with b|b
   ·exact .inl (.inr (.inl (b.symm.trans e)))
   ·have j:some u.heap.size=some q:=b.symm.trans e
    injection j with j
    exact .inr (by omega)
  ·exact .inl (.inr (.inr (.inl e)))
  ·exact .inl (.inr (.inr (.inr e)))
 refine⟨?_,f.aP i n (aO f.own l (by decide)),r.aP i n (aO r.own l (by decide)),s.aP i n (aO s.own l (by decide)),h.hg,fun q h1 h2=>?_,fun x hm=>⟨(h.rw x hm).1.kY o c,(h.rw x hm).2.1.kY o c,(h.rw x hm).2.2.kY o c⟩⟩
 ·have:=l.cM 4 (.slice A' (way.length+ts.length:Nat) c')
  rw[af]
  exact this
 ·rw[af] at h1
  rcases b with b|b
  ·exact h.wd q (b.symm.trans h1) h2
  ·have j:some u.heap.size=some q:=b.symm.trans h1
   injection j with j
   obtain⟨cur,t⟩:=fI h.fd.own h2
   have:=t.lt
   omega
theorem Gw.RH (h:Gw w u g v m lA lc ll a way done gs)    
  (d:w5.ownsRow 0 9 1 (.slice A' (done.length+ts.length:Nat) c') (done.length+ts.length) (done.flatMap cI.enc++ts.flatMap cI.enc)) (p:u.grownBy w5 (Value.slice a.dA done.length a.dc).ownBlock)
  (b:(Value.slice A' (done.length+ts.length:Nat) c').ownBlock=(Value.slice a.dA done.length a.dc).ownBlock∨(Value.slice A' (done.length+ts.length:Nat) c').ownBlock=some u.heap.size) :
  Gw w (w5.setCell ⟨g,5,none⟩ (.slice A' (done.length+ts.length:Nat) c')) g v m lA lc ll { a with dA:=A',dc:=c' } way (done++ts) gs:=by
 have k:al (fun q=>(Value.slice a.dA done.length a.dc).ownBlock=some q) u w5:=(al.refl _ _).grown p fun q e=>.inr e
 have f:=h.fd.grow (ys:=ts) rfl d p b
 have r:=h.fw.aP k f.ext (fun q h1 h2=>h.wd q h1 h2)
 have s:=h.fo.aP k f.ext (fun q h1 h2=>fG h.fd.own h.fo.own (by decide) q h2 h1)
 have l:=h.cs.aP k (fun e=>aO h.fd.own h.cs (by decide) _ e rfl)
 have i:al (fun q=>q=g) w5 (w5.setCell ⟨g,5,none⟩ (.slice A' (done.length+ts.length:Nat) c')):=(al.refl _ _).at_ 5 _
 have n:bf w (w5.setCell ⟨g,5,none⟩ (.slice A' (done.length+ts.length:Nat) c')):=f.ext.trans i fun q hq e=>by have e:q=g:=e;have:=h.hg;omega
 have o:al (sP g a way.length done.length gs.length) u (w5.setCell ⟨g,5,none⟩ (.slice A' (done.length+ts.length:Nat) c')):=(k.gU fun q _ e=>.inr (.inr (.inl e))).trans i fun q _ e=>.inl e
 have c:∀q,sP g { a with dA:=A',dc:=c' } way.length (done++ts).length gs.length q→sP g a way.length done.length gs.length q∨u.heap.size≤q:=by
  rintro q (e|e|e|e)
  ·exact .inl (.inl e)
  ·exact .inl (.inr (.inl e))
  ·rw[af] at e
   rcases b with b|b
   ·exact .inl (.inr (.inr (.inl (b.symm.trans e))))
   ·have j:some u.heap.size=some q:=b.symm.trans e
    injection j with j
    exact .inr (by omega)
  ·exact .inl (.inr (.inr (.inr e)))
 refine⟨?_,r.aP i n (aO r.own l (by decide)),f.aP i n (aO f.own l (by decide)),s.aP i n (aO s.own l (by decide)),h.hg,fun q h1 h2=>?_,fun x hm=>⟨(h.rw x hm).1.kY o c,(h.rw x hm).2.1.kY o c,(h.rw x hm).2.2.kY o c⟩⟩
 ·have:=l.cM 5 (.slice A' (done.length+ts.length:Nat) c')
  rw[af]
  exact this
 ·rw[af] at h2
  rcases b with b|b
  ·exact h.wd q h1 (b.symm.trans h2)
  ·have j:some u.heap.size=some q:=b.symm.trans h2
   injection j with j
   obtain⟨cur,t⟩:=fI h.fw.own h1
   have:=t.lt
   omega
theorem Gw.EA (h:Gw w u g v m lA lc ll a way done gs)    {t:fW×dv}
  (f:w5.ownsRow 0 ia 4 (.slice A' (gs.length+1:Nat) c') (gs.length+1) (gs.flatMap He.enc++[t].flatMap He.enc)) (p:u.grownBy w5 (Value.slice a.oA gs.length a.oc).ownBlock)
  (d:(Value.slice A' (gs.length+1:Nat) c').ownBlock=(Value.slice a.oA gs.length a.oc).ownBlock∨(Value.slice A' (gs.length+1:Nat) c').ownBlock=some u.heap.size)
  (z:yg (JD w.heap.size (sP g a way.length done.length gs.length)) u t.1.tA t.2.targets∧yg (JD w.heap.size (sP g a way.length done.length gs.length)) u t.1.nA t.2.aN∧yg (JD w.heap.size (sP g a way.length done.length gs.length)) u t.1.cA t.2.bD) :
  Gw w (w5.setCell ⟨g,6,none⟩ (.slice A' (gs.length+1:Nat) c')) g v m lA lc ll { a with oA:=A',oc:=c' } way done (gs++[t]):=by
 have k:al (fun q=>(Value.slice a.oA gs.length a.oc).ownBlock=some q) u w5:=(al.refl _ _).grown p fun q e=>.inr e
 have i:=h.fo.grow (ys:=[t]) rfl f p d
 have r:=h.fw.aP k i.ext (fun q h1 h2=>fG h.fw.own h.fo.own (by decide) q h1 h2)
 have s:=h.fd.aP k i.ext (fun q h1 h2=>fG h.fd.own h.fo.own (by decide) q h1 h2)
 have l:=h.cs.aP k (fun e=>aO h.fo.own h.cs (by decide) _ e rfl)
 have j:al (fun q=>q=g) w5 (w5.setCell ⟨g,6,none⟩ (.slice A' (gs.length+1:Nat) c')):=(al.refl _ _).at_ 6 _
 have n:bf w (w5.setCell ⟨g,6,none⟩ (.slice A' (gs.length+1:Nat) c')):=i.ext.trans j fun q hq e=>by have e:q=g:=e;have:=h.hg;omega
 have o:al (sP g a way.length done.length gs.length) u (w5.setCell ⟨g,6,none⟩ (.slice A' (gs.length+1:Nat) c')):=(k.gU fun q _ e=>.inr (.inr (.inr e))).trans j fun q _ e=>.inl e
 have c:∀q,sP g { a with oA:=A',oc:=c' } way.length done.length (gs++[t]).length q→sP g a way.length done.length gs.length q∨u.heap.size≤q:=by
  rintro q (e|e|e|e)
  ·exact .inl (.inl e)
  ·exact .inl (.inr (.inl e))
  ·exact .inl (.inr (.inr (.inl e)))
  ·rw[af] at e
   rcases d with d|d
   ·exact .inl (.inr (.inr (.inr (d.symm.trans e))))
   ·have y:some u.heap.size=some q:=d.symm.trans e
    injection y with y
    exact .inr (by omega)
 have b:∀x∈gs++[t],yg (JD w.heap.size (sP g a way.length done.length gs.length)) u x.1.tA x.2.targets∧yg (JD w.heap.size (sP g a way.length done.length gs.length)) u x.1.nA x.2.aN∧yg (JD w.heap.size (sP g a way.length done.length gs.length)) u x.1.cA x.2.bD:=fun x hm=>by
  rcases az.1 hm with hm|hm
  ·exact h.rw x hm
  ·simp at hm;rw[hm];exact z
 refine⟨?_,r.aP j n (aO r.own l (by decide)),s.aP j n (aO s.own l (by decide)),i.aP j n (aO i.own l (by decide)),h.hg,h.wd,fun x hm=>⟨(b x hm).1.kY o c,(b x hm).2.1.kY o c,(b x hm).2.2.kY o c⟩⟩
 have:=l.cM 6 (.slice A' (gs.length+1:Nat) c')
 rw[af]
 exact this
theorem Ox{w:World}{B:Nat}{e:TypeId}{A:Option Addr}{n c k:Nat}{xs:List Value}(h:w.ownsRow B e 1 (.slice A n c) n xs)(b:k≤n):w.ownsRow B e 1 (.slice A k c) k (xs.take k):=by
 obtain⟨d,h⟩:=h
 refine⟨by rw[aH];omega,?_⟩
 rcases h with⟨h1,h2⟩|⟨g,cap,cur,h1,h3,h4,h5,h6,h7,h8⟩
 ·injection h1 with h1 _ h3
  subst h1
  obtain rfl:k=0:=by omega
  have a:c=0:=by omega
  subst a
  exact .inl ⟨rfl,rfl⟩
 ·injection h1 with h1 _ h2
  subst h1
  have a:c=cap:=by omega
  subst a
  refine .inr ⟨g,c,cur,rfl,h3,h4,by omega,h6,h7,?_⟩
  rw[←h8,List.take_take]
  congr 1
  omega
theorem Gw.V6{k:Nat}(h:Gw w u g v m lA lc ll a way done gs)(s:k≤way.length):Gw w (u.setCell ⟨g,4,none⟩ (.slice a.wA k a.wc)) g v m lA lc ll a (way.take k) done gs:=by
 have p:(way.take k).length=k:=by rw[aH];omega
 have d:al (fun q=>q=g) u (u.setCell ⟨g,4,none⟩ (.slice a.wA k a.wc)):=(al.refl _ _).at_ 4 _
 have f:bf w (u.setCell ⟨g,4,none⟩ (.slice a.wA k a.wc)):=h.x.trans d fun q hq e=>by have e:q=g:=e;have:=h.hg;omega
 have b:∀n,(Value.slice a.wA n a.wc).ownBlock=(Value.slice a.wA way.length a.wc).ownBlock:=fun n=>by cases a.wA<;>rfl
 have i:al (sP g a way.length done.length gs.length) u (u.setCell ⟨g,4,none⟩ (.slice a.wA k a.wc)):=d.gU fun q _ e=>.inl e
 have c:∀q,sP g a (way.take k).length done.length gs.length q→sP g a way.length done.length gs.length q∨u.heap.size≤q:=by
  rintro q (e|e|e)
  ·exact .inl (.inl e)
  ·exact .inl (.inr (.inl ((b _).symm.trans e)))
  ·exact .inl (.inr (.inr e))
 have r:bR cI 9 w u a.wA a.wc (way.take k):=by
  refine⟨?_,h.x,fun q hq=>h.fw.new q ((b _).symm.trans hq)⟩
  have j:=Ox h.fw.own s
  rw[p]
  have o:(way.take k).flatMap cI.enc=(way.flatMap cI.enc).take k:=by
   have:∀l:List aK,l.flatMap cI.enc=l.map S:=fun l=>by induction l with
    | nil=>rfl
    | cons x xs ih=>rw[bN,ih];rfl
   rw[this,this,List.map_take]
  rw[o]
  exact j
 refine⟨?_,r.aP d f (aO r.own h.cs (by decide)),h.fd.aP d f (aO h.fd.own h.cs (by decide)),h.fo.aP d f (aO h.fo.own h.cs (by decide)),h.hg,fun q j o=>h.wd q ((b _).symm.trans j) o,fun x hm=>⟨(h.rw x hm).1.kY i c,(h.rw x hm).2.1.kY i c,(h.rw x hm).2.2.kY i c⟩⟩
 have:=h.cs.cM 4 (.slice a.wA k a.wc)
 rw[p]
 exact this
end
def kW(m:Mk)(l:List bm)(done:List aK)(out:List dv):Prop:=
 ∃fs:List aK,fs.Nodup∧(∀x∈fs,Nv l x=true∧iY m l x=none)∧done.length=fs.length+(out.flatMap (·.targets)).length∧∀n,n∈done↔n∈fs∨n∈out.flatMap (·.targets)
section
variable {m:Mk} {l:List bm} {done way:List aK} {out:List dv} {n:aK}
theorem kW.nil:kW m l [] []:=⟨[],by simp,(fun x hx=>by cases hx),rfl,by simp⟩
theorem kW.file(h:kW m l done out)(g:n∉done)(i:Nv l n=true)(j:iY m l n=none):kW m l (done++[n]) out:=by
 obtain⟨o,p,q,s,d⟩:=h
 refine⟨o++[n],?_,?_,?_,?_⟩
 ·rw[gu]
  refine⟨p,by simp,?_⟩
  intro a r b f e
  simp at f
  subst e;subst f
  exact g ((d _).2 (.inl r))
 ·intro x c
  rcases az.1 c with c|c
  ·exact q x c
  ·simp at c;rw[c];exact⟨i,j⟩
 ·simp only[af,an,bI];omega
 ·intro k
  simp only[az,d,aY,List.not_mem_nil,or_false]
  constructor
  ·rintro((h|h)|h)
   ·exact .inl (.inl h)
   ·exact .inr h
   ·exact .inl (.inr h)
  ·rintro((h|h)|h)
   ·exact .inl (.inl h)
   ·exact .inr h
   ·exact .inl (.inr h)
theorem kW.grp{g:dv}(h:kW m l done out):kW m l (done++g.targets) (out++[g]):=by
 obtain⟨a,b,c,e,d⟩:=h
 refine⟨a,b,c,?_,?_⟩
 ·simp only[af,bF,bN,List.flatMap_nil,cv];omega
 ·intro k
  simp only[az,d,bF,bN,List.flatMap_nil,cv]
  constructor
  ·rintro((h|h)|h)
   ·exact .inl h
   ·exact .inr (.inl h)
   ·exact .inr (.inr h)
  ·rintro(h|h|h)
   ·exact .inl (.inl h)
   ·exact .inl (.inr h)
   ·exact .inr h
theorem zY{n:aK}:(gQ out n).isSome=true↔n∈out.flatMap (·.targets):=by
 unfold gQ
 rw[List.findIdx?_isSome,iR,cG]
 constructor
 ·rintro⟨g,h1,h2⟩;exact⟨g,h1,by simpa [iH] using h2⟩
 ·rintro⟨g,h1,h2⟩;exact⟨g,h1,by simpa [iH] using h2⟩
theorem Ip(h:kW m l done out)(c:iH way n=false)(a:iH done n=true)(f:Nat):dZ m l (f+1) way out n=(out,0):=by
 obtain⟨j,k,d,o,e⟩:=h
 have a:n∈done:=by simpa [iH] using a
 rw[dZ,aa (by rw[c];decide)]
 by_cases b:(gQ out n).isSome=true
 ·rw[ab b]
 ·rw[aa b]
  rcases(e n).1 a with hx|hx
  ·obtain⟨g,i⟩:=d n hx
   rw[i]
   show(if Nv l n=true then (out,(0:Int)) else (out,5))=_
   rw[ab g]
  ·exact absurd (zY.2 hx) b
theorem NY(h:kW m l done out)(a:iH done n=false):(gQ out n).isSome=false:=by
 obtain⟨c,d,f,g,b⟩:=h
 have a:¬n∈done:=by simpa [iH] using a
 rw[←fT,zY]
 exact fun e=>a ((b n).2 (.inr e))
theorem CI:∀{a b:List aK},a.Nodup→(∀x∈a,x∈b)→a.length≤b.length
 | [],_,_,_=>au _
 | x::xs,b,hn,hs=>by
  have c:=hs x (by simp)
  rw[gG] at hn
  have:=CI (b:=b.erase x) hn.2 fun y hy=>(iu (show y≠x from fun e=>hn.1 (by rw[←e];exact hy))).2 (hs y (aE _ hy))
  rw[iC c] at this
  have:=iV c
  simp only[an]
  omega
theorem J5:∀{out:List dv},(∀g∈out,g.targets.length≤2)→(out.flatMap (·.targets)).length≤2*out.length
 | [],_=>by simp
 | g::gs,h=>by
  have a:=h g (by simp)
  have b:=J5 (out:=gs) fun x hx=>h x (aE _ hx)
  simp only[bN,af,an]
  omega
theorem kW.len(h:kW m l done out)(j:out.length≤10)(b:∀g∈out,g.targets.length≤2):done.length≤l.length+20:=by
 obtain⟨c,d,f,k,n⟩:=h
 have o:=J5 b
 have i:c.length≤(l.map (·.1)).length:=by
  refine CI d fun x hx=>?_
  obtain⟨y,a⟩:=dz.1 (f x hx).1
  unfold dY at a
  have e:=jb a
  simp only[bh] at e
  exact e▸cC (dL a)
 rw[bH] at i
 omega
end
def Ny(w u:World)(g:Nat)(v:wR)(m:Mk)(l:List bm)(lA:Option Addr)(lc:Nat)(F:Nat→Prop)(way:List aK)(r:List dv×Int)(e:Ending)(w':World):Prop:=
 e=.returned (eT r.2)∧al F u w'∧(r.2=0→∃(a:AR) (done:List aK) (gs:List (fW×dv)),Gw w w' g v m lA lc l.length a way done gs∧gs.map (·.2)=r.1∧kW m l done r.1∧(∀x∈gs,x.2.targets.length≤2)∧gs.length≤10∧∀q,sP g a way.length done.length gs.length q→F q∨u.heap.size≤q)
theorem Gw.Aa{w u:World}{g:Nat}{v:wR}{m:Mk}{d:Option Addr}{lc f:Nat}{a:AR}{way b:List aK}{gs:List (fW×dv)}(h:Gw w u g v m d lc f a way b gs):∀q,sP g a way.length b.length gs.length q→q<u.heap.size:=by
 rintro q (rfl|e|e|e)
 ·exact h.cs.lt
 ·obtain⟨_,c⟩:=fI h.fw.own e;exact c.lt
 ·obtain⟨_,c⟩:=fI h.fd.own e;exact c.lt
 ·obtain⟨_,c⟩:=fI h.fo.own e;exact c.lt
theorem Su(g:Nat)(a:AR)(n d o b e f:Nat):sP g a n d o=sP g a b e f:=by
 have h:∀(A:Option Addr) (n b c:Nat),(Value.slice A n c).ownBlock=(Value.slice A b c).ownBlock:=fun A n b c=>by cases A<;>rfl
 unfold sP
 rw[h a.wA n b,h a.dA d e,h a.oA o f]
theorem PY{w:World}(c8:Ml w){v:wR}{rs:List (fW×lR)}{m:Mk}{lA:Option Addr}{lc:Nat}{l:List bm}(c9:pY w v rs m)(db:di br w lA l.length l)(bp:Ps m l)(g:Nat)(goal:aK)(eb:∀x∈nV m l goal,x.length≤200) :
  ∀(f:Nat),f≤100→∀(u:World) (a:AR) (way s:List aK) (gs:List (fW×dv)) (j:aK),Gw w u g v m lA lc l.length a way s gs→kW m l s (gs.map (·.2))→(∀x∈gs,x.2.targets.length≤2)→gs.length≤10→way.length≤2*(100-f)→j∈nV m l goal→BC (nV m l goal) way<f →
   Calls Tryz.prog 70 #[.pointer (some ⟨g,0,none⟩),S j] u (Ny w u g v m l lA lc (sP g a way.length s.length gs.length) way (dZ m l f way (gs.map (·.2)) j)):=by
 intro f
 induction f with
 | zero=>intro _ u a way s gs j _ _ _ _ _ _ a1;omega
 | succ f ih=>
  intro hf u a way s gs j hG hD a9 T e0 bs a1
  have eg:j.length≤200:=eb j bs
  obtain⟨F,hF⟩:∃F,F=sP g a way.length s.length gs.length:=⟨_,rfl⟩
  rw[←hF]
  have HF:=aj hF
  have HG:=aj hG
  have HD:=aj hD
  have ei:=aj c8
  have dd:=aj (And.intro c9 db)
  have bu:=aj bp
  have HI:=aj ih
  have de:=aj (And.intro a1 bs)
  have e1:s.length≤l.length+20:=hD.len (by rw[bH];exact T) (by
   intro x hx
   obtain⟨y,hy,rfl⟩:=cw.1 hx
   exact a9 y hy)
  have bv:=aj a9
  have e3:=bp.n
  have bw:=aj (jr (c:=a.wc) (hG.fw.row (by decide)) (by omega) j)
  have dj:=aj (fun u' (hx:bf u u')=>jr (c:=a.dc) ((hG.ext hx).fd.row (by decide)) (by omega) j)
  have ej:Hd (Gw w u g v m lA lc l.length a way s gs∧gs.map (·.2)=gs.map (·.2)∧kW m l s (gs.map (·.2))∧(∀x∈gs,x.2.targets.length≤2)∧gs.length≤10):=⟨hG,rfl,hD,a9,T⟩
  have k4:u.cell? ⟨g,4,none⟩=some (.slice a.wA way.length a.wc):=hG.cs.cell 4
  clear hF hG hD c8 c9 db bp ih a1 bs a9
  obtain⟨q,hq⟩:∃q,q=iH way j:=⟨_,rfl⟩
  rw[←hq] at bw
  have HQ:=aj hq
  clear hq
  go_enter Tryz.func70,Tryz.ntmps70
  go_wp2_with fail
  refine bw.ou.mono ?_
  rintro e u1 ⟨rfl,bz⟩
  have X1:=aj bz
  have G1:=aj (HG.ou.ext bz)
  clear bz bw k4
  cases q with
  | true=>
   go_wp2_with fail
   go_ret
   have hv:dZ m l (f+1) way (gs.map (·.2)) j=(gs.map (·.2),8):=by rw[dZ,ab HQ.ou.symm]
   rw[hv]
   exact⟨rfl,al.any X1.ou,fun h=>absurd (show(8:Int)=0 from h) (by decide)⟩
  | false=>
   have bA:=aj (dj.ou u1 X1.ou)
   have k5:u1.cell? ⟨g,5,none⟩=some (.slice a.dA s.length a.dc):=G1.ou.cs.cell 5
   obtain⟨q2,b4⟩:∃q,q=iH s j:=⟨_,rfl⟩
   rw[←b4] at bA
   have b5:=aj b4
   clear b4 dj
   go_wp2_with fail
   refine bA.ou.mono ?_
   rintro e u2 ⟨rfl,b6⟩
   have X2:=aj (X1.ou.ae b6)
   have G2:=aj (G1.ou.ext b6)
   clear b6 bA k5 G1
   cases q2 with
   | true=>
    go_wp2_with fail
    go_ret
    rw[Ip HD.ou HQ.ou.symm b5.ou.symm]
    refine⟨rfl,al.any X2.ou,fun _=>⟨a,s,gs,G2.ou,rfl,HD.ou,bv.ou,T,fun q hq=>.inl (by rw[HF.ou];exact hq)⟩⟩
   | false=>
    have b7:Hd ((gQ (gs.map (·.2)) j).isSome=false):=NY HD.ou b5.ou.symm
    have M2:Hd (SI u2 g v rs m lA lc l):=⟨G2.ou.cs.cell 0,G2.ou.cs.cell 1,G2.ou.cs.cell 2,G2.ou.cs.cell 3,dd.ou.1.ext G2.ou.x,dd.ou.2.ext G2.ou.x⟩
    have b8:=aj (SB (ei.ou.ext G2.ou.x) M2.ou bu.ou j eg)
    obtain⟨o,ho⟩:∃o,o=iY m l j:=⟨_,rfl⟩
    rw[←ho] at b8
    have HO:=aj ho
    clear ho
    go_wp2_with fail
    refine b8.ou.mono ?_
    rintro e u3 U
    clear b8
    cases o with
    | none=>
     obtain⟨rfl,a3⟩:=U
     obtain⟨u4,V⟩:∃u,u=u3.alloc (.cells #[.slice none 0 0,.slice none 0 0,.slice none 0 0,.bool false] ia):=⟨_,rfl⟩
     have X4:Hd (bf u2 u4):=by rw[V];exact a3.ae ((al.refl No _).alloc _)
     clear a3
     go_upto_region 7 with fail
     rw[←V]
     clear V
     have M4:=aj (M2.ou.ext X4.ou)
     have G4:=aj (G2.ou.ext X4.ou)
     have k3:u4.cell? ⟨g,3,none⟩=some (.slice lA l.length lc):=M4.ou.c3
     have b9:=aj (um (c:=lc) M4.ou.fl (by omega) j bu.ou.o)
     obtain⟨q3,ca⟩:∃q,q=Nv l j:=⟨_,rfl⟩
     rw[show ji j l=q3 from ca.symm] at b9
     have dk:=aj ca
     clear ca M2 G2
     go_wp2_with fail
     refine b9.ou.mono ?_
     rintro e u5 ⟨rfl,cb⟩
     have X5:=aj (X2.ou.ae (X4.ou.ae cb))
     have G5:=aj (G4.ou.ext cb)
     clear cb b9 k3 G4 M4
     have hv:Hd (dZ m l (f+1) way (gs.map (·.2)) j=if q3=true then (gs.map (·.2),0) else (gs.map (·.2),5)):=by
      rw[Hd,dZ,aa (by rw[←HQ.ou];decide),aa (by rw[b7.ou];decide),←HO.ou,dk.ou]
     cases q3 with
     | false=>
      go_wp2_with fail
      go_ret
      rw[hv.ou]
      exact⟨rfl,al.any X5.ou,fun h=>absurd (show(5:Int)=0 from h) (by decide)⟩
     | true=>
      have HN:Hd (kW m l (s++[j]) (gs.map (·.2))):=HD.ou.file (by have:=b5.ou;simpa [iH] using this.symm) dk.ou.symm HO.ou.symm
      obtain⟨E,H⟩:∃E:Nat→Prop,E=fun q=>(Value.slice a.dA s.length a.dc).ownBlock=some q:=⟨_,rfl⟩
      have O:¬E g:=by
       rw[H]
       exact fun e=>aO G5.ou.fd.own G5.ou.cs (by decide) _ e rfl
      have k5:∀ξ:X u5 E,ξ.v.cell? ⟨g,5,none⟩=some (.slice a.dA s.length a.dc):=G5.ou.cs.x O 5
      have N:=aj H
      clear H O
      go_upto_region 10 with fail
      refine cj [6,7,10] (Cl u5 E) (Cl.of (al.refl _ _)) ?_
      refine dH ?_
      (refine bQ ?_;intro K hK)
      have G6:=aj (G5.ou.ext ((al.refl No u5).alloc (.cells #[S j] 9)))
      have O6:Hd (al E u5 (u5.alloc (.cells #[S j] 9))):=(al.refl _ _).alloc _
      refine hK _ _ (fun _=>Cl.of O6.ou) ?_
      clear hK K
      refine bj ?_
      refine cH rfl rfl ?_
      intro K hK
      refine eO (v:=.slice a.dA s.length a.dc) (n:=s.length) (xs:=s.flatMap cI.enc) p8 rfl rfl rfl G6.ou.fd.own (iQ u5 _ [S j]) (by simp[Value.oneCell']) (by omega) ?_
      intro A' c' w5 C D J
      have P7:=aj (G6.ou.RH (ts:=[j]) C D J)
      have O7:Hd (al E u5 w5):=O6.ou.grown D fun g hg=>.inr (by rw[N.ou];exact hg)
      refine hK _ _ (fun _=>Cl.of O7.ou) ?_
      clear hK K
      refine bj ?_
      have C7:=G6.ou.cs.aP ((al.refl (fun b=>(Value.slice a.dA s.length a.dc).ownBlock=some b) _).grown D fun g hg=>.inr hg) (fun e=>aO G6.ou.fd.own G6.ou.cs (by decide) _ e rfl)
      have y0:w5.cell? ⟨g,5,none⟩=some (.slice a.dA s.length a.dc):=C7.cell 5
      have z0:=C7.frozen 5
      have ag:=aj J
      have X7:Hd (al F u (w5.setCell ⟨g,5,none⟩ (.slice A' (s.length+1:Nat) c'))):=by
       rw[Hd,HF.ou]
       exact((al.any X5.ou).trans O7.ou fun q _ e=>by rw[N.ou] at e;exact .inr (.inr (.inl e))).setCell (p:=⟨g,5,none⟩) (.inr (.inl rfl)) _
      clear C7 C D J
      refine dH ?_
      (refine bQ ?_;intro K hK)
      refine hK _ _ (fun hne=>absurd rfl hne) ?_
      clear hK K y0 z0
      refine bj ?_
      refine ar ?_
      go_wp2_with fail
      go_ret
      rw[hv.ou]
      refine⟨rfl,X7.ou,fun _=>⟨_,_,gs,P7.ou,rfl,HN.ou,bv.ou,T,?_⟩⟩
      rintro q (e|e|e|e)
      ·exact .inl (by rw[HF.ou];exact .inl e)
      ·exact .inl (by rw[HF.ou];exact .inr (.inl e))
      ·rw[af] at e
       rcases ag.ou with hb|hb
       ·exact .inl (by rw[HF.ou];exact .inr (.inr (.inl (hb.symm.trans e))))
       ·have U:some (u5.alloc (.cells #[S j] 9)).heap.size=some q:=hb.symm.trans e
        injection U with U
        exact .inr (by rw[←U];exact(X5.ou.alloc _).size)
      ·exact .inl (by rw[HF.ou];exact .inr (.inr (.inr e)))
    | some G=>
     obtain⟨x,rfl,f1,f2,f3,a3⟩:=U
     obtain⟨u4,V⟩:∃u,u=u3.alloc (.cells #[.slice x.tA G.targets.length x.tc,.slice x.nA G.aN.length x.nc,.slice x.cA G.bD.length x.cc,.bool G.ba] ia):=⟨_,rfl⟩
     obtain⟨P,ce⟩:∃b,b=u3.heap.size:=⟨_,rfl⟩
     have x4:bf u3 u4:=by rw[V];exact(al.refl No _).alloc _
     have X4:Hd (bf u2 u4):=a3.ae x4
     have CX:Hd (Cs u4 P ia #[.slice x.tA G.targets.length x.tc,.slice x.nA G.aN.length x.nc,.slice x.cA G.bD.length x.cc,.bool G.ba]):=by rw[V,ce];exact Cs.new _ _ _
     have cf:∀q,F q→q<u2.heap.size:=fun q hq=>G2.ou.Aa q (by rw[←HF.ou];exact hq)
     have bb:∀q,JD w.heap.size F q→q<u2.heap.size:=fun q e=>e.elim (fun e=>bZ e G2.ou.x.size) (cf q)
     have RT:=aj ((yg.fresh f1 bb).ext x4)
     have RN:=aj ((yg.fresh f2 bb).ext x4)
     have RC:=aj ((yg.fresh f3 bb).ext x4)
     have BX:Hd (¬F P):=fun e=>by have:=cf P e;have:=a3.size;omega
     go_upto_region 12 with fail
     rw[←V,←ce]
     clear V ce x4 a3 f1 f2 f3 cf bb
     have G4:=aj (G2.ou.ext X4.ou)
     obtain⟨E,H⟩:∃E:Nat→Prop,E=fun q=>(Value.slice a.wA way.length a.wc).ownBlock=some q:=⟨_,rfl⟩
     have O:¬E g:=by
      rw[H]
      exact fun e=>aO G4.ou.fw.own G4.ou.cs (by decide) _ e rfl
     have Q:¬E P:=by
      rw[H]
      exact fun e=>aO G4.ou.fw.own CX.ou (by decide) _ e rfl
     have k4:∀ξ:X u4 E,ξ.v.cell? ⟨g,4,none⟩=some (.slice a.wA way.length a.wc):=G4.ou.cs.x O 4
     have k0:∀ξ:X u4 E,ξ.v.cell? ⟨P,0,none⟩=some (.slice x.tA G.targets.length x.tc):=CX.ou.x Q 0
     have N:=aj H
     clear H O Q
     refine aV [7,10] 10 (Cl u4 E) (by kernel_rfl) (by kernel_rfl) (Cl.of (al.refl _ _).drew) ?_
     obtain⟨e4,ek,e5⟩:=Ej bu.ou HO.ou.symm
     refine dH ?_
     have xd:bf u4 u4.drew:=(al.refl No _).drew
     have GD:=aj (G4.ou.ext xd)
     have TD:=aj (RT.ou.ext xd)
     have CD:=aj (CX.ou.aP xd id)
     refine cH rfl rfl ?_
     intro K hK
     refine eO (v:=.slice a.wA way.length a.wc) (n:=way.length) (xs:=way.flatMap cI.enc) p8 rfl rfl rfl GD.ou.fw.own (TD.ou.here.rd (by decide)) (qE _) (by omega) ?_
     intro A' c' w5 C D J
     have P7:=aj (GD.ou.Us (ts:=G.targets) C D J)
     have O7:Hd (al E u4 w5):=(al.refl _ _).drew.grown D fun g hg=>.inr (by rw[N.ou];exact hg)
     refine hK _ _ (fun _=>Cl.of O7.ou) ?_
     clear hK K
     refine bj ?_
     have C7:=GD.ou.cs.aP ((al.refl (fun b=>(Value.slice a.wA way.length a.wc).ownBlock=some b) _).grown D fun g hg=>.inr hg) (fun e=>aO GD.ou.fw.own GD.ou.cs (by decide) _ e rfl)
     have y0:w5.cell? ⟨g,4,none⟩=some (.slice a.wA way.length a.wc):=C7.cell 4
     have z0:=C7.frozen 4
     have ag:=aj J
     clear C7 C D J xd
     refine dH ?_
     (refine bQ ?_;intro K hK)
     refine hK _ _ (fun hne=>absurd rfl hne) ?_
     clear hK K y0 z0
     refine bj ?_
     refine ar ?_
     obtain⟨w7,ch⟩:∃u,u=w5.setCell ⟨g,4,none⟩ (.slice A' (way.length+G.targets.length:Nat) c'):=⟨_,rfl⟩
     rw[←ch] at P7 ⊢
     have W:Hd (al F u4 w7):=by
      rw[Hd,ch,HF.ou]
      exact(O7.ou.gU fun q _ e=>by rw[N.ou] at e;exact .inr (.inl e)).setCell (p:=⟨g,4,none⟩) (.inr (.inl rfl)) _
     obtain⟨F7,ci⟩:∃F7,F7=sP g { a with wA:=A',wc:=c' } (way++G.targets).length s.length gs.length:=⟨_,rfl⟩
     have R:∀q,F7 q→F q∨u4.heap.size≤q:=by
      rw[ci,HF.ou]
      rintro q (e|e|e|e)
      ·exact .inl (.inl e)
      ·rw[af] at e
       rcases ag.ou with hb|hb
       ·exact .inl (.inr (.inl (hb.symm.trans e)))
       ·have U:some u4.drew.heap.size=some q:=hb.symm.trans e
        injection U with U
        exact .inr (by rw[←U];exact aq _)
      ·exact .inl (.inr (.inr (.inl e)))
      ·exact .inl (.inr (.inr (.inr e)))
     have dl:=aj (RT.ou.kY W.ou R)
     have cm:=aj (RN.ou.kY W.ou R)
     have dn:=aj (RC.ou.kY W.ou R)
     have cn:Hd (¬F7 P):=fun e=>by
      rcases R P e with h|h
      ·exact BX.ou h
      ·have:=CX.ou.lt;omega
     have em:=aj ci
     have co:=aj R
     clear ci R
     have bc:Hd (Cs w7 P ia #[.slice x.tA G.targets.length x.tc,.slice x.nA G.aN.length x.nc,.slice x.cA G.bD.length x.cc,.bool G.ba]):=CX.ou.aP W.ou BX.ou
     clear ch TD CD GD O7 RT RN RC CX k4 k0
     obtain⟨ds,cq⟩:∃A,A=x.nA:=⟨_,rfl⟩
     have dt:Hd (yg (JD w.heap.size F7) w7 ds G.aN):=by rw[Hd,cq];exact cm.ou
     have k1:w7.cell? ⟨P,1,none⟩=some (.slice ds G.aN.length x.nc):=by rw[cq];exact bc.ou.cell 1
     have bd:=aj (show way.length+G.targets.length≤2*(100-f)∧BC (nV m l goal) (way++G.targets)<f∧∀t∈G.aN,t∈nV m l goal by
      refine⟨by omega,?_,fun t ht=>zQ HO.ou.symm t ht⟩
      have:=N0 de.ou.2 HQ.ou.symm (wG HO.ou.symm)
      have:=de.ou.1
      omega)
     have en:f≤100:=by omega
     clear ag cq
     go_wp2_with fail
     go_loopw [66] (fun i wr=>∃k:Nat,k≤G.aN.length∧i=.int .i64 k∧∃(M:AR) (d:List aK) (B:List (fW×dv)),Gw w wr g v m lA lc l.length M (way++G.targets) d B∧kW m l d (B.map (·.2))∧(∀y∈B,y.2.targets.length≤2)∧B.length≤10∧al F7 w7 wr∧(∀q,sP g M (way++G.targets).length d.length B.length q→F7 q∨w7.heap.size≤q) ∧
      iE (dZ m l f (way++G.targets)) (B.map (·.2)) (G.aN.drop k)=iE (dZ m l f (way++G.targets)) (gs.map (·.2)) G.aN) (fun i _=>G.aN.length-(intOf i).toNat)
     case atStart=>exact⟨0,au _,rfl,_,s,gs,P7.ou,HD.ou,bv.ou,T,al.refl _ _,fun q hq=>.inl (by rw[em.ou];exact hq),rfl⟩
     case round=>
      clear k1 P7
      obtain⟨k,hk,rfl,M,d,B,hG,hD,h2,a4,hO,dT,d0⟩:=hrel
      have G8:=aj hG
      have D8:=aj (And.intro hD (And.intro h2 a4))
      have O8:=aj hO
      have S8:=aj dT
      have E8:=aj d0
      clear hG hD h2 a4 hO dT d0
      by_cases a1:k<G.aN.length
      ·obtain⟨bn,o,t,rfl,ht,ct⟩:=dq (dt.ou wr (O8.ou.gU fun _ _ e=>.inr e)) a1
       have HT:=aj ht
       have ep:wr.cell? ⟨bn,o+k,none⟩=some (S t):=ct ⟨wr,al.refl _ _⟩
       have HV:Hd (∀u,bf wr u→Calls Tryz.prog 70 #[.pointer (some ⟨g,0,none⟩),S t] u (Ny w u g v m l lA lc (sP g M (way++G.targets).length d.length B.length) (way++G.targets) (dZ m l f (way++G.targets) (B.map (·.2)) t))):=fun u hu=>
        HI.ou en u M (way++G.targets) d B t (G8.ou.ext hu) D8.ou.1 D8.ou.2.1 D8.ou.2.2 (by rw[af];exact bd.ou.1) (bd.ou.2.2 t (ah ht)) bd.ou.2.1
       obtain⟨⟨out,Y⟩,hr⟩:∃r,r=dZ m l f (way++G.targets) (B.map (·.2)) t:=⟨_,rfl⟩
       rw[←hr] at HV
       have HR:=aj hr
       clear ht ct hr
       go_wp2_with fail
       refine(HV.ou wr (al.refl _ _)).mono ?_
       rintro e u5 ⟨he,o5,hz⟩
       have he:e=.returned (eT Y):=he
       subst he
       have O9:=aj (O8.ou.under o5 S8.ou)
       have HZ:=aj hz
       have hS:=aj (Hz HT.ou HR.ou.symm)
       clear o5 hz HV ep
       by_cases h0:Y=0
       ·subst h0
        rw[cO]
        go_wp2_with fail
        go_roundw
        case rel=>
         obtain⟨a2,cu,er,g2,e2,d2,t2,l2,s2⟩:=HZ.ou (by first|trivial|rfl)
         refine⟨k+1,by omega,by go_num,a2,cu,er,g2,by rw[e2];exact d2,t2,l2,O9.ou,fun q hq=>?_,?_⟩
         ·rcases s2 q hq with h|h
          ·exact S8.ou q h
          ·exact .inr (aJ O8.ou.size h)
         ·rw[←E8.ou,hS.ou,e2]
          try rfl
        case measure=>simp[intOf];omega
       ·rw[bS h0]
        go_wp2_with fail
        go_ret
        have hv:dZ m l (f+1) way (gs.map (·.2)) j=(out,Y):=by
         rw[yW HQ.ou.symm b7.ou HO.ou.symm (by rw[←E8.ou,hS.ou,ab (show(out,Y).2≠0 from h0)])]
         exact ab h0
        rw[hv]
        refine⟨show _=Ending.returned (eT Y) by rw[bS h0];rfl,?_,fun h=>absurd h h0⟩
        exact((al.any (X2.ou.ae X4.ou)).trans W.ou fun _ _ e=>e).trans O9.ou fun q hq e=>(co.ou q e).elim id fun h=>absurd h (by have:=(X2.ou.ae X4.ou).size;omega)
      ·obtain rfl:k=G.aN.length:=by omega
       have hE:Hd (iE (dZ m l f (way++G.targets)) (gs.map (·.2)) G.aN=(B.map (·.2),0)):=by
        rw[Hd,←E8.ou,cr (aq _)];rfl
       have cx:Hd (Cs wr P ia #[.slice x.tA G.targets.length x.tc,.slice x.nA G.aN.length x.nc,.slice x.cA G.bD.length x.cc,.bool G.ba]):=bc.ou.aP O8.ou cn.ou
       have ex:way.length+G.targets.length≤M.wc:=by have:=Dt G8.ou.fw.own;rw[af] at this;exact this
       have e6:=bc.ou.lt
       have k4:∀ξ:X wr No,ξ.v.cell? ⟨g,4,none⟩=some (.slice M.wA (way.length+G.targets.length:Nat) M.wc):=by rw[←af];exact G8.ou.cs.x id 4
       have k0:∀ξ:X wr No,ξ.v.cell? ⟨P,0,none⟩=some (.slice x.tA G.targets.length x.tc):=cx.ou.x id 0
       have y0:wr.drew.cell? ⟨g,4,none⟩=some (.slice M.wA (way.length+G.targets.length:Nat) M.wc):=by rw[←af];exact(G8.ou.ext (al.refl No wr).drew).cs.cell 4
       have z0:=G8.ou.cs.frozen 4
       clear HI dt bd E8 a1 hk bc
       go_upto_region 20 with fail
       refine aV [17] 17 (Cl wr No) (by kernel_rfl) (by kernel_rfl) (Cl.of (al.refl _ _).drew) ?_
       refine dH ?_
       (refine bQ ?_;intro K hK)
       refine hK _ _ (fun hne=>absurd rfl hne) ?_
       clear hK K y0 z0 k4 k0
       refine bj ?_
       refine ar ?_
       obtain⟨w9,bg⟩:∃u,u=(wr.setCell ⟨g,4,none⟩ (.slice M.wA (way.length:Nat) M.wc)).drew:=⟨_,rfl⟩
       rw[←bg]
       have P9:Hd (Gw w w9 g v m lA lc l.length M way d B):=by
        have h:=G8.ou.V6 (k:=way.length) (by rw[af];omega)
        rw[fJ rfl] at h
        rw[Hd,bg]
        exact h.ext (al.refl No _).drew
       have O9:Hd (al (sP g M way.length d.length B.length) wr w9):=by
        rw[Hd,bg]
        exact((al.refl _ _).setCell (p:=⟨g,4,none⟩) (.inr (.inl rfl)) _).drew
       obtain⟨F9,cy⟩:∃F9,F9=sP g M way.length d.length B.length:=⟨_,rfl⟩
       have cz:=aj cy
       have ai:Hd (∀q,F9 q→F7 q∨w7.heap.size≤q):=fun q hq=>S8.ou q (by rw[Su g M _ _ _ way.length d.length B.length,←cz.ou];exact hq)
       rw[←cy] at O9
       clear bg cy
       have a5:Hd (al F7 w7 w9):=O8.ou.under O9.ou ai.ou
       have c0:=aj (dl.ou.kY a5.ou ai.ou)
       have d1:=aj (cm.ou.kY a5.ou ai.ou)
       have d3:=aj (dn.ou.kY a5.ou ai.ou)
       have c4:Hd (¬F9 P):=fun e=>(ai.ou P e).elim cn.ou fun h=>by omega
       have bi:Hd (Cs w9 P ia #[.slice x.tA G.targets.length x.tc,.slice x.nA G.aN.length x.nc,.slice x.cA G.bD.length x.cc,.bool G.ba]):=cx.ou.aP O9.ou c4.ou
       clear cx dl cm dn
       have eL:d.length≤l.length+20:=D8.ou.1.len (by rw[bH];exact D8.ou.2.2) (by
        intro y hy
        obtain⟨z,hz,rfl⟩:=cw.1 hy
        exact D8.ou.2.1 z hz)
       obtain⟨E,H⟩:∃E:Nat→Prop,E=fun q=>(Value.slice M.dA d.length M.dc).ownBlock=some q:=⟨_,rfl⟩
       have O:¬E g:=by
        rw[H]
        exact fun e=>aO P9.ou.fd.own P9.ou.cs (by decide) _ e rfl
       have Q:¬E P:=by
        rw[H]
        exact fun e=>aO P9.ou.fd.own bi.ou (by decide) _ e rfl
       have k5:∀ξ:X w9 E,ξ.v.cell? ⟨g,5,none⟩=some (.slice M.dA d.length M.dc):=P9.ou.cs.x O 5
       have k0:∀ξ:X w9 E,ξ.v.cell? ⟨P,0,none⟩=some (.slice x.tA G.targets.length x.tc):=bi.ou.x Q 0
       have N:=aj H
       clear H O Q
       go_upto_region 21 with fail
       refine aV [7,10] 10 (Cl w9 E) (by kernel_rfl) (by kernel_rfl) (Cl.of (al.refl _ _).drew) ?_
       refine dH ?_
       have xd:bf w9 w9.drew:=(al.refl No _).drew
       have GD:=aj (P9.ou.ext xd)
       have TD:=aj (c0.ou.ext xd)
       refine cH rfl rfl ?_
       intro K hK
       refine eO (v:=.slice M.dA d.length M.dc) (n:=d.length) (xs:=d.flatMap cI.enc) p8 rfl rfl rfl GD.ou.fd.own (TD.ou.here.rd (by decide)) (qE _) (by omega) ?_
       intro A2 c2 wd C D J
       have ak:=aj (GD.ou.RH (ts:=G.targets) C D J)
       have c5:Hd (al E w9 wd):=(al.refl _ _).drew.grown D fun g hg=>.inr (by rw[N.ou];exact hg)
       refine hK _ _ (fun _=>Cl.of c5.ou) ?_
       clear hK K
       refine bj ?_
       have C7:=GD.ou.cs.aP ((al.refl (fun b=>(Value.slice M.dA d.length M.dc).ownBlock=some b) _).grown D fun g hg=>.inr hg) (fun e=>aO GD.ou.fd.own GD.ou.cs (by decide) _ e rfl)
       have y0:wd.cell? ⟨g,5,none⟩=some (.slice M.dA d.length M.dc):=C7.cell 5
       have z0:=C7.frozen 5
       have ag:=aj J
       clear C7 C D J xd
       refine dH ?_
       (refine bQ ?_;intro K hK)
       refine hK _ _ (fun hne=>absurd rfl hne) ?_
       clear hK K y0 z0
       refine bj ?_
       refine ar ?_
       obtain⟨I,a6⟩:∃u,u=wd.setCell ⟨g,5,none⟩ (.slice A2 (d.length+G.targets.length:Nat) c2):=⟨_,rfl⟩
       rw[←a6] at ak ⊢
       obtain⟨aD,c6⟩:∃aD:AR,aD={ M with dA:=A2,dc:=c2 }:=⟨_,rfl⟩
       rw[←c6] at ak
       obtain⟨Z,a7⟩:∃Z,Z=sP g aD way.length (d++G.targets).length B.length:=⟨_,rfl⟩
       have L:=aj a7
       have ap:Hd (∀q,Z q→F9 q∨w9.heap.size≤q):=by
        rw[Hd,a7,cz.ou,c6]
        rintro q (e|e|e|e)
        ·exact .inl (.inl e)
        ·exact .inl (.inr (.inl e))
        ·rw[af] at e
         rcases ag.ou with hb|hb
         ·exact .inl (.inr (.inr (.inl (hb.symm.trans e))))
         ·have U:some w9.drew.heap.size=some q:=hb.symm.trans e
          injection U with U
          exact .inr (by rw[←U];exact aq _)
        ·exact .inl (.inr (.inr (.inr e)))
       have ac:Hd (al F9 w9 I):=by
        rw[Hd,a6,cz.ou]
        exact(c5.ou.gU fun q _ e=>by rw[N.ou] at e;exact .inr (.inr (.inl e))).setCell (p:=⟨g,5,none⟩) (.inr (.inl rfl)) _
       have bo:Hd (al F7 w7 I):=a5.ou.under ac.ou ai.ou
       have am:Hd (∀q,Z q→F7 q∨w7.heap.size≤q):=fun q hq=>by
        rcases ap.ou q hq with h|h
        ·exact ai.ou q h
        ·exact .inr (aJ a5.ou.size h)
       have d4:=aj (c0.ou.kY ac.ou ap.ou)
       have d5:=aj (d1.ou.kY ac.ou ap.ou)
       have d6:=aj (d3.ou.kY ac.ou ap.ou)
       have av:=aj (bi.ou.aP ac.ou c4.ou)
       have d7:Hd (¬Z P):=fun e=>(am.ou P e).elim cn.ou fun h=>by omega
       have hv:=aj (yW HQ.ou.symm b7.ou HO.ou.symm hE.ou)
       have e7:I.cell? ⟨g,6,none⟩=some (.slice aD.oA B.length aD.oc):=ak.ou.cs.cell 6
       have OU:Hd (∀z,al Z I z→al F u z):=fun z hz=>
        ((al.any (X2.ou.ae X4.ou)).trans W.ou fun _ _ e=>e).trans (bo.ou.under hz am.ou) fun q hq e=>(co.ou q e).elim id fun h=>absurd h (by have:=(X2.ou.ae X4.ou).size;omega)
       have bk:Hd (∀q,Z q→F q∨u.heap.size≤q):=fun q hq=>by
        have s1:=(X2.ou.ae X4.ou).size
        have s2:=W.ou.size
        rcases am.ou q hq with h|h
        ·rcases co.ou q h with h|h
         ·exact .inl h
         ·exact .inr (by omega)
        ·exact .inr (by omega)
       clear a6 a7 c6 c5 GD TD c0 d1 d3 bi c4 N k5 k0 ag hE
       by_cases a4:B.length=10
       ·go_wp2_with fail
        go_ret
        rw[hv.ou,aa (by simp),ab (by rw[bH];exact a4)]
        exact⟨rfl,OU.ou _ (al.refl _ _),fun h=>absurd (show(2:Int)=0 from h) (by decide)⟩
       ·have e8:B.length≤9:=by have:=D8.ou.2.2;omega
        obtain⟨E,H⟩:∃E:Nat→Prop,E=fun q=>(Value.slice aD.oA B.length aD.oc).ownBlock=some q:=⟨_,rfl⟩
        have O:¬E g:=by
         rw[H]
         exact fun e=>aO ak.ou.fo.own ak.ou.cs (by decide) _ e rfl
        have Q:¬E P:=by
         rw[H]
         exact fun e=>d7.ou (by rw[L.ou];exact .inr (.inr (.inr e)))
        have k6:∀ξ:X I E,ξ.v.cell? ⟨g,6,none⟩=some (.slice aD.oA B.length aD.oc):=ak.ou.cs.x O 6
        have b0:∀ξ:X I E,ξ.v.cell? ⟨P,0,none⟩=some (.slice x.tA G.targets.length x.tc):=av.ou.x Q 0
        have b1:∀ξ:X I E,ξ.v.cell? ⟨P,1,none⟩=some (.slice x.nA G.aN.length x.nc):=av.ou.x Q 1
        have b2:∀ξ:X I E,ξ.v.cell? ⟨P,2,none⟩=some (.slice x.cA G.bD.length x.cc):=av.ou.x Q 2
        have b3:∀ξ:X I E,ξ.v.cell? ⟨P,3,none⟩=some (.bool G.ba):=av.ou.x Q 3
        have N:=aj H
        clear H O Q
        go_upto_region 24 with fail
        refine aV [6,7,10] 10 (Cl I E) (by kernel_rfl) (by kernel_rfl) (Cl.of (al.refl _ _).drew) ?_
        refine dH ?_
        (refine bQ ?_;intro K hK)
        obtain⟨c7,a0⟩:∃u,u=(I.alloc (.cells #[.slice x.tA G.targets.length x.tc,.slice x.nA G.aN.length x.nc,.slice x.cA G.bD.length x.cc,.bool G.ba] ia)).drew:=⟨_,rfl⟩
        have ao:Hd (bf I c7):=by rw[a0];exact((al.refl No I).alloc _).drew
        have d8:Rd c7 (some ⟨I.heap.size,0,none⟩) 1 4 [.slice x.tA G.targets.length x.tc,.slice x.nA G.aN.length x.nc,.slice x.cA G.bD.length x.cc,.bool G.ba]:=by
         rw[a0]
         exact iQ I _ [.slice x.tA G.targets.length x.tc,.slice x.nA G.aN.length x.nc,.slice x.cA G.bD.length x.cc,.bool G.ba]
        rw[←a0]
        clear a0
        have a8:=aj (ak.ou.ext ao.ou)
        refine hK _ _ (fun _=>Cl.of (al.any ao.ou)) ?_
        clear hK K
        refine bj ?_
        refine cH rfl rfl ?_
        intro K hK
        refine eO (v:=.slice aD.oA B.length aD.oc) (n:=B.length) (xs:=B.flatMap He.enc) Ut rfl rfl rfl a8.ou.fo.own d8 (by simp[Value.oneCell']) (by omega) ?_
        intro A3 c3 we C D J
        have es:=aj (a8.ou.EA (t:=(x,G)) C D J ⟨by rw[←L.ou];exact d4.ou.ext ao.ou,by rw[←L.ou];exact d5.ou.ext ao.ou,by rw[←L.ou];exact d6.ou.ext ao.ou⟩)
        have d9:Hd (al E I we):=(al.any ao.ou).grown D fun g hg=>.inr (by rw[N.ou];exact hg)
        refine hK _ _ (fun _=>Cl.of d9.ou) ?_
        clear hK K
        refine bj ?_
        have C7:=a8.ou.cs.aP ((al.refl (fun b=>(Value.slice aD.oA B.length aD.oc).ownBlock=some b) _).grown D fun g hg=>.inr hg) (fun e=>aO a8.ou.fo.own a8.ou.cs (by decide) _ e rfl)
        have y0:we.cell? ⟨g,6,none⟩=some (.slice aD.oA B.length aD.oc):=C7.cell 6
        have z0:=C7.frozen 6
        have et:=aj J
        clear C7 C D J d8
        refine dH ?_
        (refine bQ ?_;intro K hK)
        refine hK _ _ (fun hne=>absurd rfl hne) ?_
        clear hK K y0 z0
        refine bj ?_
        refine ar ?_
        have ev:Hd (al Z I (we.setCell ⟨g,6,none⟩ (.slice A3 (B.length+1:Nat) c3))):=by
         rw[Hd,L.ou]
         exact(d9.ou.gU fun q _ e=>by rw[N.ou] at e;exact .inr (.inr (.inr e))).setCell (p:=⟨g,6,none⟩) (.inr (.inl rfl)) _
        go_wp2_with fail
        go_ret
        rw[hv.ou,aa (by simp),aa (by rw[bH];exact a4)]
        refine⟨rfl,OU.ou _ ev.ou,fun _=>⟨_,_,_,es.ou,?_,?_,?_,?_,?_⟩⟩
        ·rw[cU];rfl
        ·exact D8.ou.1.grp
        ·intro y hy
         rcases az.1 hy with hy|hy
         ·exact D8.ou.2.1 y hy
         ·obtain rfl:=aC.1 hy
          exact ek
        ·rw[af,bE];omega
        ·rintro q (e|e|e|e)
         ·exact bk.ou q (by rw[L.ou];exact .inl e)
         ·exact bk.ou q (by rw[L.ou];exact .inr (.inl e))
         ·exact bk.ou q (by rw[L.ou];exact .inr (.inr (.inl e)))
         ·rw[af] at e
          rcases et.ou with hb|hb
          ·exact bk.ou q (by rw[L.ou];exact .inr (.inr (.inr (hb.symm.trans e))))
          ·have U:some c7.heap.size=some q:=hb.symm.trans e
           injection U with U
           have s1:=(X2.ou.ae X4.ou).size
           have s2:=W.ou.size
           have s3:=bo.ou.size
           have s4:=ao.ou.size
           exact .inr (by omega)
end Go.Proofs.YtpgmcijdcnnjpaaGreatDoor
