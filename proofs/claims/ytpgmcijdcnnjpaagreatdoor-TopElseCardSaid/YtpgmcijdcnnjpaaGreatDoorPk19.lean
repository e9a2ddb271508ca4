/- Lemmas for it. -/
import Derived.Test.YtpgmcijdcnnjpaaGreatDoorPk17
import Derived.Test.YtpgmcijdcnnjpaaGreatDoorPk18
set_option linter.all false
set_option maxRecDepth 100000
set_option maxHeartbeats 2000000
namespace Go.Proofs.YtpgmcijdcnnjpaaGreatDoor
open Go Go.RowKit
variable {c i j k n vb:Nat} {u:List Nat} {t:aK} {l own:List bm} {g:dv} {m:Mk} {w:World} {A:Option Addr} {xs:List Ch} {rest:List Value}
theorem pX(n:Nat)(st:List Bool)(r:Nat→Nat)(i:Nat):(kj n st r i).Pairwise (·<·):=List.Pairwise.filter _ List.pairwise_lt_range
section
variable {gs:List dv} {st:List Bool} {r:Nat→Nat}
theorem zj(h:kQ (jc gs st) gs.length r) (b:k<gs.length):r k<gs.length∧r (r k)=r k∧r k≤k:=by
 have c:=(h k b).1
 have a:r k<gs.length:=c.lt (fun e he=>by have:=se e he;omega) b
 have d:=h (r k) a
 have f:ym (jc gs st) (r k) (r k):=⟨.here,fun y hy=>(h k b).2 y (c.trans hy)⟩
 exact⟨a,d.uniq f,(h k b).2 k .here⟩
theorem GI(h:kQ (jc gs st) gs.length r){x y:Nat}(c:x<gs.length)(a:y<gs.length)(b:kL (jc gs st) x y):r x=r y:=by
 have d:=h x c
 have e:ym (jc gs st) x (r y):=⟨b.trans (h y a).1,fun z hz=>(h y a).2 z (b.symm.trans hz)⟩
 exact d.uniq e
theorem Bv(h:kQ (jc gs st) gs.length r) (d:kj gs.length st r i≠[]):(kj gs.length st r i)[0]?=some i:=by
 obtain⟨k,g⟩:=List.exists_mem_of_ne_nil _ d
 obtain⟨f,j,rfl⟩:=ka.1 g
 obtain⟨l,m,u⟩:=zj h f
 have n:∀e∈jc gs st,pk st e.1=true∧pk st e.2=true:=fun e he=>(se e he).2.2
 have o:pk st (r k)=true:=by
  rcases(h k f).1.Sb n with e|e
  ·rw[←e];exact j
  ·exact e
 have b:r k∈kj gs.length st r (r k):=ka.2 ⟨l,o,m⟩
 have c:=pX gs.length st r (r k)
 cases hu:kj gs.length st r (r k) with
 | nil=>rw[hu] at b;cases b
 | cons a t=>
  rw[hu] at b c
  have p:a∈kj gs.length st r (r k):=by rw[hu];simp
  obtain⟨q,v,w⟩:=ka.1 p
  have s:=(zj h q).2.2
  rcases aY.1 b with e|e
  ·rw[e];rfl
  ·have:=(dp.1 c).1 _ e
   omega
theorem JS{a:List Nat}(h:pQ gs a=true):a≠[]:=by rintro rfl;cases h
theorem lp  (h:u∈ig gs st r i):∃p,p<i∧u=kj gs.length st r p∧pQ gs u=true:=by
 unfold ig at h
 obtain⟨p,a,b⟩:=fX.1 h
 obtain⟨c,d⟩:=Ae b
 exact⟨p,dS.1 a,c,d⟩
theorem AF(h:kQ (jc gs st) gs.length r):∀i,(ig gs st r i).Pairwise fun a b=>a.headD 0<b.headD 0
 | 0=>by simp[ig]
 | i+1=>by
  rw[uY]
  refine eN.2 ⟨AF h i,?_,fun a ha b hb=>?_⟩
  ·cases pJ gs st r i<;>simp
  ·obtain⟨p,f,rfl,g⟩:=lp ha
   cases hu:pJ gs st r i with
   | none=>rw[hu] at hb;cases hb
   | some u=>
    rw[hu] at hb
    simp at hb
    subst hb
    obtain⟨rfl,c⟩:=Ae hu
    have d:=Bv h (JS g)
    have e:=Bv h (JS c)
    rw[←List.head?_eq_getElem?] at d e
    rw[jC,jC,d,e]
    exact f
theorem Fu(h:kQ (jc gs st) gs.length r) (a:k<gs.length)(b:pk st k=true)(c:Hj gs k=true):kj gs.length st r (r k)∈dD gs st r:=by
 obtain⟨d,_,_⟩:=zj h a
 refine fX.2 ⟨r k,dS.2 d,?_⟩
 unfold pJ
 rw[ab]
 unfold pQ
 rw[iR]
 exact⟨k,ka.2 ⟨a,b,rfl⟩,c⟩
variable {us:List (List Nat)}
theorem EM(h:kQ (jc gs st) gs.length r)(c:us=dD gs st r) {v:List Nat} (e:us[i]?=some u)(f:us[j]?=some v)(n:k∈u)(o:k∈v):i=j:=by
 subst c
 obtain⟨p,_,rfl,s⟩:=lp (ah e)
 obtain⟨q,_,rfl,t⟩:=lp (ah f)
 have w:=(ka.1 n).2.2
 have x:=(ka.1 o).2.2
 have d:p=q:=w.symm.trans x
 subst d
 obtain⟨a,g⟩:=aw.1 e
 obtain⟨b,l⟩:=aw.1 f
 have m:=cL.1 (AF h gs.length)
 rcases jg i j with hlt|heq|hgt
 ·have:=m i j a b hlt
  rw[g,l] at this
  omega
 ·exact heq
 ·have:=m j i b a hgt
  rw[g,l] at this
  omega
theorem xG{out:List dv}{n:aK} (h:gQ out n=some k)(c:k<i):gQ (out.take i) n=some k:=by
 unfold gQ at h ⊢
 obtain⟨d,a,b⟩:=cK.1 h
 refine cK.2 ⟨by rw[aH];omega,by rw[jh];exact a,fun j hj=>?_⟩
 rw[jh]
 exact b j hj
theorem JG{gs:List dv}{st:List Bool} {G:dv} (a:gs[i]?=some G)(b:t∈G.aN)(c:gQ gs t=some k)(d:k<i)(e:pk st i=true)(f:pk st k=true):(i,k)∈jc gs st:=by
 have g:=(aw.1 a).1
 refine cG.2 ⟨i,dS.2 g,fX.2 ⟨t,by rw[Oo,a];exact b,?_⟩⟩
 unfold nf
 rw[xG c d]
 show(if (pk st i&&pk st k)=true then some (i,k) else none)=_
 rw[e,f];rfl
end
section
variable {α:Type} {key:α→aK}
theorem eZ(k:aK)(x:α)(l:List α):dY key k (x::l)=if key x=k then some x else dY key k l:=by
 unfold dY
 rw[kM]
 by_cases h:key x=k<;>simp[h]
theorem sG{k a:aK}(b:k≠a)(l:List α):dY key k (l.filter fun y=>decide (key y≠a))=dY key k l:=by
 induction l with
 | nil=>rfl
 | cons x l ih=>
  rw[dC,eZ]
  by_cases h:key x=k
  ·have:key x≠a:=fun e=>b (h▸e)
   rw[ab (by simpa using this),eZ,ab h,ab h]
  ·rw[aa h]
   split
   ·rw[eZ,aa h,ih]
   ·exact ih
theorem sM(f:α)(l:List α):dY key (key f) (jY key f l)=some f:=by
 induction l with
 | nil=>simp[jY,dY]
 | cons x l ih=>
  unfold jY
  split
  ·rw[eZ,ab rfl]
  ·rename_i h
   rw[eZ,aa (pa (BK (by simpa using h))),ih]
theorem my{k:aK}(f:α)(a:k≠key f)(l:List α):dY key k (jY key f l)=dY key k l:=by
 induction l with
 | nil=>simp[jY,dY,Ne.symm a]
 | cons x l ih=>
  unfold jY
  split
  ·rw[eZ,aa (Ne.symm a),sG a]
  ·rw[eZ,eZ,ih]
theorem CN(k:aK)(l:List α):dY key k (kD key k l)=none:=by
 unfold dY kD
 rw[eI]
 intro y a
 have:=(fF.1 a).2
 simpa using this
end
theorem jH{k:aK} {x:bm}(h:dY fk k l=some x):x∈l∧x.1=k:=by
 unfold dY at h
 have a:=jb h
 exact⟨dL h,by simpa using a⟩
theorem oZ:∀{l m:List bm},eQ fk l→eQ fk m→(∀k,dY fk k l=dY fk k m)→l=m
 | [],[],_,_,_=>rfl
 | [],y::m,_,_,h=>by
  have:=h (fk y)
  rw[eZ,ab rfl] at this
  simp[dY] at this
 | x::l,[],_,_,h=>by
  have:=h (fk x)
  rw[eZ,ab rfl] at this
  simp[dY] at this
 | x::l,y::m,hl,hm,h=>by
  have c:fk x=fk y:=by
   by_cases d:fk x=fk y
   ·exact d
   ·exfalso
    have a:=h (fk x)
    rw[eZ,ab rfl,eZ,aa (Ne.symm d)] at a
    have i:=h (fk y)
    rw[eZ,aa d,eZ,ab rfl] at i
    have j:=hm.head _ (jH a.symm).1
    have n:=hl.head _ (jH i).1
    exact xi j n
  have e:x=y:=by
   have a:=h (fk x)
   rw[eZ,ab rfl,eZ,ab c.symm] at a
   exact bB a
  subst e
  rw[oZ hl.tail hm.tail fun k=>?_]
  by_cases b:fk x=k
  ·have o:dY fk k l=none:=by
    cases hg:dY fk k l with
    | none=>rfl
    | some z=>obtain⟨f,g⟩:=jH hg;exact absurd (b.trans g.symm) (pa (hl.head z f))
   have p:dY fk k m=none:=by
    cases hg:dY fk k m with
    | none=>rfl
    | some z=>obtain⟨f,g⟩:=jH hg;exact absurd (b.trans g.symm) (pa (hm.head z f))
   rw[o,p]
  ·have:=h k
   rwa [eZ,aa b,eZ,aa b] at this
theorem xY(k:aK):∀(own:List bm) (l:List bm),(own.map fk).Nodup→dY fk k (dE own l)=(dY fk k own).or (dY fk k l)
 | [],l,_=>rfl
 | f::own,l,h=>by
  show dY fk k (dE own (jY fk f l))=_
  have b:=gG.1 h
  rw[xY k own _ b.2,eZ]
  by_cases a:fk f=k
  ·subst a
   have c:dY fk (fk f) own=none:=by
    cases hg:dY fk (fk f) own with
    | none=>rfl
    | some z=>obtain⟨d,g⟩:=jH hg;exact absurd (g▸cC d) b.1
   rw[ab rfl,sM,c]
   try rfl
  ·rw[aa a,my f (fun e=>a e.symm)]
theorem rQ (h:eQ fk l):(l.map fk).Nodup:=by
 unfold eQ at h
 exact List.pairwise_map.2 (h.imp fun h=>pa h)
theorem nS{k:aK} (h:eQ fk own):dY fk k (dE own l)=(dY fk k own).or (dY fk k l):=xY k own l (rQ h)
theorem Df{out c:List bm}(d:eQ fk own)(a:eQ fk out)(b:eQ fk c)(h:l=dE out c):dE own l=dE (dE own out) c:=by
 subst h
 refine oZ (jG own (jG out b)) (jG _ b) fun k=>?_
 rw[nS d,nS a,nS (jG own a),nS d]
 cases dY fk k own<;>rfl
def kV(l:List bm)(K:aK→Option iT)(g:dv):Bool:=match K (g.targets.headD []),jR l g.targets [] with
 | some r,some o=>oB r (jw g l o)
 | _,_=>false
theorem qB(l:List bm)(F:aK→Option (jy×iT))(g:dv):ld l F g=kV l (fun s=>(F s).map (·.2)) g:=by
 unfold ld kV
 show _=(match (F (g.targets.headD [])).map (·.2),jR l g.targets [] with
  | some r,some o=>oB r (jw g l o)
  | _,_=>false)
 cases F (g.targets.headD [])<;>cases jR l g.targets []<;>rfl
def ox(gs:List dv):List Nat→List bm→(aK→Option iT)→Option (List bm×(aK→Option iT))
 | [],l,K=>some (l,K)
 | k::ks,l,K=>match gs[k]? with
  | none=>ox gs ks l K
  | some g=>if g.ba=true then ox gs ks l K
   else if (gV l g).2≠0 then none
   else ox gs ks (dE (gV l g).1.1 l) (fun s=>if s=g.targets.headD [] then some (gV l g).1.2 else K s)
theorem wk(gs:List dv):∀(a b:List Nat) (l:List bm) (K:aK→Option iT),ox gs (a++b) l K=(ox gs a l K).bind fun s=>ox gs b s.1 s.2
 | [],b,l,K=>rfl
 | k::a,b,l,K=>by
  show ox gs (k::(a++b)) l K=_
  rw[ox,ox]
  cases gs[k]? with
  | none=>exact wk gs a b l K
  | some g=>
   simp only
   split
   ·exact wk gs a b l K
   ·split
    ·rfl
    ·exact wk gs a b _ _
def Bo(A B:aK→Option iT):aK→Option iT:=fun s=>(A s).or (B s)
theorem Le(A B:aK→Option iT)(n:aK)(r:iT):Bo (fun s=>if s=n then some r else A s) B=fun s=>if s=n then some r else Bo A B s:=by
 funext s
 show(if s=n then some r else A s).or (B s)=if s=n then some r else (A s).or (B s)
 split<;>rfl
theorem tr(gs:List dv):∀(u:List Nat) (l out l0:List bm) (K:List (aK×iT)) (K0:aK→Option iT),eQ fk out→eQ fk l0→l=dE out l0→(eB gs u l out K).2=0 →
  ox gs u l (Bo (ja K) K0)=some (dE (eB gs u l out K).1.1 l0,Bo (ja (eB gs u l out K).1.2) K0)
 | [],l,out,l0,K,K0,_,_,h,_=>by rw[ox,eB,h]
 | k::ks,l,out,l0,K,K0,ho,h0,h,hz=>by
  rw[eB] at hz ⊢
  rw[ox]
  cases hg:gs[k]? with
  | none=>rw[hg] at hz;exact tr gs ks l out l0 K K0 ho h0 h hz
  | some g=>
   rw[hg] at hz
   simp only at hz ⊢
   by_cases a:g.ba=true
   ·rw[ab a] at hz ⊢
    rw[ab a]
    exact tr gs ks l out l0 K K0 ho h0 h hz
   ·rw[aa a] at hz ⊢
    rw[aa a]
    by_cases b:(gV l g).2≠0
    ·rw[ab b] at hz;exact absurd hz b
    ·rw[aa b] at hz ⊢
     rw[aa b]
     have c:eQ fk (gV l g).1.1:=by
      have:=(mP l g).1
      unfold gV
      split
      ·exact List.Pairwise.nil
      ·split
       ·exact List.Pairwise.nil
       ·exact this
     rw[←tr gs ks _ _ l0 _ K0 (jG _ ho) h0 (Df c ho h0 h) hz,rY,Le]
theorem MC:∀(a b:List aK),(∀x∈a,x∈b)→a.Nodup→b.length≤a.length→∀y∈b,y∈a
 | [],b,_,_,h,y,hy=>by
  have:b=[]:=bM (by simpa using h)
  rw[this] at hy;exact hy
 | x::a,b,hs,c,h,y,hy=>by
  have c:=gG.1 c
  by_cases e:y=x
  ·rw[e];exact bO
  ·refine aE _ (MC a (b.erase x) (fun z hz=>(iu (fun e:z=x=>c.1 (e▸hz))).2 (hs z (aE _ hz))) c.2 ?_ y ((iu e).2 hy))
   rw[iC (hs x bO)]
   rw[an] at h
   omega
theorem qv{l:List bm}:∀{ts:List aK} {out o:List bm},eQ fk out→jR l ts out=some o→eQ fk o∧(∀t∈ts,ji t l=true)∧∀k,dY fk k o=if k∈ts then some (k,ki k l) else dY fk k out
 | [],out,o,hr,h=>by cases h;exact⟨hr,(fun t ht=>by cases ht),fun k=>by simp⟩
 | t::ts,out,o,hr,h=>by
  rw[jR] at h
  by_cases b:ji t l=true
  ·rw[ab b] at h
   obtain⟨c,d,f⟩:=qv (ny hr _) h
   refine⟨c,fun u hu=>?_,fun k=>?_⟩
   ·rcases aY.1 hu with rfl|hu
    ·exact b
    ·exact d u hu
   ·rw[f k]
    by_cases a:k∈ts
    ·rw[ab a,ab (aE _ a)]
    ·rw[aa a]
     by_cases e:k=t
     ·subst e
      rw[ab bO]
      exact sM (key:=fk) (k,ki k l) out
     ·rw[aa (fun hm=>(aY.1 hm).elim e a)]
      exact my (key:=fk) (t,ki t l) e out
  ·rw[aa b] at h;cases h
theorem zn{l:List bm}:∀{ts:List aK} {out:List bm},(∀t∈ts,ji t l=true)→∃o,jR l ts out=some o
 | [],out,_=>⟨out,rfl⟩
 | t::ts,out,h=>by
  rw[jR,ab (h t bO)]
  exact zn fun u hu=>h u (aE _ hu)
theorem s9{l m:List bm}:∀{ts:List aK} {out:List bm},(∀t∈ts,dY fk t l=dY fk t m)→jR l ts out=jR m ts out
 | [],out,_=>rfl
 | t::ts,out,h=>by
  have a:=h t bO
  rw[jR,jR,show ji t l=ji t m by unfold ji;rw[a],show ki t l=ki t m by unfold ki;rw[a],s9 fun u hu=>h u (aE _ hu)]
theorem rF{l m:List bm}:∀{ns:List aK},(∀t∈ns,dY fk t l=dY fk t m)→qk l ns=qk m ns
 | [],_=>rfl
 | t::ns,h=>by
  have a:=h t bO
  have b:=rF (l:=l) (m:=m) (ns:=ns) fun u hu=>h u (aE _ hu)
  unfold qk at b ⊢
  rw[bN,bN,b,show ji t l=ji t m by unfold ji;rw[a],show ki t l=ki t m by unfold ki;rw[a]]
structure vC (gs:List dv):Prop where
 ds:gs.Pairwise fun a b=>∀t∈a.targets,t∉b.targets
 t1:∀g∈gs,1≤g.targets.length
 od:∀(i:Nat) g,gs[i]?=some g→∀n∈g.aN,∀(j:Nat) q,gs[j]?=some q→n∈q.targets→j<i
theorem vC.apart{gs:List dv}(h:vC gs) {q:dv}(k:gs[i]?=some g)(l:gs[j]?=some q) (a:t∈g.targets)(b:t∈q.targets):i=j:=by
 obtain⟨c,d⟩:=aw.1 k
 obtain⟨e,f⟩:=aw.1 l
 rcases jg i j with h3|h3|h3
 ·have:=cL.1 h.ds i j c e h3 t (d▸a)
  exact absurd (f▸b) this
 ·exact h3
 ·have:=cL.1 h.ds j i e c h3 t (f▸b)
  exact absurd (d▸a) this
theorem vC.head{gs:List dv}(h:vC gs) (b:g∈gs):g.targets.headD []∈g.targets:=by
 have:=h.t1 g b
 cases ht:g.targets with
 | nil=>rw[ht] at this;simp at this
 | cons a r=>simp
theorem DP  (h:(gV l g).2=0):∃own,(gV l g).1=(own,jw g l own)∧eQ fk own∧∀k,k∈own.map fk↔k∈g.targets:=by
 unfold gV at h ⊢
 by_cases c:(i6 l g).2≠0
 ·rw[ab c] at h;exact absurd h c
 ·rw[aa c] at h ⊢
  by_cases d:300<(lQ (jw g l (i6 l g).1)).length
  ·rw[ab d] at h;cases h
  ·rw[aa d]
   have e:=(mP l g).1
   have i:∀k∈(i6 l g).1.map fk,k∈g.targets:=fun k hk=>by
    obtain⟨f,j,rfl⟩:=cw.1 hk
    have:=vR l g f j
    simpa [iH] using this
   refine⟨_,rfl,e,fun k=>⟨i k,fun hk=>?_⟩⟩
   have m:g.targets.length≤((i6 l g).1.map fk).length:=by
    rw[bH]
    have c:(i6 l g).2=0:=by simpa using c
    unfold i6 at c ⊢
    split at c
    ·split at c
     ·cases c
     ·rename_i a b
      rw[ab a,aa b]
      exact Nat.le_of_not_lt b
    ·rename_i a;exact absurd c a
   exact MC _ _ i (rQ e) m k hk
def UH(gs:List dv)(S:List Nat):Prop:=∀(a:List Nat) (i:Nat) (b:List Nat),S=a++i::b→∀g,gs[i]?=some g→g.ba=false→∀n∈g.aN,∀(j:Nat) q,gs[j]?=some q→q.ba=false→n∈q.targets→j∈a
def Rx(gs:List dv)(D:List Nat)(l:List bm)(K:aK→Option iT):Prop:=∀i∈D,∀g,gs[i]?=some g→g.ba=false→kV l K g=true
theorem rB {k:aK}(h:k∉own.map fk):dY fk k own=none:=by
 cases hg:dY fk k own with
 | none=>rfl
 | some z=>obtain⟨a,b⟩:=jH hg;exact absurd (b▸cC a) h
theorem rZ{gs:List dv}(c:vC gs):∀(seq D:List Nat) (l:List bm) (K:aK→Option iT) (l':List bm) (K':aK→Option iT),(D++seq).Nodup→UH gs (D++seq)→Rx gs D l K→ox gs seq l K=some (l',K')→Rx gs (D++seq) l' K'
 | [],D,l,K,l',K',_,_,hd,h=>by
  rw[ox] at h
  cases h
  rw[cv];exact hd
 | k::ks,D,l,K,l',K',hn,ho,hd,h=>by
  have e:D++k::ks=(D++[k])++ks:=by rw[aT];rfl
  rw[ox] at h
  rw[e] at hn ho ⊢
  have w:k∉D:=by
   have:=(gu.1 hn).1
   intro O
   exact(gu.1 this).2.2 k O k (by simp) rfl
  cases hg:gs[k]? with
  | none=>
   rw[hg] at h
   refine rZ c ks (D++[k]) l K l' K' hn ho (fun i hi g hg' s=>?_) h
   rcases az.1 hi with hi|hi
   ·exact hd i hi g hg' s
   ·obtain rfl:=aC.1 hi
    rw[hg] at hg';cases hg'
  | some g=>
   rw[hg] at h
   simp only at h
   by_cases s:g.ba=true
   ·rw[ab s] at h
    refine rZ c ks (D++[k]) l K l' K' hn ho (fun i hi q hg' hq=>?_) h
    rcases az.1 hi with hi|hi
    ·exact hd i hi q hg' hq
    ·obtain rfl:=aC.1 hi
     rw[hg] at hg'
     cases hg'
     rw[s] at hq;cases hq
   ·rw[aa s] at h
    have s:g.ba=false:=by simpa using s
    by_cases G:(gV l g).2≠0
    ·rw[ab G] at h;cases h
    rw[aa G] at h
    obtain⟨own,y,H,u⟩:=DP (show(gV l g).2=0 by simpa using G)
    rw[y] at h
    have I:=ah hg
    have j:∀t,t∉g.targets→dY fk t (dE own l)=dY fk t l:=fun t d=>by
     rw[nS H,rB (fun h=>d ((u t).1 h))]
     try rfl
    refine rZ c ks (D++[k]) _ _ l' K' hn ho (fun i hi q hg' hq=>?_) h
    rcases az.1 hi with hi|hi
    ·have z:i≠k:=fun e=>w (e▸hi)
     have v:=hd i hi q hg' hq
     have J:=ah hg'
     unfold kV at v ⊢
     have P:q.targets.headD []≠g.targets.headD []:=fun e=>z (c.apart hg' hg (c.head J) (by rw[e];exact c.head I))
     have d:∀t∈q.targets,t∉g.targets:=fun t y p=>z (c.apart hg' hg y p)
     have A:∀t∈q.aN,t∉g.targets:=fun t y p=>by
      obtain⟨a,b,B⟩:=List.append_of_mem hi
      have:=ho a i (b++[k]++ks) (by rw[B];simp) q hg' hq t y k g hg s p
      exact w (by rw[B];exact cE _ this)
     show(match (if q.targets.headD []=g.targets.headD [] then some (jw g l own) else K (q.targets.headD [])),jR (dE own l) q.targets [] with
      | some r,some o=>oB r (jw q (dE own l) o)
      | _,_=>false)=true
     rw[aa P,s9 (m:=l) fun t h=>j t (d t h)]
     have n:qk (dE own l) q.aN=qk l q.aN:=rF fun t h=>j t (A t h)
     unfold jw at v ⊢
     rw[n]
     exact v
    ·obtain rfl:=aC.1 hi
     rw[hg] at hg'
     cases hg'
     have C:∀t∈g.targets,∃f,dY fk t own=some f∧dY fk t (dE own l)=some f:=fun t d=>by
      obtain⟨f,Q,e⟩:=cw.1 ((u t).2 d)
      have p:dY fk t own≠none:=fun F=>by
       unfold dY at F
       have:=eI.1 F f Q
       simp at this
       exact this e
      obtain⟨x,M⟩:=Option.ne_none_iff_exists'.1 p
      exact⟨x,M,by rw[nS H,M];rfl⟩
     obtain⟨o,E⟩:=zn (l:=dE own l) (ts:=g.targets) (out:=[]) fun t d=>by
      obtain⟨f,_,p⟩:=C t d
      unfold ji;rw[p];rfl
     obtain⟨R,_,S⟩:=qv List.Pairwise.nil E
     have L:o=own:=oZ R H fun t=>by
      rw[S t]
      by_cases d:t∈g.targets
      ·rw[ab d]
       obtain⟨f,N,F⟩:=C t d
       rw[N]
       have:=(jH N).2
       unfold ki
       rw[F,←this]
       try rfl
      ·rw[aa d,rB (fun h=>d ((u t).1 h))]
       try rfl
     subst L
     unfold kV
     show(match (if g.targets.headD []=g.targets.headD [] then some (jw g l o) else K (g.targets.headD [])),jR (dE o l) g.targets [] with
      | some r,some o'=>oB r (jw g (dE o l) o')
      | _,_=>false)=true
     rw[ab rfl,E]
     have n:qk (dE o l) g.aN=qk l g.aN:=rF fun t h=>j t fun p=>by
      have:=c.od _ g hg t h _ g hg p
      omega
     show oB (jw g l o) (jw g (dE o l) o)=true
     unfold jw
     rw[n]
     exact IY _
theorem Fo  {n:aK} (h:iY m l n=some g)(a:t∈g.targets):iY m l t≠none:=by
 rcases jK h with⟨r,hr,rfl⟩|⟨_,r,_,hs,rfl,_⟩
 ·rw[pD] at a
  have c:=(jn hr).1
  intro b
  unfold iY at b
  cases he:oD m.rules t with
  | none=>exact uR he r c a
  | some q=>rw[he] at b;cases b
 ·have a:t∈kA r n _:=a
  unfold kA at a
  rw[aa (qY hs)] at a
  obtain rfl:=aC.1 a
  rw[h]
  exact fun e=>by cases e
theorem Mp.ok  {gs:List dv}(h:Mp m l gs)(b:∀g∈gs,1≤g.targets.length):vC gs:=by
 refine⟨h.ds,b,fun i g hg n hn j q hq ht=>?_⟩
 rcases h.tp i g hg n hn with⟨k,p,hk,hp,hnp⟩|⟨h0,_⟩
 ·have:j=k:=(vC.apart ⟨h.ds,b,fun i g hg n hn j q hq ht=>?_⟩ hq hp ht hnp)
  ·omega
  ·rcases h.tp i g hg n hn with⟨k,p,hk,hp,hnp⟩|⟨h0,_⟩
   ·obtain⟨c,d⟩:=aw.1 hq
    obtain⟨e,f⟩:=aw.1 hp
    rcases jg j k with h3|h3|h3
    ·exact absurd (f▸hnp) (cL.1 h.ds j k c e h3 n (d▸ht))
    ·omega
    ·exact absurd (d▸ht) (cL.1 h.ds k j e c h3 n (f▸hnp))
   ·obtain⟨x,a⟩:=h.rl q (ah hq)
    exact absurd h0 (Fo a ht)
 ·obtain⟨x,a⟩:=h.rl q (ah hq)
  exact absurd h0 (Fo a ht)
section
variable {gs:List dv} {st:List Bool} {r:Nat→Nat}
theorem xk(h:kQ (jc gs st) gs.length r):(dD gs st r).flatten.Pairwise fun x y=>x≠y∧(r x=r y→x<y):=by
 refine List.pairwise_flatten.2 ⟨fun u a=>?_,?_⟩
 ·obtain⟨p,_,rfl,_⟩:=lp a
  exact(pX _ _ _ _).imp fun h=>⟨by omega,fun _=>h⟩
 ·refine cL.2 fun i j hi hj hij x hx y hy=>?_
  have key:r x≠r y:=fun e=>by
   have a:=ez hi
   have f:=ez hj
   obtain⟨p,_,d,_⟩:=lp a
   obtain⟨q,_,g,_⟩:=lp f
   have b:=hy
   rw[d] at hx
   rw[g] at hy
   have l:=(ka.1 hx).2.2
   have m:=(ka.1 hy).2.2
   have c:p=q:=by omega
   have:=EM h (rfl:dD gs st r=dD gs st r) (aF hi) (aF hj) (k:=y) (by rw[d,c];exact hy) b
   omega
  exact⟨fun e=>key (by rw[e]),fun e=>absurd e key⟩
end
theorem pV(l:List bm)(F:aK→Option (jy×iT))(gs:List dv):∀(i k:Nat),k<i→(gp l F gs i).getD k false=match gs[k]? with
  | some G=>mN l F gs (gp l F gs k) k G
  | none=>false
 | 0,k,h=>absurd h (kK k)
 | i+1,k,h=>by
  rw[gp]
  rcases dm k i with h1|h1
  ·rw[Ju (by rw[nY];exact h1)]
   exact pV l F gs i k h1
  ·have e:k=i:=by omega
   subst e
   have:=nY l F gs k
   rw[aL,dG (by omega),this,gI]
   try rfl
theorem Cz{l:List bm}{F:aK→Option (jy×iT)}{gs:List dv}(h:∀g∈gs,g.ba=false→ld l F g=true):∀i,gp l F gs i=List.replicate i false
 | 0=>rfl
 | i+1=>by
  rw[gp,Cz h i,List.replicate_succ']
  congr 2
  cases hg:gs[i]? with
  | none=>rfl
  | some g=>
   show mN l F gs (List.replicate i false) i g=false
   unfold mN
   have a:(!g.ba&&!ld l F g)=false:=by
    cases hp:g.ba with
    | true=>rfl
    | false=>rw[h g (ah hg) hp];rfl
   rw[a,iz]
   refine List.any_eq_false.2 fun n _=>?_
   unfold uS
   cases gQ (gs.take i) n with
   | none=>simp
   | some k=>
    show ¬(List.replicate i false).getD k false=true
    rw[aL,jP]
    split<;>simp
theorem Hg(gs:List dv)(n:Nat)(r:Nat→Nat):dD gs (List.replicate n false) r=[]:=by
 have a:∀i,kj gs.length (List.replicate n false) r i=[]:=fun i=>by
  refine List.filter_eq_nil_iff.2 fun k _=>?_
  have:pk (List.replicate n false) k=false:=by
   show(List.replicate n false).getD k false=false
   rw[aL,jP]
   split<;>rfl
  rw[this]
  simp
 show ig gs _ r gs.length=[]
 unfold ig
 refine List.filterMap_eq_nil_iff.2 fun i _=>?_
 unfold pJ
 rw[a i]
 try rfl
theorem Ur(s sep:aK)(b:s.length<4294967281) (a:Ml w) :
  Calls Tryz.prog 115 #[S s,S sep] w fun e w'=>e=.returned (.tuple #[S (Lib.cut s sep).1,S (Lib.cut s sep).2.1,.bool (Lib.cut s sep).2.2])∧bf w w':=by
 obtain⟨m,a⟩:=a
 refine(Tryz.strings_Cut ⟨s.toArray⟩ ⟨sep.toArray⟩ m w b a).mono ?_
 rintro e w' ⟨rfl,n,rfl⟩
 exact⟨rfl,(al.refl No w).drewN n⟩
def DH:aK→UInt8
 | k::_=>k
 | []=>0
def rD(c:Ch):Bool:=(match c.1 with|k::s::n=>(k==102||k==100)&&s==47&&i7 n|_=>false)&&!(c.2.2&&!(c.2.1==[]))
def dQ(c:Ch):Int:=if rD c then (if 300<c.2.1.length∨(DH c.1=102∧20<c.2.1.length) then 2 else 0) else 3
theorem oL(c:Ch):0≤dQ c:=by unfold dQ;split<;>(try split)<;>omega
theorem Ks(key:aK):((dB 47 key).2.2=true→((dB 47 key).1=[102]∨(dB 47 key).1=[100])→∃k,(k=102∨k=100)∧(dB 47 key).1=[k]∧key=k::47::(dB 47 key).2.1) ∧
  (∀k n,(k=102∨k=100)→key=k::47::n→dB 47 key=([k],n,true)):=by
 constructor
 ·intro b a
  match key with
  | []=>simp[dB] at b
  | x::s=>
   by_cases c:x=47
   ·subst c
    rcases a with a|a<;>simp[dB] at a
   ·unfold dB at b a ⊢
    rw[aa c] at b a ⊢
    match s with
    | []=>simp[dB] at b
    | y::s=>
     by_cases d:y=47
     ·subst d
      simp[dB] at a ⊢
      exact a
     ·exfalso
      unfold dB at a
      rw[aa d] at a
      simp at a
 ·rintro k n hk rfl
  rcases hk with rfl|rfl<;>simp[dB]
theorem Jk:(Tryz.prog.info? 107).map (fun i=>(i.zero,i.size,i.bytes))=some (some (.agg #[S [],S [],.bool false]),3,40):=by kernel_rfl
theorem RZ:tf Tryz.prog 81 107 3:=tf.mk' Tryz.underlying81 Jk rfl (by omega) (by omega)
theorem tl:∀(xs:List Ch),∀u∈xs.flatMap fA.enc,u.oneCell'=true:=by
 intro xs u b
 obtain⟨x,_,a⟩:=cG.1 b
 simp only[fA,aY,List.not_mem_nil,or_false] at a
 rcases a with rfl|rfl|rfl<;>rfl
theorem BQ    (h:w.ownsRow 0 107 3 (.slice A n c) n (xs.flatMap fA.enc))(m:n≤c)(r:c≤maxLen)(x:Ch) (o:Cs w vb 107 #[S x.1,S x.2.1,.bool x.2.2])(t:n≤1000000) :
  Calls Tryz.prog 141 #[.slice A n c,.int .i64 n,.slice (some ⟨vb,0,none⟩) 1 1] w fun e w'=>
   ∃b d,e=.returned (.slice b (n+1:Nat) d)∧w'.ownsRow 0 107 3 (.slice b (n+1:Nat) d) (n+1) ((gT n x xs).flatMap fA.enc)∧Eh w w' (.slice A n c) (.slice b (n+1:Nat) d):=by
 have p:=di.jk (T:=fA) (by decide) h
 have f:Rd w (some ⟨vb,0,none⟩) 1 3 [S x.1,S x.2.1,.bool x.2.2]:=⟨rfl,fun _=>⟨vb,0,rfl,fun j u hu=>by rw[o.cell,bX];simpa using hu⟩⟩
 unfold maxLen at r
 have H:=aj h
 have q:=aj p.1
 have i:=aj f
 clear h o p f
 go_enter Tryz.func141,Tryz.ntmps141
 go_wp2_with (at_builtin;go_must (refine dy (v:=.slice A n c) (n:=n) (xs:=xs.flatMap fA.enc) rfl RZ rfl rfl rfl H.ou i.ou (by simp[Value.oneCell']) (by omega) ?_);intro b d y a k l)
 all_goals
  go_ret
  have s:(gT n x xs).flatMap fA.enc=xs.flatMap fA.enc++[S x.1,S x.2.1,.bool x.2.2]:=by
   unfold gT
   rw[ay (by rw[q.ou];exact aq _),dR (by rw[q.ou];exact aq _),bF]
   try rfl
  exact⟨b,d,rfl,by rw[s];exact a,(al.refl _ _).grown k (fun g hg=>.inr (by cases A<;>exact hg)),fun g hg=>l.elim (fun hb=>.inl (by cases A<;>exact hb.symm.trans hg)) (fun hb=>.inr (by rw[hb] at hg;injection hg with hg;omega))⟩
theorem H9  {g:Nat}   (D:Cs w g 107 (xs.flatMap fA.enc++rest).toArray) (F:xs.length=n) (E:(xs.flatMap fA.enc++rest).length=c*3) (X:i<n) (N:n+1≤c) (Y:c≤maxLen)
  (x:Ch)  (l:Cs w vb 107 #[S x.1,S x.2.1,.bool x.2.2]) (q:vb≠g) (hn:n≤1000000) :
  Calls Tryz.prog 141 #[.slice (some ⟨g,0,none⟩) n c,.int .i64 i,.slice (some ⟨vb,0,none⟩) 1 1] w fun e w'=>
   ∃rest',e=.returned (.slice (some ⟨g,0,none⟩) (n+1:Nat) c)∧Cs w' g 107 ((gT i x xs).flatMap fA.enc++rest').toArray∧((gT i x xs).flatMap fA.enc++rest').length=c*3∧al (fun b=>b=g) w w':=by
 have Z:∀(W:World) lb cb,W=w→(callFunc 191 #[.slice (some ⟨vb,0,none⟩) 1 1,.slice (some ⟨g,(i+1)*3,none⟩) lb cb]).run Tryz.prog W=.ok (.value (.bool false)) W:=fun W lb cb e=>by
  subst e
  rw[run_callFunc_extern Tryz.func191 (by kernel_rfl) (by kernel_rfl) (by kernel_rfl) (e:=Extern.SlicesOverlaps.overlaps #[81,81] #[4]) (by kernel_rfl),
   Lib.run_overlaps_apart W 81 4 107 Tryz.underlying81 3 (fun _=>by kernel_rfl) ⟨vb,0,none⟩ ⟨g,(i+1)*3,none⟩ 1 1 lb cb q _ _ _ _ l.shape D.shape (by rw[eE];omega) (l.frozen 0) (l.frozen _)]
  rfl
 unfold maxLen at Y
 have O:(xs.flatMap fA.enc).length=n*3:=by rw[bC,F];rfl
 have G:Hd (((xs.drop i).flatMap fA.enc).length=(n-i)*3):=by rw[Hd,bC,be,F];rfl
 have d:Hd ((xs.drop i).flatMap fA.enc=(xs.flatMap fA.enc).drop (i*3)):=mO fA xs i
 have P:Hd (∀j u,((xs.drop i).flatMap fA.enc)[j]?=some u→w.cell? ⟨g,i*3+j,none⟩=some u):=fun j u p=>by
  rw[d.ou,cQ] at p
  rw[D.cell,aB,bG (by have:=(aw.1 p).1;omega)]
  exact p
 have Q:Hd ((i+1)*3+(n-i)*3≤(xs.flatMap fA.enc++rest).length):=by rw[Hd,E];omega
 obtain⟨o,f⟩:∃o,o=(xs.flatMap fA.enc++rest).take ((i+1)*3)++(xs.drop i).flatMap fA.enc++(xs.flatMap fA.enc++rest).drop ((i+1)*3+((xs.drop i).flatMap fA.enc).length):=⟨_,rfl⟩
 have R:=aj (Ck (xs.flatMap fA.enc) rest [S x.1,S x.2.1,.bool x.2.2] i n 3 O rfl X (c1:=o) (by rw[f,d.ou]))
 have r:=aj f
 have a:Hd (o.length=c*3):=by
  rw[Hd,f]
  have h1:=G.ou
  have H:=Q.ou
  simp only[af,aH,be] at E h1 H ⊢
  omega
 have s:Hd ((gT i x xs).flatMap fA.enc=(xs.flatMap fA.enc).take (i*3)++[S x.1,S x.2.1,.bool x.2.2]++(xs.flatMap fA.enc).drop (i*3)):=by
  have:=lF fA xs i
  have H:=d.ou
  rw[Hd,gT,bF,bN,H,this,←aT]
  try rfl
 have HG:=aj D
 have HV:=aj l
 have HR:=aj E
 clear D l F E O f
 go_enter Tryz.func141,Tryz.ntmps141
 go_wp2
 refine aV [8] 100 (Cl w (fun b=>b=g)) (by kernel_rfl) (by kernel_rfl) (Cl.of (al.refl _ _).drew) ?_
 refine bK ?_
 refine cH rfl rfl ?_
 intro K hK
 refine nZ Tryz.underlying81 (k:=3) (by kernel_rfl) rfl rfl rfl (cur:=xs.flatMap fA.enc++rest) (cs:=(xs.drop i).flatMap fA.enc) HG.ou.drew ?_ ?_ ?_ ?_ ?_
 ·rw[G.ou,show(n+1-i).min (n-i)=n-i by simp only[iN];split<;>omega]
 ·exact P.ou
 ·rw[G.ou];exact Q.ou
 ·exact tl _
 rw[←r.ou]
 intro u p T
 have U:=aj p
 have I:=aj ((al.refl (fun b=>b=g) w).drew.trans T fun _ _ h=>h)
 have J:Hd (Cs u vb 107 #[S x.1,S x.2.1,.bool x.2.2]):=HV.ou.aP I.ou q
 refine hK _ _ (fun _=>Cl.of I.ou) ?_
 clear hK K p T
 refine bj ?_
 refine bK ?_
 refine ar ?_
 go_wp2_with (with_reducible refine nN rfl Tryz.underlying81 (k:=3) (by kernel_rfl) rfl rfl rfl (cur:=o) (cs:=[S x.1,S x.2.1,.bool x.2.2]) U.ou ?_ ?_ ?_ ?_ ?_)
 ·have:Nat.min 1 (n+1-i)=1:=by simp only[iN];split<;>omega
  rw[this];rfl
 ·intro j y L
  rw[J.ou.cell,bX];simpa using L
 ·rw[a.ou];show i*3+3≤c*3;omega
 ·intro y L
  exact tl [x] y (by simpa [fA] using L)
 intro v l t
 have z:=R.ou
 have m:=s.ou
 have A:=a.ou
 have M:=aj (I.ou.trans t fun _ _ h=>h)
 have B:=aj l
 clear r a P d l t U
 have C:Hd (Cs v g 107 ((gT i x xs).flatMap fA.enc++((xs.flatMap fA.enc++rest).drop ((n+1)*3))).toArray∧((gT i x xs).flatMap fA.enc++((xs.flatMap fA.enc++rest).drop ((n+1)*3))).length=c*3):=by
  rw[m]
  have V:o.take (i*3)++S x.1::S x.2.1::Value.bool x.2.2::o.drop (i*3+3)=(xs.flatMap fA.enc).take (i*3)++[S x.1,S x.2.1,.bool x.2.2]++(xs.flatMap fA.enc).drop (i*3)++(xs.flatMap fA.enc++rest).drop ((n+1)*3):=by
   rw[←z];simp
  refine⟨by rw[←V];exact B.ou,?_⟩
  rw[←V]
  simp only[af,aH,an,be,A]
  omega
 clear z m A R s B
 go_wp2
 go_ret
 exact⟨_,rfl,C.ou.1,C.ou.2,M.ou⟩
theorem Hn  {g:Nat}   (F:Cs w g 107 (xs.flatMap fA.enc++rest).toArray) (hl:xs.length=n) (hi:i<n)
  (x:Ch)  (C:Cs w vb 107 #[S x.1,S x.2.1,.bool x.2.2]) (hn:n≤1000000) :
  Calls Tryz.prog 141 #[.slice (some ⟨g,0,none⟩) n n,.int .i64 i,.slice (some ⟨vb,0,none⟩) 1 1] w fun e w'=>
   ∃c rest',e=.returned (.slice (some ⟨w.heap.size,0,none⟩) (n+1:Nat) c)∧Cs w' w.heap.size 107 ((gT i x xs).flatMap fA.enc++rest').toArray∧((gT i x xs).flatMap fA.enc++rest').length=c*3∧n+1≤c∧c≤maxLen∧bf w w':=by
 obtain⟨i0,H,I,J,ac⟩:=info_parts Jk
 have hX:(xs.flatMap fA.enc).length=n*3:=by rw[bC,hl];rfl
 have HD:Hd (((xs.drop i).flatMap fA.enc).length=(n-i)*3):=by rw[Hd,bC,be,hl];rfl
 have L:Hd (((xs.take i).flatMap fA.enc).length=i*3):=by rw[Hd,bC,aH,hl,gH (by omega)];rfl
 have M:Hd (∀j u,((xs.drop i).flatMap fA.enc)[j]?=some u→w.cell? ⟨g,i*3+j,none⟩=some u):=fun j u a=>by
  have e1:(xs.drop i).flatMap fA.enc=(xs.flatMap fA.enc).drop (i*3):=mO fA xs i
  rw[e1,cQ] at a
  rw[F.cell,aB,bG (by have:=(aw.1 a).1;omega)]
  exact a
 have P:Hd (∀j u,((xs.take i).flatMap fA.enc)[j]?=some u→w.cell? ⟨g,0+j,none⟩=some u):=fun j u a=>by
  have e1:(xs.take i).flatMap fA.enc=(xs.flatMap fA.enc).take (i*3):=lF fA xs i
  have hj:=(aw.1 a).1
  rw[L.ou] at hj
  rw[e1,cP hj] at a
  rw[bX,F.cell,aB,bG (by omega)]
  exact a
 have l:Hd ((gT i x xs).flatMap fA.enc=(xs.take i).flatMap fA.enc++[S x.1,S x.2.1,.bool x.2.2]++(xs.drop i).flatMap fA.enc):=by
  rw[Hd,gT,bF,bN,←aT]
  try rfl
 have HG:=aj F
 have HV:=aj C
 have Q:=aj J
 have R:0<i0.size:=by omega
 have T:i0.bytes≤256:=by omega
 have U:=aj H
 have V:=aj I
 have W:=F.lt
 have ao:=C.lt
 clear F C hl hX H I J ac
 go_enter Tryz.func141,Tryz.ntmps141
 go_upto_region 10 with(at_builtin;go_must (refine vE (m:=n+1-i) rfl Tryz.underlying81 Tryz.underlying3 U.ou V.ou rfl rfl ?hx1 (olds:=(xs.take i).flatMap fA.enc) (by rw[L.ou,Q.ou]) P.ou (by omega) R (by omega) T (by omega) ?hx2);case' hx2=>(intro cap X ag;generalize hW1:w.drew.alloc _=W1))
 case hx1=>(show Value.int .i64 ((n:Int)+1-i)=_;congr 1;omega)
 have hm:i+(n+1-i)=n+1:=by omega
 have Y:Hd (bf w W1):=by rw[Hd,←hW1];exact(al.refl No w).drew.alloc _
 obtain⟨q,s⟩:∃q,q=(Builtin.zeroCells (Value.agg #[S [],S [],.bool false]).cells (n+1-i)).toList:=⟨_,rfl⟩
 obtain⟨f,t⟩:∃f,f=(Builtin.zeroCells (Value.agg #[S [],S [],.bool false]).cells (cap-(i+(n+1-i)))).toList:=⟨_,rfl⟩
 obtain⟨N,hN⟩:∃N,N=w.heap.size:=⟨_,rfl⟩
 obtain⟨O,hO⟩:∃O,O=(xs.take i).flatMap fA.enc:=⟨_,rfl⟩
 obtain⟨D,hD⟩:∃D,D=(xs.drop i).flatMap fA.enc:=⟨_,rfl⟩
 have C1:Hd (Cs W1 N 107 (O++q++f).toArray):=by
  rw[Hd,←hW1,s,t,hN,hO]
  exact Cs.new w.drew _ _
 have o:Hd (q.length=(n+1-i)*3):=by rw[Hd,s,ir];rfl
 have r:Hd (f.length=(cap-(n+1))*3):=by rw[Hd,t,ir,hm];rfl
 have V1:Hd (Cs W1 vb 107 #[S x.1,S x.2.1,.bool x.2.2]):=HV.ou.aP Y.ou id
 have D1:Hd (∀j u,D[j]?=some u→W1.cell? ⟨g,i*3+j,none⟩=some u):=fun j u a=>by
  rw[Y.ou.cell W id];exact M.ou j u (hD▸a)
 have ai:=aj hD
 rw[←hO] at L l
 rw[←hD] at HD l
 rw[hm] at X
 rw[hm,←hN]
 have ak:g≠N:=by omega
 have ap:vb≠N:=by omega
 have HN:=aj hN
 have d:=aj L.ou
 have p:=aj HD.ou
 clear s t hO hD hN hm hW1 M P HG HV U V Q R T L HD
 obtain⟨CC,z⟩:∃CC,CC=O++q++f:=⟨_,rfl⟩
 rw[←z] at C1
 have A:=aj z
 clear z
 go_wp2_with (with_reducible refine nN rfl Tryz.underlying81 (k:=3) (by kernel_rfl) rfl rfl rfl (cur:=CC) (cs:=[S x.1,S x.2.1,.bool x.2.2]) C1.ou ?_ ?_ ?_ ?_ ?_)
 ·have:Nat.min 1 (n+1-i)=1:=by simp only[iN];split<;>omega
  rw[this];rfl
 ·intro j y E
  rw[V1.ou.cell,bX];simpa using E
 ·have Z:=d.ou;have h2:=o.ou;have h3:=r.ou
  rw[A.ou]
  simp only[af,Z,h2,h3,an,bI];omega
 ·intro y E
  exact tl [x] y (by simpa [fA] using E)
 intro u a B
 have a:Cs u N 107 (O++[S x.1,S x.2.1,.bool x.2.2]++q.drop 3++f).toArray:=by
  rw[←xF O q f [S x.1,S x.2.1,.bool x.2.2] i 3 d.ou rfl (by rw[o.ou];omega),←A.ou]
  simpa using a
 have C2:=aj a
 have E2:=aj B
 have D2:Hd (∀j u',D[j]?=some u'→u.cell? ⟨g,i*3+j,none⟩=some u'):=fun j u' hu'=>by
  rw[B.cell (bZ W Y.ou.size) ak];exact D1.ou j u' hu'
 clear a B C1 V1 D1 A
 go_wp2_with (refine dN ?_)
 refine aV [8] 100 (Cl u (fun b=>b=N)) (by kernel_rfl) (by kernel_rfl) (Cl.of (al.refl _ _).drew) ?_
 refine bK ?_
 refine cH rfl rfl ?_
 intro K hK
 refine nZ Tryz.underlying81 (k:=3) (by kernel_rfl) rfl rfl rfl (cur:=O++[S x.1,S x.2.1,.bool x.2.2]++q.drop 3++f) (cs:=D) C2.ou.drew ?_ ?_ ?_ ?_ ?_
 ·rw[p.ou];congr 1;simp only[iN];split<;>omega
 ·exact D2.ou
 ·have Z:=d.ou;have h2:=o.ou;have h3:=r.ou;have h4:=p.ou
  simp only[af,be,Z,h2,h3,h4,an,bI];omega
 ·intro y E
  rw[ai.ou] at E
  exact tl _ y E
 rw[yn O q f [S x.1,S x.2.1,.bool x.2.2] D i 3 d.ou rfl (by rw[o.ou,p.ou];omega)]
 intro v C B
 have C3:Hd (Cs v N 107 ((gT i x xs).flatMap fA.enc++f).toArray):=by rw[Hd,l.ou];exact C
 have LC:Hd (((gT i x xs).flatMap fA.enc++f).length=cap*3):=by
  have Z:=d.ou;have h3:=r.ou;have h4:=p.ou
  rw[Hd,l.ou]
  simp only[af,Z,h3,h4,an,bI];omega
 have E3:Hd (bf w v):=by
  have:=Y.ou.trans (G:=fun b=>b=N) (E2.ou.trans ((al.refl _ u).drew.trans B fun _ _ h=>h) fun _ _ h=>h) fun b hb e=>by have:=HN.ou;omega
  exact this
 refine hK _ _ (fun _=>Cl.of ((al.refl _ u).drew.trans B fun _ _ h=>h)) ?_
 clear hK K C B C2 D2 l d p o r Y E2
 refine bj ?_
 refine bK ?_
 refine ar ?_
 go_wp2
 go_ret
 have am:=HN.ou
 subst am
 exact⟨cap,f,rfl,C3.ou,LC.ou,X,ag,E3.ou⟩
theorem QO    (h:w.ownsRow 0 107 3 (.slice A n c) n (xs.flatMap fA.enc))(B:i≤n)(x:Ch) (l:Cs w vb 107 #[S x.1,S x.2.1,.bool x.2.2])(p:(Value.slice A n c).ownBlock≠some vb)(m:n≤1000000) :
  Calls Tryz.prog 141 #[.slice A n c,.int .i64 i,.slice (some ⟨vb,0,none⟩) 1 1] w fun e w'=>
   ∃A' o,e=.returned (.slice A' (n+1:Nat) o)∧w'.ownsRow 0 107 3 (.slice A' (n+1:Nat) o) (n+1) ((gT i x xs).flatMap fA.enc)∧Eh w w' (.slice A n c) (.slice A' (n+1:Nat) o):=by
 have q:=(di.jk (T:=fA) (by decide) h).1
 by_cases e:i=n
 ·subst e
  rcases h.2 with⟨hv',h0⟩|⟨g,cap,cur,hv',hb,hh,r,hc,_⟩
  ·injection hv' with j k d
   exact BQ h (by omega) (by rw[d];exact au _) x l m
  ·injection hv' with j k d
   exact BQ h (by omega) (by rw[d];exact hc) x l m
 ·obtain⟨g,rest,rfl,s,C,v,r,t⟩:=kU h (by omega) (by decide)
  have u:((gT i x xs).flatMap fA.enc).length=(n+1)*3:=by
   rw[bC]
   simp only[gT,af,aH,an,be,q,fA]
   omega
  by_cases a:n+1≤c
  ·refine(H9 s q v (by omega) a t x l (fun e=>p (by rw[e];rfl)) m).mono ?_
   rintro e w' ⟨f,rfl,j,k,d⟩
   exact⟨_,_,rfl,iM j (au _) u k a t,⟨d.gU fun b _ e=>by subst e;rfl,fun g' hg'=>.inl hg'⟩⟩
  ·obtain rfl:c=n:=by omega
   refine(Hn s q (by omega) x l m).mono ?_
   rintro e w' ⟨o,f,rfl,j,k,d,y,z⟩
   refine⟨_,_,rfl,iM j (au _) u k d y,⟨z.any,fun g' hg'=>.inr ?_⟩⟩
   simp[Value.ownBlock] at hg'
   omega
section
variable {P:Program}
theorem xb  {o:Oper} {a:Act} {K:Value→World→Prop} {t e:TypeId}  (A:P.underlying t=some (.slice e)) (y:(P.info? e).map (·.size)=some k) {s x:Operand}
  (B:o.op=.call { callee:=.builtin .append,args:=#[s,x],argTypes:=#[t,t] }) {g cap:Nat} (C:a.eval s=.slice (some ⟨g,0,none⟩) n cap) {b q m:Nat} (D:a.eval x=.slice (some ⟨b,q,none⟩) m c)
  {cur news:List Value} (z:Cs w g e cur.toArray) (E:news.length=m*k) (f:∀j u,news[j]?=some u→w.cell? ⟨b,q+j,none⟩=some u) (d:n+m≤cap) (l:n*k+news.length≤cur.length) (F:∀u∈news,u.oneCell'=true)
  (h:∀w',Cs w' g e (cur.take (n*k)++news++cur.drop (n*k+news.length)).toArray→al (fun x=>x=g) w w'→K (.slice (some ⟨g,0,none⟩) (n+m:Nat) cap) w'):cT P o a w K:=by
 cases hq:P.info? e with
 | none=>simp[hq] at y
 | some i=>
  have r:i.size=k:=by simpa [hq] using y
  have p:=run_append_room (P:=P) w t o.type e i A hq g n cap cur.toArray z ⟨b,q,none⟩ m c news (by rw[r];exact E) (fun j v hj=>by rw[pG];exact f j v hj) F d (by rw[r];simpa using l)
  unfold cT fe execOp
  simp only[B,resolve,invoke,builtin,Sem.run_bind,Sem.run_pure,Result.andThen_ok,fi,du,eG,C,D,p]
  rw[r]
  exact h _ (setRow_heap w g _ _ e _ z) ⟨rfl,rfl,rfl,by simp[World.setRow],fun k _ hne=>setRow_other w g k _ hne⟩
end
def pO{α:Type}(i:Nat)(xs:List α):List α:=xs.take i++xs.drop (i+1)
theorem Qv(w:World):(zeroValue 107).run Tryz.prog w=.ok (.agg #[S [],S [],.bool false]) w:=Tryz.zeroValue107 w
theorem Qc {g:Nat}  (U:Cs w g 107 (xs.flatMap fA.enc++rest).toArray)(V:xs.length=n)(W:(xs.flatMap fA.enc++rest).length=c*3)(hi:i<n)(ac:n≤c)(hc:c≤maxLen)(hn:n≤1000000) :
  Calls Tryz.prog 140 #[.slice (some ⟨g,0,none⟩) n c,.int .i64 i,.int .i64 ((i:Int)+1)] w fun e w'=>
   ∃rest',e=.returned (.slice (some ⟨g,0,none⟩) (n-1:Nat) c)∧Cs w' g 107 ((pO i xs).flatMap fA.enc++rest').toArray∧((pO i xs).flatMap fA.enc++rest').length=c*3∧al (fun b=>b=g) w w':=by
 unfold maxLen at hc
 have I:=aj U
 have J:=aj V
 have L:=aj W
 clear U V W
 go_enter Tryz.func140,Tryz.ntmps140
 have X:(xs.flatMap fA.enc).length=n*3:=by rw[bC,J.ou];rfl
 have s:((xs.drop (i+1)).flatMap fA.enc).length=(n-(i+1))*3:=by rw[bC,be,J.ou];rfl
 have t:(xs.drop (i+1)).flatMap fA.enc=(xs.flatMap fA.enc).drop ((i+1)*3):=mO fA xs (i+1)
 have x:(xs.take i).flatMap fA.enc=(xs.flatMap fA.enc).take (i*3):=lF fA xs i
 have p:=aj X
 have d:=aj s
 have y:=aj t
 have z:=aj x
 clear X s t x
 have ag:((i:Int)==(i:Int)+1)=false:=by rw[bl];omega
 go_wp2
 refine aV [6] 100 (Cl w (fun b=>b=g)) (by kernel_rfl) (by kernel_rfl) (Cl.of (al.refl _ _).drew) ?_
 refine bK ?_
 refine cH rfl rfl ?_
 obtain⟨M,A,f⟩:∃M,(if c=i+1 then some (⟨g,0,none⟩:Addr) else some ⟨g,(i+1)*3,none⟩)=some ⟨g,M,none⟩∧(i+1<n→M=(i+1)*3):=by
  by_cases h:c=i+1
  ·exact⟨0,by rw[ab h],fun h'=>by omega⟩
  ·exact⟨_,by rw[aa h],fun _=>rfl⟩
 simp only[A]
 intro K hK
 have B:=aj f
 clear A f
 refine xb Tryz.underlying81 (k:=3) (by kernel_rfl) rfl (m:=n-(i+1)) (n:=i) rfl rfl (cur:=xs.flatMap fA.enc++rest) (news:=(xs.drop (i+1)).flatMap fA.enc) I.ou.drew d.ou ?_ (by omega) ?_ (tl _) ?_
 ·intro j u l
  have hj:=(aw.1 l).1
  rw[d.ou] at hj
  rw[B.ou (by omega)]
  rw[y.ou,cQ] at l
  refine(I.ou.drew.cell _).trans ?_
  rw[aB,bG (by rw[p.ou];omega)]
  exact l
 ·rw[L.ou,d.ou];omega
 intro u l Y
 have o:(xs.flatMap fA.enc++rest).take (i*3)++(xs.drop (i+1)).flatMap fA.enc++(xs.flatMap fA.enc++rest).drop (i*3+((xs.drop (i+1)).flatMap fA.enc).length)=(pO i xs).flatMap fA.enc++(xs.flatMap fA.enc++rest).drop ((n-1)*3):=by
  rw[gh (by rw[p.ou];omega),←z.ou,pO,bF,d.ou]
  congr 2
  omega
 rw[o] at l
 have C:i+(n-(i+1))=n-1:=by omega
 rw[C]
 obtain⟨R,N⟩:∃R,R=(xs.flatMap fA.enc++rest).drop ((n-1)*3):=⟨_,rfl⟩
 have q:Hd (R.length=(c-(n-1))*3):=by
  rw[Hd,N,be,L.ou];omega
 have a:Hd (((pO i xs).flatMap fA.enc).length=(n-1)*3):=by
  rw[Hd,bC,pO,af,aH,be,J.ou,gH (by omega)]
  show(i+(n-(i+1)))*3=_
  omega
 rw[←N] at l
 have O:=aj l
 have P:=aj ((al.refl (fun b=>b=g) w).drew.trans Y fun _ _ h=>h)
 refine hK _ _ (fun _=>Cl.of P.ou) ?_
 clear hK K l Y I L p d y z B o N C
 refine bj ?_
 refine bK ?_
 refine ar ?_
 obtain⟨D,s⟩:∃D,D=(pO i xs).flatMap fA.enc:=⟨_,rfl⟩
 rw[←s] at O a
 have Z:=aj s
 clear s
 have e3:n-(n-1)=1:=by omega
 go_wp2_with (with_reducible refine zP rfl Tryz.underlying81 Qv rfl rfl (n:=1) (cur:=D++R) O.ou ?_ ?_ ?_)
 ·show(n-1)*3+1*3≤_
  rw[af,a.ou,q.ou];omega
 ·intro v r
  have r:v∈[S [],S [],Value.bool false]:=r
  have:v=S []∨v=S []∨v=.bool false:=by simpa using r
  rcases this with rfl|rfl|rfl<;>rfl
 intro v r E
 have F:Hd (∃H,(D++R).take ((n-1)*3)++((Builtin.zeroCells #[S [],S [],.bool false] 1).toList++(D++R).drop ((n-1)*3+3))=D++H∧(D++H).length=c*3):=by
  refine⟨(Builtin.zeroCells #[S [],S [],.bool false] 1).toList++R.drop 3,?_,?_⟩
  ·rw[fJ a.ou,←cX,List.drop_left' a.ou]
  ·rw[af,af,ir,a.ou,be,q.ou]
   show(n-1)*3+(1*3+_)=_
   omega
 obtain⟨H,G,Q⟩:=F.ou
 rw[G] at r
 have HV:=aj r
 have T:=aj (P.ou.trans E fun _ _ h=>h)
 clear r E G F O q a P
 go_wp2
 go_ret
 exact⟨H,rfl,by rw[←Z.ou];exact HV.ou,by rw[←Z.ou];exact Q,T.ou⟩
end Go.Proofs.YtpgmcijdcnnjpaaGreatDoor
