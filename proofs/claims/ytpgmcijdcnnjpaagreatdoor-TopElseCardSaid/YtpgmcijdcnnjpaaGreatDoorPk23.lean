/- Lemmas for it. -/
import Derived.Test.YtpgmcijdcnnjpaaGreatDoorPk13
set_option linter.all false
set_option maxHeartbeats 1000000
namespace Go.Proofs.YtpgmcijdcnnjpaaGreatDoor
open Go Go.RowKit
variable {g n t:Nat} {L:List Oper} {o:Oper} {kv nv wv:Value} {ix:Int}
section
variable {P:Program} {ops:Array Oper} {md:Region.Mode} {C:World→Prop} {E:List Nat} {Q:Act→World→Prop}
def pI(P:Program)(md:Region.Mode)(ops:Array Oper)(C:World→Prop)(E:List Nat)(T:Nat→Array Bool→Act→World→Prop):Nat→Array Bool→Act→World→Prop
 | 0,l,a,w=>T 0 l a w
 | f+1,l,a,w=>match mM md ops E l with
  | some i=>gP P ops C E ops.size i (pI P md ops C E T f (l.setIfInBounds i true)) a w
  | none=>T (f+1) l a w
theorem zk(n:Region.noSelect ops=true){T:Nat→Array Bool→Act→World→Prop}(g:∀f l a w,C w→T f l a w→kX P md ops C E ops.size Q f l a w):∀(f:Nat) (l:Array Bool) (a:Act) (w:World),C w→pI P md ops C E T f l a w→kX P md ops C E ops.size Q f l a w
 | 0,l,a,w,hC,h=>g _ _ _ _ hC h
 | f+1,l,a,w,hC,h=>by
  have p:ops[ops.size]?=none:=dx (aq _)
  unfold pI at h
  cases hp:mM md ops E l with
  | some i=>
   rw[hp] at h
   simp only at h
   have d:=dL hp
   have b:=jb hp
   simp only[aI,eC] at b
   obtain⟨o,c⟩:=b
   unfold Af at c
   cases ho:ops[i]? with
   | none=>rw[ho] at c;cases c
   | some oi=>
    rw[ho] at c
    simp only[aI,eC,bJ,dS,cd,bY] at c
    obtain⟨q,c⟩:=c
    obtain⟨v,r,hK⟩:=kC ho o h
    have s:i<ops.size:=(bq.1 ho).1
    refine l8 ho o q (by omega) (fun _=>False) (fun j hj=>hj.elim) (.inl p) (Region.noSelect_spec n) f l a w hC (fun j hj=>hj.elim) (fun j oj hoj hji hun hno=>?_) d r
     (zk n g f _ _ w hC hK)
    have k:j<ops.size:=(bq.1 hoj).1
    rcases c j k with(h'|h')|h'
    ·exact absurd h' hji
    ·rw[hun] at h';cases h'
    ·rw[hoj] at h'
     simp only[cd] at h'
     rcases h' with h'|h'
     ·obtain⟨e,t,m⟩:=ic.1 h'
      simp only[aI,bY] at m
      exact absurd m.2 (hno e t m.1)
     ·exact h'
  | none=>
   rw[hp] at h
   exact g _ _ _ _ hC h
def fa(ops:Array Oper)(j:Nat):Option Nat:=(ops[j]?).bind (·.dst)
def dW(ops:Array Oper)(vals:Nat→Value):List Nat→Act→Act
 | [],a=>a
 | j::r,a=>dW ops vals r (a.put (fa ops j) (vals j))
theorem EB(a:Act)(d:Option Tmp)(v:Value):(a.put d v).tmps.size=a.tmps.size:=by
 cases d<;>simp[Act.put]
theorem AQ(a:Act)(d:Option Tmp)(v:Value):(a.put d v).defers=a.defers:=by
 cases d<;>rfl
theorem kZ(b:Nat→Value):∀(L:List Nat) (a:Act),(dW ops b L a).defers=a.defers
 | [],_=>rfl
 | j::r,a=>(kZ b r _).trans (AQ _ _ _)
theorem Hm(a:Act){d:Option Tmp}(v:Value) (h:d≠some t):(a.put d v).tmps[t]?=a.tmps[t]?:=by
 cases d with
 | none=>rfl
 | some d=>
  have:d≠t:=fun e=>h (by rw[e])
  simp[Act.put,this]
theorem jF(b:Nat→Value){t:Nat}:∀(L:List Nat) (a:Act),(∀j∈L,fa ops j≠some t)→(dW ops b L a).tmps[t]?=a.tmps[t]?
 | [],_,_=>rfl
 | j::r,a,h=>(jF b r _ fun i hi=>h i (aE _ hi)).trans (Hm _ _ (h j (by simp)))
theorem kf(b:Nat→Value){t j:Nat}(f:fa ops j=some t):∀(L:List Nat) (a:Act),j∈L→t<a.tmps.size→(∀i∈L,fa ops i=some t→i=j)→(dW ops b L a).tmps[t]?=some (b j)
 | [],_,h,_,_=>by cases h
 | i::r,a,h,ht,hu=>by
  by_cases c:j∈r
  ·exact kf b f r _ c (by rw[EB];exact ht) fun k hk=>hu k (aE _ hk)
  ·have d:j=i:=by
    rcases aY.1 h with h|h
    ·exact h
    ·exact absurd h c
   subst d
   have g:∀k∈r,fa ops k≠some t:=fun k hk e=>c (by rw[←hu k (aE _ hk) e];exact hk)
   show(dW ops b r (a.put (fa ops j) (b j))).tmps[t]?=_
   rw[jF b r _ g,f]
   simp[Act.put,ht]
theorem rL(b:Nat→Value)(i:Nat):∀(L:List Nat) (a:Act),dW ops b (L++[i]) a=(dW ops b L a).put (fa ops i) (b i)
 | [],_=>rfl
 | j::r,a=>rL b i r _
theorem qe{b vals':Nat→Value}:∀(L:List Nat) (a:Act),(∀j∈L,b j=vals' j)→dW ops b L a=dW ops vals' L a
 | [],_,_=>rfl
 | j::r,a,h=>by
  show dW ops b r (a.put (fa ops j) (b j))=dW ops vals' r (a.put (fa ops j) (vals' j))
  rw[h j (by simp)]
  exact qe r _ fun k hk=>h k (aE _ hk)
def iD(l:Array Bool)(L:List Nat):Array Bool:=L.foldl (fun l j=>l.setIfInBounds j true) l
theorem vW(l:Array Bool)(L:List Nat)(i:Nat):iD l (L++[i])=(iD l L).setIfInBounds i true:=by simp[iD]
theorem jj:∀(L:List Nat) (l:Array Bool) (i:Nat) (b:Bool),i<l.size→(iD l L).getD i b=if i∈L then true else l.getD i b
 | [],l,i,b,_=>by simp[iD]
 | j::r,l,i,b,h=>by
  have:=jj r (l.setIfInBounds j true) i b (by simpa using h)
  show(iD (l.setIfInBounds j true) r).getD i b=_
  rw[this]
  by_cases a:i∈r
  ·simp[a]
  ·rw[aa a]
   by_cases e:j=i
   ·subst e
    simp[dr,h]
   ·have c:¬i=j:=fun h=>e h.symm
    simp[dr,iU,e,c,a]
def Q9(o:Op):Bool:=match o with|.select _ _=>true|_=>false
def pC(md:Region.Mode)(ops:Array Oper)(E M:List Nat)(D:Nat→List Nat)(l0:Array Bool)(sz:Nat):Bool:=
 decide M.Nodup&&l0.size==ops.size&&(List.range ops.size).all (fun i=>l0.getD i true||M.contains i) &&
 (List.range ops.size).all (fun i=>match ops[i]? with|none=>true|some o=>o.after.all fun e=>!Region.binds md e||decide (e.on<i)) &&
 M.all (fun i=>decide (i<ops.size)&&!l0.getD i true&&E.contains i&&match ops[i]? with
  | none=>false
  | some o=>o.guard.isNone&&!Q9 o.op &&
   (match o.dst with|none=>true|some d=>decide (d<sz)&&M.all fun j=>j==i||fa ops j !=some d) &&
   (D i).all (fun j=>M.contains j&&o.after.any fun e=>Region.binds md e&&e.on==j) &&
   o.op.operands.all fun x=>match x with|.tmp t=>(D i).any (fun j=>fa ops j==some t)||M.all (fun j=>fa ops j !=some t)|_=>true)
theorem pT:∀(L M:List Nat),L.Nodup→(∀j∈L,j∈M)→L.length≤M.length
 | [],_,_,_=>au _
 | j::r,M,hn,hs=>by
  rw[gG] at hn
  have b:j∈M:=hs j (by simp)
  have:=pT r (M.erase j) hn.2 fun i hi=>by
   have a:i≠j:=fun e=>hn.1 (e▸hi)
   exact(iu a).2 (hs i (aE _ hi))
  rw[iC b] at this
  have c:0<M.length:=iV b
  rw[an]
  omega
theorem vN{L M:List Nat}(a:L.Nodup)(b:∀j∈L,j∈M)(c:M.length≤L.length):∀j∈M,j∈L:=fun j hj=>by
 by_cases h:j∈L
 ·exact h
 ·have:=pT (j::L) M (gG.2 ⟨h,a⟩) fun i hi=>by
   rcases aY.1 hi with e|e
   ·rw[e];exact hj
   ·exact b i e
  rw[an] at this
  omega
theorem yk{a b:Act} (h:a.tmps[t]?=b.tmps[t]?):a.eval (.tmp t)=b.eval (.tmp t):=by
 show a.tmps.getD t undef=b.tmps.getD t undef
 rw[dr,dr,h]
theorem GX (M:List Nat) (D:Nat→List Nat) (R:Nat→Value→World→Prop) (S:World→World→Prop) {z:Array Bool} {p:Act} (hB:pC md ops E M D z p.tmps.size=true)
  (hS:∀j v u u',S u u'→R j v u→R j v u')
  (T:∀i∈M,∀m u,C u→(∀j∈D i,R j (m j) u)→∀o,ops[i]?=some o→cT P o (dW ops m (D i) p) u (fun v u'=>C u'∧S u u'∧R i v u'))
  (ap:∀m u,C u→(∀j∈M,R j (m j) u)→Q (dW ops m M p) u) :
  ∀(k:Nat) (c:List Nat) (m:Nat→Value) (u:World),c.Nodup→(∀j∈c,j∈M)→k+c.length=M.length→C u→(∀j∈c,R j (m j) u) →
   kX P md ops C E ops.size Q k (iD z c) (dW ops m c p) u:=by
 unfold pC at hB
 simp only[aI,bh,bY,bJ,dS,cd,eC,dJ] at hB
 obtain⟨⟨⟨⟨a9,A⟩,I⟩,hback⟩,U⟩:=hB
 have un:∀{c:List Nat} {i:Nat},i<ops.size→i∉c→i∈M→(iD z c).getD i true=false:=fun {c i} H q hm=>by
  rw[jj _ _ _ _ (by rw[A];exact H),aa q]
  exact(U i hm).1.1.2
 have J:∀{i:Nat} {d:Nat},i∈M→fa ops i=some d→d<p.tmps.size∧∀j∈M,fa ops j=some d→j=i:=fun {i d} H q=>by
  have h:=(U i H).2
  unfold fa at q
  cases B:ops[i]? with
  | none=>rw[B] at q;cases q
  | some o=>
   rw[B] at q h
   have bb:o.dst=some d:=q
   simp only[bb,aI,bh,bJ,cd,bY,kT] at h
   refine⟨h.1.1.2.1,fun j n e=>?_⟩
   rcases h.1.1.2.2 j n with h'|h'
   ·exact h'
   ·exact absurd e h'
 intro k
 induction k with
 | zero=>
  intro c m u V y hk hC hR
  have s:∀j∈M,j∈c:=by
   exact vN V y (by omega)
  refine⟨?_,?_⟩
  ·apply iF.2
   intro i H
   obtain⟨w,o,B,_⟩:=mem_ready.1 H
   have r:i<ops.size:=(bq.1 B).1
   rw[jj _ _ _ _ (by rw[A];exact r)] at w
   split at w
   ·cases w
   ·rename_i q
    rcases I i r with F|F
    ·rw[w] at F;cases F
    ·exact q (s i F)
  ·have:=ap m u hC fun j n=>hR j (s j n)
   have e:dW ops m c p=dW ops m M p:=by
    have e1:(dW ops m c p).tmps=(dW ops m M p).tmps:=by
     apply Array.ext_getElem?
     intro t
     by_cases ht:∃j∈M,fa ops j=some t
     ·obtain⟨j,n,q⟩:=ht
      obtain⟨w,F⟩:=J n q
      rw[kf m q c p (s j n) w fun i H=>F i (y i H),kf m q M p n w F]
     ·rw[jF m c p fun j n e=>ht ⟨j,y j n,e⟩,jF m M p fun j n e=>ht ⟨j,n,e⟩]
    have e2:(dW ops m c p).defers=(dW ops m M p).defers:=by rw[kZ,kZ]
    cases w:dW ops m c p
    cases F:dW ops m M p
    rw[w,F] at e1 e2
    simp only at e1 e2
    rw[e1,e2]
   rw[e]
   exact this
 | succ k ih=>
  intro c m u V y hk hC hR
  refine⟨fun he=>?_,fun i H=>?_⟩
  ·exfalso
   have W:∀i,i<ops.size→(iD z c).getD i true=true:=by
    intro i
    induction i using Nat.strongRecOn with
    | ind i ihi=>
     intro r
     cases hv:(iD z c).getD i true with
     | true=>rfl
     | false=>
      exfalso
      have K:i∈Region.ready md ops (iD z c):=by
       obtain⟨o,B⟩:∃o,ops[i]?=some o:=⟨ops[i],ew r⟩
       refine mem_ready.2 ⟨hv,o,B,fun e X N=>?_⟩
       have av:=hback i r
       rw[B] at av
       have:=iX.1 av e X
       rw[N] at this
       simp only[eF,iz,bh] at this
       have Y:=ihi e.on this (by omega)
       have Z:e.on<(iD z c).size:=by
        rcases dm e.on (iD z c).size with h|h
        ·exact h
        ·exfalso
         have hh:(iD z c).size=z.size:=by
          have:∀(L:List Nat) (l:Array Bool),(iD l L).size=l.size:=by
           intro L
           induction L with
           | nil=>intro l;rfl
           | cons a L ih=>intro l;exact(ih _).trans (by simp)
          exact this _ _
         omega
       rw[dr,ew Z] at Y ⊢
       exact Y
      rw[he] at K
      cases K
   have s:∀j∈M,j∈c:=by
    intro j n
    have aD:=(U j n).1.1.1
    have w:=W j aD
    by_cases q:j∈c
    ·exact q
    ·rw[un aD q n] at w;cases w
   have:=pT M c a9 s
   omega
  ·obtain⟨w,o,B,a1⟩:=mem_ready.1 H
   have r:i<ops.size:=(bq.1 B).1
   have ac:i∉c:=fun h=>by
    rw[jj _ _ _ _ (by rw[A];exact r),ab h] at w
    cases w
   have ag:i∈M:=by
    rcases I i r with F|F
    ·rw[jj _ _ _ _ (by rw[A];exact r),aa ac,F] at w
     cases w
    ·exact F
   have a2:=U i ag
   have bc:=a2.1.2
   have ai:=a2.2
   rw[B] at ai
   simp only[aI,eC,bJ,dJ] at ai
   obtain⟨⟨⟨⟨hg,O⟩,bk⟩,hD⟩,a3⟩:=ai
   have bd:o.guard=none:=by simpa using hg
   have a4:∀j∈D i,j∈c:=fun j n=>by
    obtain⟨ak,bg⟩:=hD j n
    obtain⟨e,X,N⟩:=ic.1 bg
    simp only[aI,bY] at N
    have Y:=a1 e X N.1
    rw[N.2,jj _ _ _ _ (by rw[A];exact(U j ak).1.1.1)] at Y
    split at Y
    ·assumption
    ·have h4:=(U j ak).1.1.2
     have Z:j<z.size:=by rw[A];exact(U j ak).1.1.1
     rw[dr,ew Z] at Y h4
     have bi:z[j]=true:=Y
     have a5:z[j]=false:=h4
     rw[bi] at a5
     cases a5
   have am:=T i ag m u hC (fun j n=>hR j (a4 j n)) o B
   have ao:execOp (dW ops m (D i) p).eval o=execOp (dW ops m c p).eval o:=by
    refine execOp_congr o (fun cs b e=>by rw[e] at O;cases O) fun x hx=>?_
    have G:=iX.1 a3 x hx
    cases x with
    | tmp t=>
     simp only[cd,iR,bJ,bY,kT] at G
     apply yk
     rcases G with⟨j,n,q⟩|G
     ·obtain⟨a6,a7⟩:=J (hD j n).1 q
      rw[kf m q (D i) p n a6 fun i' hi'=>a7 i' (hD i' hi').1,kf m q c p (a4 j n) a6 fun i' hi'=>a7 i' (y i' hi')]
     ·rw[jF m (D i) p fun j n=>G j (hD j n).1,jF m c p fun j n=>G j (y j n)]
    | const v=>rfl
    | global g=>rfl
    | func f=>rfl
   unfold gP
   simp only[B]
   unfold iB
   rw[ab (jQ bd),ab (dJ.2 bc)]
   unfold cT at am ⊢
   rw[ao] at am
   refine iy (fun v w' ⟨hC',hSS,hRi⟩=>⟨fun _=>hC',?_⟩) am
   have a8:¬i=ops.size:=by omega
   simp only[a8,if_false]
   have e1:(dW ops m c p).put o.dst v=dW ops (fun j=>if j=i then v else m j) (c++[i]) p:=by
    rw[rL,qe (vals':=m) c p fun j n=>aa fun(e:j=i)=>ac (by rw[←e];exact n)]
    have:fa ops i=o.dst:=by unfold fa;rw[B];rfl
    rw[this,ab rfl]
   rw[e1,←vW]
   refine ih (c++[i]) _ w' ?_ ?_ ?_ hC' ?_
   ·rw[gu]
    exact⟨V,by simp,fun a ha b N e=>by rw[aC] at N;exact ac (by rw[←N,←e];exact ha)⟩
   ·intro j n
    rcases az.1 n with h|h
    ·exact y j h
    ·rw[aC] at h;rw[h];exact ag
   ·rw[af,bE];omega
   ·intro j n
    by_cases e:j=i
    ·subst e
     rw[ab rfl]
     exact hRi
    ·rw[aa e]
     rcases az.1 n with h|h
     ·exact hS j _ u w' hSS (hR j h)
     ·rw[aC] at h;exact absurd h e
def vP(P:Program)(md:Region.Mode)(ops:Array Oper)(C:World→Prop)(E:List Nat)(Q:Act→World→Prop):Nat→Array Bool→Act→World→Prop:=
 fun f l a w=>kX P md ops C E ops.size Q f l a w
theorem uJ {id:Nat} {Q:Exit→Act→World→Prop} {a:Act} {w:World} {l:List Oper} (n:Nat) (E:List Nat) (C:World→Prop) (c:l.length=n) (d:P.follows .mixedOrders=true)
  (e:Region.noSelect l.toArray=true) (b:C w.drew)
  (h:pI P .any l.toArray C E (vP P .any l.toArray C E (fun a' w'=>Q .normal a' w')) n (Array.replicate n false) a w.drew):(Code.region id l.toArray true).wp P Q a w:=by
 subst c
 refine wp_region_any d (lW (C:=C) (E:=E) (N:=l.toArray.size) _ _ _ _ b ?_)
 have:=zk (Q:=fun a' w'=>Q .normal a' w') e (fun f l a w _ h=>h) l.length (Array.replicate l.length false) a _ b h
 simpa using this
variable {f:Nat} {l:Array Bool} {a:Act} {w:World}
theorem dF  {T:Nat→Array Bool→Act→World→Prop} {i:Nat}  (c:mM md L.toArray E l=some i) (b:L[i]?=some o) (d:o.guard=none) (e:E.contains i=false) (g:jS o=false)
  (h:∀K:Act→Prop,(∀a',pI P md L.toArray C E T f (l.setIfInBounds i true) a' w→K a')→o.quiet P a C K):pI P md L.toArray C E T (f+1) l a w:=by
 rw[←aB] at b
 unfold pI
 rw[c]
 unfold gP iB
 simp only[b]
 rw[ab (jQ d),aa (by rw[e];exact dI)]
 exact⟨g,h _ fun _ h=>h⟩
theorem eR {a:Act}{u:World}{N:Value→World→Prop}(h:∀K:Value→World→Prop,(∀v u',N v u'→K v u')→cT P o a u K):cT P o a u N:=h N fun _ _ h=>h
def eH(vals:Nat→Value):List (Nat×Option Nat)→Act→Act
 | [],a=>a
 | p::r,a=>eH vals r (a.put p.2 (vals p.1))
def pw(R:Nat→Value→World→Prop)(vals:Nat→Value)(u:World):List (Nat×Option Nat)→Prop
 | []=>True
 | p::r=>R p.1 (vals p.1) u∧pw R vals u r
def oU(P:Program)(L:List Oper)(i:Nat)(a:Act)(u:World)(N:Value→World→Prop):Prop:=match L[i]? with
 | some o=>cT P o a u N
 | none=>False
def qT(P:Program)(L:List Oper)(C:World→Prop)(S:World→World→Prop)(R:Nat→Value→World→Prop)(DD:Nat→List (Nat×Option Nat))(a:Act):List Nat→Prop
 | []=>True
 | i::r=>(∀vals u,C u→pw R vals u (DD i)→oU P L i (eH vals (DD i) a) u (fun v u'=>S u u'∧R i v u'))∧qT P L C S R DD a r
def sZ(S:World→World→Prop)(R:Nat→Value→World→Prop):List Nat→Prop
 | []=>True
 | i::r=>(∀v u u',S u u'→R i v u→R i v u')∧sZ S R r
theorem ue{P:Program}{L:List Oper}{C:World→Prop}{S:World→World→Prop}{R:Nat→Value→World→Prop}{b:Nat→List (Nat×Option Nat)}{a:Act}:∀{E:List Nat},qT P L C S R b a E→∀i∈E,∀vals u,C u→pw R vals u (b i)→oU P L i (eH vals (b i) a) u (fun v u'=>S u u'∧R i v u')
 | [],_,i,hi=>by cases hi
 | k::r,h,i,hi=>by
  rcases aY.1 hi with e|hi
  ·subst e;exact h.1
  ·exact ue h.2 i hi
theorem vg{S:World→World→Prop}{R:Nat→Value→World→Prop}:∀{E:List Nat},sZ S R E→∀i∈E,∀v u u',S u u'→R i v u→R i v u'
 | [],_,i,hi=>by cases hi
 | k::r,h,i,hi=>by
  rcases aY.1 hi with e|hi
  ·subst e;exact h.1
  ·exact vg h.2 i hi
theorem qU(b:Nat→Value):∀(LP:List (Nat×Option Nat)) (a:Act),(∀p∈LP,fa ops p.1=p.2)→eH b LP a=dW ops b (LP.map (·.1)) a
 | [],_,_=>rfl
 | p::r,a,h=>by
  show eH b r (a.put p.2 (b p.1))=dW ops b (r.map (·.1)) (a.put (fa ops p.1) (b p.1))
  rw[h p (by simp)]
  exact qU b r _ fun q hq=>h q (aE _ hq)
theorem rO{R:Nat→Value→World→Prop}{a:Nat→Value}{u:World}:∀{LP:List (Nat×Option Nat)},(∀j∈LP.map (·.1),R j (a j) u)→pw R a u LP
 | [],_=>trivial
 | p::r,h=>⟨h p.1 (by simp),rO fun j hj=>h j (by rw[du];exact aE _ hj)⟩
def tI(ops:Array Oper)(E:List Nat)(DD:Nat→List (Nat×Option Nat))(MM:List (Nat×Option Nat)):Bool:=
 E.all (fun i=>(DD i).all fun p=>fa ops p.1==p.2)&&MM.all (fun p=>fa ops p.1==p.2)&&MM.map (·.1)==E
theorem xP  (k:Nat→List (Nat×Option Nat)) (s:List (Nat×Option Nat)) (R:Nat→Value→World→Prop) (S:World→World→Prop) (m:mM md L.toArray E l=none) (A:f+1=E.length)
  (z:(tI L.toArray E k s&&pC md L.toArray E E (fun i=>(k i).map (·.1)) l a.tmps.size)=true) (B:C w) (t:∀u u',C u→S u u'→C u') (D:sZ S R E)
  (c:qT P L C S R k a E)
  (n:∀vals u,C u→pw R vals u s→Q (eH vals s a) u):pI P md L.toArray C E (vP P md L.toArray C E Q) (f+1) l a w:=by
 rw[aI] at z
 obtain⟨d,q⟩:=z
 unfold tI at d
 simp only[aI,bJ,bY] at d
 obtain⟨⟨x,y⟩,r⟩:=d
 unfold pI
 rw[m]
 unfold vP
 rw[A]
 have e:∀j v u u',S u u'→(R j v u∧j∈E)→(R j v u'∧j∈E):=fun j v u u' hs h=>⟨vg D j h.2 v u u' hs h.1,h.2⟩
 have F:∀i∈E,∀j∈(k i).map (·.1),j∈E:=fun i hi j hj=>by
  have g:=q
  unfold pC at g
  simp only[aI,bJ] at g
  have b:=(g.2 i hi).2
  split at b
  ·cases b
  ·simp only[aI,bJ,dJ] at b
   exact(b.1.2 j hj).1
 have:=GX (P:=P) (C:=C) (Q:=Q) E (fun i=>(k i).map (·.1)) (fun j v u=>R j v u∧j∈E) S q e (fun i hi vals u hc hj o ho=>by
  have b:=ue c i hi vals u hc (rO fun j hjm=>(hj j hjm).1)
  unfold oU at b
  rw[←aB,ho] at b
  simp only at b
  rw[qU (ops:=L.toArray) vals (k i) a fun p m=>x i hi p m] at b
  exact iy (fun v w' ⟨hs,hr⟩=>⟨t _ _ hc hs,hs,hr,hi⟩) b)
  (fun vals u hc hj=>by
   have b:=n vals u hc (rO fun j hjm=>(hj j (by rw[←r];exact hjm)).1)
   rwa [qU (ops:=L.toArray) vals s a fun p m=>y p m,r] at b)
  E.length [] (fun _=>undef) w List.nodup_nil (fun j hj=>by cases hj) (by simp) B (fun j hj=>by cases hj)
 exact this
end
theorem Dp{w:World}{A:Option Addr}{c:Nat}{f:List Dd}(h:nF w A n f)(eA:Nat)(M:eA≤1000) :
  Calls Tryz.prog 38 #[.slice A n c,.int .i64 eA] w fun e w'=>e=.returned (.bool (l6 eA f))∧bf w w':=by
 by_cases z:n≤eA
 ·have r:Hd (decide (f.length≤eA)=true):=by rw[Hd,h.row.1];simpa using z
  go_enter Tryz.func38,Tryz.ntmps38
  go_wp2_with (refine lM ?_ ?_<;>intro hq)
  go_loopw [5] (fun i wr=>∃k:Nat,k≤n∧i=.int .i64 k∧((f.take k).all fun d=>decide (d.s.length≤800)&&decide (d.t.length≤400)&&py 50 d.ch)=true∧∃ξ:X w No,wr=ξ.v) (fun i _=>n-(intOf i).toNat)
  case atStart=>exact⟨0,au _,rfl,rfl,X.here _ _,rfl⟩
  case round=>
   obtain⟨k,N,rfl,B,ξ,rfl⟩:=hrel
   have C:=aj B
   clear B
   by_cases u:k<n
   ·obtain⟨b,o,x,rfl,D,j,p⟩:=BG h u
    have q:=aj D
    have c1:=fun ξ=>p 1 ξ _ rfl
    have O:=fun ξ=>p 2 ξ _ rfl
    have P:=fun ξ=>p 5 ξ _ rfl
    clear D p
    have E:=fun(v:World) (η:bf w v)=>zU (c:=x.cc) ((h.ch x j).ext η) 50 (by omega)
    have H:=aj E
    clear E
    go_upto_region 6 with fail
    refine cj [22] (Cl w No) ⟨ξ,rfl⟩ ?_
    (repeat' (first|(refine dO rfl rfl rfl ?_;intro K hK;go_big_quiet_op;go_big_quiet_on)|(refine dP rfl rfl rfl (by with_reducible rfl) rfl rfl ?_;intro K hK;go_big_quiet_op;go_big_quiet_on)|((first|refine el rfl rfl rfl (by with_reducible rfl) ?_|refine eh rfl rfl rfl (by with_reducible rfl) ?_|refine eo rfl rfl rfl (by with_reducible rfl) ?_);simp only[Act.put,gL,gK,gJ])|(refine eK rfl rfl rfl rfl (fun hq=>?_) (fun hq=>?_)<;>(fail_if_success (guard_hyp hq :ₛ true=true))<;>(fail_if_success (guard_hyp hq :ₛ false=false))<;>first|(exfalso;cases hq;done)|(exfalso;simp only[mu,mh,mj,mm,ne_eq,da,cZ] at hq;omega)|simp only[Act.put,gL,gK,gJ])))
    all_goals first
     | refine ar ?_
     | (
      (refine bQ ?_;intro K hK)
      refine(H.ou ξ.v ξ.h).mono ?_
      rintro e F ⟨rfl,l⟩
      have y:Hd (bf w F):=ξ.h.ae l
      refine⟨_,rfl,hK _ _ (fun _=>Cl.of y.ou) ?_⟩
      clear hK K l
      refine bj ?_
      refine bK ?_
      refine ar ?_)
    ·have g:Hd ((decide (x.s.length≤800)&&decide (x.t.length≤400)&&py 50 x.ch)=false):=by
      have:decide (x.s.length≤800)=false:=by simp only[bh,aA,bY,bl,ne_eq,da,cZ,fT,gy,cd,dM,aI,eD,fS,eF,eS] at *;omega
      rw[Hd,this];rfl
     refine cS ?_
     go_ret
     exact⟨fE (by unfold l6;rw[mL q.ou g.ou,iJ]),ξ.h⟩
    ·have g:Hd ((decide (x.s.length≤800)&&decide (x.t.length≤400)&&py 50 x.ch)=false):=by
      have:decide (x.t.length≤400)=false:=by simp only[bh,aA,bY,bl,ne_eq,da,cZ,fT,gy,cd,dM,aI,eD,fS,eF,eS] at *;omega
      rw[Hd,this,iJ];rfl
     refine cS ?_
     go_ret
     exact⟨fE (by unfold l6;rw[mL q.ou g.ou,iJ]),ξ.h⟩
    ·obtain⟨m,a⟩:∃m,m=py 50 x.ch:=⟨_,rfl⟩
     rw[←a]
     have I:=aj a
     clear a
     have g:Hd ((decide (x.s.length≤800)&&decide (x.t.length≤400)&&py 50 x.ch)=m):=by
      have J:decide (x.s.length≤800)=true:=by simp only[bh,aA,bY,bl,ne_eq,da,cZ,fT,gy,cd,dM,aI,eD,fS,eF,eS] at *;omega
      have L:decide (x.t.length≤400)=true:=by simp only[bh,aA,bY,bl,ne_eq,da,cZ,fT,gy,cd,dM,aI,eD,fS,eF,eS] at *;omega
      rw[Hd,J,L,←I.ou];rfl
     go_wp2_with (first|refine dN ?_|refine lM ?_ ?_<;>intro hq)
     ·have e:m=false:=by rename_i hh;simpa using hh
      go_ret
      exact⟨fE (by unfold l6;rw[mL q.ou (g.ou.trans e),iJ]),y.ou⟩
     ·have e:m=true:=by rename_i hh;simpa using hh
      go_roundw
      case rel=>exact⟨k+1,by omega,by go_num,ql C.ou q.ou (g.ou.trans e),⟨F,y.ou⟩,rfl⟩
      case measure=>simp[intOf];omega
   ·refine cS ?_
    go_ret
    have G:=C.ou
    rw[ay (by have:=h.row.1;omega)] at G
    exact⟨fE (by unfold l6;rw[r.ou,G];rfl),ξ.h⟩
 ·have r:Hd (l6 eA f=false):=by
   have:decide (f.length≤eA)=false:=by rw[h.row.1];simpa using z
   rw[Hd,l6,this];rfl
  go_enter Tryz.func38,Tryz.ntmps38
  refine cS ?_
  go_ret
  exact⟨fE r.ou.symm,al.refl _ _⟩
theorem LM{w:World}   (h:Cs w g 120 #[kv,nv,wv,.int .i64 ix,.bool true]) :
  Calls Tryz.prog 161 #[pt g] w fun e w'=>e=.returned (E 11)∧bf w w':=by
 have a:=h.cell 3;have b:=h.cell 4
 simp only[aB,aQ,aX] at a b
 clear h
 go_enter Tryz.func161,Tryz.ntmps161
 refine cS ?_
 go_ret
 exact⟨rfl,al.refl _ _⟩
theorem K9{w:World}  (h:Cs w g 120 #[kv,nv,wv,.int .i64 0,.bool false]) :
  Calls Tryz.prog 161 #[pt g] w fun e w'=>e=.returned (E 11)∧Cs w' g 120 #[kv,nv,wv,.int .i64 (-1),.bool true]∧al (·=g) w w':=by
 have b:=h.cell 3;have c:=h.cell 4
 have d:=h.frozen 3;have f:=h.frozen 4
 simp only[aB,aQ,aX] at b c
 have H:=aj h
 clear h
 go_enter Tryz.func161,Tryz.ntmps161
 refine cS ?_
 go_ret
 have a:=(H.ou.cM 4 (.bool true)).cM 3 (.int .i64 (-1))
 simp only[ax,aR,aS] at a
 exact⟨rfl,a,((al.refl _ _).at_ 4 _).at_ 3 _⟩
theorem Rq{w:World}   (h:Cs w g 120 #[kv,nv,wv,.int .i64 ix,.bool false])(f:ix≠0)(i:-1≤ix)(j:ix≤9223372036854775807) :
  Calls Tryz.prog 161 #[pt g] w fun e w'=>e=.returned .nilIface∧Cs w' g 120 #[kv,nv,wv,.int .i64 (max (ix-1) (-1)),.bool false]∧al (·=g) w w':=by
 have c:=h.cell 3;have d:=h.cell 4
 have k:=h.frozen 3;have l:=h.frozen 4
 simp only[aB,aQ,aX] at c d
 have H:=aj h
 clear h
 go_enter Tryz.func161,Tryz.ntmps161
 go_wp2_with (first|refine dN ?_|refine lM ?_ ?_<;>intro hq)
 all_goals
  go_ret
  have a:=H.ou.cM 3 (.int .i64 (max (ix-1) (-1)))
  simp only[ax,aR,aS] at a
  first
  | exact⟨rfl,a,(al.refl _ _).at_ 3 _⟩
  | (have b:max (ix-1) (-1)=-1:=(by omega);rw[b] at a ⊢;exact⟨rfl,a,(al.refl _ _).at_ 3 _⟩)
  | (have b:max (ix-1) (-1)=ix-1:=(by omega);rw[b] at a ⊢;exact⟨rfl,a,(al.refl _ _).at_ 3 _⟩)
def qy(n:Nat):aK:=List.replicate n 0
theorem vU(n:Nat):(qy n).length=n:=ie
theorem LS:(Tryz.prog.info? 5).map (fun i=>(i.zero,i.size,i.bytes))=some (some (.int .u8 0),1,1):=by kernel_rfl
theorem Fx(n:Nat):strOfNums (List.replicate n 0)=⟨(qy n).toArray⟩:=by
 unfold strOfNums qy
 simp
theorem Hu(n:Nat)(h:n≤1000000)(w:World):(Instr.makeSlice 233 (.int .i64 (n:Int)) (.int .i64 (n:Int))).run Tryz.prog w =
  .ok (.slice (some ⟨w.heap.size,0,none⟩) n n) (w.alloc (.cells (madeCells #[.int .u8 0] n) 5)):=by
 obtain⟨a,c,d,e,f⟩:=info_parts LS
 have g:(a.bytes:Int)*(n:Int)≤281474976710656:=by rw[f];omega
 have b:=run_make (P:=Tryz.prog) w 233 5 a (.int .u8 0) Tryz.underlying233 c d .i64 .i64 n n (by omega) (by omega) g (by omega)
 simp only[dh] at b
 rw[b,e]
 simp[Value.cells]
theorem K8(n i:Nat)(a:i<n):(madeCells #[.int .u8 0] n)[i]?=some (.int .u8 0):=by
 unfold madeCells
 rw[Array.getElem?_map,Array.getElem?_range]
 simp[a,Nat.mod_one]
theorem Ln(n:Nat)(w:World):(convert 233 9 (.slice (some ⟨w.heap.size,0,none⟩) n n)).run Tryz.prog (w.alloc (.cells (madeCells #[.int .u8 0] n) 5)) =
  .ok (S (qy n)) (w.alloc (.cells (madeCells #[.int .u8 0] n) 5)):=by
 rw[run_convert_bytes_arg _ 233 5 Tryz.underlying233 Tryz.underlying5 w.heap.size 0 n n (List.replicate n 0) (by simp) (fun i hi=>?_) 9 Tryz.underlying9,Fx]
 rw[(Cs.new w 5 (madeCells #[.int .u8 0] n)).cell,bX,K8 n i hi]
 simp[List.getD,hi]
def ec(s:aK):aK:=s++qy (340-s.length)
theorem fV(s:aK)(h:s.length≤340):(ec s).length=340:=by
 unfold ec;rw[af,vU];omega
theorem NW(s:aK)(b:s.length≤340)(w:World) :
  Calls Tryz.prog 106 #[S s] w fun e w'=>e=.returned (S (ec s))∧bf w w':=by
 have a:=Hu (340-s.length) (by omega)
 have c:=Ln (340-s.length)
 have e:((340-s.length:Nat):Int)=340-(s.length:Int):=by omega
 rw[e] at a
 clear e
 have d:(qy (340-s.length)).length≤340:=by rw[vU];omega
 go_enter Tryz.func106,Tryz.ntmps106
 go_wp2
 go_ret
 exact⟨rfl,(al.refl _ _).alloc _⟩
structure Dk where
 kept:List aK
 now:List aK
 wait:List (Nat×aK)
 ix:Int
 down:Bool
structure jZ where
 g:Nat
 kg:Nat
 kc:Nat
 ng:Nat
 nc:Nat
 wv:Value
def RY(t:Nat×aK):List Value:=[.int .i64 (t.1:Int),S t.2]
structure Dk.PN (d:Dk):Prop where
 len:d.kept.length=d.now.length
 pos:0<d.now.length
 eA:d.now.length≤120
 lo:-1≤d.ix
 hi:d.ix≤9223372036854775807
 at_:∀t∈d.wait,t.1<d.now.length
abbrev jZ.cells(r:jZ)(d:Dk):Array Value:=#[.slice (some ⟨r.kg,0,none⟩) d.now.length r.kc,.slice (some ⟨r.ng,0,none⟩) d.now.length r.nc,r.wv,.int .i64 d.ix,.bool d.down]
structure ef (w:World) (r:jZ) (d:Dk):Prop where
 cs:Cs w r.g 120 (r.cells d)
 kept:w.ownsRow 0 9 1 (.slice (some ⟨r.kg,0,none⟩) d.now.length r.kc) d.now.length (d.kept.map S)
 now:w.ownsRow 0 9 1 (.slice (some ⟨r.ng,0,none⟩) d.now.length r.nc) d.now.length (d.now.map S)
 wait:w.ownsRow 0 122 2 r.wv d.wait.length (d.wait.flatMap RY)
 ne:r.kg≠r.ng
 vf:d.PN
def jZ.fp(r:jZ)(b:Nat):Prop:=b=r.g∨b=r.kg∨b=r.ng∨r.wv.ownBlock=some b
theorem sy{w:World}{B:Nat}{t e:TypeId}{a:Nat}{cs:Array Value}{v:Value}{xs:List Value}(h:w.ownsRow B e a v n xs)(c:Cs w g t cs)(b:e≠t):v.ownBlock≠some g:=by
 rcases h.2 with⟨rfl,_⟩|⟨g',cap,cur,rfl,_,hh,_⟩
 ·simp[Value.ownBlock]
 ·intro d
  have:g'=g:=by simpa [Value.ownBlock] using d
  subst this
  exact Cs.oC (t:=e) hh c b rfl
section
variable {w v:World} {r:jZ} {d:Dk} {F:Nat→Prop}
theorem ef.aP(h:ef w r d)(a:al F w v)(c:∀b,r.fp b→¬F b):ef v r d:=
 ⟨h.cs.aP a (c _ (.inl rfl)),cl h.kept a (fun g hg=>by simp[Value.ownBlock] at hg;subst hg;exact c _ (.inr (.inl rfl))),
  cl h.now a (fun g hg=>by simp[Value.ownBlock] at hg;subst hg;exact c _ (.inr (.inr (.inl rfl)))),cl h.wait a (fun g hg=>c _ (.inr (.inr (.inr hg)))),h.ne,h.vf⟩
theorem ef.ext(h:ef w r d)(a:bf w v):ef v r d:=h.aP a fun _ _ h=>h
theorem ef.gk(h:ef w r d):r.kg≠r.g:=fun e=>sy h.kept h.cs (by decide) (by rw[←e];rfl)
theorem ef.gn(h:ef w r d):r.ng≠r.g:=fun e=>sy h.now h.cs (by decide) (by rw[←e];rfl)
theorem ef.gw(h:ef w r d):r.wv.ownBlock≠some r.g:=sy h.wait h.cs (by decide)
theorem ef.Kh(h:ef w r d){k:Nat}(a:k<d.now.length):w.cell? ⟨r.ng,k,none⟩=some (S (d.now[k])):=by
 rw[h.now.cellAt k (by omega),bP,aF a];rfl
def Dk.cJ(d:Dk):Dk:=if d.down then d else if d.ix=0 then { d with ix:=-1,down:=true } else { d with ix:=max (d.ix-1) (-1) }
def Dk.lU(d:Dk):Bool:=d.down||decide (d.ix=0)
theorem Dk.PN.cJ(h:d.PN):d.cJ.PN:=by
 unfold Dk.cJ
 split
 ·exact h
 ·have:=h.lo;have:=h.hi
  split
  ·exact⟨h.len,h.pos,h.eA,by simp,by simp,h.at_⟩
  ·exact⟨h.len,h.pos,h.eA,by simp;omega,by simp;omega,h.at_⟩
end
def mY(w:World)(r:jZ)(d':Dk)(v:Value)(e:Ending)(w':World):Prop:=
 e=.returned v∧∃r':jZ,ef w' r' d'∧r'.g=r.g∧al r.fp w w'∧∀b,r'.fp b→r.fp b∨w.heap.size≤b
theorem DM{w:World}{r:jZ}{d:Dk}(h:ef w r d) :
  Calls Tryz.prog 161 #[pt r.g] w fun e w'=>e=.returned (if d.lU then E 11 else .nilIface)∧ef w' r d.cJ∧al (·=r.g) w w':=by
 obtain⟨c,j,f,ix,a⟩:=d
 have k:=h.gk;have l:=h.gn;have i:=h.gw
 cases a with
 | true=>
  refine(LM h.cs).mono fun e w' ⟨he,hx⟩=>⟨by simpa [Dk.lU] using he,?_,hx.gU fun _ _ h=>h.elim⟩
  simpa [Dk.cJ] using h.ext hx
 | false=>
  by_cases b:ix=0
  ·subst b
   refine(K9 h.cs).mono fun e w' ⟨he,hc,hx⟩=>⟨by simpa [Dk.lU] using he,?_,hx⟩
   have:=h.vf.cJ
   simp only[Dk.cJ] at this ⊢
   exact⟨hc,cl h.kept hx (fun g hg=>by simp[Value.ownBlock] at hg;omega),cl h.now hx (fun g hg=>by simp[Value.ownBlock] at hg;omega),
    cl h.wait hx (fun g hg e=>i (by rw[hg,e])),h.ne,this⟩
  ·refine(Rq h.cs b h.vf.lo h.vf.hi).mono fun e w' ⟨he,hc,hx⟩=>⟨by simpa [Dk.lU,b] using he,?_,hx⟩
   have:=h.vf.cJ
   simp only[Dk.cJ,b,cV,if_false] at this ⊢
   exact⟨hc,cl h.kept hx (fun g hg=>by simp[Value.ownBlock] at hg;omega),cl h.now hx (fun g hg=>by simp[Value.ownBlock] at hg;omega),
    cl h.wait hx (fun g hg e=>i (by rw[hg,e])),h.ne,this⟩
theorem Kq:(Tryz.prog.info? 122).map (fun i=>(i.zero,i.size,i.bytes))=some (some (.agg #[.int .i64 0,S []]),2,24):=by kernel_rfl
@[go_sem] theorem TH (a:Int) (b:ByteArray) (w:World):(Instr.build 122 #[(0,.int .i64 a),(1,.string b)]).run Tryz.prog w=.ok (.agg #[.int .i64 a,.string b]) w:=run_build w 122 _ _ (by kernel_rfl)
theorem Qk:tf Tryz.prog 118 122 2:=tf.mk' Tryz.underlying118 Kq rfl (by omega) (by omega)
theorem Kw{w:World}{r:jZ}{d:Dk}(h:ef w r d)(i:Int)(s:aK)(a:s.length≤1000000)(b:i<0∨(d.now.length:Int)≤i∨340<s.length) :
  Calls Tryz.prog 107 #[pt r.g,.int .i64 i,S s] w fun e w'=>e=.returned (E 1)∧bf w w':=by
 have c1:=h.cs.cell 1
 simp only[aB,aQ,aX] at c1
 have c:=h.vf.eA
 clear h
 go_enter Tryz.func107,Tryz.ntmps107
 go_wp2_with (refine dN ?_)
 all_goals first
  | (go_ret;exact⟨rfl,al.refl _ _⟩)
  | exact si
def Dk.written(d:Dk)(k:Nat)(s:aK):Dk:={ d with now:=d.now.set k (ec s),wait:=d.wait++[(k,ec s)] }
theorem NT{w:World}{r:jZ}{d:Dk}(h:ef w r d)(k:Nat)(I:k<d.now.length)(s:aK)(hs:s.length≤340)(n:d.lU=false)(hw:d.wait.length≤1000000) :
  Calls Tryz.prog 107 #[pt r.g,.int .i64 k,S s] w (mY w r (d.cJ.written k s) .nilIface):=by
 have c1:=h.cs.cell 1
 simp only[aB,aQ,aX] at c1
 have hl:=h.vf.eA
 have q:=DM h
 rw[n] at q
 have R:=aj q
 have H:=aj h
 clear h q n
 go_enter Tryz.func107,Tryz.ntmps107
 go_wp2_with (refine dN ?_)
 all_goals try exact si
 refine R.ou.mono ?_
 rintro e J ⟨rfl,T,A⟩
 have c:=aj (show d.cJ.now.length=d.now.length by unfold Dk.cJ;split<;>(try split)<;>rfl)
 have U:=T.cs.x (F:=No) id 1
 simp only[aB,aQ,aX] at U
 rw[c.ou] at U
 have H1:=aj T
 have HX:=aj A
 clear T A
 go_upto_region 5 with fail
 (refine aV [6,8] 8 (Cl (J) (No)) (by kernel_rfl) (by kernel_rfl) (Cl.of (al.refl _ _).drew) ?_;refine bK ?_)
 (refine bQ ?_;intro K hK)
 refine(NW s hs _).mono ?_
 rintro e B ⟨rfl,V⟩
 have f:bf J B:=(al.refl No J).drew.ae V
 refine⟨_,rfl,hK _ _ (fun _=>Cl.of f) ?_⟩
 clear hK K
 refine bj ?_
 refine bK ?_
 have a:=aj (H1.ou.ext f)
 have s1:B.cell? ⟨r.ng,k,none⟩=some (S (d.cJ.now[k]'(by rw[c.ou];exact I))):=a.ou.Kh _
 have s2:=a.ou.now.frozenAt k
 (refine bQ ?_;intro K hK)
 refine hK _ _ (fun hne=>absurd rfl hne) ?_
 clear hK K
 refine bj ?_
 refine ar ?_
 clear s1 s2 U
 obtain⟨i,j⟩:∃i,i=B.setCell ⟨r.ng,k,none⟩ (S (ec s)):=⟨_,rfl⟩
 have C:=a.ou.gn
 have L:Hd (Cs i r.g 120 (r.cells d.cJ)):=by rw[j];exact a.ou.cs.far (p:=⟨r.ng,k,none⟩) (Ne.symm C) _
 have N3:Hd (i.ownsRow 0 9 1 (.slice (some ⟨r.ng,0,none⟩) d.cJ.now.length r.nc) d.cJ.now.length ((d.cJ.now.set k (ec s)).map S)):=by
  rw[j,List.map_set];exact Rp a.ou.now k (by rw[c.ou];exact I) _
 have M:Hd (al (fun b=>b=r.ng) B i):=by rw[j];exact(al.refl _ _).at_ k _
 rw[←j]
 clear j
 have W:=aj (show d.cJ.wait.length=d.wait.length by unfold Dk.cJ;split<;>(try split)<;>rfl)
 have u:Hd (∀g,r.wv.ownBlock=some g→¬g=r.ng):=fun g hg e=>by
  obtain⟨cur,l⟩:=Cs.jk a.ou.now
  exact sy a.ou.wait l (by decide) (by rw[hg,e])
 have o:=aj a.ou.gw
 have Y:=L.ou.x (F:=fun b=>r.wv.ownBlock=some b) o.ou 1
 have e2:=L.ou.x (F:=fun b=>r.wv.ownBlock=some b) o.ou 2
 simp only[aB,aQ,aX] at Y e2
 rw[c.ou] at Y
 have e3:∀ξ:X i (fun b=>r.wv.ownBlock=some b),ξ.v.cell? ⟨r.ng,k,none⟩=some (S (ec s)):=fun ξ=>by
  have:=cl N3.ou ξ.h (fun g hg h=>u.ou _ h (by simp[Value.ownBlock] at hg;exact hg.symm))
  rw[World.ownsRow.cellAt this k (by rw[c.ou];omega),bP,cR (by rw[c.ou];exact I)]
  try rfl
 go_upto_region 6 with fail
 (refine aV [14,15,18] 18 (Cl (i) (fun b=>r.wv.ownBlock=some b)) (by kernel_rfl) (by kernel_rfl) (Cl.of (al.refl _ _).drew) ?_;refine bK ?_)
 (refine bQ ?_;intro K hK)
 refine hK _ _ (fun _=>Cl.of ((al.refl _ _).drew.alloc _)) ?_
 clear hK K
 refine bj ?_
 have O4:=aj ((al.refl No i).drew.alloc (.cells #[.int .i64 k,S (ec s)] 122))
 have W4:=aj (cl (cl a.ou.wait M.ou u.ou) O4.ou fun _ _ h=>h)
 refine cH rfl rfl ?_
 intro K hK
 refine eO (v:=r.wv) Qk rfl rfl rfl W4.ou (iQ i.drew _ [.int .i64 k,S (ec s)]) (by simp[Value.oneCell']) (by rw[W.ou];omega) ?_
 intro N O P m y D
 have E:Hd (al (fun b=>r.wv.ownBlock=some b) i P):=(al.any O4.ou).grown y fun g hg=>.inr hg
 refine hK _ _ (fun _=>Cl.of E.ou) ?_
 clear hK K
 refine bj ?_
 have Z:=aj (L.ou.aP E.ou o.ou)
 have g2:=Z.ou.cell 2
 simp only[aB,aQ,aX] at g2
 have g3:=Z.ou.frozen 2
 refine bK ?_
 (refine bQ ?_;intro K hK)
 refine hK _ _ (fun hne=>absurd rfl hne) ?_
 clear hK K
 refine bj ?_
 refine ar ?_
 have WB:=aj m
 have HB:=aj D
 have GB:=aj y
 clear m D y Y e2 e3 g2 g3
 go_wp2
 go_ret
 have ai:w.heap.size≤i.heap.size:=aJ HX.ou.size (aJ f.size M.ou.size)
 have Q:al (fun b=>b=r.g) P (P.setCell ⟨r.g,2,none⟩ (.slice N (d.cJ.wait.length+1:Nat) O)):=(al.refl _ _).at_ 2 _
 have ac:=a.ou.gk
 have ag:∀g,r.wv.ownBlock=some g→¬g=r.kg:=fun g hg e=>by
  obtain⟨cur,l⟩:=Cs.jk a.ou.kept
  exact sy a.ou.wait l (by decide) (by rw[hg,e])
 have G:∀b,(Value.slice N (d.cJ.wait.length+1:Nat) O).ownBlock=some b→r.wv.ownBlock=some b∨i.heap.size≤b:=fun b z=>by
  rcases HB.ou with h|h
  ·exact .inl (by rw[←h];exact z)
  ·right
   rw[h] at z
   injection z with z
   rw[←z];simp
 have n:=a.ou.vf
 refine⟨rfl,{ r with wv:=.slice N (d.cJ.wait.length+1:Nat) O },⟨?_,?_,?_,?_,a.ou.ne,?_⟩,rfl,?_,?_⟩
 ·have:=Z.ou.cM 2 (.slice N (d.cJ.wait.length+1:Nat) O)
  simp only[ax,aR,aS] at this
  simpa [Dk.written,jZ.cells] using this
 ·have:=cl (cl (cl a.ou.kept M.ou (fun g hg e=>a.ou.ne (by simp[Value.ownBlock] at hg;omega))) E.ou (fun g hg h=>ag _ h (by simp[Value.ownBlock] at hg;exact hg.symm))) Q (fun g hg e=>ac (by simp[Value.ownBlock] at hg;omega))
  simpa [Dk.written] using this
 ·have:=cl (cl N3.ou E.ou (fun g hg h=>u.ou _ h (by simp[Value.ownBlock] at hg;exact hg.symm))) Q (fun g hg e=>C (by simp[Value.ownBlock] at hg;omega))
  simpa [Dk.written] using this
 ·have:=cl WB.ou Q (fun g hg e=>by
   rcases G g hg with h|h
   ·exact o.ou (by rw[h,e])
   ·have:=L.ou.lt;omega)
  simpa [Dk.written,RY] using this
 ·refine⟨by simpa [Dk.written] using n.len,by simpa [Dk.written] using n.pos,by simpa [Dk.written] using n.eA,n.lo,n.hi,fun t ht=>?_⟩
  simp only[Dk.written,az,aC,bT] at ht ⊢
  rcases ht with ht|rfl
  ·exact n.at_ t ht
  ·rw[c.ou];exact I
 ·have a1:al r.fp w J:=HX.ou.gU fun b _ e=>.inl e
  have a2:al r.fp w B:=a1.ae f
  have a3:al r.fp w i:=a2.trans M.ou fun b _ e=>.inr (.inr (.inl e))
  have a5:al r.fp w P:=a3.trans E.ou fun b _ e=>.inr (.inr (.inr e))
  exact a5.trans Q fun b _ e=>.inl e
 ·intro b z
  rcases z with h|h|h|h
  ·exact .inl (.inl h)
  ·exact .inl (.inr (.inl h))
  ·exact .inl (.inr (.inr (.inl h)))
  ·rcases G b h with h|h
   ·exact .inl (.inr (.inr (.inr h)))
   ·right;omega
theorem Of:(Tryz.prog.info? 9).map (·.size)=some 1:=by kernel_rfl
theorem Sf(l:List aK):∀u∈l.map S,u.oneCell'=true:=by
 intro u a
 obtain⟨s,_,rfl⟩:=cw.1 a
 rfl
theorem OT{w:World}{r:jZ}{d:Dk}(h:ef w r d)(i:Int) :
  Calls Tryz.prog 83 #[pt r.g,.int .i64 i] w fun e w'=>
   e=.returned (if d.down then .tuple #[S [],E 11] else if i<0∨(d.now.length:Int)≤i then .tuple #[S [],E 1] else .tuple #[S (d.now.getD i.toNat []),.nilIface])∧bf w w':=by
 have c1:=h.cs.cell 1
 have c:=h.cs.cell 4
 simp only[aB,aQ,aX] at c1 c
 have n:=h.vf.eA
 obtain⟨f,a,j,ix,b⟩:=d
 cases b with
 | true=>
  clear h
  go_enter Tryz.func83,Tryz.ntmps83
  refine cS ?_
  go_ret2
  exact⟨rfl,al.refl _ _⟩
 | false=>
  simp only at c1 c n
  by_cases l:i<0∨(a.length:Int)≤i
  ·clear h
   simp only[cV,if_false,ab l]
   go_enter Tryz.func83,Tryz.ntmps83
   go_wp2_with (refine dN ?_)
   all_goals first
    | (go_ret2;exact⟨rfl,al.refl _ _⟩)
    | exact si
  ·obtain⟨k,rfl⟩:∃k:Nat,i=k:=⟨i.toNat,by omega⟩
   have m:k<a.length:=by omega
   have o:w.cell? ⟨r.ng,k,none⟩=some (S a[k]):=h.Kh m
   clear h
   simp only[cV,if_false,aa l]
   go_enter Tryz.func83,Tryz.ntmps83
   refine cS ?_
   all_goals first
    | (go_ret2;exact⟨by simp[List.getD,m],al.refl _ _⟩)
    | exact si
def Dk.pR(d:Dk):Dk:={ d with kept:=d.now,wait:=[] }
theorem Gn{w:World}{r:jZ}{d:Dk}(h:ef w r d)(j:d.lU=true) :
  Calls Tryz.prog 108 #[pt r.g] w (mY w r d.cJ (E 11)):=by
 have a:=DM h
 rw[j] at a
 have c:=aj a
 clear a
 go_enter Tryz.func108,Tryz.ntmps108
 go_wp2_with (refine lM ?_ ?_<;>intro hq)
 refine c.ou.mono ?_
 rintro e l ⟨rfl,i,f⟩
 have k:=aj i
 clear i
 go_wp2_with (refine dN ?_)
 go_ret
 exact⟨rfl,r,k.ou,rfl,f.gU fun b _ e=>.inl e,fun b hb=>.inl hb⟩
theorem OH{w:World}{r:jZ}{d:Dk}(h:ef w r d)(f:d.lU=false) :
  Calls Tryz.prog 108 #[pt r.g] w (mY w r d.cJ.pR .nilIface):=by
 have c:=DM h
 rw[f] at c
 have m:=aj c
 clear c h
 go_enter Tryz.func108,Tryz.ntmps108
 go_wp2_with (refine dN ?_)
 refine m.ou.mono ?_
 rintro e o ⟨rfl,t,i⟩
 have a:=aj t
 have y:=aj i
 clear t i
 have u:=a.ou.cs.x (F:=No) id 1
 have v:=a.ou.cs.x (F:=No) id 0
 simp only[aB,aQ,aX] at v u
 go_upto_region 3 with fail
 (refine aV [8] 8 (Cl (o) (No)) (by kernel_rfl) (by kernel_rfl) (Cl.of (al.refl _ _).drew) ?_;refine bK ?_)
 refine cH rfl rfl ?_
 intro K hK
 refine Lz (g:=r.kg) (n:=d.cJ.now.length) Tryz.underlying44 Of rfl rfl rfl a.ou.vf.pos (cl a.ou.kept (al.refl No _).drew fun _ _ h=>h) (BP (cl a.ou.now (al.refl No _).drew fun _ _ h=>h)) (Sf _) ?_
 intro l j k
 refine hK _ _ (fun hne=>absurd rfl hne) ?_
 clear hK K v u
 refine bj ?_
 refine ar ?_
 have z:=aj j
 have p:Hd (al (fun b=>b=r.kg) o l):=((al.refl _ _).drew).trans k fun _ _ h=>h
 clear j k
 have q:=aj (a.ou.cs.aP p.ou (fun e=>a.ou.gk e.symm))
 have A:=q.ou.cell 2
 simp only[aB,aQ,aX] at A
 have E:=q.ou.frozen 2
 go_wp2
 go_ret
 have f:=a.ou.vf
 have s:al (fun b=>b=r.g) l (l.setCell ⟨r.g,2,none⟩ (.slice none 0 0)):=(al.refl _ _).at_ 2 _
 refine⟨rfl,{ r with wv:=.slice none 0 0 },⟨?_,?_,?_,?_,a.ou.ne,?_⟩,rfl,?_,?_⟩
 ·have:=q.ou.cM 2 (.slice none 0 0)
  simp only[ax,aR,aS] at this
  simpa [Dk.pR,jZ.cells] using this
 ·have:=cl z.ou s (fun g hg e=>a.ou.gk (by simp[Value.ownBlock] at hg;omega))
  simpa [Dk.pR] using this
 ·have:=cl (cl a.ou.now p.ou (fun g hg e=>a.ou.ne (by simp[Value.ownBlock] at hg;omega))) s (fun g hg e=>a.ou.gn (by simp[Value.ownBlock] at hg;omega))
  simpa [Dk.pR] using this
 ·exact World.ownsRow_nil _ _ _ _
 ·exact⟨rfl,f.pos,f.eA,f.lo,f.hi,by simp[Dk.pR]⟩
 ·have B:al r.fp w o:=y.ou.gU fun b _ e=>.inl e
  have C:al r.fp w l:=B.trans p.ou fun b _ e=>.inr (.inl e)
  exact C.trans s fun b _ e=>.inl e
 ·intro b D
  rcases D with h|h|h|h
  ·exact .inl (.inl h)
  ·exact .inl (.inr (.inl h))
  ·exact .inl (.inr (.inr (.inl h)))
  ·simp[Value.ownBlock] at h
theorem Nl{w:World}{r:jZ}{d:Dk}(h:ef w r d) :
  Calls Tryz.prog 81 #[pt r.g] w fun e w'=>e=.returned (.bool d.down)∧bf w w':=by
 have a:=h.cs.cell 4
 simp only[aB,aQ,aX] at a
 clear h
 go_enter Tryz.func81,Tryz.ntmps81
 refine cS ?_
 go_ret
 exact⟨rfl,al.refl _ _⟩
theorem qX{w:World}{r:jZ}{d:Dk}(h:ef w r d) :
  Calls Tryz.prog 82 #[pt r.g] w fun e w'=>e=.returned (.int .i64 d.now.length)∧bf w w':=by
 have c1:=h.cs.cell 1
 simp only[aB,aQ,aX] at c1
 clear h
 go_enter Tryz.func82,Tryz.ntmps82
 refine cS ?_
 go_ret
 exact⟨rfl,al.refl _ _⟩
def tV(K:Nat)(i:Nat):Bool:=(K/2 ^ (i%64))%2==1
def eV(K:Nat):List aK→List (Nat×aK)→Nat→List aK
 | kept,[],_=>kept
 | kept,t::l,i=>eV K (if tV K i then kept.set t.1 t.2 else kept) l (i+1)
theorem lX(K:Nat):∀(l:List (Nat×aK)) (kept:List aK) (i:Nat),(eV K kept l i).length=kept.length
 | [],_,_=>rfl
 | t::l,kept,i=>by
  unfold eV
  rw[lX K l]
  split<;>simp
end Go.Proofs.YtpgmcijdcnnjpaaGreatDoor
