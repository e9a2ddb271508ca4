/- Lemmas for it. -/
import Derived.Test.YtpgmcijdcnnjpaaGreatDoorPk07
import Derived.Test.YtpgmcijdcnnjpaaGreatDoorPk06
set_option linter.all false
set_option maxRecDepth 100000
set_option maxHeartbeats 4000000
namespace Go.Proofs.YtpgmcijdcnnjpaaGreatDoor
open Go Go.RowKit
variable {c c' k:Nat} {n t:aK} {r:lR} {l xs:List bm} {A A':Option Addr} {w5:World} {α:Type}
def CG(ts ns:List aK)(stem c:aK):aK:=iS (qS (ts.headD []) (ns.headD []) (js ns) stem) c
def kA(r:lR)(name stem:aK):List aK:=if stem=[] then r.targets else [name]
def oE(r:lR)(stem:aK):List aK:=r.aN.map fun n=>oz n stem
def gW(m:Mk)(r:lR)(name stem:aK):dv:=
 ⟨kA r name stem,oE r stem,r.bD.map (CG (kA r name stem) (oE r stem) stem),iH m.ba (r.targets.headD [])⟩
def oD(rs:List lR)(name:aK):Option lR:=rs.find? fun r=>iH r.targets name
abbrev Nv(l:List bm)(n:aK):Bool:=ji n l
def qJ(m:Mk)(l:List bm)(n:aK):Bool:=Nv l n||(oD m.rules n).isSome
def yD(m:Mk)(l:List bm)(name:aK):List lR→Option dv
 | []=>none
 | r::rs=>
  if (mi (r.targets.headD []) name).2=false then yD m l name rs
  else if (gW m r name (mi (r.targets.headD []) name).1).aN.all (qJ m l)=true then some (gW m r name (mi (r.targets.headD []) name).1)
  else yD m l name rs
def iY(m:Mk)(l:List bm)(name:aK):Option dv:=
 match oD m.rules name with
 | some r=>some (gW m r name [])
 | none=>yD m l name m.rules
def gQ(out:List dv)(n:aK):Option Nat:=out.findIdx? fun g=>iH g.targets n
def iE(rec:List dv→aK→List dv×Int):List dv→List aK→List dv×Int
 | out,[]=>(out,0)
 | out,n::ns=>if (rec out n).2≠0 then rec out n else iE rec (rec out n).1 ns
def dZ(m:Mk)(l:List bm):Nat→List aK→List dv→aK→List dv×Int
 | 0,_,out,_=>(out,8)
 | f+1,way,out,name=>
  if iH way name=true then (out,8)
  else if (gQ out name).isSome=true then (out,0)
  else match iY m l name with
   | none=>if Nv l name=true then (out,0) else (out,5)
   | some g=>
    if (iE (dZ m l f (way++g.targets)) out g.aN).2≠0 then iE (dZ m l f (way++g.targets)) out g.aN
    else if (iE (dZ m l f (way++g.targets)) out g.aN).1.length=10 then ((iE (dZ m l f (way++g.targets)) out g.aN).1,2)
    else ((iE (dZ m l f (way++g.targets)) out g.aN).1++[g],0)
def iO(m:Mk)(l:List bm)(goal:aK):List dv×Int:=
 if i7 goal=false then ([],3)
 else if (dZ m l 100 [] [] goal).2≠0 then ([],(dZ m l 100 [] [] goal).2)
 else ((dZ m l 100 [] [] goal).1,0)
def nV(m:Mk)(l:List bm)(goal:aK):List aK:=goal::l.map (·.1)++m.rules.flatMap (·.targets)++m.rules.flatMap (fun r=>oE r [])
def BC(c way:List aK):Nat:=(c.filter fun n=>!iH way n).length
theorem N0{c way ts:List aK} (e:n∈c)(g:iH way n=false)(i:n∈ts):BC c (way++ts)<BC c way:=by
 unfold BC
 have a:∀x,(!iH (way++ts) x)=true→(!iH way x)=true:=by
  intro x d
  simp only[iH,eC,aA,az,not_or] at d ⊢
  exact d.1
 have j:iH (way++ts) n=true:=by simp[iH,i]
 induction c with
 | nil=>cases e
 | cons x xs ih=>
  have k:((xs.filter fun n=>!iH (way++ts) n)).length≤(xs.filter fun n=>!iH way n).length:=by
   clear ih e
   induction xs with
   | nil=>simp
   | cons y ys ih=>
    simp only[dC]
    by_cases b:(!iH (way++ts) y)=true
    ·rw[ab b,ab (a y b)];simp only[an];omega
    ·rw[aa b];split<;>(try simp only[an])<;>omega
  simp only[dC]
  by_cases d:x=n
  ·subst d
   rw[aa (by rw[j];decide),ab (by rw[g];rfl)]
   simp only[an];omega
  ·have f:n∈xs:=by
    rcases aY.1 e with h|h
    ·exact absurd h.symm d
    ·exact h
   have:=ih f
   by_cases b:(!iH (way++ts) x)=true
   ·rw[ab b,ab (a x b)];simp only[an];omega
   ·rw[aa b];split<;>(try simp only[an])<;>omega
theorem jn{a:List lR}  (h:oD a n=some r):r∈a∧n∈r.targets:=by
 unfold oD at h
 have b:=jb h
 exact⟨dL h,by simpa [iH] using b⟩
theorem wN{m:Mk}{l:List bm}{n:aK}{g:dv}:∀{rs:List lR},yD m l n rs=some g→∃r∈rs,(mi (r.targets.headD []) n).2=true∧g=gW m r n (mi (r.targets.headD []) n).1∧g.aN.all (qJ m l)=true
 | [],h=>by cases h
 | r::rs,h=>by
  unfold yD at h
  split at h
  ·obtain⟨c,a,b⟩:=wN h
   exact⟨c,aE _ a,b⟩
  ·rename_i a
   split at h
   ·rename_i b
    cases h
    exact⟨r,by simp,by simpa using a,rfl,b⟩
   ·obtain⟨c,a,b⟩:=wN h
    exact⟨c,aE _ a,b⟩
theorem qY{p:aK}(h:(mi p n).2=true):(mi p n).1≠[]:=by
 unfold mi at h ⊢
 split
 ·rename_i h1
  rw[ab h1] at h
  intro e
  have:=congrArg List.length e
  simp only[be,aH,bI] at this
  omega
 ·rename_i h1
  rw[aa h1] at h
  cases h
theorem jK{m:Mk}  {g:dv}(h:iY m l n=some g) :
  (∃r,oD m.rules n=some r∧g=gW m r n [])∨(oD m.rules n=none∧∃r∈m.rules,(mi (r.targets.headD []) n).2=true∧g=gW m r n (mi (r.targets.headD []) n).1∧g.aN.all (qJ m l)=true):=by
 unfold iY at h
 split at h
 ·rename_i r hr;cases h;exact .inl ⟨r,hr,rfl⟩
 ·rename_i hr;exact .inr ⟨hr,wN h⟩
theorem wG{m:Mk}  {g:dv}(h:iY m l n=some g):n∈g.targets:=by
 rcases jK h with⟨r,hr,rfl⟩|⟨_,r,_,hs,rfl,_⟩
 ·exact(jn hr).2
 ·show n∈kA r n _
  unfold kA
  rw[aa (qY hs)]
  simp
theorem zQ{m:Mk} {goal:aK}{g:dv}(h:iY m l n=some g):∀k∈g.aN,k∈nV m l goal:=by
 intro k c
 unfold nV
 rcases jK h with⟨r,hr,rfl⟩|⟨_,r,_,hs,rfl,ha⟩
 ·exact cN _ (cG.2 ⟨r,(jn hr).1,c⟩)
 ·have:=bJ.1 ha k c
  simp only[qJ,cd] at this
  rcases this with h1|h1
  ·have d:k∈l.map (·.1):=by
    obtain⟨x,a⟩:=dz.1 h1
    unfold dY at a
    have e:=jb a
    simp only[bh] at e
    exact e▸cC (dL a)
   exact cE _ (cE _ (aE _ d))
  ·obtain⟨f,b⟩:=dz.1 h1
   have:=jn b
   exact cE _ (cN _ (cG.2 ⟨f,this.1,this.2⟩))
abbrev VY(g:Nat):Value:=.pointer (some ⟨g,0,none⟩)
abbrev kN:TypeId:=87
abbrev kP:TypeId:=189
abbrev OP:TypeId:=187
structure fW where
 tA:Option Addr
 tc:Nat
 nA:Option Addr
 nc:Nat
 cA:Option Addr
 cc:Nat
def vV:kJ (fW×lR):=⟨3,fun x=>[.slice x.1.tA x.2.targets.length x.1.tc,.slice x.1.nA x.2.aN.length x.1.nc,.slice x.1.cA x.2.bD.length x.1.cc],fun _=>rfl⟩
structure lD where
 A:Option Addr
 c:Nat
 xs:List aK
abbrev lD.own(x:lD):Option Nat:=(Value.slice x.A x.xs.length x.c).ownBlock
abbrev lD.F(w wr:World)(x:lD):Prop:=bR cI 9 w wr x.A x.c x.xs
def lD.off(x y:lD):Prop:=∀g,x.own=some g→y.own≠some g
theorem lD.Gi{x y:lD}(h:x.off y):y.off x:=fun g h1 h2=>h g h2 h1
structure nQ (w wr:World) (L:List lD):Prop where
 f:∀x∈L,x.F w wr
 p:L.Pairwise lD.off
section
variable {w wr u:World} {L L1 L2:List lD} {x:lD}
theorem nQ.ext(h:nQ w wr L)(a:bf wr u):nQ w u L:=⟨fun x hm=>(h.f x hm).on a,h.p⟩
theorem nQ.lt(h:nQ w wr L)(a:x∈L):∀g,x.own=some g→g<wr.heap.size:=fun g hg=>by
 obtain⟨_,b⟩:=fI (h.f x a).own hg
 exact b.lt
theorem nQ.aP(h:nQ w wr L){F:Nat→Prop}(a:al F wr u)(b:bf w u)(c:∀x∈L,∀g,x.own=some g→¬F g):nQ w u L:=⟨fun x hm=>(h.f x hm).aP a b (c x hm),h.p⟩
theorem nQ.add(h:nQ w wr L)(d:bf w wr)(c:x.F wr u):nQ w u (L++[x]):=by
 refine⟨fun y hy=>?_,?_⟩
 ·rcases az.1 hy with hy|hy
  ·exact(h.f y hy).on c.ext
  ·obtain rfl:=aC.1 hy
   exact bR.from c d
 ·rw[eN]
  refine⟨h.p,jM _ _,fun a ha b hb=>?_⟩
  obtain rfl:=aC.1 hb
  intro g e i
  have:=h.lt ha g e
  have:=c.new g i
  omega
theorem nQ.grow (h:nQ w u (L1++x::L2)) {i:Option Addr} {j:Nat} {n:World} {t:aK}
  (l:n.ownsRow 0 9 1 (.slice i (x.xs.length+1:Nat) j) (x.xs.length+1) (x.xs.flatMap cI.enc++[t].flatMap cI.enc)) (q:u.grownBy n (Value.slice x.A x.xs.length x.c).ownBlock)
  (k:(Value.slice i (x.xs.length+1:Nat) j).ownBlock=(Value.slice x.A x.xs.length x.c).ownBlock∨(Value.slice i (x.xs.length+1:Nat) j).ownBlock=some u.heap.size) :
  nQ w n (L1++⟨i,j,x.xs++[t]⟩::L2):=by
 have r:al (fun b=>(Value.slice x.A x.xs.length x.c).ownBlock=some b) u n:=(al.refl _ _).grown q fun g e=>.inr e
 have o:=(h.f x (by simp)).grow (ys:=[t]) rfl l q k
 have s:=h.p
 rw[eN,dp] at s
 obtain⟨C,⟨v,D⟩,z⟩:=s
 have B:∀y∈L1,y.off x:=fun y hy=>z y hy x (by simp)
 have m:∀y∈L1++L2,y.off x→y.off ⟨i,j,x.xs++[t]⟩:=fun y hy ho g h1 h2=>by
  have E:=h.lt (x:=y) (by rcases az.1 hy with hy|hy<;>simp[hy]) g h1
  have d:(Value.slice i (x.xs.length+1:Nat) j).ownBlock=some g:=by rw[←h2];unfold lD.own;rw[af];rfl
  rcases k with k|k
  ·exact ho g h1 (k.symm.trans d)
  ·rw[k] at d
   injection d with d
   omega
 refine⟨fun y hy=>?_,?_⟩
 ·rcases az.1 hy with hy|hy
  ·exact(h.f y (by simp[hy])).aP r o.ext (fun g h1 h2=>B y hy g h1 h2)
  ·rcases aY.1 hy with rfl|hy
   ·exact o
   ·exact(h.f y (by simp[hy])).aP r o.ext (fun g h1 h2=>v y hy g h2 h1)
 ·rw[eN,dp]
  refine⟨C,⟨fun y hy=>lD.Gi (m y (by simp[hy]) (lD.Gi (v y hy))),D⟩,fun a ha b hb'=>?_⟩
  rcases aY.1 hb' with rfl|hb'
  ·exact m a (by simp[ha]) (B a ha)
  ·exact z a ha b (by simp[hb'])
end
abbrev oq(x:fW×lR):List lD:=[⟨x.1.tA,x.1.tc,x.2.targets⟩,⟨x.1.nA,x.1.nc,x.2.aN⟩,⟨x.1.cA,x.1.cc,x.2.bD⟩]
structure wR where
 vA:Option Addr
 vc:Nat
 rA:Option Addr
 rc:Nat
 pA:Option Addr
 pc:Nat
abbrev Ie:wR:=⟨none,0,none,0,none,0⟩
abbrev Sz(v:wR)(m:Mk):Value:=.agg #[.slice v.vA m.vars.length v.vc,.slice v.rA m.rules.length v.rc,.slice v.pA m.ba.length v.pc]
structure qp (Q:List lD) (w wr:World) (g:Nat) (v:wR) (rs:List (fW×lR)) (m:Mk):Prop where
 rc:Cs wr g kN #[.slice v.vA m.vars.length v.vc,.slice v.rA rs.length v.rc,.slice v.pA m.ba.length v.pc]
 fv:bR br OP w wr v.vA v.vc m.vars
 fr:bR vV kP w wr v.rA v.rc rs
 ss:nQ w wr (Q++⟨v.pA,v.pc,m.ba⟩::rs.flatMap oq)
 rm:rs.map (·.2)=m.rules
 ng:w.heap.size≤g
structure pY (w:World) (v:wR) (rs:List (fW×lR)) (m:Mk):Prop where
 fv:di br w v.vA m.vars.length m.vars
 fr:di vV w v.rA m.rules.length rs
 fp:di cI w v.pA m.ba.length m.ba
 rr:∀x∈rs,di cI w x.1.tA x.2.targets.length x.2.targets∧di cI w x.1.nA x.2.aN.length x.2.aN∧di cI w x.1.cA x.2.bD.length x.2.bD
 rm:rs.map (·.2)=m.rules
theorem IG(w:World):pY w Ie [] qf:=⟨di.none_,di.none_,di.none_,(fun x hx=>by cases hx),rfl⟩
theorem pY.ext{w u:World}{v:wR}{b:List (fW×lR)}{m:Mk}(h:pY w v b m)(a:bf w u):pY u v b m:=
 ⟨h.fv.ext a,h.fr.ext a,h.fp.ext a,fun x hm=>⟨(h.rr x hm).1.ext a,(h.rr x hm).2.1.ext a,(h.rr x hm).2.2.ext a⟩,h.rm⟩
theorem tt{w:World} {n:Nat}{d:List (fW×lR)}(h:di vV w A n d) (f:k<n) :
  ∃b o x,A=some ⟨b,o,none⟩∧d[k]?=some x∧b<w.heap.size∧(∀u,bf w u→u.cell? ⟨b,o+k*3,none⟩=some (.slice x.1.tA x.2.targets.length x.1.tc))∧(∀u,bf w u→u.cell? ⟨b,o+k*3+1,none⟩=some (.slice x.1.nA x.2.aN.length x.1.nc))∧(∀u,bf w u→u.cell? ⟨b,o+k*3+2,none⟩=some (.slice x.1.cA x.2.bD.length x.1.cc)):=by
 obtain⟨b,o,x,e,a,g,c⟩:=h.get f
 exact⟨b,o,x,e,g,a,fun u hu=>(hu.cell a id).trans (c 0 _ rfl),fun u hu=>(hu.cell a id).trans (c 1 _ rfl),fun u hu=>(hu.cell a id).trans (c 2 _ rfl)⟩
section
variable {Q:List lD} {w wr u:World} {g:Nat} {v:wR} {rs:List (fW×lR)} {m:Mk}
theorem qp.x(h:qp Q w wr g v rs m):bf w wr:=h.fv.ext
theorem qp.rl(h:qp Q w wr g v rs m):rs.length=m.rules.length:=by rw[←h.rm,bH]
theorem qp.ext(h:qp Q w wr g v rs m)(a:bf wr u):qp Q w u g v rs m:=⟨h.rc.aP a id,h.fv.on a,h.fr.on a,h.ss.ext a,h.rm,h.ng⟩
theorem qp.made(h:qp Q w wr g v rs m):pY wr v rs m:=by
 refine⟨h.fv.row (by decide),?_,(h.ss.f ⟨v.pA,v.pc,m.ba⟩ (by simp)).row (by decide),fun x hx=>?_,h.rm⟩
 ·have:=h.fr.row (by decide)
  rw[h.rl] at this
  exact this
 ·have q:∀y∈oq x,y∈Q++(⟨v.pA,v.pc,m.ba⟩:lD)::rs.flatMap oq:=fun y hy=>cN _ (aE _ (cG.2 ⟨x,hx,hy⟩))
  exact⟨(h.ss.f _ (q ⟨x.1.tA,x.1.tc,x.2.targets⟩ (by simp))).row (by decide),(h.ss.f _ (q ⟨x.1.nA,x.1.nc,x.2.aN⟩ (by simp))).row (by decide),(h.ss.f _ (q ⟨x.1.cA,x.1.cc,x.2.bD⟩ (by simp))).row (by decide)⟩
theorem qp.at_(h:qp Q w wr g v rs m)(i:Nat)(x:Value):bf w (wr.setCell ⟨g,i,none⟩ x):=
 h.x.trans ((al.refl (fun b=>b=g) wr).at_ i x) fun b hb e=>by have e:b=g:=e;have:=h.ng;omega
theorem qp.Vw (h:qp Q w u g v rs m)    {t:bm}
  (a:w5.ownsRow 0 OP 2 (.slice A' (m.vars.length+1:Nat) c') (m.vars.length+1) (m.vars.flatMap br.enc++[t].flatMap br.enc)) (l:u.grownBy w5 (Value.slice v.vA m.vars.length v.vc).ownBlock)
  (n:(Value.slice A' (m.vars.length+1:Nat) c').ownBlock=(Value.slice v.vA m.vars.length v.vc).ownBlock∨(Value.slice A' (m.vars.length+1:Nat) c').ownBlock=some u.heap.size) :
  qp Q w (w5.setCell ⟨g,0,none⟩ (.slice A' (m.vars.length+1:Nat) c')) g { v with vA:=A',vc:=c' } rs ⟨m.vars++[t],m.rules,m.ba⟩:=by
 have j:al (fun b=>(Value.slice v.vA m.vars.length v.vc).ownBlock=some b) u w5:=(al.refl _ _).grown l fun g e=>.inr e
 have c:=h.fv.grow (ys:=[t]) rfl a l n
 have o:=h.fr.aP j c.ext (fun g h1 h2=>fG h.fr.own h.fv.own (by decide) g h1 h2)
 have p:=h.ss.aP j c.ext (fun x hx g h1 h2=>fG (h.ss.f x hx).own h.fv.own (by decide) g h1 h2)
 have d:=h.rc.aP j (fun e=>aO h.fv.own h.rc (by decide) _ e rfl)
 have i:al (fun b=>b=g) w5 (w5.setCell ⟨g,0,none⟩ (.slice A' (m.vars.length+1:Nat) c')):=(al.refl _ _).at_ 0 _
 have k:bf w (w5.setCell ⟨g,0,none⟩ (.slice A' (m.vars.length+1:Nat) c')):=c.ext.trans i fun b n e=>by have e:b=g:=e;have:=h.ng;omega
 refine⟨?_,c.aP i k (aO c.own d (by decide)),o.aP i k (aO o.own d (by decide)),p.aP i k (fun x hx=>aO (p.f x hx).own d (by decide)),h.rm,h.ng⟩
 have:=d.cM 0 (.slice A' (m.vars.length+1:Nat) c')
 show Cs _ _ _ #[.slice A' (m.vars++[t]).length c',_,_]
 rw[af]
 exact this
theorem qp.Uu (h:qp Q w u g v rs m)    
  (a:w5.ownsRow 0 9 1 (.slice A' (m.ba.length+1:Nat) c') (m.ba.length+1) (m.ba.flatMap cI.enc++[t].flatMap cI.enc)) (o:u.grownBy w5 (Value.slice v.pA m.ba.length v.pc).ownBlock)
  (p:(Value.slice A' (m.ba.length+1:Nat) c').ownBlock=(Value.slice v.pA m.ba.length v.pc).ownBlock∨(Value.slice A' (m.ba.length+1:Nat) c').ownBlock=some u.heap.size) :
  qp Q w (w5.setCell ⟨g,2,none⟩ (.slice A' (m.ba.length+1:Nat) c')) g { v with pA:=A',pc:=c' } rs ⟨m.vars,m.rules,m.ba++[t]⟩:=by
 have i:al (fun b=>(Value.slice v.pA m.ba.length v.pc).ownBlock=some b) u w5:=(al.refl _ _).grown o fun g e=>.inr e
 have j:=(h.ss.f ⟨v.pA,v.pc,m.ba⟩ (by simp))
 have k:=h.ss.grow (L1:=Q) (x:=⟨v.pA,v.pc,m.ba⟩) (t:=t) a o p
 have l:bf w w5:=(k.f ⟨A',c',m.ba++[t]⟩ (by simp)).ext
 have q:=h.fr.aP i l (fun g h1 h2=>fG h.fr.own j.own (by decide) g h1 h2)
 have r:=h.fv.aP i l (fun g h1 h2=>fG h.fv.own j.own (by decide) g h1 h2)
 have c:=h.rc.aP i (fun e=>aO j.own h.rc (by decide) _ e rfl)
 have d:al (fun b=>b=g) w5 (w5.setCell ⟨g,2,none⟩ (.slice A' (m.ba.length+1:Nat) c')):=(al.refl _ _).at_ 2 _
 have n:bf w (w5.setCell ⟨g,2,none⟩ (.slice A' (m.ba.length+1:Nat) c')):=l.trans d fun b p e=>by have e:b=g:=e;have:=h.ng;omega
 refine⟨?_,r.aP d n (aO r.own c (by decide)),q.aP d n (aO q.own c (by decide)),k.aP d n (fun x hx=>aO (k.f x hx).own c (by decide)),h.rm,h.ng⟩
 have:=c.cM 2 (.slice A' (m.ba.length+1:Nat) c')
 show Cs _ _ _ #[_,_,.slice A' (m.ba++[t]).length c']
 rw[af]
 exact this
theorem qp.US {a:fW}  (h:qp Q w u g v rs m) (n:nQ w u (Q++⟨v.pA,v.pc,m.ba⟩::(rs++[(a,r)]).flatMap oq))   
  (c:w5.ownsRow 0 kP 3 (.slice A' (rs.length+1:Nat) c') (rs.length+1) (rs.flatMap vV.enc++[(a,r)].flatMap vV.enc)) (o:u.grownBy w5 (Value.slice v.rA rs.length v.rc).ownBlock)
  (p:(Value.slice A' (rs.length+1:Nat) c').ownBlock=(Value.slice v.rA rs.length v.rc).ownBlock∨(Value.slice A' (rs.length+1:Nat) c').ownBlock=some u.heap.size) :
  qp Q w (w5.setCell ⟨g,1,none⟩ (.slice A' (rs.length+1:Nat) c')) g { v with rA:=A',rc:=c' } (rs++[(a,r)]) ⟨m.vars,m.rules++[r],m.ba⟩:=by
 have k:al (fun b=>(Value.slice v.rA rs.length v.rc).ownBlock=some b) u w5:=(al.refl _ _).grown o fun g e=>.inr e
 have d:=h.fr.grow (ys:=[(a,r)]) rfl c o p
 have q:=h.fv.aP k d.ext (fun g h1 h2=>fG h.fv.own h.fr.own (by decide) g h1 h2)
 have s:=n.aP k d.ext (fun x hx g h1 h2=>fG (n.f x hx).own h.fr.own (by decide) g h1 h2)
 have i:=h.rc.aP k (fun e=>aO h.fr.own h.rc (by decide) _ e rfl)
 have j:al (fun b=>b=g) w5 (w5.setCell ⟨g,1,none⟩ (.slice A' (rs.length+1:Nat) c')):=(al.refl _ _).at_ 1 _
 have l:bf w (w5.setCell ⟨g,1,none⟩ (.slice A' (rs.length+1:Nat) c')):=d.ext.trans j fun b p e=>by have e:b=g:=e;have:=h.ng;omega
 refine⟨?_,q.aP j l (aO q.own i (by decide)),d.aP j l (aO d.own i (by decide)),s.aP j l (fun x hx=>aO (s.f x hx).own i (by decide)),by rw[cU,h.rm];rfl,h.ng⟩
 have:=i.cM 1 (.slice A' (rs.length+1:Nat) c')
 rw[af]
 exact this
theorem Fk(b:List (fW×lR))(a:fW)(r:lR)(rest:List Value):((b++[(a,r)]).flatMap vV.enc++rest).toArray[b.length*3+2]?=some (.slice a.cA r.bD.length a.cc):=by
 rw[aB,bF,aT,dG (by rw[bC];show b.length*3≤_;omega),bC]
 show([_,_,_]++rest)[b.length*3+2-b.length*3]?=_
 rw[show b.length*3+2-b.length*3=2 by omega]
 try rfl
theorem qp.last{a:fW} (h:qp Q w u g v (rs++[(a,r)]) m):∃c cur,v.rA=some ⟨c,0,none⟩∧Cs u c kP cur∧cur[rs.length*3+2]?=some (.slice a.cA r.bD.length a.cc):=by
 have b:=h.fr.own
 rw[show(rs++[(a,r)]).length=rs.length+1 by simp] at b
 obtain⟨c,rest,d,e,j,f,i,k⟩:=kU b (by omega) (by decide)
 exact⟨c,_,d,e,Fk rs a r rest⟩
theorem qp.VZ{a:fW} (h:qp Q w u g v (rs++[(a,r)]) m):bR cI 9 w u a.cA a.cc r.bD:=h.ss.f ⟨a.cA,a.cc,r.bD⟩ (by simp[bF])
theorem qp.NH {a:fW}  (h:qp Q w u g v (rs++[(a,r)]) m)    
  (i:w5.ownsRow 0 9 1 (.slice A' (r.bD.length+1:Nat) c') (r.bD.length+1) (r.bD.flatMap cI.enc++[t].flatMap cI.enc)) (F:u.grownBy w5 (Value.slice a.cA r.bD.length a.cc).ownBlock)
  (G:(Value.slice A' (r.bD.length+1:Nat) c').ownBlock=(Value.slice a.cA r.bD.length a.cc).ownBlock∨(Value.slice A' (r.bD.length+1:Nat) c').ownBlock=some u.heap.size) :
  ∃c cur,v.rA=some ⟨c,0,none⟩∧Cs w5 c kP cur∧cur[rs.length*3+2]?=some (.slice a.cA r.bD.length a.cc)∧qp Q w (w5.setCell ⟨c,rs.length*3+2,none⟩ (.slice A' (r.bD.length+1:Nat) c')) g v (rs++[({ a with cA:=A',cc:=c' },⟨r.targets,r.aN,r.bD++[t]⟩)]) ⟨m.vars,rs.map (·.2)++[⟨r.targets,r.aN,r.bD++[t]⟩],m.ba⟩:=by
 have z:al (fun b=>(Value.slice a.cA r.bD.length a.cc).ownBlock=some b) u w5:=(al.refl _ _).grown F fun g e=>.inr e
 have j:(⟨a.cA,a.cc,r.bD⟩:lD)∈Q++(⟨v.pA,v.pc,m.ba⟩:lD)::(rs++[(a,r)]).flatMap oq:=by simp[bF]
 have A:=h.ss.f _ j
 have H:∀(b:fW) (q:lR),Q++(⟨v.pA,v.pc,m.ba⟩:lD)::(rs++[(b,q)]).flatMap oq=(Q++(⟨v.pA,v.pc,m.ba⟩:lD)::rs.flatMap oq++[⟨b.tA,b.tc,q.targets⟩,⟨b.nA,b.nc,q.aN⟩])++(⟨b.cA,b.cc,q.bD⟩:lD)::[]:=by
  intro b q
  simp[bF,aT]
 have l:=h.ss
 rw[H] at l
 have B:=l.grow (x:=⟨a.cA,a.cc,r.bD⟩) (t:=t) i F G
 have C:bf w w5:=(B.f ⟨A',c',r.bD++[t]⟩ (by simp)).ext
 have I:=h.fr.aP z C (fun g h1 h2=>fG h.fr.own A.own (by decide) g h1 h2)
 have J:=h.fv.aP z C (fun g h1 h2=>fG h.fv.own A.own (by decide) g h1 h2)
 have K:=h.rc.aP z (fun e=>aO A.own h.rc (by decide) _ e rfl)
 have d:=I.own
 rw[show(rs++[(a,r)]).length=rs.length+1 by simp] at d
 obtain⟨c,rest,s,n,T,o,D,N⟩:=kU d (by omega) (by decide)
 have O:(Value.slice v.rA (rs++[(a,r)]).length v.rc).ownBlock=some c:=by rw[s];simp[Value.ownBlock]
 have P:w.heap.size≤c:=I.new c O
 refine⟨c,_,s,n,Fk rs a r rest,?_⟩
 have y:al (fun b=>b=c) w5 (w5.setCell ⟨c,rs.length*3+2,none⟩ (.slice A' (r.bD.length+1:Nat) c')):=(al.refl _ _).at_ _ _
 have E:bf w (w5.setCell ⟨c,rs.length*3+2,none⟩ (.slice A' (r.bD.length+1:Nat) c')):=C.trans y fun b G e=>by have e:b=c:=e;omega
 have p:=n.cM (rs.length*3+2) (.slice A' (r.bD.length+1:Nat) c')
 have R:(((rs++[(a,r)]).flatMap vV.enc++rest).toArray.setIfInBounds (rs.length*3+2) (.slice A' (r.bD.length+1:Nat) c'))=((rs++[({ a with cA:=A',cc:=c' },(⟨r.targets,r.aN,r.bD++[t]⟩:lR))]).flatMap vV.enc++rest).toArray:=by
  apply Array.ext'
  rw[Array.toList_setIfInBounds]
  have S:(rs.flatMap vV.enc).length=rs.length*3:=bC vV rs
  rw[bF,bF,aT,aT]
  show(rs.flatMap vV.enc++([_,_,_]++rest)).set (rs.length*3+2) _=rs.flatMap vV.enc++([_,_,_]++rest)
  rw[List.set_append_right _ _ (by omega),S,show rs.length*3+2-rs.length*3=2 by omega]
  simp
 rw[R] at p
 refine⟨?_,J.aP y E (aO J.own n (by decide)),⟨?_,E,?_⟩,?_,?_,h.ng⟩
 ·have L:=K.aP y (fun e=>Cs.oC K n (by decide) e)
  rw[show(rs++[(a,r)]).length=rs.length+1 by simp] at L
  rw[af]
  exact L
 ·rw[s,show(rs++[(({ a with cA:=A',cc:=c' }:fW),(⟨r.targets,r.aN,r.bD++[t]⟩:lR))]).length=rs.length+1 by simp]
  refine iM p (by omega) ?_ ?_ D N
  ·rw[bC];simp
  ·rw[af] at o ⊢
   rw[←o,bC,bC]
   simp
 ·intro k M
  rw[s] at M
  simp[Value.ownBlock] at M
  omega
 ·have q:=B.aP y E (fun x hx=>aO (B.f x hx).own n (by decide))
  rw[H]
  exact q
 ·rw[cU];rfl
end
theorem di.take{α:Type}{T:kJ α}{w:World}{A:Option Addr}{n k:Nat}{xs:List α}(h:di T w A n xs)(d:k≤n):di T w A k (xs.take k):=by
 refine⟨by rw[aH,h.1];omega,fun hn=>?_⟩
 obtain⟨b,o,e,a,c⟩:=h.2 (by omega)
 refine⟨b,o,e,a,fun i x hx j u hu=>?_⟩
 rw[List.getElem?_take] at hx
 split at hx
 ·exact c i x hx j u hu
 ·cases hx
theorem wy(c:UInt8):∀(s:aK),∀l∈iG c s,l.length≤s.length
 | [],l,h=>by
  have b:l∈[([]:aK)]:=h
  simp at b
  subst b
  exact aq _
 | x::s,l,h=>by
  have ih:=wy c s
  rw[td] at h
  split at h
  ·rcases aY.1 h with rfl|h
   ·exact au _
   ·have:=ih l h
    simp only[an];omega
  ·cases hL:iG c s with
   | nil=>exact absurd hL (rH c s)
   | cons a t=>
    rw[hL] at h ih
    simp only[ko,aY] at h
    rcases h with rfl|h
    ·have:=ih a (by simp)
     simp only[af,an,bI];omega
    ·have:=ih l (aE _ h)
     simp only[an];omega
theorem yd{s l:aK}(h:l∈fP s):l.length≤s.length:=wy 32 s l (fF.1 h).1
theorem AK(s:aK):(fP s).length≤s.length+1:=aJ (dK _ _) (oG 32 s)
theorem FT(p:Bool)(a r:List aK)(x:aK):oe p a (x::r)=(xy x&&!iH a x&&(p||!tP x)&&oe p (a++[x]) r):=rfl
theorem nI {xs:List α} {x:α}(a:xs[k]?=some x):xs.take (k+1)=xs.take k++[x]:=by rw[aU,a];rfl
theorem sY {xs:List α} {x:α}(a:xs[k]?=some x):xs.drop k=x::xs.drop (k+1):=by
 obtain⟨b,rfl⟩:=aw.1 a
 exact cB b
theorem AZ (p:α→Bool){xs:List α} {x:α}(a:xs[k]?=some x):(xs.take (k+1)).any p=((xs.take k).any p||p x):=by
 rw[aU,List.any_append,a]
 simp
theorem Si{w:World} {n:Nat}{xs:List aK}(h:di cI w A n xs)(z:n≤100000) :
  Calls Tryz.prog 215 #[.slice A n c,.func (.func 175) #[] #[]] w fun e w'=>∃i:Int,e=.returned (.int .i64 i)∧decide (0≤i)=xs.any tP∧bf w w':=by
 have j:=aj h
 go_enter Tryz.func215,Tryz.ntmps215
 go_wp2
 go_loopw [8] (fun i wr=>∃k:Nat,k≤n∧i=.int .i64 k∧(xs.take k).any tP=false∧∃ξ:X w No,wr=ξ.v) (fun i _=>n-(intOf i).toNat)
 case atStart=>exact⟨0,au _,rfl,rfl,X.here _ _,rfl⟩
 case round=>
  obtain⟨k,B,rfl,l,ξ,rfl⟩:=hrel
  have m:=aj l
  clear l
  by_cases a:k<n
  ·obtain⟨b,o,f,rfl,q,C⟩:=dq j.ou a
   have r:=aj q
   have d:=aj (Co f)
   obtain⟨p,g⟩:∃p,tP f=p:=⟨_,rfl⟩
   have s:=aj g
   rw[g] at d
   clear q g h
   go_wp2_with fail
   refine(d.ou _).mono ?_
   rintro e u ⟨rfl,t⟩
   have x:Hd (bf w u):=aj (ξ.h.ae t)
   clear t d
   cases p with
   | true=>
    go_wp2_with fail
    go_ret
    refine⟨k,rfl,?_,x.ou⟩
    rw[aM (by omega:0≤(k:Int))]
    exact(iR.2 ⟨f,ah r.ou,s.ou⟩).symm
   | false=>
    go_wp2_with fail
    go_roundw
    case rel=>exact⟨k+1,by omega,by go_num,by rw[AZ tP r.ou,m.ou,s.ou];rfl,⟨_,x.ou⟩,rfl⟩
    case measure=>simp[intOf];omega
  ·obtain rfl:k=n:=by omega
   go_wp2_with fail
   go_ret
   have y:=m.ou
   rw[ay (by rw[j.ou.1];exact aq _)] at y
   exact⟨-1,rfl,by rw[y];decide,ξ.h⟩
theorem Sx{w:World} {n:Nat}{xs:List aK}(h:di cI w A n xs)(f:n≤100000) :
  Calls Tryz.prog 174 #[.slice A n c,.func (.func 175) #[] #[]] w fun e w'=>e=.returned (.bool (xs.any tP))∧bf w w':=by
 have a:=aj (Si (c:=c) h f)
 clear h
 go_enter Tryz.func174,Tryz.ntmps174
 go_wp2_with fail
 refine a.ou.mono ?_
 rintro e u ⟨i,rfl,b,d⟩
 have g:=aj b
 have j:=aj d
 clear a b d
 go_wp2_with fail
 go_ret
 exact⟨by rw[←g.ou];rfl,j.ou⟩
theorem Sd(s:aK)(u:s.length≤1000000)(w:World) :
  Calls Tryz.prog 116 #[S s] w fun e w'=>e=.returned (.bool (zq s))∧bf w w':=by
 go_enter Tryz.func116,Tryz.ntmps116
 go_wp2_with fail
 go_loopw [6] (fun i wr=>∃k:Nat,k≤s.length∧i=.int .i64 k∧((s.take k).all fun c=>decide (65≤c.toNat)&&decide (c.toNat≤90))=true∧∃ξ:X w No,wr=ξ.v) (fun i _=>s.length-(intOf i).toNat)
 case atStart=>exact⟨0,au _,rfl,rfl,X.here _ _,rfl⟩
 case round=>
  obtain⟨k,y,rfl,d,ξ,rfl⟩:=hrel
  have l:=aj d
  clear d
  by_cases j:k<s.length
  ·obtain⟨x,n⟩:∃x,s[k]=x:=⟨_,rfl⟩
   have b:s[k]?=some x:=by rw[aF j,n]
   have o:=x.toNat_lt
   by_cases f:65≤x.toNat∧x.toNat≤90
   ·have a:Hd (((s.take (k+1)).all fun c=>decide (65≤c.toNat)&&decide (c.toNat≤90))=true):=by
     have d:=l.ou
     unfold Hd
     rw[aU,b]
     simp only[Option.toList,List.all_append,d,List.all_cons,List.all_nil,Bool.and_true,Bool.true_and]
     simp[f.1,f.2]
    obtain⟨f,q⟩:=f
    have g:decide ((x.toNat:Int)<65)=false:=by rw[aA];omega
    have r:decide ((90:Int)<(x.toNat:Int))=false:=by rw[aA];omega
    clear b
    go_wp2_with fail
    go_roundw
    case rel=>exact⟨k+1,by omega,by go_num,a.ou,ξ,rfl⟩
    case measure=>simp[intOf];omega
   ·have a:Hd (zq s=false):=by
     have:(s.all fun c=>decide (65≤c.toNat)&&decide (c.toNat≤90))=false:=by
      rw[List.all_eq_false]
      refine⟨x,ah b,?_⟩
      simp only[aI,bh]
      exact f
     unfold Hd zq
     rw[this];rfl
    clear b
    by_cases q:x.toNat<65
    ·have g:decide ((x.toNat:Int)<65)=true:=by rw[aW];omega
     go_wp2_with fail
     go_ret
     exact⟨by rw[a.ou];rfl,ξ.h⟩
    ·have g:decide ((x.toNat:Int)<65)=false:=by rw[aA];omega
     have r:decide ((90:Int)<(x.toNat:Int))=true:=by rw[aW];omega
     go_wp2_with fail
     go_ret
     exact⟨by rw[a.ou];rfl,ξ.h⟩
  ·have a:Hd (zq s=(!(s==[])&&decide (s.length≤4))):=by
    have d:=l.ou
    rw[ay (by omega)] at d
    unfold Hd zq
    rw[d];rfl
   obtain⟨p,t⟩:∃p,(s==([]:aK))=p:=⟨_,rfl⟩
   rw[t] at a
   by_cases m:s.length≤4
   ·have g:decide ((s.length:Int)≤4)=true:=by rw[aW];omega
    rw[aM m] at a
    cases p <;>
    ·go_wp2_with fail
     go_ret
     exact⟨by rw[a.ou];rfl,ξ.h⟩
   ·have g:decide ((s.length:Int)≤4)=false:=by rw[aA];omega
    rw[aG m] at a
    cases p <;>
    ·go_wp2_with fail
     go_ret
     exact⟨by rw[a.ou];rfl,ξ.h⟩
def Mx:Value→Nat
 | .string b=>b.size
 | _=>0
theorem PI{k:aK} {v:bm}(h:yw k xs=some v):v∈xs:=List.mem_reverse.1 (dL h)
theorem TC{w:World}(hm:Ml w) {n:Nat} (h:di br w A n xs)(hn:n≤100000)(hx:∀f∈xs,f.2.length≤100000):∀(d:Nat),d≤6→∀(s:aK),s.length≤100000→∀v,bf w v →
  Calls Tryz.prog 211 #[.slice A n c,S s,.int .i64 (6-d:Int)] v fun e w'=>e=.returned (.tuple #[S (oR xs d s).1,eT (oR xs d s).2])∧bf v w':=by
 have HM:=aj hm
 have H:=aj h
 have HX:=aj hx
 clear hm h hx
 intro d
 induction d with
 | zero=>
  intro _ s hs v p
  show Calls Tryz.prog 211 #[.slice A n c,S s,.int .i64 6] v fun e w'=>e=.returned (.tuple #[S [],eT 9])∧bf v w'
  go_enter Tryz.func211,Tryz.ntmps211
  go_wp2_with fail
  go_ret2
  exact⟨rfl,al.refl _ _⟩
 | succ d ih=>
  intro hd s hs v p
  have HI:=aj (ih (by omega))
  clear ih
  have hk:((6:Int)-((d+1:Nat):Int))=((5-d:Nat):Int):=by omega
  obtain⟨k,E⟩:∃k,k=5-d:=⟨_,rfl⟩
  have ai:k≤5:=by omega
  have F:((6:Int)-(d:Int))=((k+1:Nat):Int):=by omega
  rw[hk,←E]
  have G:Hd (∀(t:aK),t.length≤100000→∀v,bf w v→Calls Tryz.prog 211 #[.slice A n c,S t,.int .i64 ((k:Int)+1)] v fun e w'=>e=.returned (.tuple #[S (oR xs d t).1,eT (oR xs d t).2])∧bf v w'):=fun t ht v p=>by
   have:=HI.ou t ht v p
   rw[F] at this
   exact this
  have y:Hd (oR xs (d+1) s=wo xs (oR xs d) (s.length+1) s []):=rfl
  have I:=aj (wW xs d)
  have J:=aj (r9 xs d)
  generalize oR xs (d+1) s=R at y ⊢
  generalize oR xs d=rec at G y I J
  obtain⟨F0,L⟩:∃f,f=s.length+1:=⟨_,rfl⟩
  have Y:s.length<F0:=by omega
  rw[←L] at y
  have g5:decide ((5:Int)<(k:Int))=false:=by rw[aA];omega
  clear HI hk E F L
  go_enter Tryz.func211,Tryz.ntmps211
  go_wp2_with fail
  go_loopw [1,8] (fun sv ov wr=>∃(f:Nat) (t out:aK),sv=S t∧ov=S out∧t.length<f∧t.length≤100000∧out.length≤600∧R=wo xs rec f t out∧∃ξ:X v No,wr=ξ.v) (fun sv _ _=>Mx sv)
  case atStart=>exact⟨F0,s,[],rfl,rfl,Y,hs,au _,y.ou,X.here _ _,rfl⟩
  case round=>
   obtain⟨f,t,out,rfl,rfl,ak,ht,ag,hR,ξ,rfl⟩:=hrel
   obtain⟨g,rfl⟩:∃g,f=g+1:=⟨f-1,by omega⟩
   have j:Hd (R=if (Lib.cut t yZ).2.2=false then (if 600<(out++(Lib.cut t yZ).1).length then ([],2) else (out++(Lib.cut t yZ).1,0))
    else if (dB 41 (Lib.cut t yZ).2.1).2.2=false∨zq (dB 41 (Lib.cut t yZ).2.1).1=false then ([],4)
    else match yw (dB 41 (Lib.cut t yZ).2.1).1 xs with
     | none=>([],5)
     | some v=>if (rec v.2).2≠0 then ([],(rec v.2).2) else if 600<(out++(Lib.cut t yZ).1++(rec v.2).1).length then ([],2) else wo xs rec g (dB 41 (Lib.cut t yZ).2.1).2.1 (out++(Lib.cut t yZ).1++(rec v.2).1)):=hR
   clear hR y
   have U:=aj (Jg t yZ (by omega) (HM.ou.ext (p.ae ξ.h)))
   have M:=Dy t yZ
   have l:=Sv (s:=t) (sep:=yZ) (by simp)
   generalize Lib.cut t yZ=q at U M l j
   obtain⟨a,b,is⟩:=q
   dsimp only at U M l j
   go_wp2_with fail
   refine lL ξ (U.ou) fun ξ1 Hξ1=>?_
   clear U
   cases is with
   | false=>
    by_cases u:600<(out++a).length
    ·have i:Hd (R=([],2)):=by rw[Hd,j.ou,ab rfl,ab u]
     rw[af] at u
     have g6:decide ((600:Int)<(out.length:Int)+(a.length:Int))=true:=by rw[aW];omega
     clear j
     go_wp2_with fail
     go_ret2
     rw[i.ou]
     exact⟨rfl,ξ1.h⟩
    ·have i:Hd (R=(out++a,0)):=by rw[Hd,j.ou,ab rfl,aa u]
     rw[af] at u
     have g6:decide ((600:Int)<(out.length:Int)+(a.length:Int))=false:=by rw[aA];omega
     clear j
     go_wp2_with fail
     go_ret2
     rw[i.ou]
     exact⟨rfl,ξ1.h⟩
   | true=>
    have am:=l rfl
    have V:=aj (Dz b 41 (by omega) (HM.ou.ext (p.ae ξ1.h)))
    have N:=qw 41 b
    generalize dB 41 b=q2 at V N j
    obtain⟨D,rest,Z⟩:=q2
    dsimp only at V N j
    clear l
    go_wp2_with fail
    refine lL ξ1 (V.ou) fun ξ2 Hξ2=>?_
    clear V
    cases Z with
    | false=>
     have i:Hd (R=([],4)):=by rw[Hd,j.ou];rfl
     clear j
     go_wp2_with fail
     go_ret2
     rw[i.ou]
     exact⟨rfl,ξ2.h⟩
    | true=>
     have HV:=aj (fun v=>Sd D (by omega) v)
     have B:=aj (fun v (p:bf w v)=>QS (cap:=c) (by omega) D (H.ou.ext p))
     obtain⟨vb,O⟩:∃b,b=zq D:=⟨_,rfl⟩
     rw[←O] at HV j
     clear O
     cases vb with
     | false=>
      have i:Hd (R=([],4)):=by rw[Hd,j.ou];rfl
      clear j B
      go_upto_region 8 with fail
      refine cj [4] (Cl v No) (Cl.of ξ2.h) ?_
      refine bK ?_
      (refine bQ ?_;intro K hK);refine kF ξ2 (HV.ou _) hK fun ξ3 Hξ3=>?_;clear hK K;refine bj ?_;refine bK ?_
      refine ar ?_
      go_wp2_with fail
      go_ret2
      rw[i.ou]
      exact⟨rfl,ξ3.h⟩
     | true=>
      go_upto_region 8 with fail
      refine cj [4] (Cl v No) (Cl.of ξ2.h) ?_
      refine bK ?_
      (refine bQ ?_;intro K hK);refine kF ξ2 (HV.ou _) hK fun ξ3 Hξ3=>?_;clear hK K;refine bj ?_;refine bK ?_
      refine ar ?_
      cases hfn:yw D xs with
      | none=>
       rw[hfn] at B j
       have x:Hd (∀v,bf w v→Calls Tryz.prog 235 #[.slice A n c,S D] v fun e w'=>e=.returned (.tuple #[S [],.bool false])∧bf v w'):=B.ou
       have i:Hd (R=([],5)):=by rw[Hd,j.ou];rfl
       clear j B hfn
       go_wp2_with fail
       refine lL ξ3 (x.ou _ (p.ae ξ3.h)) fun ξ4 Hξ4=>?_
       go_wp2_with fail
       go_ret2
       rw[i.ou]
       exact⟨rfl,ξ4.h⟩
      | some z=>
       rw[hfn] at B j
       have ac:=HX.ou z (PI hfn)
       have x:Hd (∀v,bf w v→Calls Tryz.prog 235 #[.slice A n c,S D] v fun e w'=>e=.returned (.tuple #[S z.2,.bool true])∧bf v w'):=B.ou
       have m:Hd (R=if (rec z.2).2≠0 then ([],(rec z.2).2) else if 600<(out++a++(rec z.2).1).length then ([],2) else wo xs rec g rest (out++a++(rec z.2).1)):=j.ou
       have W:=aj (G.ou z.2 ac)
       have P:=I.ou z.2
       have Q:=J.ou z.2
       generalize rec z.2=r at m W P Q
       obtain⟨T,rf⟩:=r
       dsimp only at m W P Q
       clear j B hfn
       go_wp2_with fail
       refine lL ξ3 (x.ou _ (p.ae ξ3.h)) fun ξ4 Hξ4=>?_
       clear x
       go_wp2_with fail
       refine lL ξ4 (W.ou _ (p.ae ξ4.h)) fun ξ5 Hξ5=>?_
       clear W
       by_cases o:rf=0
       ·have i:Hd (R=if 600<(out++a++T).length then ([],2) else wo xs rec g rest (out++a++T)):=by rw[Hd,m.ou,aa (by simpa using o)]
        subst o
        rw[cO]
        clear m
        by_cases u:600<(out++a++T).length
        ·have C:Hd (R=([],2)):=by rw[Hd,i.ou,ab u]
         rw[af,af] at u
         clear i
         go_wp2_with fail
         go_ret2
         rw[C.ou]
         exact⟨rfl,ξ5.h⟩
        ·have C:Hd (R=wo xs rec g rest (out++a++T)):=by rw[Hd,i.ou,aa u]
         rw[af,af] at u
         clear i
         go_wp2_with fail
         go_roundw
         case rel=>exact⟨g,rest,out++a++T,rfl,(by simp),by omega,by omega,by simp only[af];omega,C.ou,ξ5,rfl⟩
         case measure=>simp[Mx,ByteArray.size];omega
       ·have i:Hd (R=([],rf)):=by rw[Hd,m.ou,ab (by simpa using o)]
        have y:=aj (bS o)
        rw[bS o]
        clear m o
        go_wp2_with fail
        go_ret2
        rw[i.ou]
        exact⟨by rw[y.ou];rfl,ξ5.h⟩
theorem T1{w:World}(a:Ml w) {n:Nat} (h:di br w A n xs)(d:n≤100000)(b:∀f∈xs,f.2.length≤100000)(s:aK)(g:s.length≤100000) :
  Calls Tryz.prog 169 #[.slice A n c,S s] w fun e w'=>e=.returned (.tuple #[S (oR xs 6 s).1,eT (oR xs 6 s).2])∧bf w w':=by
 have i:=aj (TC a h d b 6 (aq _) s g w (al.refl _ _) (c:=c))
 clear a h b
 go_enter Tryz.func169,Tryz.ntmps169
 go_wp2_with fail
 refine lL (X.here w No) (i.ou) fun ξ1 Hξ1=>?_
 go_wp2_with fail
 go_ret2
 exact⟨rfl,ξ1.h⟩
theorem Px:(Tryz.prog.info? OP).map (fun i=>(i.zero,i.size,i.bytes))=some (some (.agg #[.string ⟨#[]⟩,.string ⟨#[]⟩]),2,32):=by kernel_rfl
theorem UU:tf Tryz.prog 84 OP 2:=tf.mk' Tryz.underlying84 Px rfl (by omega) (by omega)
theorem Qa:(Tryz.prog.info? kP).map (fun i=>(i.zero,i.size,i.bytes))=some (some (.agg #[.slice none 0 0,.slice none 0 0,.slice none 0 0]),3,72):=by kernel_rfl
theorem UZ:tf Tryz.prog 85 kP 3:=tf.mk' Tryz.underlying85 Qa rfl (by omega) (by omega)
section
variable {Q:List lD} {w wr:World} {g:Nat} {v:wR} {rs:List (fW×lR)} {m:Mk}
def Ns(Q:List lD)(w:World)(g:Nat)(R:Mk×Int)(e:Ending)(w':World):Prop:=∃v rs,e=.returned (eT R.2)∧qp Q w w' g v rs R.1
theorem qp.text(a:Ml w)(h:qp Q w wr g v rs m)(c:m.vars.length≤6)(b:∀x∈m.vars,x.1.length≤600∧x.2.length≤600)(s:aK)(d:s.length≤600) :
  Calls Tryz.prog 169 #[.slice v.vA m.vars.length v.vc,S s] wr fun e w'=>e=.returned (.tuple #[S (oR m.vars 6 s).1,eT (oR m.vars 6 s).2])∧bf wr w':=
 T1 (a.ext h.x) (h.fv.row (by decide)) (by omega) (fun f hf=>by have:=(b f hf).2;omega) s (by omega)
end
theorem KS{Q:List lD}{w B:World}{g:Nat}{v:wR}{T:List (fW×lR)}{m:Mk} (hm:Ml w)(h:qp Q w B g v T m)(y:m.Fit k)(s:aK)(hs:s.length≤600) :
  Calls Tryz.prog 112 #[VY g,S s] B (Ns Q w g (tT m s)):=by
 have P:=aj h
 have C:=aj (h.text hm y.v y.vt s hs)
 have J:=aj (wW m.vars 6 s)
 rcases List.eq_nil_or_concat T with rfl|⟨ini,⟨a,r⟩,rfl⟩
 ·have j:Hd (tT m s=(m,4)):=by
   have:=h.rm
   unfold tT
   rw[←this]
   try rfl
  have c1:B.cell? ⟨g,1,none⟩=some (.slice v.rA 0 v.rc):=h.rc.cell 1
  clear h y C J
  go_enter Tryz.func112,Tryz.ntmps112
  go_wp2_with fail
  go_ret
  exact⟨v,[],by rw[j.ou];rfl,by rw[j.ou];exact P.ou⟩
 ·rw[List.concat_eq_append] at P h
  have o:=h.rm
  rw[cU] at o
  have f:Hd (m.rules=ini.map (·.2)++[r]):=o.symm
  have M:(ini++[(a,r)]).length=ini.length+1:=by simp
  have j:Hd (tT m s=if (oR m.vars 6 s).2≠0 then (m,(oR m.vars 6 s).2) else if r.bD.length=3∨28<(oR m.vars 6 s).1.length then (m,2) else (⟨m.vars,m.rules.dropLast++[⟨r.targets,r.aN,r.bD++[(oR m.vars 6 s).1]⟩],m.ba⟩,0)):=by
   unfold Hd tT
   rw[f.ou,List.getLast?_concat]
  have ag:r.bD.length≤3:=(y.rt r (by rw[f.ou];simp)).2.2.2
  have U:ini.length+1≤10:=by have:=y.r;rw[f.ou] at this;simpa using this
  have c0:B.cell? ⟨g,0,none⟩=some (.slice v.vA m.vars.length v.vc):=h.rc.cell 0
  have c1:B.cell? ⟨g,1,none⟩=some (.slice v.rA (ini.length+1:Nat) v.rc):=by rw[←M];exact h.rc.cell 1
  have ai:ini.length+1≠0:=by omega
  clear h y o
  generalize oR m.vars 6 s=ex at j C J
  obtain⟨t,e⟩:=ex
  dsimp only at j C J
  have ak:=J.ou
  go_enter Tryz.func112,Tryz.ntmps112
  go_wp2_with fail
  refine C.ou.mono ?_
  rintro e' p ⟨rfl,V⟩
  have z:=aj (P.ou.ext V)
  clear V P C c0 c1
  by_cases K:e=0
  ·subst K
   rw[cO]
   have b:Hd (tT m s=if r.bD.length=3∨28<t.length then (m,2) else (⟨m.vars,m.rules.dropLast++[⟨r.targets,r.aN,r.bD++[t]⟩],m.ba⟩,0)):=by
    unfold Hd
    rw[j.ou]
    exact aa (fun h=>h rfl)
   clear j
   obtain⟨A,cur,N,W,l⟩:=z.ou.last
   have c1:p.cell? ⟨g,1,none⟩=some (.slice (some ⟨A,0,none⟩) (ini.length+1:Nat) v.rc):=by rw[←M,←N];exact z.ou.rc.cell 1
   have d1:∀ξ:X p No,ξ.v.cell? ⟨g,1,none⟩=some (.slice (some ⟨A,0,none⟩) (ini.length+1:Nat) v.rc):=fun ξ=>(z.ou.rc.aP ξ.h id).cell 1 |>.trans (by rw[←M,←N];rfl)
   have Y:∀ξ:X p No,ξ.v.cell? ⟨A,ini.length*3+2,none⟩=some (.slice a.cA r.bD.length a.cc):=fun ξ=>(W.x id _ ξ).trans l
   clear c1 W l cur
   go_wp2_with fail
   go_upto_region 6 with fail
   (refine aV [] 100 (Cl (p) (No)) (by kernel_rfl) (by kernel_rfl) (Cl.eU (X.here p No)) ?_;refine bK ?_)
   all_goals (refine ar ?_)
   obtain⟨L,i⟩:∃u,u=p.drew:=⟨_,rfl⟩
   have O:Hd (qp Q w L g v (ini++[(a,r)]) m):=by rw[i];exact z.ou.ext (al.refl No _).drew
   have e2:L.cell? ⟨A,ini.length*3+2,none⟩=some (.slice a.cA r.bD.length a.cc):=by rw[i];exact Y ⟨_,(al.refl No p).drew⟩
   rw[←i]
   clear i d1 Y z
   by_cases Z:r.bD.length=3
   ·have g3:decide ((r.bD.length:Int)=3)=true:=by rw[aW];omega
    go_wp2_with fail
    go_ret
    exact⟨v,ini++[(a,r)],by rw[b.ou,ab (.inl Z)];rfl,by rw[b.ou,ab (.inl Z)];exact O.ou⟩
   ·have g3:decide ((r.bD.length:Int)=3)=false:=by rw[aA];omega
    by_cases D:28<t.length
    ·have g4:decide ((28:Int)<(t.length:Int))=true:=by rw[aW];omega
     go_wp2_with fail
     go_ret
     exact⟨v,ini++[(a,r)],by rw[b.ou,ab (.inr D)];rfl,by rw[b.ou,ab (.inr D)];exact O.ou⟩
    ·have g4:decide ((28:Int)<(t.length:Int))=false:=by rw[aA];omega
     have E:Hd (tT m s=(⟨m.vars,ini.map (·.2)++[⟨r.targets,r.aN,r.bD++[t]⟩],m.ba⟩,0)):=by
      unfold Hd
      rw[b.ou,aa (by omega),f.ou,List.dropLast_concat]
     have P3:=aj (O.ou.ext ((al.refl No L).alloc (.cells #[S t] 9)))
     go_wp2_with (first|(at_builtin;go_must (refine dy (v:=.slice a.cA r.bD.length a.cc) (n:=r.bD.length) (xs:=r.bD.flatMap cI.enc) rfl p8 rfl rfl rfl P3.ou.VZ.own (iQ L _ [S t]) (by simp[Value.oneCell']) (by omega) ?_);intro A2 c2 w5 c F G;obtain⟨R,ac,H,q,d,I⟩:=P3.ou.NH (t:=t) c F G;obtain rfl:A=R:=(by have hq:=N.symm.trans H;simpa using hq);have y1:w5.cell? ⟨A,ini.length*3+2,none⟩=some (.slice a.cA r.bD.length a.cc):=(q.cell _).trans d;have z1:=q.frozen (ini.length*3+2);have P9:=aj I;clear c F G q d I H)|refine dN ?_)
     go_ret
     exact⟨v,_,by rw[E.ou];rfl,by rw[E.ou];exact P9.ou⟩
  ·have b:Hd (tT m s=(m,e)):=by
    unfold Hd
    rw[j.ou]
    exact ab K
   rw[bS K]
   go_wp2_with fail
   go_ret
   exact⟨v,ini++[(a,r)],by rw[b.ou,bS K];rfl,by rw[b.ou];exact z.ou⟩
end Go.Proofs.YtpgmcijdcnnjpaaGreatDoor
