/- Lemmas for it. -/
import Derived.Test.YtpgmcijdcnnjpaaGreatDoorPk25
set_option linter.all false
namespace Go.Proofs.YtpgmcijdcnnjpaaGreatDoor
open Go Go.RowKit
variable {out:List (List Ch)} {c:List Ch} {p:Nat} {s:aK} {N N':List aK} {α:Type} {l:eX} {w:World} {wait:List (Nat×aK)}
theorem mC(n:Nat)(h:n<256):(bt (n:Int)).toNat=n:=by
 unfold bt
 simp
 omega
theorem rI{k:UInt8}(h:k=111∨k=99)(n:Nat)(s:aK)(i:s.length≤333):je (ec (eM k n s)) n=some (k,s):=by
 have f:ec (eM k n s)=k::(dU n++([bt ((s.length:Int)%256),bt ((s.length:Int)/256%256)]++s))++qy (340-(eM k n s).length):=rfl
 obtain⟨a,b,c,d,g⟩:∃a b c d,dU n=[a,b,c,d]:=⟨_,_,_,_,rfl⟩
 have j:E7 (ec (eM k n s))=s.length:=by
  rw[f,g]
  unfold E7
  show(bt ((s.length:Int)%256)).toNat+256*(bt ((s.length:Int)/256%256)).toNat=s.length
  have l:=mC (s.length%256) (by omega)
  have m:=mC (s.length/256) (by omega)
  rw[show((s.length:Int)%256)=((s.length%256:Nat):Int) by omega,show((s.length:Int)/256%256)=((s.length/256:Nat):Int) by omega,l,m]
  omega
 unfold je
 rw[j]
 have o:(List.take 5 (ec (eM k n s))).tail=dU n:=by rw[f,g];rfl
 have p:(ec (eM k n s)).getD 0 0=k:=by rw[f];rfl
 have q:((ec (eM k n s)).take (7+s.length)).drop 7=s:=by
  rw[f,g]
  have e:7+s.length=s.length+7:=fL _ _
  rw[e]
  show(List.take (s.length+7) (k::a::b::c::d::bt ((s.length:Int)%256)::bt ((s.length:Int)/256%256)::(s++qy _))).drop 7=s
  simp only[gO,iK,jm]
  rw[fJ rfl]
 rw[o,p,q,ab ⟨rfl,h,i⟩]
theorem rS(n:Nat):je (ec []) n=none:=by
 unfold je
 rw[aa]
 rintro⟨_,h,_⟩
 have:(ec []).getD 0 0=0:=by rfl
 rw[this] at h
 revert h
 decide
theorem Db(first:Nat):∀(L:List aK) (i:Nat) (deed:List Ch) (o0:List (List Ch)) (nx:Nat) (out:List (List Ch)) (used:Nat),ee first L i deed o0 nx=(out,used) →
  (used=nx∧out=o0)∨(i<used∧used-i≤L.length∧∀L':List aK,L'.take (used-i)=L.take (used-i)→ee first L' i deed o0 nx=ee first (L'.drop (used-i)) used [] out used)
 | [],i,deed,o0,nx,out,used,h=>by
  have:(o0,nx)=(out,used):=h
  injection this with h1 g
  exact .inl ⟨g.symm,h1.symm⟩
 | s::r,i,deed,o0,nx,out,used,h=>by
  rw[jt] at h
  have d:(o0,nx)=(out,used)→(used=nx∧out=o0):=fun e=>by injection e with h1 g;exact⟨g.symm,h1.symm⟩
  cases hl:je s (first+i) with
  | none=>rw[hl] at h;exact .inl (d h)
  | some kt=>
   obtain⟨k,t⟩:=kt
   rw[hl] at h
   dsimp only at h
   have f:∀L':List aK,∀m,L'.take (m+1)=(s::r).take (m+1)→∃a,L'=s::a∧a.take m=r.take m:=fun L' m hm=>by
    match L',hm with
    | [],hm=>simp at hm
    | x::a,hm=>
     rw[gO,gO] at hm
     injection hm with h1 g
     exact⟨a,by rw[h1],g⟩
   by_cases j:k=99
   ·rw[ab j] at h
    by_cases l:t=dU deed.length
    ·rw[ab l] at h
     right
     have b:∀a,ee first (s::a) i deed o0 nx=ee first a (i+1) [] (o0++[deed]) (i+1):=fun a=>by
      rw[jt,hl]
      dsimp only
      rw[ab j,ab l]
     rcases Db first r (i+1) [] (o0++[deed]) (i+1) out used h with⟨e1,e2⟩|⟨e1,e2,e3⟩
     ·refine⟨by omega,by rw[an];omega,fun L' hL=>?_⟩
      have e:used-i=0+1:=by omega
      rw[e] at hL ⊢
      obtain⟨a,rfl,_⟩:=f L' 0 hL
      rw[b,e1,e2]
      try rfl
     ·refine⟨by omega,by rw[an];omega,fun L' hL=>?_⟩
      have e:used-i=used-(i+1)+1:=by omega
      rw[e] at hL ⊢
      obtain⟨a,rfl,g⟩:=f L' _ hL
      rw[b,e3 a g]
      try rfl
    ·rw[aa l] at h
     exact .inl (d h)
   ·rw[aa j] at h
    cases hg:lu t with
    | none=>rw[hg] at h;exact .inl (d h)
    | some c=>
     rw[hg] at h
     have b:∀a,ee first (s::a) i deed o0 nx=ee first a (i+1) (deed++[c]) o0 nx:=fun a=>by
      rw[jt,hl]
      dsimp only
      rw[aa j,hg]
     rcases Db first r (i+1) (deed++[c]) o0 nx out used h with e|⟨e1,e2,e3⟩
     ·exact .inl e
     ·right
      refine⟨by omega,by rw[an];omega,fun L' hL=>?_⟩
      have e:used-i=used-(i+1)+1:=by omega
      rw[e] at hL ⊢
      obtain⟨a,rfl,g⟩:=f L' _ hL
      rw[b,e3 a g]
      try rfl
theorem tF{first:Nat}{L:List aK} {used:Nat}(h:ee first L 0 [] [] 0=(out,used)):used≤L.length∧∀L':List aK,L'.take used=L.take used→ee first L' 0 [] [] 0=ee first (L'.drop used) used [] out used:=by
 rcases Db first L 0 [] [] 0 out used h with⟨e1,e2⟩|⟨e1,e2,e3⟩
 ·subst e1;subst e2
  exact⟨au _,fun L' _=>rfl⟩
 ·exact⟨by simpa using e2,fun L' hL=>by simpa using e3 L' (by simpa using hL)⟩
def tR(n:Nat):List Ch→List aK
 | []=>[]
 | c::r=>ec (eM 111 n (gE c))::tR (n+1) r
theorem Fa(n:Nat)(c:List Ch):(tR n c).length=c.length:=by
 induction c generalizing n with
 | nil=>rfl
 | cons a r ih=>simp[tR,ih]
theorem Nf(n:Nat)(c:List Ch)(k:Nat):(tR n c)[k]?=(c[k]?).map fun x=>ec (eM 111 (n+k) (gE x)):=by
 induction c generalizing n k with
 | nil=>simp[tR]
 | cons a r ih=>
  cases k with
  | zero=>rfl
  | succ k=>
   show(tR (n+1) r)[k]?=(r[k]?).map _
   rw[ih,show n+1+k=n+(k+1) by omega]
theorem DB{c:Ch}(h:dQ c=0):(gE c).length≤312:=by
 have a:=nG h
 have b:=oV h
 have d:(gE c).length=c.1.length+c.2.1.length+2:=by unfold gE;simp only[an,af]
 omega
theorem Jz(first:Nat):∀(c:List Ch) (hb:∀x∈c,dQ x=0) (rest:List aK) (i:Nat) (deed:List Ch) (out:List (List Ch)) (nx:Nat),ee first (tR (first+i) c++rest) i deed out nx=ee first rest (i+c.length) (deed++c) out nx
 | [],_,rest,i,deed,out,nx=>by simp[tR]
 | a::r,hb,rest,i,deed,out,nx=>by
  have b:=hb a (by simp)
  show ee first (ec (eM 111 (first+i) (gE a))::(tR (first+i+1) r++rest)) i deed out nx=_
  rw[jt,rI (.inl rfl) (first+i) (gE a) (by have:=DB b;omega)]
  dsimp only
  rw[aa (by decide),IK b]
  dsimp only
  have:=Jz first r (fun x hx=>hb x (aE _ hx)) rest (i+1) (deed++[a]) out nx
  rw[show first+(i+1)=first+i+1 by omega] at this
  rw[this,an,aT,show i+1+r.length=i+(r.length+1) by omega]
  try rfl
theorem IJ(first i:Nat)(a:List Ch)(rest:List aK)(out:List (List Ch))(b:Nat):ee first (ec (eM 99 (first+i) (dU a.length))::rest) i a out b=ee first rest (i+1) [] (out++[a]) (i+1):=by
 rw[jt,rI (.inr rfl) _ _ (by rw[jd];omega)]
 dsimp only
 rw[ab rfl,ab rfl]
theorem CL(first i:Nat)(a:List Ch)(rest:List aK)(out:List (List Ch))(b:Nat):ee first (ec []::rest) i a out b=(out,b):=by
 rw[jt,rS]
theorem BV(first:Nat):∀(L:List aK) (i:Nat) (deed:List Ch) (out:List (List Ch)) (nx:Nat),(∀k s t,L[k]?=some s→je s (first+(i+k))≠some (99,t))→ee first L i deed out nx=(out,nx)
 | [],_,_,_,_,_=>rfl
 | s::r,i,deed,out,nx,h=>by
  rw[jt]
  cases hl:je s (first+i) with
  | none=>rfl
  | some kt=>
   obtain⟨k,t⟩:=kt
   dsimp only
   by_cases a:k=99
   ·exact absurd (show je s (first+(i+0))=some (99,t) by rw[fK,hl,a]) (h 0 s t rfl)
   ·rw[aa a]
    cases lu t with
    | none=>rfl
    | some c=>
     exact BV first r (i+1) _ out nx fun k s' t' hk=>by
      have:=h (k+1) s' t' (by simpa using hk)
      rwa [show i+(k+1)=i+1+k by omega] at this
theorem wM{d:Dk}  (a:p<d.now.length)(b:s.length≤340):d.bad (p:Int) s=false:=by
 unfold Dk.bad
 exact aG (by omega)
theorem tK{d:Dk}(a:d.down=false)(b:d.ix=-1)  (e:p<d.now.length)(g:s.length≤340) :
  d.wr (p:Int) s={ d with now:=d.now.set p (ec s),wait:=d.wait++[(p,ec s)] }∧d.jJ (p:Int) s=0:=by
 have h:d.lU=false:=by unfold Dk.lU;rw[a,b];rfl
 have c:d.cJ=d:=by
  unfold Dk.cJ
  rw[a,b]
  simp only[cV,if_false]
  rw[aa (by decide)]
  obtain⟨k,n,w,f,i⟩:=d
  simp only at a b
  subst a;subst b
  rfl
 refine⟨?_,?_⟩
 ·unfold Dk.wr
  rw[wM e g,h,c]
  try rfl
 ·unfold Dk.jJ
  rw[wM e g,h]
  try rfl
theorem vT{d:Dk}(a:d.down=false)(b:d.ix=-1):d.fl={ d with kept:=d.now,wait:=[] }∧d.oK=0:=by
 have e:d.lU=false:=by unfold Dk.lU;rw[a,b];rfl
 have c:d.cJ=d:=by
  unfold Dk.cJ
  rw[a,b]
  simp only[cV,if_false]
  rw[aa (by decide)]
  obtain⟨k,n,w,f,g⟩:=d
  simp only at a b
  subst a;subst b
  rfl
 refine⟨?_,?_⟩
 ·unfold Dk.fl
  rw[e,c]
  try rfl
 ·unfold Dk.oK
  rw[e]
  try rfl
structure Dk.Up (d:Dk):Prop where
 dn:d.down=false
 fu:d.ix=-1
 wide:∀s∈d.now,s.length=340
theorem mF (h:∀s∈N,s.length=340) {x:aK}(a:x.length=340):∀s∈N.set p x,s.length=340:=fun s hs=>by
 rcases List.mem_or_eq_of_mem_set hs with h1|h1
 ·exact h s h1
 ·rw[h1];exact a
theorem Kj:∀(c:List Ch) (p n:Nat) (d:Dk),d.Up→p+c.length≤d.now.length→(∀x∈c,dQ x=0) →
  ∃b,rX (p:Int) n c d=(b,0)∧b.Up∧b.now.length=d.now.length∧∀i,b.now[i]?=if p≤i∧i<p+c.length then (tR n c)[i-p]? else d.now[i]?
 | [],p,n,d,hu,_,_=>⟨d,rfl,hu,rfl,fun i=>by rw[aa (by simp)]⟩
 | a::r,p,n,d,hu,hl,hb=>by
  rw[an] at hl
  have u:=DB (hb a (by simp))
  have j:=nB 111 n (gE a)
  obtain⟨k,l⟩:=tK hu.dn hu.fu (p:=p) (s:=eM 111 n (gE a)) (by omega) (by omega)
  have e:(ec (eM 111 n (gE a))).length=340:=fV _ (by omega)
  rw[qA,l,ab rfl,k]
  have f:({ d with now:=d.now.set p (ec (eM 111 n (gE a))),wait:=d.wait++[(p,ec (eM 111 n (gE a)))] }:Dk).Up:=⟨hu.dn,hu.fu,mF hu.wide e⟩
  obtain⟨b,m,o,q,t⟩:=Kj r (p+1) (n+1) _ f (by simp only[bT];omega) (fun x hx=>hb x (aE _ hx))
  refine⟨b,by rw[←m];rfl,o,by rw[q];simp,fun i=>?_⟩
  rw[t,an]
  by_cases h:p+1≤i∧i<p+1+r.length
  ·rw[ab h,ab (by omega)]
   have:i-p=i-(p+1)+1:=by omega
   rw[this]
   try rfl
  ·rw[aa h]
   by_cases g:i=p
   ·subst g
    rw[ab (by omega),gI]
    show(d.now.set i _)[i]?=some _
    rw[cR (by omega)]
   ·rw[aa (by omega)]
    show(d.now.set p _)[i]?=_
    rw[df (by omega)]
theorem EI {X Y:List α}(h:∀k,k<Y.length→X[k]?=Y[k]?):X=Y++X.drop Y.length:=by
 have:X.take Y.length=Y:=by
  apply iw
  intro k
  by_cases a:k<Y.length
  ·rw[cP a,h k a]
  ·rw[cg (by rw[aH];omega),cg (by omega)]
 rw[←this]
 rw[aH]
 conv=>lhs;rw[←dX Y.length X]
 rw[this]
 congr 1
 by_cases b:Y.length≤X.length
 ·rw[gH b]
 ·rw[Nat.min_eq_right (by omega),cr (by omega),cr (aq _)]
abbrev sj(l:eX)(N:List aK):List aK:=(N.drop l.from_).take l.many
theorem mT  {k:Nat}(a:k<l.many):(sj l N)[k]?=N[l.from_+k]?:=by
 rw[cP a,cQ]
theorem vr  (h:l.from_+l.many≤N.length):(sj l N).length=l.many:=by
 rw[aH,be];omega
theorem zV     (g:l.from_+l.many≤N.length) (h:N'.length=N.length) (i:ee l.first (sj l N) 0 [] [] 0=(out,l.next)) (j:∀x∈c,dQ x=0) (d:l.next+c.length+1≤l.many)
  (m:∀k,k<l.next→N'[l.from_+k]?=N[l.from_+k]?) (n:∀k,k<c.length→N'[l.from_+(l.next+k)]?=(tR (l.first+l.next) c)[k]?) (o:N'[l.from_+(l.next+c.length)]?=some (ec (eM 99 (l.first+(l.next+c.length)) (dU c.length))))
  (p:l.next+c.length+1<l.many→N'[l.from_+(l.next+c.length+1)]?=some (ec [])):ee l.first (sj l N') 0 [] [] 0=(out++[c],l.next+c.length+1):=by
 obtain⟨t,q⟩:=tF i
 have u:=vr g
 have r:(sj l N').length=l.many:=vr (by omega)
 rw[q (sj l N') (by
  apply iw
  intro k
  by_cases a:k<l.next
  ·rw[cP a,cP a,mT (by omega),mT (by omega),m k a]
  ·rw[cg (by rw[aH];omega),cg (by rw[aH];omega)])]
 have s:(sj l N').drop l.next=tR (l.first+l.next) c++((sj l N').drop l.next).drop c.length:=by
  have:=EI (X:=(sj l N').drop l.next) (Y:=tR (l.first+l.next) c) (fun k a=>by
   rw[Fa] at a
   rw[cQ,mT (by omega),n k a])
  rwa [Fa] at this
 rw[s,Jz l.first c j]
 have e:((sj l N').drop l.next).drop c.length=ec (eM 99 (l.first+(l.next+c.length)) (dU c.length))::(sj l N').drop (l.next+c.length+1):=by
  rw[cX]
  have:(sj l N')[l.next+c.length]?=some (ec (eM 99 (l.first+(l.next+c.length)) (dU c.length))):=by rw[mT (by omega),o]
  exact ti this
 rw[e]
 have b:=IJ l.first (l.next+c.length) ([]++c) ((sj l N').drop (l.next+c.length+1)) out l.next
 rw[cW] at b ⊢
 rw[b]
 by_cases f:l.next+c.length+1<l.many
 ·have:(sj l N')[l.next+c.length+1]?=some (ec []):=by rw[mT f,p f]
  rw[ti this,CL]
 ·rw[cr (by omega)]
  try rfl
theorem T6  {d:Dk} (O:d.Up)(P:l.from_+l.many≤d.now.length)(K:ee l.first (sj l d.now) 0 [] [] 0=(out,l.next))(t:j4 c=0)(H:c.length≤40)(f:l.next+c.length+1≤l.many) :
  ∃d',kl l c d=(({ l with next:=l.next+c.length+1 },d'),0)∧d'.Up∧d'.now.length=d.now.length∧d'.wait=[]∧d'.kept=d'.now∧ee l.first (sj l d'.now) 0 [] [] 0=(out++[c],l.next+c.length+1)∧∀i,i<l.from_∨l.from_+l.many≤i→d'.now[i]?=d.now[i]?:=by
 have u:∀x∈c,dQ x=0:=by
  clear K H f
  induction c with
  | nil=>intro x v;cases v
  | cons a r ih=>
   unfold j4 at t
   split at t
   ·rename_i ha
    intro x v
    rcases aY.1 v with e|v
    ·rw[e];exact ha
    ·exact ih t x v
   ·rename_i ha
    exact absurd t ha
 obtain⟨E,Q,n,L,I⟩:=Kj c (l.from_+l.next) (l.first+l.next) d O (by omega) u
 obtain⟨b,R,w,M,F⟩:∃b,ry l c.length E=(b,0)∧b.Up∧b.now.length=E.now.length∧∀i,b.now[i]?=if l.next+c.length+1<l.many∧i=l.from_+(l.next+c.length+1) then some (ec []) else E.now[i]?:=by
  unfold ry
  by_cases o:l.next+c.length+1<l.many
  ·rw[ab o]
   obtain⟨S,T⟩:=tK n.dn n.fu (p:=l.from_+(l.next+c.length+1)) (s:=[]) (by omega) (by simp)
   rw[S,T]
   refine⟨_,rfl,⟨n.dn,n.fu,mF n.wide (fV [] (by simp))⟩,by simp,fun i=>?_⟩
   by_cases y:i=l.from_+(l.next+c.length+1)
   ·rw[ab ⟨o,y⟩,y]
    exact cR (by omega)
   ·rw[aa fun h=>y h.2]
    exact df (by omega)
  ·rw[aa o]
   exact⟨E,rfl,n,rfl,fun i=>by rw[aa fun h=>o h.1]⟩
 have z:ed l c d=(b,0):=by
  unfold ed
  rw[Q]
  dsimp only
  rw[ab rfl,R]
 obtain⟨N,U⟩:=vT w.dn w.fu
 have J:=nB 99 (l.first+(l.next+c.length)) (dU c.length)
 rw[jd] at J
 have A:(b.fl).Up:=by rw[N];exact⟨w.dn,w.fu,w.wide⟩
 have B:b.fl.now=b.now:=by rw[N]
 obtain⟨V,W⟩:=tK A.dn A.fu (p:=l.from_+(l.next+c.length)) (s:=eM 99 (l.first+(l.next+c.length)) (dU c.length)) (by rw[B];omega) (by omega)
 have C:ea l c.length b.fl=({ b.fl with now:=b.fl.now.set (l.from_+(l.next+c.length)) (ec (eM 99 (l.first+(l.next+c.length)) (dU c.length))),wait:=b.fl.wait++[(l.from_+(l.next+c.length),ec (eM 99 (l.first+(l.next+c.length)) (dU c.length)))] },0):=by
  unfold ea
  rw[V,W]
 obtain⟨g,m⟩:∃g:Dk,g={ b.fl with now:=b.fl.now.set (l.from_+(l.next+c.length)) (ec (eM 99 (l.first+(l.next+c.length)) (dU c.length))),wait:=b.fl.wait++[(l.from_+(l.next+c.length),ec (eM 99 (l.first+(l.next+c.length)) (dU c.length)))] }:=⟨_,rfl⟩
 rw[←m] at C
 have D:g.Up:=by rw[m];exact⟨A.dn,A.fu,mF A.wide (fV _ (by omega))⟩
 have j:g.now=b.now.set (l.from_+(l.next+c.length)) (ec (eM 99 (l.first+(l.next+c.length)) (dU c.length))):=by rw[m,←B]
 obtain⟨q,X⟩:=vT D.dn D.fu
 have G:∀i,i≠l.from_+(l.next+c.length)→g.now[i]?=b.now[i]?:=fun i y=>by rw[j];exact df (by omega)
 refine⟨g.fl,?_,?_,?_,?_,?_,?_,fun i y=>?_⟩
 ·unfold kl
  rw[aa (by omega),aa (by omega),t,aa (fun h=>h rfl),z]
  dsimp only
  rw[aa (fun h=>h rfl),U,aa (fun h=>h rfl),C]
  dsimp only
  rw[aa (fun h=>h rfl),X,aa (fun h=>h rfl)]
 ·rw[q];exact⟨D.dn,D.fu,D.wide⟩
 ·rw[q];show g.now.length=_;rw[j,bT,M,L]
 ·rw[q]
 ·rw[q]
 ·rw[q]
  show ee l.first (sj l g.now) 0 [] [] 0=_
  refine zV P (by rw[j,bT,M,L]) K u f (fun k hk=>?_) (fun k hk=>?_) ?_ (fun o=>?_)
  ·rw[G _ (by omega),F,aa (by omega),I,aa (by omega)]
  ·rw[G _ (by omega),F,aa (by omega),I,ab (by omega)]
   congr 1
   omega
  ·rw[j]
   exact cR (by omega)
  ·rw[G _ (by omega),F,ab ⟨o,rfl⟩]
 ·rw[q]
  show g.now[i]?=_
  rw[G _ (by omega),F,aa (by omega),I,aa (by omega)]
theorem Qz  {d:Dk}(h:40<c.length∨l.many-l.next<c.length+1∨j4 c≠0):kl l c d=((l,d),if 40<c.length then 2 else if l.many-l.next<c.length+1 then 10 else j4 c):=by
 unfold kl
 by_cases a:40<c.length
 ·rw[ab a,ab a]
 ·rw[aa a,aa a]
  by_cases b:l.many-l.next<c.length+1
  ·rw[ab b,ab b]
  ·rw[aa b,aa b]
   have e:j4 c≠0:=by
    rcases h with h|h|h
    ·exact absurd h a
    ·exact absurd h b
    ·exact h
   rw[ab e]
theorem Vv {T:kJ α} {g:Nat}{t:TypeId}{x:α}{cs:Array Value}(h:Cs w g t cs)(a:(T.enc x).toArray=cs):di T w (some ⟨g,0,none⟩) 1 [x]:=by
 subst a
 refine⟨rfl,fun _=>⟨g,0,rfl,h.lt,fun k y hk j u hu=>?_⟩⟩
 match k,hk with
 | 0,hk=>
  injection hk with hk
  subst hk
  rw[h.cell]
  simpa using hu
theorem OY(n:Nat):(Dk.fresh n).Up:=⟨rfl,rfl,fun s hs=>by
 have:s=ec []:=ga hs
 rw[this];exact fV [] (by simp)⟩
theorem Ha(first:Nat):∀(L:List aK) (i:Nat) (deed:List Ch) (out:List (List Ch)) (nx:Nat),(∀s∈L,s=ec [])→ee first L i deed out nx=(out,nx)
 | [],_,_,_,_,_=>rfl
 | s::r,i,deed,out,nx,h=>by rw[h s (by simp)];exact CL _ _ _ _ _ _
@[go_sem] theorem Ul (a b:ByteArray) (w:World):(Instr.build sD #[(0,.string a),(1,.string b)]).run Tryz.prog w=.ok (.agg #[.string a,.string b,.bool false]) w:=run_build w sD _ _ (by kernel_rfl)
theorem uK(first:Nat):∀(L:List aK) (i:Nat) (deed:List Ch) (o0:List (List Ch)) (nx B:Nat),(∀x∈o0,x.length≤B)→deed.length+L.length≤B→(∀x∈(ee first L i deed o0 nx).1,x.length≤B)∧(ee first L i deed o0 nx).1.length≤o0.length+L.length
 | [],i,deed,o0,nx,B,h,_=>⟨h,aq _⟩
 | s::r,i,deed,o0,nx,B,h,hb=>by
  rw[an] at hb
  rw[jt,an]
  cases hl:je s (first+i) with
  | none=>exact⟨h,fU _ _⟩
  | some kt=>
   obtain⟨k,t⟩:=kt
   dsimp only
   by_cases a:k=99
   ·rw[ab a]
    by_cases b:t=dU deed.length
    ·rw[ab b]
     have:=uK first r (i+1) [] (o0++[deed]) (i+1) B (fun x hx=>by
      rcases az.1 hx with hx|hx
      ·exact h x hx
      ·rw[aC] at hx;rw[hx];omega) (by simp;omega)
     refine⟨this.1,?_⟩
     have d:=this.2
     rw[af,bE] at d
     omega
    ·rw[aa b];exact⟨h,fU _ _⟩
   ·rw[aa a]
    cases lu t with
    | none=>exact⟨h,fU _ _⟩
    | some c=>
     have:=uK first r (i+1) (deed++[c]) o0 nx B h (by rw[af,bE];omega)
     exact⟨this.1,aJ this.2 (by omega)⟩
structure Dk.Ok (d:Dk):Prop where
 dn:d.down=false
 fu:-1≤d.ix
 wide:∀s∈d.now,s.length=340
theorem GZ{d:Dk}(h:d.Ok)  (a:p<d.now.length)(b:s.length≤340) :
  (d.jJ (p:Int) s=11∧(d.wr (p:Int) s).kept=d.kept∧(d.wr (p:Int) s).wait=d.wait∧(d.wr (p:Int) s).now.length=d.now.length) ∨
  (d.jJ (p:Int) s=0∧(d.wr (p:Int) s).Ok∧(d.wr (p:Int) s).kept=d.kept∧(d.wr (p:Int) s).wait=d.wait++[(p,ec s)]∧(d.wr (p:Int) s).now=d.now.set p (ec s)):=by
 unfold Dk.wr Dk.jJ
 rw[wM a b]
 simp only[cV,if_false]
 obtain⟨c,k,e,ix,f⟩:=d
 obtain⟨g,l,i⟩:=h
 simp only at g l i a
 subst g
 unfold Dk.lU Dk.cJ Dk.written
 simp only[iz,cV,if_false]
 by_cases j:ix=0
 ·subst j
  left
  simp
 ·right
  simp only[j,decide_false,cV,if_false,dh]
  refine⟨trivial,⟨rfl,?_,mF i (fV s b)⟩,trivial,trivial,trivial⟩
  show -1≤max (ix-1) (-1)
  omega
theorem ES{d:Dk}(h:d.Ok) :
  (d.oK=11∧d.fl.kept=d.kept∧d.fl.wait=d.wait∧d.fl.now.length=d.now.length)∨(d.oK=0∧d.fl.Ok∧d.fl.kept=d.now∧d.fl.wait=[]∧d.fl.now=d.now):=by
 unfold Dk.fl Dk.oK
 obtain⟨a,i,b,ix,c⟩:=d
 obtain⟨e,j,f⟩:=h
 simp only at e j f
 subst e
 unfold Dk.lU Dk.cJ Dk.pR
 simp only[iz,cV,if_false]
 by_cases g:ix=0
 ·subst g
  left
  simp
 ·right
  simp only[g,decide_false,cV,if_false]
  refine⟨trivial,⟨rfl,?_,f⟩,trivial,trivial,trivial⟩
  show -1≤max (ix-1) (-1)
  omega
def MG(l:eX)(t:Nat×aK):Prop:=l.from_+l.next≤t.1∧t.2.length=340∧∀x,je t.2 (l.first+(t.1-l.from_))≠some (99,x)
theorem pK(K:Nat):∀(wait:List (Nat×aK)) (kept:List aK) (i k:Nat),(eV K kept wait i)[k]?=kept[k]?∨∃t∈wait,t.1=k∧(eV K kept wait i)[k]?=some t.2
 | [],kept,i,k=>.inl rfl
 | t::r,kept,i,k=>by
  unfold eV
  rcases pK K r (if tV K i then kept.set t.1 t.2 else kept) (i+1) k with h|⟨t',h1,h2,h3⟩
  ·by_cases a:tV K i=true
   ·rw[ab a] at h ⊢
    by_cases e:t.1=k
    ·by_cases b:t.1<kept.length
     ·right
      refine⟨t,by simp,e,?_⟩
      rw[h,←e]
      exact cR b
     ·left
      rw[h,List.set_eq_of_length_le (by omega)]
    ·left
     rw[h]
     exact df e
   ·rw[aa a] at h ⊢
    exact .inl h
  ·exact .inr ⟨t',aE _ h1,h2,h3⟩
structure Ka (l:eX) (d:Dk) (out:List (List Ch)):Prop where
 ok:d.Ok
 kn:d.kept=d.now
 wt:d.wait=[]
 fit:l.from_+l.many≤d.now.length
 sc:ee l.first (sj l d.now) 0 [] [] 0=(out,l.next)
 Oq:∀k s,l.next≤k→k<l.many→d.now[l.from_+k]?=some s→∀x,je s (l.first+k)≠some (99,x)
theorem CE    (e:l.from_+l.many≤N.length) (j:N'.length=N.length) (f:ee l.first (sj l N) 0 [] [] 0=(out,l.next))
  (g:∀k,k<l.next→N'[l.from_+k]?=N[l.from_+k]?) (h:∀k s,l.next≤k→k<l.many→N'[l.from_+k]?=some s→∀x,je s (l.first+k)≠some (99,x)):ee l.first (sj l N') 0 [] [] 0=(out,l.next):=by
 obtain⟨m,i⟩:=tF f
 have d:=vr e
 have c:(sj l N').length=l.many:=vr (by omega)
 rw[i (sj l N') (by
  apply iw
  intro k
  by_cases a:k<l.next
  ·rw[cP a,cP a,mT (by omega),mT (by omega),g k a]
  ·rw[cg (by rw[aH];omega),cg (by rw[aH];omega)])]
 refine BV l.first _ l.next [] out l.next fun k s t a=>?_
 rw[cQ] at a
 have b:l.next+k<l.many:=by
  have:=(aw.1 a).1
  omega
 rw[mT b] at a
 exact h (l.next+k) s (by omega) b a t
theorem Dv {d:Dk} (h:Ka l d out) (a:∀t∈wait,MG l t)(K:Nat):ee l.first (sj l (eV K d.kept wait 0)) 0 [] [] 0=(out,l.next):=by
 refine CE (N:=d.now) h.fit (by rw[lX,h.kn]) h.sc (fun k hk=>?_) (fun k s h1 h2 h3 x=>?_)
 ·rcases pK K wait d.kept 0 (l.from_+k) with e|⟨t,h1,h2,_⟩
  ·rw[e,h.kn]
  ·have:=(a t h1).1
   omega
 ·rcases pK K wait d.kept 0 (l.from_+k) with e|⟨t,h4,h5,h6⟩
  ·rw[e,h.kn] at h3
   exact h.Oq k s h1 h2 h3 x
  ·rw[h6] at h3
   injection h3 with h3
   have:=(a t h4).2.2 x
   rw[h5,h3] at this
   rwa [show l.from_+k-l.from_=k by omega] at this
theorem BF{a:List aK} (c:∀s∈a,s.length=340)(d:∀t∈wait,t.2.length=340)(K:Nat):∀s∈eV K a wait 0,s.length=340:=fun s hs=>by
 obtain⟨k,b⟩:=gi hs
 rcases pK K wait a 0 k with e|⟨t,h4,_,h6⟩
 ·rw[e] at b
  exact c s (ah b)
 ·rw[h6] at b
  injection b with b
  rw[←b];exact d t h4
theorem J8{l:eX}:∀(c:List Ch) (k:Nat) (d:Dk),d.Ok→l.next≤k→l.from_+k+c.length≤d.now.length→(∀x∈c,dQ x=0) →
  ∃b f,rX ((l.from_+k:Nat):Int) (l.first+k) c d=(b,f)∧b.kept=d.kept∧b.now.length=d.now.length∧(∀t∈b.wait,t∈d.wait∨MG l t) ∧
   (f=11∨(f=0∧b.Ok∧∀i,b.now[i]?=if l.from_+k≤i∧i<l.from_+k+c.length then (tR (l.first+k) c)[i-(l.from_+k)]? else d.now[i]?))
 | [],k,d,hd,_,_,_=>⟨d,0,rfl,rfl,rfl,fun t ht=>.inl ht,.inr ⟨rfl,hd,fun i=>by rw[aa (by simp)]⟩⟩
 | a::r,k,d,hd,hk,hl,hb=>by
  rw[an] at hl
  have y:=DB (hb a (by simp))
  have n:=nB 111 (l.first+k) (gE a)
  have g:MG l (l.from_+k,ec (eM 111 (l.first+k) (gE a))):=⟨by show l.from_+l.next≤l.from_+k;omega,fV _ (by omega),fun x=>by
   show je (ec (eM 111 (l.first+k) (gE a))) (l.first+(l.from_+k-l.from_))≠_
   rw[show l.from_+k-l.from_=k by omega,rI (.inl rfl) _ _ (by omega)]
   intro e
   injection e with e
   injection e with e _
   revert e
   decide⟩
  rw[qA]
  rcases GZ hd (p:=l.from_+k) (s:=eM 111 (l.first+k) (gE a)) (by omega) (by omega) with⟨h1,h2,h3,h4⟩|⟨h1,h2,h3,h4,h5⟩
  ·rw[h1,aa (by decide)]
   exact⟨_,11,rfl,h2,h4,fun t ht=>by rw[h3] at ht;exact .inl ht,.inl rfl⟩
  ·rw[h1,ab rfl]
   obtain⟨b,f,o,q,u,v,w⟩:=J8 (l:=l) r (k+1) _ h2 (by omega) (by rw[h5,bT];omega) (fun x hx=>hb x (aE _ hx))
   refine⟨b,f,by rw[←o];rfl,by rw[q,h3],by rw[u,h5,bT],fun t ht=>?_,?_⟩
   ·rcases v t ht with h|h
    ·rw[h4] at h
     rcases az.1 h with h|h
     ·exact .inl h
     ·rw[aC] at h
      rw[h];exact .inr g
    ·exact .inr h
   ·rcases w with h|⟨h,h',h''⟩
    ·exact .inl h
    ·refine .inr ⟨h,h',fun i=>?_⟩
     rw[h'',an]
     by_cases m:l.from_+(k+1)≤i∧i<l.from_+(k+1)+r.length
     ·rw[ab m,ab (by omega)]
      have:i-(l.from_+k)=i-(l.from_+(k+1))+1:=by omega
      rw[this]
      try rfl
     ·rw[aa m,h5]
      by_cases j:i=l.from_+k
      ·subst j
       rw[ab (by omega),gI]
       rw[cR (by omega)]
       try rfl
      ·rw[aa (by omega),df (by omega)]
theorem J7  {d:Dk}(o:d.Ok)(v:l.from_+l.many≤d.now.length)(q:∀x∈c,dQ x=0)(k:l.next+c.length+1≤l.many) :
  ∃d' f,ed l c d=(d',f)∧d'.kept=d.kept∧d'.now.length=d.now.length∧(∀t∈d'.wait,t∈d.wait∨MG l t) ∧
   (f=11∨(f=0∧d'.Ok∧∀i,d'.now[i]?=if l.next+c.length+1<l.many∧i=l.from_+(l.next+c.length+1) then some (ec []) else if l.from_+l.next≤i∧i<l.from_+l.next+c.length then (tR (l.first+l.next) c)[i-(l.from_+l.next)]? else d.now[i]?)):=by
 obtain⟨n,w,r,a,b,g,u⟩:=J8 (l:=l) c l.next d o (aq _) (by omega) q
 unfold ed
 rw[r]
 dsimp only
 rcases u with rfl|⟨rfl,h1,h2⟩
 ·rw[aa (by decide)]
  exact⟨n,11,rfl,a,b,g,.inl rfl⟩
 ·rw[ab rfl]
  unfold ry
  by_cases j:l.next+c.length+1<l.many
  ·rw[ab j]
   rcases GZ h1 (p:=l.from_+(l.next+c.length+1)) (s:=[]) (by omega) (by simp) with⟨k1,k2,k3,k4⟩|⟨k1,k2,k3,k4,k5⟩
   ·exact⟨_,_,rfl,by rw[k2,a],by rw[k4,b],fun t ht=>by rw[k3] at ht;exact g t ht,.inl k1⟩
   ·refine⟨_,_,rfl,by rw[k3,a],by rw[k5,bT,b],fun t ht=>?_,.inr ⟨k1,k2,fun i=>?_⟩⟩
    ·rw[k4] at ht
     rcases az.1 ht with h|h
     ·exact g t h
     ·rw[aC] at h
      subst h
      refine .inr ⟨by show l.from_+l.next≤l.from_+(l.next+c.length+1);omega,fV [] (by simp),fun x=>?_⟩
      show je (ec []) _≠_
      rw[rS]
      exact fun e=>by cases e
    ·rw[k5]
     by_cases m:i=l.from_+(l.next+c.length+1)
     ·rw[ab ⟨j,m⟩,m]
      exact cR (by omega)
     ·rw[aa fun h=>m h.2,df (by omega),h2]
  ·rw[aa j]
   exact⟨n,0,rfl,a,b,g,.inr ⟨rfl,h1,fun i=>by rw[aa fun h=>j h.1,h2]⟩⟩
theorem Cv  {d:Dk} (h:Ka l d out)(X:l.next≤l.many) :
  ∃l' d' f,kl l c d=((l',d'),f)∧d'.now.length=d.now.length ∧
   ((f=0∧l'={ l with next:=l.next+c.length+1 }∧l.next+c.length+1≤l.many∧Ka l' d' (out++[c]))∨(f≠0∧f≠11∧l'=l∧d'=d) ∨
    (f=11∧l'=l∧∀K,(∀s∈eV K d'.kept d'.wait 0,s.length=340)∧(eV K d'.kept d'.wait 0).length=d.now.length ∧
     ∃u,ee l.first (sj l (eV K d'.kept d'.wait 0)) 0 [] [] 0=(out,u)∨ee l.first (sj l (eV K d'.kept d'.wait 0)) 0 [] [] 0=(out++[c],u))):=by
 by_cases g:40<c.length∨l.many-l.next<c.length+1∨j4 c≠0
 ·refine⟨l,d,_,Qz g,rfl,.inr (.inl ⟨?_,?_,rfl,rfl⟩)⟩
  ·by_cases E:40<c.length
   ·rw[ab E];decide
   ·rw[aa E]
    by_cases F:l.many-l.next<c.length+1
    ·rw[ab F];decide
    ·rw[aa F]
     rcases g with h|h|h
     ·exact absurd h E
     ·exact absurd h F
     ·exact h
  ·by_cases E:40<c.length
   ·rw[ab E];decide
   ·rw[aa E]
    by_cases F:l.many-l.next<c.length+1
    ·rw[ab F];decide
    ·rw[aa F]
     have:∀c:List Ch,j4 c≤3:=by
      intro c
      induction c with
      | nil=>decide
      | cons a r ih=>
       unfold j4
       split
       ·exact ih
       ·unfold dQ
        repeat' split
        all_goals decide
     have:=this c
     omega
 have G:¬40<c.length:=fun e=>g (.inl e)
 have n:¬l.many-l.next<c.length+1:=fun e=>g (.inr (.inl e))
 have o:j4 c=0:=by
  by_cases e:j4 c=0
  ·exact e
  ·exact absurd (.inr (.inr e)) g
 have j:l.next+c.length+1≤l.many:=by omega
 have A:∀x∈c,dQ x=0:=by
  clear g G n j
  induction c with
  | nil=>intro x H;cases H
  | cons a r ih=>
   unfold j4 at o
   split at o
   ·rename_i ha
    intro x H
    rcases aY.1 H with e|H
    ·rw[e];exact ha
    ·exact ih o x H
   ·rename_i ha
    exact absurd o ha
 have Y:kl l c d=if (ed l c d).2≠0 then ((l,(ed l c d).1),(ed l c d).2)
   else if (ed l c d).1.oK≠0 then ((l,(ed l c d).1.fl),(ed l c d).1.oK)
   else if (ea l c.length (ed l c d).1.fl).2≠0 then ((l,(ea l c.length (ed l c d).1.fl).1),(ea l c.length (ed l c d).1.fl).2)
   else if (ea l c.length (ed l c d).1.fl).1.oK≠0 then ((l,(ea l c.length (ed l c d).1.fl).1.fl),(ea l c.length (ed l c d).1.fl).1.oK)
   else (({ l with next:=l.next+c.length+1 },(ea l c.length (ed l c d).1.fl).1.fl),0):=by
  unfold kl
  rw[aa G,aa n,o,aa (fun e=>e rfl)]
 obtain⟨b,f1,Z,e2,O,e4,e5⟩:=J7 (c:=c) h.ok h.fit A j
 have B:∀s∈d.kept,s.length=340:=by rw[h.kn];exact h.ok.wide
 have I:∀t∈b.wait,MG l t:=fun t ht=>by
  rcases e4 t ht with e|e
  ·rw[h.wt] at e;cases e
  ·exact e
 have q:∀d':Dk,d'.kept=b.kept→d'.wait=b.wait→∀K,(∀s∈eV K d'.kept d'.wait 0,s.length=340)∧(eV K d'.kept d'.wait 0).length=d.now.length ∧
   ∃u,ee l.first (sj l (eV K d'.kept d'.wait 0)) 0 [] [] 0=(out,u)∨ee l.first (sj l (eV K d'.kept d'.wait 0)) 0 [] [] 0=(out++[c],u):=fun d' k1 k2 K=>by
  rw[k1,k2,e2]
  exact⟨BF B (fun t ht=>(I t ht).2.1) K,by rw[lX,h.kn],_,.inl (Dv h I K)⟩
 rw[Y,Z]
 dsimp only
 rcases e5 with rfl|⟨rfl,o1,g1⟩
 ·rw[ab (by decide)]
  exact⟨l,b,11,rfl,O,.inr (.inr ⟨rfl,rfl,q b rfl rfl⟩)⟩
 rw[aa (fun e=>e rfl)]
 rcases ES o1 with⟨k1,k2,k3,k4⟩|⟨k1,k2,k3,k4,k5⟩
 ·rw[k1,ab (by decide)]
  exact⟨l,b.fl,11,rfl,by rw[k4,O],.inr (.inr ⟨rfl,rfl,q b.fl k2 k3⟩)⟩
 rw[k1,aa (fun e=>e rfl)]
 have m:b.fl.now.length=d.now.length:=by rw[k5,O]
 have J:∀i,b.fl.now[i]?=if l.next+c.length+1<l.many∧i=l.from_+(l.next+c.length+1) then some (ec []) else if l.from_+l.next≤i∧i<l.from_+l.next+c.length then (tR (l.first+l.next) c)[i-(l.from_+l.next)]? else d.now[i]?:=fun i=>by rw[k5];exact g1 i
 have v:Ka l b.fl out:=by
  have C:∀k,k<l.next→b.fl.now[l.from_+k]?=d.now[l.from_+k]?:=fun k z=>by rw[J,aa (by omega),aa (by omega)]
  have L:∀k s,l.next≤k→k<l.many→b.fl.now[l.from_+k]?=some s→∀x,je s (l.first+k)≠some (99,x):=fun k s q1 q2 q3 x=>by
   rw[J] at q3
   by_cases P:l.next+c.length+1<l.many∧l.from_+k=l.from_+(l.next+c.length+1)
   ·rw[ab P] at q3
    injection q3 with q3
    rw[←q3,rS]
    exact fun e=>by cases e
   ·rw[aa P] at q3
    by_cases U:l.from_+l.next≤l.from_+k∧l.from_+k<l.from_+l.next+c.length
    ·rw[ab U,Nf] at q3
     have z:l.from_+k-(l.from_+l.next)<c.length:=by omega
     rw[aF z] at q3
     injection q3 with q3
     have Q:=A _ (ez z)
     rw[←q3,show l.first+l.next+(l.from_+k-(l.from_+l.next))=l.first+k by omega,rI (.inl rfl) _ _ (by have:=DB Q;omega)]
     intro e
     injection e with e
     injection e with e _
     revert e
     decide
    ·rw[aa U] at q3
     exact h.Oq k s q1 q2 q3 x
  exact⟨k2,by rw[k3,k5],k4,by rw[m];exact h.fit,CE h.fit m h.sc C L,L⟩
 have R:=nB 99 (l.first+(l.next+c.length)) (dU c.length)
 rw[jd] at R
 unfold ea
 dsimp only
 have D:∀d':Dk,d'.kept=b.fl.kept→d'.wait=[]→∀K,(∀s∈eV K d'.kept d'.wait 0,s.length=340)∧(eV K d'.kept d'.wait 0).length=d.now.length ∧
   ∃u,ee l.first (sj l (eV K d'.kept d'.wait 0)) 0 [] [] 0=(out,u)∨ee l.first (sj l (eV K d'.kept d'.wait 0)) 0 [] [] 0=(out++[c],u):=fun d' q1 q2 K=>by
  rw[q1,q2,v.kn]
  exact⟨v.ok.wide,m,_,.inl v.sc⟩
 have ac:l.from_+l.many≤b.fl.now.length:=v.fit
 rcases GZ v.ok (p:=l.from_+(l.next+c.length)) (s:=eM 99 (l.first+(l.next+c.length)) (dU c.length)) (by omega) (by omega) with⟨w1,w2,w3,w4⟩|⟨w1,w2,w3,w4,w5⟩
 ·rw[w1,ab (by decide)]
  exact⟨l,_,11,rfl,by rw[w4,m],.inr (.inr ⟨rfl,rfl,D _ w2 (by rw[w3,v.wt])⟩)⟩
 rw[w1,aa (fun e=>e rfl)]
 obtain⟨y,S⟩:∃y,y=b.fl.wr ((l.from_+(l.next+c.length):Nat):Int) (eM 99 (l.first+(l.next+c.length)) (dU c.length)):=⟨_,rfl⟩
 rw[←S] at w2 w3 w4 w5 ⊢
 have w:y.now.length=d.now.length:=by rw[w5,bT,m]
 have N:∀i,i≠l.from_+(l.next+c.length)→y.now[i]?=b.fl.now[i]?:=fun i P=>by rw[w5];exact df (by omega)
 have V:ee l.first (sj l y.now) 0 [] [] 0=(out++[c],l.next+c.length+1):=by
  refine zV h.fit w h.sc A j (fun k z=>?_) (fun k z=>?_) ?_ (fun hm=>?_)
  ·rw[N _ (by omega),J,aa (by omega),aa (by omega)]
  ·rw[N _ (by omega),J,aa (by omega),ab (by omega)]
   congr 1
   omega
  ·rw[w5]
   exact cR (by omega)
  ·rw[N _ (by omega),J,ab ⟨hm,rfl⟩]
 rcases ES w2 with⟨q1,q2,q3,q4⟩|⟨q1,q2,q3,q4,q5⟩
 ·rw[q1,ab (by decide)]
  refine⟨l,y.fl,11,rfl,by rw[q4,w],.inr (.inr ⟨rfl,rfl,fun K=>?_⟩)⟩
  rw[q2,q3,w3,w4,v.wt,v.kn,cW]
  show(∀s∈(if tV K 0 then b.fl.now.set _ _ else b.fl.now),s.length=340)∧(if tV K 0 then b.fl.now.set _ _ else b.fl.now).length=d.now.length∧∃u,ee l.first (sj l (if tV K 0 then b.fl.now.set _ _ else b.fl.now)) 0 [] [] 0=(out,u)∨ee l.first (sj l (if tV K 0 then b.fl.now.set _ _ else b.fl.now)) 0 [] [] 0=(out++[c],u)
  by_cases z:tV K 0=true
  ·rw[ab z]
   have e:b.fl.now.set (l.from_+(l.next+c.length),ec (eM 99 (l.first+(l.next+c.length)) (dU c.length))).1 (l.from_+(l.next+c.length),ec (eM 99 (l.first+(l.next+c.length)) (dU c.length))).2=y.now:=w5.symm
   rw[e]
   exact⟨w2.wide,w,_,.inr V⟩
  ·rw[aa z]
   exact⟨v.ok.wide,m,_,.inl v.sc⟩
 ·rw[q1,aa (fun e=>e rfl)]
  refine⟨_,y.fl,0,rfl,by rw[q5,w],.inl ⟨rfl,rfl,j,⟨q2,by rw[q3,q5],q4,by rw[q5,w];exact h.fit,by rw[q5];exact V,fun k s W T M x=>?_⟩⟩⟩
  rw[q5] at M
  have W:l.next+c.length+1≤k:=W
  have T:k<l.many:=T
  have M:y.now[l.from_+k]?=some s:=M
  rw[N _ (by omega)] at M
  exact v.Oq k s (by omega) T M x
section
variable {P:Program} {ops:Array Oper} {md:Region.Mode} {C:World→Prop} {E:List Nat} {Q:Act→World→Prop}
theorem DW (M:List Nat) (D:Nat→List Nat) (J:List Nat→(Nat→Value)→World→Prop) {z:Array Bool} {n:Act} (hB:pC md ops E M D z n.tmps.size=true)
  (T:∀i∈M,∀c m u,C u→i∉c→(∀j∈D i,j∈c)→J c m u→∀o,ops[i]?=some o→cT P o (dW ops m (D i) n) u (fun v u'=>C u'∧J (c++[i]) (fun j=>if j=i then v else m j) u'))
  (ao:∀c m u,C u→(∀j∈M,j∈c)→J c m u→Q (dW ops m M n) u) :
  ∀(k:Nat) (c:List Nat) (m:Nat→Value) (u:World),c.Nodup→(∀j∈c,j∈M)→k+c.length=M.length→C u→J c m u →
   kX P md ops C E ops.size Q k (iD z c) (dW ops m c n) u:=by
 unfold pC at hB
 simp only[aI,bh,bY,bJ,dS,cd,eC,dJ] at hB
 obtain⟨⟨⟨⟨a8,A⟩,K⟩,hback⟩,U⟩:=hB
 have un:∀{c:List Nat} {i:Nat},i<ops.size→i∉c→i∈M→(iD z c).getD i true=false:=fun {c i} H q hm=>by
  rw[jj _ _ _ _ (by rw[A];exact H),aa q]
  exact(U i hm).1.1.2
 have N:∀{i:Nat} {d:Nat},i∈M→fa ops i=some d→d<n.tmps.size∧∀j∈M,fa ops j=some d→j=i:=fun {i d} H q=>by
  have h:=(U i H).2
  unfold fa at q
  cases B:ops[i]? with
  | none=>rw[B] at q;cases q
  | some o=>
   rw[B] at q h
   have a9:o.dst=some d:=q
   simp only[a9,aI,bh,bJ,cd,bY,kT] at h
   refine⟨h.1.1.2.1,fun j p e=>?_⟩
   rcases h.1.1.2.2 j p with h'|h'
   ·exact h'
   ·exact absurd e h'
 intro k
 induction k with
 | zero=>
  intro c m u V y hk hC hJ
  have s:∀j∈M,j∈c:=by
   exact vN V y (by omega)
  refine⟨?_,?_⟩
  ·apply iF.2
   intro i H
   obtain⟨w,o,B,_⟩:=mem_ready.1 H
   have r:i<ops.size:=(bq.1 B).1
   rw[jj _ _ _ _ (by rw[A];exact r)] at w
   split at w
   ·cases w
   ·rename_i q
    rcases K i r with F|F
    ·rw[w] at F;cases F
    ·exact q (s i F)
  ·have:=ao c m u hC s hJ
   have e:dW ops m c n=dW ops m M n:=by
    have e1:(dW ops m c n).tmps=(dW ops m M n).tmps:=by
     apply Array.ext_getElem?
     intro t
     by_cases ht:∃j∈M,fa ops j=some t
     ·obtain⟨j,p,q⟩:=ht
      obtain⟨w,F⟩:=N p q
      rw[kf m q c n (s j p) w fun i H=>F i (y i H),kf m q M n p w F]
     ·rw[jF m c n fun j p e=>ht ⟨j,y j p,e⟩,jF m M n fun j p e=>ht ⟨j,p,e⟩]
    have e2:(dW ops m c n).defers=(dW ops m M n).defers:=by rw[kZ,kZ]
    cases w:dW ops m c n
    cases F:dW ops m M n
    rw[w,F] at e1 e2
    simp only at e1 e2
    rw[e1,e2]
   rw[e]
   exact this
 | succ k ih=>
  intro c m u V y hk hC hJ
  refine⟨fun he=>?_,fun i H=>?_⟩
  ·exfalso
   have W:∀i,i<ops.size→(iD z c).getD i true=true:=by
    intro i
    induction i using Nat.strongRecOn with
    | ind i ihi=>
     intro r
     cases hv:(iD z c).getD i true with
     | true=>rfl
     | false=>
      exfalso
      have O:i∈Region.ready md ops (iD z c):=by
       obtain⟨o,B⟩:∃o,ops[i]?=some o:=⟨ops[i],ew r⟩
       refine mem_ready.2 ⟨hv,o,B,fun e X R=>?_⟩
       have ap:=hback i r
       rw[B] at ap
       have:=iX.1 ap e X
       rw[R] at this
       simp only[eF,iz,bh] at this
       have Y:=ihi e.on this (by omega)
       have Z:e.on<(iD z c).size:=by
        rcases dm e.on (iD z c).size with h|h
        ·exact h
        ·exfalso
         have hh:(iD z c).size=z.size:=by
          have:∀(L:List Nat) (l:Array Bool),(iD l L).size=l.size:=by
           intro L
           induction L with
           | nil=>intro l;rfl
           | cons a L ih=>intro l;exact(ih _).trans (by simp)
          exact this _ _
         omega
       rw[dr,ew Z] at Y ⊢
       exact Y
      rw[he] at O
      cases O
   have s:∀j∈M,j∈c:=by
    intro j p
    have av:=(U j p).1.1.1
    have w:=W j av
    by_cases q:j∈c
    ·exact q
    ·rw[un av q p] at w;cases w
   have:=pT M c a8 s
   omega
  ·obtain⟨w,o,B,aD⟩:=mem_ready.1 H
   have r:i<ops.size:=(bq.1 B).1
   have I:i∉c:=fun h=>by
    rw[jj _ _ _ _ (by rw[A];exact r),ab h] at w
    cases w
   have ac:i∈M:=by
    rcases K i r with F|F
    ·rw[jj _ _ _ _ (by rw[A];exact r),aa I,F] at w
     cases w
    ·exact F
   have a1:=U i ac
   have bb:=a1.1.2
   have ag:=a1.2
   rw[B] at ag
   simp only[aI,eC,bJ,dJ] at ag
   obtain⟨⟨⟨⟨hg,S⟩,bi⟩,hD⟩,a2⟩:=ag
   have bc:o.guard=none:=by simpa using hg
   have a3:∀j∈D i,j∈c:=fun j p=>by
    obtain⟨ai,bd⟩:=hD j p
    obtain⟨e,X,R⟩:=ic.1 bd
    simp only[aI,bY] at R
    have Y:=aD e X R.1
    rw[R.2,jj _ _ _ _ (by rw[A];exact(U j ai).1.1.1)] at Y
    split at Y
    ·assumption
    ·have h4:=(U j ai).1.1.2
     have Z:j<z.size:=by rw[A];exact(U j ai).1.1.1
     rw[dr,ew Z] at Y h4
     have bg:z[j]=true:=Y
     have a4:z[j]=false:=h4
     rw[bg] at a4
     cases a4
   have ak:=T i ac c m u hC I a3 hJ o B
   have am:execOp (dW ops m (D i) n).eval o=execOp (dW ops m c n).eval o:=by
    refine execOp_congr o (fun cs b e=>by rw[e] at S;cases S) fun x hx=>?_
    have G:=iX.1 a2 x hx
    cases x with
    | tmp t=>
     simp only[cd,iR,bJ,bY,kT] at G
     apply yk
     rcases G with⟨j,p,q⟩|G
     ·obtain⟨a5,a6⟩:=N (hD j p).1 q
      rw[kf m q (D i) n p a5 fun i' hi'=>a6 i' (hD i' hi').1,kf m q c n (a3 j p) a5 fun i' hi'=>a6 i' (y i' hi')]
     ·rw[jF m (D i) n fun j p=>G j (hD j p).1,jF m c n fun j p=>G j (y j p)]
    | const v=>rfl
    | global g=>rfl
    | func f=>rfl
   unfold gP
   simp only[B]
   unfold iB
   rw[ab (jQ bc),ab (dJ.2 bb)]
   unfold cT at ak ⊢
   rw[am] at ak
   refine iy (fun v w' ⟨hC',hJ'⟩=>⟨fun _=>hC',?_⟩) ak
   have a7:¬i=ops.size:=by omega
   simp only[a7,if_false]
   have e1:(dW ops m c n).put o.dst v=dW ops (fun j=>if j=i then v else m j) (c++[i]) n:=by
    rw[rL,qe (vals':=m) c n fun j p=>aa fun(e:j=i)=>I (by rw[←e];exact p)]
    have:fa ops i=o.dst:=by unfold fa;rw[B];rfl
    rw[this,ab rfl]
   rw[e1,←vW]
   refine ih (c++[i]) _ w' ?_ ?_ ?_ hC' hJ'
   ·rw[gu]
    exact⟨V,by simp,fun a ha b R e=>by rw[aC] at R;exact I (by rw[←R,←e];exact ha)⟩
   ·intro j p
    rcases az.1 p with h|h
    ·exact y j h
    ·rw[aC] at h;rw[h];exact ac
   ·rw[af,bE];omega
end
section
variable {P:Program}
def tu(P:Program)(L:List Oper)(C:World→Prop)(J:List Nat→(Nat→Value)→World→Prop)(DD:Nat→List (Nat×Option Nat))(a:Act):List Nat→Prop
 | []=>True
 | i::r=>(∀done vals u,C u→i∉done→(∀p∈DD i,p.1∈done)→J done vals u→oU P L i (eH vals (DD i) a) u (fun v u'=>C u'∧J (done++[i]) (fun j=>if j=i then v else vals j) u'))∧tu P L C J DD a r
theorem tZ{P:Program}{L:List Oper}{C:World→Prop}{J:List Nat→(Nat→Value)→World→Prop}{b:Nat→List (Nat×Option Nat)}{a:Act}:∀{E:List Nat},tu P L C J b a E→∀i∈E,∀done vals u,C u→i∉done→(∀p∈b i,p.1∈done)→J done vals u→oU P L i (eH vals (b i) a) u (fun v u'=>C u'∧J (done++[i]) (fun j=>if j=i then v else vals j) u')
 | i::r,h,k,hk=>by
  rcases aY.1 hk with e|e
  ·rw[e];exact h.1
  ·exact tZ h.2 k e
theorem Dn {L:List Oper} {E:List Nat} {Q:Act→World→Prop} {C:World→Prop} {md:Region.Mode} {f:Nat} {l:Array Bool} {a:Act}  (g:Nat→List (Nat×Option Nat)) (m:List (Nat×Option Nat)) (J:List Nat→(Nat→Value)→World→Prop) (b:mM md L.toArray E l=none) (t:f+1=E.length)
  (s:(tI L.toArray E g m&&pC md L.toArray E E (fun i=>(g i).map (·.1)) l a.tmps.size)=true) (v:C w) (x:∀vals,J [] vals w)
  (c:tu P L C J g a E)
  (h:∀done vals u,C u→(∀p∈m,p.1∈done)→J done vals u→Q (eH vals m a) u):pI P md L.toArray C E (vP P md L.toArray C E Q) (f+1) l a w:=by
 rw[aI] at s
 obtain⟨d,n⟩:=s
 unfold tI at d
 simp only[aI,bJ,bY] at d
 obtain⟨⟨q,r⟩,k⟩:=d
 unfold pI
 rw[b]
 unfold vP
 rw[t]
 have:=DW (P:=P) (C:=C) (Q:=Q) E (fun i=>(g i).map (·.1)) J n (fun i hi done vals u hc hid hj hJ o ho=>by
  have e:=tZ c i hi done vals u hc hid (fun p b=>hj p.1 (cC b)) hJ
  unfold oU at e
  rw[←aB,ho] at e
  simp only at e
  rw[qU (ops:=L.toArray) vals (g i) a fun p b=>q i hi p b] at e
  exact e)
  (fun done vals u hc hj hJ=>by
   have e:=h done vals u hc (fun p b=>hj p.1 (by rw[←k];exact cC b)) hJ
   rwa [qU (ops:=L.toArray) vals m a fun p b=>r p b,k] at e)
  E.length [] (fun _=>undef) w List.nodup_nil (fun j hj=>by cases hj) (by simp) v (x _)
 exact this
end
end Go.Proofs.YtpgmcijdcnnjpaaGreatDoor
