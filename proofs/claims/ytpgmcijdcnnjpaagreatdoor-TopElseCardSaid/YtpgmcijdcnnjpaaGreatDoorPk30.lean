/- Lemmas for it. -/
import Derived.Test.YtpgmcijdcnnjpaaGreatDoorPk29
set_option linter.all false
namespace Go.Proofs.YtpgmcijdcnnjpaaGreatDoor
open Go Go.RowKit
variable {c rows:List Ch} {x:Ch} {w:World} {r:jZ} {d:Dk} {s t:aK} {n side:Nat} {h:V7} {N N' now:List aK}
abbrev eX.z(l:eX):eX:={ l with g:=0 }
def RP(h':V7)(N:Nat)(d:Dk):eX:=⟨0,44,N-44,h'.first,(ee h'.first ((d.now.drop 44).take (N-44)) 0 [] [] 0).2⟩
def yH(h:V7)(l:eX)(rows:List Ch)(d:Dk):((V7×eX)×Dk)×Int:=
 if (AV (lf h l (eY rows)) (eY rows) d).2=0 then (((lf h l (eY rows),RP (lf h l (eY rows)) d.now.length (AV (lf h l (eY rows)) (eY rows) d).1),(AV (lf h l (eY rows)) (eY rows) d).1),0)
 else (((h,l),(AV (lf h l (eY rows)) (eY rows) d).1),(AV (lf h l (eY rows)) (eY rows) d).2)
def wT(h:V7)(l:eX)(rows c:List Ch)(d:Dk):((V7×eX×List Ch)×Dk)×Int:=
 if (kl l c d).2=0 then (((h,(kl l c d).1.1,dw rows c),(kl l c d).1.2),0) else (((h,(kl l c d).1.1,rows),(kl l c d).1.2),(kl l c d).2)
def vS(h:V7)(l:eX)(rows c:List Ch)(d:Dk):((V7×eX×List Ch)×Dk)×Int:=
 if 40<c.length then (((h,l,rows),d),2)
 else if j4 c≠0 then (((h,l,rows),d),j4 c)
 else if lK (dw rows c)=true∨d.now.length-44<c.length+1 then (((h,l,rows),d),10)
 else if l.many-l.next<c.length+1 then
  (if (yH h l rows d).2=0 then wT (yH h l rows d).1.1.1 (yH h l rows d).1.1.2 rows c (yH h l rows d).1.2 else (((h,l,rows),(yH h l rows d).1.2),(yH h l rows d).2))
 else wT h l rows c d
def UL(w:World)(Z:pq)(r:jZ)(d:Dk)(c:List Ch)(e:Ending)(w':World):Prop:=
 ∃h' l' rows' d' f,vS Z.h Z.l.z Z.rows c d=(((h',l',rows'),d'),f)∧e=.returned (eT f)∧∃Z' r',lP w w' Z r Z' r' d'∧Z'.h=h'∧Z'.l.z=l'∧Z'.rows=rows'
theorem Ti(l:eX)(c:List Ch)(d:Dk):kl l.z c d=(((kl l c d).1.1.z,(kl l c d).1.2),(kl l c d).2):=by
 have a:ed l.z c d=ed l c d:=rfl
 have b:∀n d,ea l.z n d=ea l n d:=fun _ _=>rfl
 unfold kl
 rw[a]
 simp only[b]
 repeat' split
 all_goals rfl
theorem It {c:Ch}(h:x∈jq rows c):x∈rows∨(x=c∧c.2.2=false):=by
 unfold jq at h
 split at h
 ·exact .inl (fF.1 h).1
 ·rename_i hg
  have a:c.2.2=false:=by simpa using hg
  induction rows with
  | nil=>
   rcases aY.1 h with e|e
   ·exact .inr ⟨e,a⟩
   ·cases e
  | cons y l ih=>
   have b:x∈(if Mn (ck c) (ck y) then c::(y::l).filter (fun z=>decide (ck z≠ck c)) else y::jY ck c l):=h
   split at b
   ·rcases aY.1 b with e|e
    ·exact .inr ⟨e,a⟩
    ·exact .inl (fF.1 e).1
   ·rcases aY.1 b with e|e
    ·exact .inl (by rw[e];exact bO)
    ·rcases ih e with k|k
     ·exact .inl (aE _ k)
     ·exact .inr k
theorem rN:∀{l rows:List Ch} {x:Ch},x∈dw rows l→x∈rows∨(x∈l∧x.2.2=false)
 | [],_,_,h=>.inl h
 | c::l,rows,x,h=>by
  have a:x∈dw (jq rows c) l:=h
  rcases rN a with k|k
  ·rcases It k with k|k
   ·exact .inl k
   ·exact .inr ⟨by rw[k.1];exact bO,by rw[k.1];exact k.2⟩
  ·exact .inr ⟨aE _ k.1,k.2⟩
theorem lJ.apply (h:lJ rows) (a:∀x∈c,dQ x=0):lJ (dw rows c):=
 ⟨sI h.pj c,fun x hx=>by
  rcases rN hx with k|k
  ·exact h.ok x k
  ·exact a x k.1,fun x hx=>by
  rcases rN hx with k|k
  ·exact h.here x k
  ·exact k.2⟩
theorem NI (h:dQ x=0):0<x.1.length:=by
 obtain⟨key,c,b⟩:=x
 rw[Cw] at h
 cases key with
 | nil=>simp[dB] at h
 | cons a l=>simp
theorem GG:∀(l:List aK) (p:Nat) (d:Dk),(sV p l d).1.wait.length≤d.wait.length+l.length
 | [],_,_=>aq _
 | a::l,p,d=>by
  have b:=oa d (p:Int) a
  show(if d.jJ (p:Int) a=0 then sV (p+1) l (d.wr (p:Int) a) else (d.wr (p:Int) a,d.jJ (p:Int) a)).1.wait.length≤_
  split
  ·have:=GG l (p+1) (d.wr (p:Int) a)
   rw[an];omega
  ·rw[an];show(d.wr (p:Int) a).wait.length≤_;omega
theorem zR(a:V7)(t:aK)(d:Dk):(AV a t d).1.wait.length≤d.wait.length+(ru t).length+1:=by
 have b:=GG (ru t) (2+a.side*21) d
 have c:=qu (sV (2+a.side*21) (ru t) d).1
 have e:=oa (sV (2+a.side*21) (ru t) d).1.fl ((a.bU%2:Nat):Int) (pM a)
 have f:=qu ((sV (2+a.side*21) (ru t) d).1.fl.wr ((a.bU%2:Nat):Int) (pM a))
 unfold AV
 repeat' split
 all_goals try dsimp only
 all_goals omega
structure RE (w:World) (Z:pq) (r:jZ) (d:Dk):Prop where
 st:gq w Z r.g
 dk:ef w r d
 wide:∀s∈d.now,s.length=340
 n1:50≤d.now.length
 n2:d.now.length≤120
 wt:d.wait.length≤500
 nm:¬Z.fp r 0
 l1:Z.l.from_=44∧Z.l.many=d.now.length-44∧Z.l.first≤1000000000∧Z.l.next≤Z.l.many
 hs:Z.h.side≤1∧Z.h.bU≤1000000000
 jx:lJ Z.rows
 rn:Z.rows.length≤1000
 rt:(eY Z.rows).length≤7140
theorem lP.start {Z:pq}  (h:gq w Z r.g)(a:ef w r d):lP w w Z r Z r d:=⟨a,rfl,h,rfl,al.refl _ _,fun _ h=>.inl h⟩
theorem lP.ext{w v b:World}{Z c:pq}{r e:jZ}{d:Dk}(h:lP w v Z r c e d)(a:bf v b):lP w b Z r c e d:=⟨h.dk.ext a,h.g,h.st.ext a,h.sg,h.o.ae a,h.f⟩
theorem lP.trans{w v u:World}{Z a c:pq}{r d i:jZ}{l j:Dk}(h:lP w v Z r a d l)(k:lP v u a d c i j):lP w u Z r c i j:=
 ⟨k.dk,k.g.trans h.g,by have:=k.st;rw[h.g] at this;exact this,k.sg.trans h.sg,h.o.trans k.o fun b hb e=>by
  rcases h.f b e with e|e
  ·exact e
  ·omega,fun b hb=>by
  rcases k.f b hb with e|e
  ·exact h.f b e
  ·exact .inr (aJ h.o.size e)⟩
theorem lP.from{v u:World}{Z a:pq}{c:jZ}{d:Dk}(i:bf w v)(h:lP v u Z r a c d):lP w u Z r a c d:=
 ⟨h.dk,h.g,h.st,h.sg,(al.any i:al (Z.fp r) w v).trans h.o fun _ _ e=>e,fun b hb=>by
  rcases h.f b hb with e|e
  ·exact .inl e
  ·exact .inr (aJ i.size e)⟩
theorem pq.yV {Z:pq}  (h:gq w Z r.g)(b:ef w r d){g:Nat}{t:TypeId}{cs:Array Value}(a:Cs w g t cs)(c:yp≠t)(f:GR≠t)(i:xZ≠t)(j:nC≠t)(k:DQ≠t):¬Z.fp r g:=by
 rintro(e|e|e)
 ·exact jl b a c f i e
 ·exact Cs.oC h.cs a j e.symm
 ·exact Cs.oC h.lg a k e.symm
def rV(n:Nat)(s:aK):Prop:=∀m,n<m→m<4294967296→je s m=none
theorem rV.mono{a:Nat} (h:rV n s)(b:n≤a):rV a s:=fun m h1 h2=>h m (by omega) h2
theorem rV.zero(n:Nat):rV n (ec []):=fun m _ _=>rS m
theorem KT{m:Nat}(i:n<4294967296)(j:m<4294967296)(h:dU n=dU m):n=m:=by
 unfold dU at h
 simp only[List.cons.injEq,and_true] at h
 obtain⟨c,d,f,g⟩:=h
 have e:∀a b:Nat,a<256→b<256→bt (a:Int)=bt (b:Int)→a=b:=fun a b ha hb h=>by
  have:=congrArg UInt8.toNat h
  rwa [mC a ha,mC b hb] at this
 rw[show((n:Int)%256)=((n%256:Nat):Int) by omega,show((m:Int)%256)=((m%256:Nat):Int) by omega] at c
 rw[show((n:Int)/256%256)=((n/256%256:Nat):Int) by omega,show((m:Int)/256%256)=((m/256%256:Nat):Int) by omega] at d
 rw[show((n:Int)/65536%256)=((n/65536%256:Nat):Int) by omega,show((m:Int)/65536%256)=((m/65536%256:Nat):Int) by omega] at f
 rw[show((n:Int)/16777216%256)=((n/16777216%256:Nat):Int) by omega,show((m:Int)/16777216%256)=((m/16777216%256:Nat):Int) by omega] at g
 have k:=e _ _ (by omega) (by omega) c
 have l:=e _ _ (by omega) (by omega) d
 have o:=e _ _ (by omega) (by omega) f
 have p:=e _ _ (by omega) (by omega) g
 omega
theorem rV.text(k:UInt8)(n:Nat)(s:aK)(a:n<4294967296):rV n (ec (eM k n s)):=fun m h1 h2=>by
 unfold je
 rw[aa]
 rintro⟨e,_⟩
 have:(List.take 5 (ec (eM k n s))).tail=dU n:=rfl
 rw[this] at e
 have:=KT a h2 e
 omega
theorem vB(n:Nat)(d:n<4294967296)(a b:aK):ob (a++(dU n++b)) a.length=n:=by
 have e:∀i,(a++(dU n++b)).getD (a.length+i) 0=(dU n++b).getD i 0:=fun i=>by
  simp[aL,dG]
 have c:=e 0
 rw[fK] at c
 unfold ob
 rw[c,e 1,e 2,e 3]
 show(bt ((n:Int)%256)).toNat+(bt ((n:Int)/256%256)).toNat*256+(bt ((n:Int)/65536%256)).toNat*65536+(bt ((n:Int)/16777216%256)).toNat*16777216=n
 rw[show((n:Int)%256)=((n%256:Nat):Int) by omega,show((n:Int)/256%256)=((n/256%256:Nat):Int) by omega,show((n:Int)/65536%256)=((n/65536%256:Nat):Int) by omega,show((n:Int)/16777216%256)=((n/16777216%256:Nat):Int) by omega]
 rw[mC _ (by omega),mC _ (by omega),mC _ (by omega),mC _ (by omega)]
 omega
theorem Cy (b:h.bU<4294967296)(j:h.side≤1)(k:h.size≤7140)(c:1≤h.first∧h.first<4294967296):pE (ec (pM h))=h:=by
 have a:ec (pM h)=72::(dU h.bU++(dU h.side++(dU h.size++(dU h.first++qy (340-(pM h).length))))):=by
  unfold ec pM
  simp
 have d:ob (ec (pM h)) 1=h.bU:=by rw[a];exact vB h.bU b [72] _
 have f:ob (ec (pM h)) 5=h.side:=by rw[a];exact vB h.side (by omega) (72::dU h.bU) _
 have g:ob (ec (pM h)) 9=h.size:=by
  rw[a]
  have:=vB h.size (by omega) (72::(dU h.bU++dU h.side)) (dU h.first++qy (340-(pM h).length))
  simpa [jd] using this
 have i:ob (ec (pM h)) 13=h.first:=by
  rw[a]
  have:=vB h.first c.2 (72::(dU h.bU++(dU h.side++dU h.size))) (qy (340-(pM h).length))
  simpa [jd] using this
 unfold pE
 rw[d,f,g,i,aa]
 rintro(e|e|e|e)
 ·apply e;rw[a];rfl
 ·omega
 ·omega
 ·omega
theorem Lt:pE (ec [])=⟨0,0,0,0⟩:=by
 unfold pE
 rw[ab]
 left
 decide
structure gM (now:List aK) (h:V7) (l:eX) (rows:List Ch):Prop where
 wide:∀s∈now,s.length=340
 n:50≤now.length∧now.length≤120
 lg:l.from_=44∧l.many=now.length-44∧l.first=h.first∧1≤l.first∧l.first≤1000000000∧l.next≤l.many
 hd:1≤h.bU∧h.bU≤1000000000∧h.side≤1∧h.size≤7140
 cur:pE (now.getD (h.bU%2) [])=h
 Bu:(pE (now.getD ((h.bU+1)%2) [])).bU<h.bU
 all:∃base out,lJ base∧base.length≤1000∧(sB now h.side 21).take h.size=eY base∧ee l.first (sj l now) 0 [] [] 0=(out,l.next)∧rows=oy base out
 jx:lJ rows∧lK rows=false
 num:∀k s,k<l.many→now[44+k]?=some s→rV (l.first+k) s
theorem gM.sel  {l:eX} (H:gM now h l rows):Ty now=h:=by
 have a:=H.cur
 have b:=H.Bu
 have d:=H.hd.1
 show BA (BA ⟨0,0,0,0⟩ (pE (now.getD 0 []))) (pE (now.getD 1 []))=h
 rcases Nat.mod_two_eq_zero_or_one h.bU with e|e
 ·rw[e] at a
  rw[show(h.bU+1)%2=1 by omega] at b
  rw[a]
  have c:BA ⟨0,0,0,0⟩ h=h:=ab (by show 0<h.bU;omega)
  rw[c]
  exact aa (by omega)
 ·rw[e] at a
  rw[show(h.bU+1)%2=0 by omega] at b
  rw[a]
  refine ab ?_
  unfold BA
  split
  ·exact b
  ·show 0<h.bU;omega
theorem EO (h:dQ x=0)(b:x.1.getD 0 0=102):x.2.1.length≤20:=by
 unfold dQ at h
 split at h
 ·split at h
  ·cases h
  ·rename_i hn
   by_cases a:20<x.2.1.length
   ·exact absurd (.inr ⟨(show DH x.1=x.1.getD 0 0 by cases x.1<;>rfl).trans b,a⟩) hn
   ·omega
 ·cases h
theorem J9:∀rows:List Ch,(∀x∈rows,dQ x=0)→(eY rows).length≤33*jA rows+313*(rows.length-jA rows)
 | [],_=>by simp[eY]
 | x::r,h=>by
  have ih:=J9 r fun y hy=>h y (aE _ hy)
  have a:=h x bO
  have c:=nG a
  have d:=oV a
  have f:=xo r
  rw[Cd,af,Gm,an]
  by_cases b:(x.1.getD 0 0==102)=true
  ·have g:=EO a (by simpa using b)
   have e:jA (x::r)=jA r+1:=by unfold jA;rw[dC,ab b,an]
   rw[e]
   omega
  ·have e:jA (x::r)=jA r:=by unfold jA;rw[dC,aa b]
   rw[e]
   omega
theorem Ai (h:lJ rows)(a:lK rows=false):rows.length≤40∧(eY rows).length≤7140:=by
 have b:=J9 rows h.ok
 have c:=xo rows
 unfold lK at a
 simp only[dM,aA] at a
 omega
theorem gM.small  {l:eX} (H:gM now h l rows):rows.length≤40∧(eY rows).length≤7140:=Ai H.jx.1 H.jx.2
theorem vs{l a:List aK}{i:Nat}(h:l[i]?=a[i]?):l.getD i []=a.getD i []:=by
 rw[aL,aL,h]
theorem wU  (h:∀i,2+side*21≤i→i<2+side*21+21→N'[i]?=N[i]?):sB N' side 21=sB N side 21:=by
 unfold sB
 congr 1
 apply iw
 intro k
 by_cases a:k<21
 ·rw[cP a,cP a,cQ,cQ,h _ (by omega) (by omega)]
 ·rw[cg (by rw[aH];omega),cg (by rw[aH];omega)]
theorem Ph{l:eX} (h:∀k,k<l.many→N'[l.from_+k]?=N[l.from_+k]?):sj l N'=sj l N:=by
 apply iw
 intro k
 by_cases a:k<l.many
 ·rw[mT a,mT a,h k a]
 ·rw[cg (by rw[aH];omega),cg (by rw[aH];omega)]
theorem gM.other{a:List aK} {l:eX} (H:gM now h l rows)(d:∀s∈a,s.length=340)(c:a.length=now.length)(b:∀i,¬(2+(1-h.side)*21≤i∧i<2+(1-h.side)*21+21)→a[i]?=now[i]?):gM a h l rows:=by
 obtain⟨base,out,b1,b2,b3,e,f⟩:=H.all
 have j:=H.hd.2.2.1
 have g:=H.lg
 refine⟨d,by rw[c];exact H.n,by rw[c];exact g,H.hd,?_,?_,⟨base,out,b1,b2,?_,?_,f⟩,H.jx,fun k s hk hx=>H.num k s hk ?_⟩
 ·rw[vs (b _ (by omega))];exact H.cur
 ·rw[vs (b _ (by omega))];exact H.Bu
 ·rw[wU fun i h1 h2=>b i (by omega)];exact b3
 ·rw[Ph fun k hk=>b _ (by omega)];exact e
 ·rw[←b _ (by omega)];exact hx
theorem RK (h:d.Ok){p:Nat} (a:p<d.now.length)(b:s.length≤340) :
  (d.jJ (p:Int) s=11∧d.ix≠-1∧(d.wr (p:Int) s).kept=d.kept∧(d.wr (p:Int) s).wait=d.wait∧(d.wr (p:Int) s).now.length=d.now.length) ∨
  (d.jJ (p:Int) s=0∧(d.wr (p:Int) s).Ok∧(d.ix=-1→(d.wr (p:Int) s).ix=-1)∧(d.wr (p:Int) s).kept=d.kept∧(d.wr (p:Int) s).wait=d.wait++[(p,ec s)]∧(d.wr (p:Int) s).now=d.now.set p (ec s)):=by
 rcases GZ h a b with⟨h1,h2⟩|⟨h1,h2,h3⟩
 ·refine .inl ⟨h1,fun e=>?_,h2⟩
  have:=(tK h.dn e a b).2
  rw[this] at h1
  cases h1
 ·refine .inr ⟨h1,h2,fun e=>?_,h3⟩
  rw[(tK h.dn e a b).1]
  exact e
theorem RQ (h:d.Ok) :
  (d.oK=11∧d.ix≠-1∧d.fl.kept=d.kept∧d.fl.wait=d.wait∧d.fl.now.length=d.now.length)∨(d.oK=0∧d.fl.Ok∧(d.ix=-1→d.fl.ix=-1)∧d.fl.kept=d.now∧d.fl.wait=[]∧d.fl.now=d.now):=by
 rcases ES h with⟨h1,h2⟩|⟨h1,h2,h3⟩
 ·refine .inl ⟨h1,fun e=>?_,h2⟩
  have:=(vT h.dn e).2
  rw[this] at h1
  cases h1
 ·refine .inr ⟨h1,h2,fun e=>?_,h3⟩
  rw[(vT h.dn e).1]
  exact e
theorem M6:∀(L:List aK) (p:Nat) (d:Dk),d.Ok→p+L.length≤d.now.length→(∀s∈L,s.length≤340) →
  ∃b f,sV p L d=(b,f)∧b.kept=d.kept∧b.now.length=d.now.length∧(∀t∈b.wait,t∈d.wait∨(p≤t.1∧t.1<p+L.length∧t.2.length=340)) ∧
   ((f=11∧d.ix≠-1)∨(f=0∧b.Ok∧(d.ix=-1→b.ix=-1)∧∀i,b.now[i]?=if p≤i∧i<p+L.length then (L[i-p]?).map ec else d.now[i]?))
 | [],p,d,hd,_,_=>⟨d,0,rfl,rfl,rfl,fun t ht=>.inl ht,.inr ⟨rfl,hd,id,fun i=>by rw[aa (by simp)]⟩⟩
 | a::L,p,d,hd,hl,hs=>by
  rw[an] at hl
  have g:=hs a bO
  have e:sV p (a::L) d=if d.jJ (p:Int) a=0 then sV (p+1) L (d.wr (p:Int) a) else (d.wr (p:Int) a,d.jJ (p:Int) a):=rfl
  rw[e]
  rcases RK hd (p:=p) (s:=a) (by omega) g with⟨h1,h2,h3,h4,h5⟩|⟨h1,h2,h3,h4,h5,h6⟩
  ·rw[h1,aa (by decide)]
   exact⟨_,11,rfl,h3,h5,fun t ht=>by rw[h4] at ht;exact .inl ht,.inl ⟨rfl,h2⟩⟩
  ·rw[ab h1]
   obtain⟨b,f,k,l,m,n,o⟩:=M6 L (p+1) (d.wr (p:Int) a) h2 (by rw[h6,bT];omega) fun s hm=>hs s (aE _ hm)
   refine⟨b,f,k,by rw[l,h4],by rw[m,h6,bT],fun t ht=>?_,?_⟩
   ·rcases n t ht with h|h
    ·rw[h5] at h
     rcases az.1 h with h|h
     ·exact .inl h
     ·rw[aC] at h
      subst h
      exact .inr ⟨aq _,by show p<p+(L.length+1);omega,fV _ g⟩
    ·exact .inr ⟨by omega,by rw[an];omega,h.2.2⟩
   ·rcases o with⟨k1,k2⟩|⟨k1,k2,k3,k4⟩
    ·exact .inl ⟨k1,fun e=>k2 (h3 e)⟩
    ·refine .inr ⟨k1,k2,fun e=>k3 (h3 e),fun i=>?_⟩
     rw[k4,h6,an]
     by_cases j:p+1≤i∧i<p+1+L.length
     ·rw[ab j,ab (by omega),show i-p=i-(p+1)+1 by omega,aQ]
     ·rw[aa j]
      by_cases c:i=p
      ·subst c
       rw[ab (by omega),gI,cR (by omega)]
       try rfl
      ·rw[aa (by omega),df (by omega)]
theorem On (h:0<t.length):ru t=t.take 340::ru (t.drop 340):=by
 unfold ru
 have e:yl t.length=yl (t.drop 340).length+1:=by
  rw[be]
  unfold yl
  omega
 rw[e,List.range_succ_eq_map,du,List.map_map]
 congr 1
 apply iP
 intro k _
 show pL t (k+1)=pL (t.drop 340) k
 unfold pL
 rw[cX]
 congr 2
 omega
theorem Qu (h:s.length=340):ec s=s:=by
 unfold ec
 rw[h]
 simp[qy]
theorem Fh:∀(n:Nat) (t rest:aK),t.length≤n→(((ru t).map ec).flatten++rest).take t.length=t
 | 0,t,rest,h=>by
  have:t=[]:=bM (by omega)
  subst this
  simp
 | n+1,t,rest,h=>by
  by_cases c:0<t.length
  ·rw[On c,du,List.flatten_cons,aT]
   by_cases a:t.length≤340
   ·rw[ay (i:=340) a,show ec t=t++qy (340-t.length) from rfl,aT]
    exact fJ rfl
   ·have b:(t.take 340).length=340:=by rw[aH];omega
    rw[Qu b,List.take_append,b]
    rw[ay (by omega)]
    have ih:=Fh n (t.drop 340) rest (by rw[be];omega)
    rw[be] at ih
    rw[ih]
    exact dX 340 t
  ·have:t=[]:=bM (by omega)
   subst this
   simp
theorem yT(t:aK):(ru t).length=yl t.length:=by simp[ru]
theorem DK (h:n≤7140):yl n≤21:=by unfold yl;omega
theorem Rl   (a:t.length≤7140)(h:∀i,2+side*21≤i→i<2+side*21+(ru t).length→N[i]?=((ru t)[i-(2+side*21)]?).map ec):(sB N side 21).take t.length=t:=by
 unfold sB
 have c:(ru t).length≤21:=by rw[yT];exact DK a
 have b:(N.drop (2+side*21)).take 21=(ru t).map ec++((N.drop (2+side*21)).take 21).drop ((ru t).map ec).length:=EI fun k hk=>by
  rw[bH] at hk
  rw[cP (by omega),cQ,h _ (by omega) (by omega),bP]
  congr 2
  omega
 rw[b,jE]
 exact Fh t.length t _ (aq _)
theorem gM.head  {l:eX} (H:gM now h l rows)(p:h.bU+1≤1000000000∧l.first+l.many≤1000000000)(v:(sB now (1-h.side) 21).take (eY rows).length=eY rows)(g:Nat) :
  gM (now.set ((h.bU+1)%2) (ec (pM (lf h l (eY rows))))) (lf h l (eY rows)) ⟨g,44,now.length-44,l.first+l.many,0⟩ rows ∧
   ee (l.first+l.many) (((now.set ((h.bU+1)%2) (ec (pM (lf h l (eY rows))))).drop 44).take (now.length-44)) 0 [] [] 0=([],0) ∧
   ∀k s,k<now.length-44→(now.set ((h.bU+1)%2) (ec (pM (lf h l (eY rows)))))[44+k]?=some s→je s (l.first+l.many+k)=none:=by
 have f:=H.small
 have z:=H.hd.2.2.1
 have A:=H.lg
 have w:=H.n
 have j:pE (ec (pM (lf h l (eY rows))))=lf h l (eY rows):=Cy (by show h.bU+1<_;omega) (by show 1-h.side≤1;omega) f.2 ⟨by show 1≤l.first+l.many;omega,by show l.first+l.many<_;omega⟩
 have y:(h.bU+1)%2<now.length:=by omega
 have q:(h.bU+1)%2<2:=Nat.mod_lt _ (by omega)
 obtain⟨a,b⟩:∃x,x=now.set ((h.bU+1)%2) (ec (pM (lf h l (eY rows)))):=⟨_,rfl⟩
 rw[←b]
 have d:a.length=now.length:=by rw[b,bT]
 have c:∀i,i≠(h.bU+1)%2→a[i]?=now[i]?:=fun i hi=>by rw[b];exact df (Ne.symm hi)
 have e:∀k s,k<now.length-44→a[44+k]?=some s→je s (l.first+l.many+k)=none:=fun k s o hx=>by
  rw[c _ (by omega)] at hx
  exact H.num k s (by omega) hx _ (by omega) (by omega)
 have m:ee (l.first+l.many) ((a.drop 44).take (now.length-44)) 0 [] [] 0=([],0):=by
  have t:((a.drop 44).take (now.length-44))[0]?=a[44]?:=by rw[cP (by omega),cQ]
  cases hL:(a.drop 44).take (now.length-44) with
  | nil=>rfl
  | cons s r=>
   rw[hL] at t
   have u:=e 0 s (by omega) t.symm
   rw[jt,u]
 refine⟨⟨by rw[b];exact mF H.wide (fV _ (by rw[tL];omega)),by rw[d];exact w,⟨rfl,by rw[d],rfl,by show 1≤l.first+l.many;omega,p.2,au _⟩,⟨by show 1≤h.bU+1;omega,p.1,by show 1-h.side≤1;omega,f.2⟩,?_,?_,⟨rows,[],H.jx.1,by omega,?_,?_,rfl⟩,H.jx,fun k s o hx=>?_⟩,m,e⟩
 ·show pE (a.getD ((h.bU+1)%2) [])=_
  rw[aL,b,cR y]
  exact j
 ·show(pE (a.getD ((h.bU+1+1)%2) [])).bU<h.bU+1
  rw[show(h.bU+1+1)%2=h.bU%2 by omega,vs (c (h.bU%2) (by omega)),H.cur]
  omega
 ·show(sB a (1-h.side) 21).take (eY rows).length=eY rows
  rw[wU fun i u h2=>c i (by omega)]
  exact v
 ·show ee (l.first+l.many) ((a.drop 44).take (now.length-44)) 0 [] [] 0=([],0)
  exact m
 ·have o:k<now.length-44:=o
  rw[c _ (by omega)] at hx
  exact(H.num k s (by omega) hx).mono (by show l.first+k≤l.first+l.many+k;omega)
theorem NP  {l:eX} (H:gM d.now h l rows)(A:d.Ok)(B:d.kept=d.now)(C:d.wait=[])(D:h.bU+1≤1000000000∧l.first+l.many≤1000000000) :
  ∃d' f,AV (lf h l (eY rows)) (eY rows) d=(d',f)∧d'.now.length=d.now.length ∧
   ((f=0∧d'.Ok∧d'.kept=d'.now∧d'.wait=[]∧(d.ix=-1→d'.ix=-1)∧(∀g,gM d'.now (lf h l (eY rows)) ⟨g,44,d.now.length-44,l.first+l.many,0⟩ rows) ∧
     ee (l.first+l.many) ((d'.now.drop 44).take (d.now.length-44)) 0 [] [] 0=([],0)∧∀k s,k<d.now.length-44→d'.now[44+k]?=some s→je s (l.first+l.many+k)=none) ∨
    (f=11∧d.ix≠-1∧∀K,∃h2 l2,gM (eV K d'.kept d'.wait 0) h2 l2 rows∧h2.bU≤h.bU+1∧l2.first≤l.first+l.many)):=by
 have m:=H.small
 have M:=H.hd.2.2.1
 have N:=H.n
 have E:(ru (eY rows)).length≤21:=by rw[yT];exact DK m.2
 obtain⟨a,v,F,G,c,I,J⟩:=M6 (ru (eY rows)) (2+(1-h.side)*21) d A (by omega) (Mt _)
 have L:AV (lf h l (eY rows)) (eY rows) d=if v≠0 then (a,v) else if a.oK≠0 then (a.fl,a.oK)
   else if a.fl.jJ (((h.bU+1)%2:Nat):Int) (pM (lf h l (eY rows)))≠0 then (a.fl.wr (((h.bU+1)%2:Nat):Int) (pM (lf h l (eY rows))),a.fl.jJ (((h.bU+1)%2:Nat):Int) (pM (lf h l (eY rows))))
   else ((a.fl.wr (((h.bU+1)%2:Nat):Int) (pM (lf h l (eY rows)))).fl,(a.fl.wr (((h.bU+1)%2:Nat):Int) (pM (lf h l (eY rows)))).oK):=by
  unfold AV
  rw[show(lf h l (eY rows)).side=1-h.side from rfl,show(lf h l (eY rows)).bU=h.bU+1 from rfl,F]
 have b:∀d':Dk,d'.kept=a.kept→d'.wait=a.wait→∀K,∃h2 l2,gM (eV K d'.kept d'.wait 0) h2 l2 rows∧h2.bU≤h.bU+1∧l2.first≤l.first+l.many:=fun d' k1 k2 K=>by
  rw[k1,k2,G,B]
  have w:∀t∈a.wait,2+(1-h.side)*21≤t.1∧t.1<2+(1-h.side)*21+21∧t.2.length=340:=fun t ht=>by
   rcases I t ht with k|k
   ·rw[C] at k;cases k
   ·exact⟨k.1,by omega,k.2.2⟩
  refine⟨h,l,H.other (BF H.wide (fun t ht=>(w t ht).2.2) K) (lX _ _ _ _) fun i hi=>?_,fN _,fU _ _⟩
  rcases pK K a.wait d.now 0 i with k|⟨t,h4,h5,_⟩
  ·exact k
  ·have:=w t h4
   omega
 rw[L]
 rcases J with⟨rfl,hfu⟩|⟨rfl,o1,fu1,g1⟩
 ·rw[ab (by decide)]
  exact⟨a,11,rfl,c,.inr ⟨rfl,hfu,b a rfl rfl⟩⟩
 rw[aa (fun e=>e rfl)]
 rcases RQ o1 with⟨k1,k2,k3,k4,k5⟩|⟨k1,k2,k3,k4,k5,k6⟩
 ·rw[k1,ab (by decide)]
  exact⟨a.fl,11,rfl,by rw[k5,c],.inr ⟨rfl,fun e=>k2 (fu1 e),b a.fl k3 k4⟩⟩
 rw[k1,aa (fun e=>e rfl)]
 have o:gM a.now h l rows:=H.other o1.wide c fun i hi=>by rw[g1,aa (by omega)]
 have q:(sB a.now (1-h.side) 21).take (eY rows).length=eY rows:=Rl m.2 fun i i1 i2=>by rw[g1,ab ⟨i1,i2⟩]
 have j:=o.head D q
 have r:(h.bU+1)%2<a.fl.now.length:=by rw[k6,c];omega
 rw[c] at j
 rcases RK k2 (p:=(h.bU+1)%2) (s:=pM (lf h l (eY rows))) r (by rw[tL];omega) with⟨w1,w2,w3,w4,w5⟩|⟨w1,w2,w3,w4,w5,w6⟩
 ·rw[w1,ab (by decide)]
  refine⟨_,11,rfl,by rw[w5,k6,c],.inr ⟨rfl,fun e=>w2 (k3 (fu1 e)),fun K=>?_⟩⟩
  rw[w3,w4,k4,k5]
  exact⟨h,l,o,fN _,fU _ _⟩
 rw[w1,aa (fun e=>e rfl)]
 obtain⟨y,u⟩:∃x,x=a.fl.wr (((h.bU+1)%2:Nat):Int) (pM (lf h l (eY rows))):=⟨_,rfl⟩
 rw[←u] at w2 w3 w4 w5 w6 ⊢
 rw[k6] at w6
 rw[←w6] at j
 rcases RQ w2 with⟨q1,q2,q3,q4,q5⟩|⟨q1,q2,q3,q4,q5,q6⟩
 ·rw[q1]
  refine⟨y.fl,11,rfl,by rw[q5,w6,bT,c],.inr ⟨rfl,fun e=>q2 (w3 (k3 (fu1 e))),fun K=>?_⟩⟩
  rw[q3,q4,w4,w5,k4,k5,cW]
  show ∃h2 l2,gM (if tV K 0 then a.now.set _ _ else a.now) h2 l2 rows∧h2.bU≤h.bU+1∧l2.first≤l.first+l.many
  by_cases z:tV K 0=true
  ·rw[ab z]
   exact⟨_,_,by have:=(j 0).1;rw[w6] at this;exact this,aq _,aq _⟩
  ·rw[aa z]
   exact⟨h,l,o,fN _,fU _ _⟩
 ·rw[q1]
  refine⟨y.fl,0,rfl,by rw[q6,w6,bT,c],.inl ⟨rfl,q2,by rw[q4,q6],q5,fun e=>q3 (w3 (k3 (fu1 e))),fun g=>by rw[q6];exact(j g).1,by rw[q6];exact(j 0).2.1,by rw[q6];exact(j 0).2.2⟩⟩
structure ux (l:eX) (d0 d:Dk):Prop where
 len:d.now.length=d0.now.length∧d.kept.length=d0.kept.length
 ou:∀i,i<l.from_∨l.from_+l.many≤i→d.now[i]?=d0.now[i]?
 Qx:∀i,i<l.from_∨l.from_+l.many≤i→d.kept[i]?=d0.kept[i]?∨d.kept[i]?=d0.now[i]?
 wt:∀t∈d.wait,l.from_≤t.1∧t.1<l.from_+l.many∧rV (l.first+(t.1-l.from_)) t.2
 num:∀k s,k<l.many→d.now[l.from_+k]?=some s→rV (l.first+k) s
 QH:∀k s,k<l.many→d.kept[l.from_+k]?=some s→rV (l.first+k) s
theorem ux.wr{l:eX}{f d:Dk}(h:ux l f d){k:Nat}(n:k<l.many){s:aK}(m:rV (l.first+k) (ec s)):ux l f (d.wr ((l.from_+k:Nat):Int) s):=by
 have b:d.cJ.now=d.now∧d.cJ.kept=d.kept∧d.cJ.wait=d.wait:=by
  unfold Dk.cJ
  repeat' split
  all_goals exact⟨rfl,rfl,rfl⟩
 have a:ux l f d.cJ:=⟨by rw[b.1,b.2.1];exact h.len,by rw[b.1];exact h.ou,by rw[b.2.1];exact h.Qx,by rw[b.2.2];exact h.wt,by rw[b.1];exact h.num,by rw[b.2.1];exact h.QH⟩
 unfold Dk.wr
 split
 ·exact h
 ·split
  ·exact a
  ·show ux l f { d.cJ with now:=d.cJ.now.set (l.from_+k) (ec s),wait:=d.cJ.wait++[(l.from_+k,ec s)] }
   refine⟨⟨by show(d.cJ.now.set _ _).length=_;rw[bT];exact a.len.1,a.len.2⟩,fun i hi=>?_,a.Qx,fun t ht=>?_,fun j x hj c=>?_,a.QH⟩
   ·show(d.cJ.now.set (l.from_+k) (ec s))[i]?=_
    rw[df (by omega)]
    exact a.ou i hi
   ·rcases az.1 ht with ht|ht
    ·exact a.wt t ht
    ·rw[aC] at ht
     subst ht
     exact⟨fU _ _,by show l.from_+k<_;omega,by show rV (l.first+(l.from_+k-l.from_)) (ec s);rw[show l.from_+k-l.from_=k by omega];exact m⟩
   ·have c:(d.cJ.now.set (l.from_+k) (ec s))[l.from_+j]?=some x:=c
    by_cases e:k=j
    ·subst e
     by_cases g:l.from_+k<d.cJ.now.length
     ·rw[cR g] at c
      injection c with c
      rw[←c];exact m
     ·rw[cg (by rw[bT];omega)] at c
      cases c
    ·rw[df (by omega)] at c
     exact a.num j x hj c
theorem ux.fl{l:eX}{b d:Dk}(h:ux l b d)(c:b.kept.length=b.now.length):ux l b d.fl:=by
 have a:d.cJ.now=d.now∧d.cJ.kept=d.kept∧d.cJ.wait=d.wait:=by
  unfold Dk.cJ
  repeat' split
  all_goals exact⟨rfl,rfl,rfl⟩
 unfold Dk.fl
 split
 ·exact⟨by rw[a.1,a.2.1];exact h.len,by rw[a.1];exact h.ou,by rw[a.2.1];exact h.Qx,by rw[a.2.2];exact h.wt,by rw[a.1];exact h.num,by rw[a.2.1];exact h.QH⟩
 ·show ux l b { d.cJ with kept:=d.cJ.now,wait:=[] }
  exact⟨⟨by show d.cJ.now.length=_;rw[a.1];exact h.len.1,by show d.cJ.now.length=_;rw[a.1,h.len.1,c]⟩,by show ∀i,_→d.cJ.now[i]?=_;rw[a.1];exact h.ou,fun i hi=>.inr (by show d.cJ.now[i]?=_;rw[a.1];exact h.ou i hi),fun t ht=>(by cases ht),fun k s h1 h2=>h.num k s h1 (by rw[←a.1];exact h2),fun k s h1 h2=>h.num k s h1 (by rw[←a.1];exact h2)⟩
theorem CB{l:eX}{b:Dk}:∀(c:List Ch) (k:Nat) (d:Dk),ux l b d→k+c.length≤l.many→l.first+l.many<4294967296→ux l b (rX ((l.from_+k:Nat):Int) (l.first+k) c d).1
 | [],_,_,h,_,_=>h
 | a::c,k,d,h,hk,hb=>by
  rw[an] at hk
  have e:=h.wr (k:=k) (by omega) (s:=eM 111 (l.first+k) (gE a)) (rV.text _ _ _ (by omega))
  rw[qA]
  split
  ·exact CB c (k+1) _ e (by omega) hb
  ·exact e
theorem Kx{l:eX}  (h:ux l d d)(b:d.kept.length=d.now.length)(k:l.next+c.length+1≤l.many)(i:l.first+l.many<4294967296):ux l d (kl l c d).1.2:=by
 have a:=CB c l.next d h (by omega) i
 have e:ux l d (ed l c d).1:=by
  unfold ed
  split
  ·unfold ry
   split
   ·exact a.wr (by omega) (rV.zero _)
   ·exact a
  ·exact a
 have f:=e.fl b
 have g:ux l d (ea l c.length (ed l c d).1.fl).1:=f.wr (by omega) (rV.text _ _ _ (by omega))
 have j:=g.fl b
 unfold kl
 repeat' split
 all_goals first
  | exact h
  | exact e
  | exact f
  | exact g
  | exact j
theorem Lf{l:eX}  (f:d.Ok)(g:l.from_+l.many≤d.now.length)(h:∀x∈c,dQ x=0)(i:j4 c=0)(j:c.length≤40)(a:l.next+c.length+1≤l.many):(kl l c d).2=0∨(kl l c d).2=11:=by
 obtain⟨o,q,k,r,m,t,n⟩:=J7 (c:=c) f g h a
 unfold kl
 rw[aa (by omega),aa (by omega),i,aa (fun e=>e rfl),k]
 dsimp only
 rcases n with rfl|⟨rfl,o1,g1⟩
 ·rw[ab (by decide)];exact .inr rfl
 rw[aa (fun e=>e rfl)]
 rcases ES o1 with⟨k1,k2,k3,k4⟩|⟨k1,k2,k3,k4,k5⟩
 ·rw[k1,ab (by decide)];exact .inr rfl
 rw[k1,aa (fun e=>e rfl)]
 have b:=nB 99 (l.first+(l.next+c.length)) (dU c.length)
 rw[jd] at b
 unfold ea
 dsimp only
 rcases GZ k2 (p:=l.from_+(l.next+c.length)) (s:=eM 99 (l.first+(l.next+c.length)) (dU c.length)) (by rw[k5,m];omega) (by omega) with⟨w1,w2⟩|⟨w1,w2,w3⟩
 ·rw[w1,ab (by decide)];exact .inr rfl
 rw[w1,aa (fun e=>e rfl)]
 rcases ES w2 with⟨q1,q2⟩|⟨q1,q2⟩
 ·rw[q1,ab (by decide)];exact .inr rfl
 ·rw[q1,aa (fun e=>e rfl)];exact .inl rfl
theorem xj(base:List Ch)(out:List (List Ch))(c:List Ch):oy base (out++[c])=dw (oy base out) c:=by
 unfold oy
 rw[eW]
 try rfl
def sq(l:eX)(now:List aK):Prop:=∀k s,l.next≤k→k<l.many→now[l.from_+k]?=some s→∀x,je s (l.first+k)≠some (99,x)
theorem J0  {l:eX} (H:gM d.now h l rows)(B:d.Ok)(C:d.kept=d.now)(L:d.wait=[])(X:d.ix=-1∨sq l d.now)(S:∀x∈c,dQ x=0)(T:j4 c=0)(D:c.length≤40)(g:l.next+c.length+1≤l.many)(M:lK (dw rows c)=false) :
  ∃b f,kl l c d=((if f=0 then { l with next:=l.next+c.length+1 } else l,b),f)∧b.now.length=d.now.length ∧
   ((f=0∧b.Ok∧b.kept=b.now∧b.wait=[]∧(d.ix=-1→b.ix=-1)∧gM b.now h { l with next:=l.next+c.length+1 } (dw rows c)∧(sq l d.now→sq { l with next:=l.next+c.length+1 } b.now)) ∨
    (f=11∧d.ix≠-1∧∀K,∃l2 r2,(r2=rows∨r2=dw rows c)∧gM (eV K b.kept b.wait 0) h l2 r2)):=by
 obtain⟨base,out,b1,b2,b3,N,G⟩:=H.all
 have p:=H.lg
 have Y:=H.n
 have hs:=H.hd.2.2.1
 have j:l.from_+l.many≤d.now.length:=by omega
 have a:=Kx (l:=l) (c:=c) (d:=d) ⟨⟨rfl,rfl⟩,fun _ _=>rfl,fun _ _=>.inl rfl,fun t ht=>(by rw[L] at ht;cases ht),fun k s h1 h2=>H.num k s h1 (by rw[p.1] at h2;exact h2),fun k s h1 h2=>by rw[C] at h2;exact H.num k s h1 (by rw[p.1] at h2;exact h2)⟩ (by rw[C]) g (by omega)
 have m:lJ (dw rows c):=H.jx.1.apply S
 have I:∀(now':List aK) (nx:Nat) (out':List (List Ch)) (r2:List Ch),(∀s∈now',s.length=340)→now'.length=d.now.length→(∀i,i<44→now'[i]?=d.now[i]?)→(∀k s,k<l.many→now'[44+k]?=some s→rV (l.first+k) s)→nx≤l.many→ee l.first (sj l now') 0 [] [] 0=(out',nx)→r2=oy base out'→lJ r2→lK r2=false→gM now' h { l with next:=nx } r2:=fun now' nx out' r2 k1 k2 k3 k4 k5 k6 k7 k8 k9=>by
  refine⟨k1,by rw[k2];exact Y,⟨p.1,by rw[k2];exact p.2.1,p.2.2.1,p.2.2.2.1,p.2.2.2.2.1,k5⟩,H.hd,?_,?_,⟨base,out',b1,b2,?_,k6,k7⟩,⟨k8,k9⟩,k4⟩
  ·rw[vs (k3 _ (by omega))];exact H.cur
  ·rw[vs (k3 _ (by omega))];exact H.Bu
  ·rw[wU fun i h1 h2=>k3 i (by omega)];exact b3
 by_cases w:d.ix=-1
 ·obtain⟨b,O,E,U,Z,e5,e6,e7⟩:=T6 (d:=d) ⟨B.dn,w,B.wide⟩ j N T D g
  rw[O] at a
  refine⟨b,0,by rw[ab rfl];exact O,U,.inl ⟨rfl,⟨E.dn,by rw[E.fu];omega,E.wide⟩,e5,Z,fun _=>E.fu,?_,fun P k s z1 z2 z3 x=>?_⟩⟩
  ·exact I b.now _ (out++[c]) _ E.wide U (fun i hi=>a.ou i (.inl (by omega))) (fun k s h1 h2=>a.num k s h1 (by rw[p.1];exact h2)) g e6 (by rw[xj,G]) m M
  ·obtain⟨ac,ag,ai,r,J,Q⟩:=Cv (c:=c) (l:=l) (d:=d) ⟨B,C,L,j,N,P⟩ p.2.2.2.2.2
   rw[O] at r
   injection r with r a4
   injection r with r a5
   subst a4 a5
   rcases Q with⟨_,_,_,hR⟩|⟨hz,_⟩|⟨hz,_⟩
   ·exact hR.Oq k s (by rw[←r];exact z1) (by rw[←r];exact z2) (by rw[←r];exact z3) x |> fun q=>by rw[←r] at q;exact q
   ·exact absurd rfl hz
   ·cases hz
 ·have P:=X.resolve_left w
  obtain⟨l',b,f,r,J,Q⟩:=Cv (c:=c) (l:=l) (d:=d) ⟨B,C,L,j,N,P⟩ p.2.2.2.2.2
  have v:=Lf B j S T D g
  rw[r] at v a
  rcases Q with⟨rfl,rfl,_,hR⟩|⟨hz,hz2,_⟩|⟨rfl,hll,hK⟩
  ·refine⟨b,0,by rw[ab rfl];exact r,J,.inl ⟨rfl,hR.ok,hR.kn,hR.wt,fun e=>absurd e w,?_,fun _=>hR.Oq⟩⟩
   exact I b.now _ (out++[c]) _ hR.ok.wide J (fun i hi=>a.ou i (.inl (by omega))) (fun k s h1 h2=>a.num k s h1 (by rw[p.1];exact h2)) g hR.sc (by rw[xj,G]) m M
  ·rcases v with e|e
   ·exact absurd e hz
   ·exact absurd e hz2
  ·have F:=hll.symm
   subst F
   refine⟨b,11,by rw[aa (by decide)];exact r,J,.inr ⟨rfl,w,fun K=>?_⟩⟩
   obtain⟨V,R,u,A⟩:=hK K
   have y:∀i,i<44→(eV K b.kept b.wait 0)[i]?=d.now[i]?:=fun i hi=>by
    rcases pK K b.wait b.kept 0 i with q|⟨t,q1,q2,q3⟩
    ·rw[q]
     rcases a.Qx i (.inl (by omega)) with e|e
     ·rw[e,C]
     ·exact e
    ·have:=(a.wt t q1).1
     omega
   have z:∀k s,k<l.many→(eV K b.kept b.wait 0)[44+k]?=some s→rV (l.first+k) s:=fun k s h1 h2=>by
    rcases pK K b.wait b.kept 0 (44+k) with q|⟨t,q1,q2,q3⟩
    ·rw[q] at h2
     exact a.QH k s h1 (by rw[p.1];exact h2)
    ·rw[q3] at h2
     injection h2 with h2
     have:=(a.wt t q1).2.2
     rw[q2,p.1,show 44+k-44=k by omega,h2] at this
     exact this
   have W:∀{o:List (List Ch)},ee l.first (sj l (eV K b.kept b.wait 0)) 0 [] [] 0=(o,u)→u≤l.many:=fun e=>by
    have:=(tF e).1
    rw[vr (by rw[R];exact j)] at this
    exact this
   rcases A with A|A
   ·exact⟨_,rows,.inl rfl,I _ u out rows V R y z (W A) A G H.jx.1 H.jx.2⟩
   ·exact⟨_,_,.inr rfl,I _ u (out++[c]) _ V R y z (W A) A (by rw[xj,G]) m M⟩
def KK(rows:List Ch)(used many:Nat)(c:List Ch):(List Ch×Nat)×Int:=
 if 40<c.length then ((rows,used),2)
 else if j4 c≠0 then ((rows,used),j4 c)
 else if lK (dw rows c)=true∨many<c.length+1 then ((rows,used),10)
 else ((dw rows c,(if many-used<c.length+1 then 0 else used)+c.length+1),0)
end Go.Proofs.YtpgmcijdcnnjpaaGreatDoor
