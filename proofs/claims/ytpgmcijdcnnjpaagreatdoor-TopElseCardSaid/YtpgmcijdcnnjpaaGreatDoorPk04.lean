/- Lemmas for it. -/
import Derived.Test.YtpgmcijdcnnjpaaGreatDoorPk03
set_option linter.all false
set_option maxRecDepth 100000
set_option maxHeartbeats 2000000
namespace Go.Proofs.YtpgmcijdcnnjpaaGreatDoor
open Go Go.RowKit
variable {w:World} {L s w0 w1 w2:aK} {r:Mi} {A:Option Addr} {c g i n vb:Nat} {rest:List Value}
def ko(p:aK):List aK→List aK
 | h::t=>(p++h)::t
 | []=>[p]
theorem td(c x:UInt8)(s:aK):iG c (x::s)=if x=c then []::iG c s else ko [x] (iG c s):=by
 rw[Bp]
 split
 ·rfl
 ·cases iG c s<;>rfl
theorem xI(p q:aK)(l:List aK):ko p (ko q l)=ko (p++q) l:=by
 cases l<;>simp[ko]
theorem sN{l:List aK}(h:l≠[]):ko [] l=l:=by
 cases l with
 | nil=>exact absurd rfl h
 | cons a l=>rfl
theorem oG(c:UInt8):∀s:aK,(iG c s).length≤s.length+1
 | []=>by simp[iG]
 | x::s=>by
  have:=oG c s
  rw[td]
  split
  ·simp;omega
  ·cases h:iG c s with
   | nil=>simp[ko]
   | cons a l=>rw[h] at this;simp[ko] at this ⊢;omega
theorem RU(l:List aK):l.map (fun s=>Value.string ⟨s.toArray⟩)=l.flatMap cI.enc:=by
 induction l with
 | nil=>rfl
 | cons x l ih=>rw[du,ih];rfl
theorem zN(c:UInt8)(k:Nat)(s:aK):(Lib.splitB ⟨#[c]⟩ 0 k ⟨s.toArray⟩).map Value.string=(Lib.splitK [c] 0 k s).flatMap cI.enc:=by
 rw[←RU]
 have:=Lib.splitB_data ⟨#[c]⟩ 0 k ⟨s.toArray⟩
 rw[show(⟨#[c]⟩:ByteArray).data.toList=[c] from rfl,show(⟨s.toArray⟩:ByteArray).data.toList=s from rfl] at this
 rw[←this,List.map_map]
 try rfl
theorem Ji(s:aK)(f:s.length≤100000)(c:UInt8) (b:Ml w) :
  Calls Tryz.prog 66 #[S s,S [c]] w fun e w'=>∃A' c',e=.returned (.slice A' (iG c s).length c')∧bR cI 9 w w' A' c' (iG c s):=by
 obtain⟨m,b⟩:=b
 refine(Tryz.strings_Split ⟨s.toArray⟩ ⟨#[c]⟩ m w (iZ f (by omega)) b (by show 1≤1;omega)).mono ?_
 rintro e w' ⟨rfl,rfl⟩
 have d:=n9 c _ s (aq _)
 have a:Lib.countB ⟨s.toArray⟩ ⟨#[c]⟩=Lib.count s [c]:=rfl
 have h:=oG c s
 rw[a,zN,d.1,d.2]
 refine⟨_,_,rfl,?_,(al.refl No w).alloc _,fun g hg=>by simp[Value.ownBlock] at hg;omega⟩
 refine iM (rest:=[]) (by rw[cv];exact Cs.new w _ _) (au _) (bC _ _) (by rw[cv];exact bC _ _) (aq _) (by unfold maxLen;omega)
theorem Hs(c:UInt8)  {r:List aK}(h:iG c s=w0::w1::w2::r):Lib.splitK [c] 0 2 s=[w0,w1,s.drop (w0.length+w1.length+2)]∧w0.length+w1.length+2≤s.length:=by
 rw[vM] at h
 by_cases i:(dB c s).2.2=true
 ·rw[ab i] at h
  injection h with h1 h
  rw[vM] at h
  by_cases d:(dB c (dB c s).2.1).2.2=true
  ·rw[ab d] at h
   injection h with h2 h
   have k:=mg c s i
   have f:=mg c _ d
   have l:=qs c s
   have g:=qs c (dB c s).2.1
   rw[ab i] at l
   rw[ab d] at g
   rw[h1] at l k
   rw[h2] at g f
   generalize (dB c s).2.1=t at *
   generalize (dB c t).2.1=u at *
   have m:∀(s a b:aK),s=a++c::b→s.length=a.length+b.length+1∧s.drop (a.length+1)=b∧s.take a.length=a:=by
    rintro s a b rfl
    refine⟨by simp;omega,?_,gX⟩
    rw[←cX,fB];rfl
   obtain⟨y,n,p⟩:=m _ _ _ k
   obtain⟨z,o,q⟩:=m _ _ _ f
   have v:¬(Lib.index s [c]==-1)=true:=fun e=>by have:=bY.1 e;omega
   have w:(Lib.index s [c]).toNat=w0.length:=by omega
   have j:¬(Lib.index t [c]==-1)=true:=fun e=>by have:=bY.1 e;omega
   have x:(Lib.index t [c]).toNat=w1.length:=by omega
   refine⟨?_,by omega⟩
   rw[Lib.splitK,aa v,w,fK,bE,p,n,Lib.splitK,aa j,x,fK,bE,q,o,Lib.splitK]
   rw[←o,←n,cX]
   congr 3
   congr 1
   omega
  ·rw[aa d] at h
   injection h with h h'
   cases h'
 ·rw[aa i] at h
  injection h with h h'
  cases h'
theorem Ot (g:s.length≤100000)(c:UInt8) {r:List aK}(h:iG c s=w0::w1::w2::r) (f:Ml w) :
  Calls Tryz.prog 97 #[S s,S [c],.int .i64 3] w fun e w'=>∃A' c',e=.returned (.slice A' 3 c')∧di cI w' A' 3 [w0,w1,s.drop (w0.length+w1.length+2)]∧bf w w':=by
 obtain⟨m,f⟩:=f
 obtain⟨i,l⟩:=Hs c h
 refine(Tryz.strings_SplitN ⟨s.toArray⟩ ⟨#[c]⟩ 3 m w (iZ g (by omega)) f (by show 1≤1;omega) (by omega) (by omega)).mono ?_
 rintro e w' ⟨rfl,rfl⟩
 have d:min 3 ((⟨s.toArray⟩:ByteArray).size+1)=3:=by
  have:(⟨s.toArray⟩:ByteArray).size=s.length:=by simp[ByteArray.size]
  rw[this];omega
 have a:=zN c 2 s
 rw[i] at a
 have b:(Lib.splitB ⟨#[c]⟩ 0 2 ⟨s.toArray⟩).length=3:=by
  have:=congrArg List.length a
  simpa [cI] using this
 rw[d]
 simp only[Nat.reduceSub]
 rw[b]
 refine⟨_,_,rfl,⟨rfl,fun _=>⟨w.heap.size,0,rfl,by simp,fun k x hx j u hu=>?_⟩⟩,(al.refl No w).alloc _⟩
 rw[(Cs.new w 9 _).cell]
 unfold Lib.cellsOf
 rw[b,a]
 match k,hx with
 | 0,hx=>injection hx with hx;subst hx;match j,hu with|0,hu=>exact hu
 | 1,hx=>injection hx with hx;subst hx;match j,hu with|0,hu=>exact hu
 | 2,hx=>injection hx with hx;subst hx;match j,hu with|0,hu=>exact hu
def Ov.two(o:Ov)(a b:aK)(f:aK→aK):Ov×Int:=if o.rq a=0 then (o.wr b (f (o.rd a)),o.jJ b (f (o.rd a))) else (o,o.rq a)
def Ov.j6(o:Ov):List aK→aK→aK×Int
 | [],s=>(s,0)
 | n::ns,s=>if o.rq n=0 then o.j6 ns (s++o.rd n) else ([],o.rq n)
def Ov.join(o:Ov)(b:aK)(ns:List aK):Ov×Int:=if (o.j6 ns []).2=0 then (o.wr b (o.j6 ns []).1,o.jJ b (o.j6 ns []).1) else (o,(o.j6 ns []).2)
def Ov.wX(o:Ov)(a:aK):Int:=if o.rq a=0 then (if o.rd a==[] then 7 else 0) else o.rq a
abbrev Nq:aK:=[112,117,116]
abbrev MA:aK:=[99,111,112,121]
abbrev AD:aK:=[116,117,114,110]
abbrev M8:aK:=[115,119,97,112]
abbrev Nu:aK:=[106,111,105,110]
abbrev MB:aK:=[110,101,101,100]
abbrev y7:aK:=[102,97,105,108]
def wd(cmd:aK)(i:Nat):aK:=(iG 32 cmd).getD i []
def nw(cmd:aK):Nat:=(iG 32 cmd).length
def sw(x y:aK)(s:aK):aK:=s.map fun c=>if [c]=x then y.headD 0 else c
def kI(cmd:aK):aK:=cmd.drop ((wd cmd 0).length+(wd cmd 1).length+2)
def Ov.run(o:Ov)(cmd:aK):Ov×Int:=
 if wd cmd 0=Nq then (if 2<nw cmd then (o.wr (wd cmd 1) (kI cmd),o.jJ (wd cmd 1) (kI cmd)) else (o,4))
 else if wd cmd 0=MA then (if nw cmd=3 then o.two (wd cmd 1) (wd cmd 2) id else (o,4))
 else if wd cmd 0=AD then (if nw cmd=3 then o.two (wd cmd 1) (wd cmd 2) List.reverse else (o,4))
 else if wd cmd 0=M8 then (if nw cmd=5∧(wd cmd 3).length=1∧(wd cmd 4).length=1 then o.two (wd cmd 1) (wd cmd 2) (sw (wd cmd 3) (wd cmd 4)) else (o,4))
 else if wd cmd 0=Nu then (if 2<nw cmd then o.join (wd cmd 1) ((iG 32 cmd).drop 2) else (o,4))
 else if wd cmd 0=MB then (if nw cmd=2 then (o,o.wX (wd cmd 1)) else (o,4))
 else if cmd=y7 then (o,7) else (o,4)
structure Ov.Tx (o:Ov):Prop where
 base:∀f∈o.base,f.2.length≤1000
 own:∀f∈o.own,f.2.length≤1000
structure Ov.Fit (xs:List bm) (ns ts:List aK) (k:Nat) (o:Ov):Prop where
 eb:o.base=xs
 en:o.aN=ns
 et:o.targets=ts
 pj:eQ fk o.own
 len:o.own.length≤k
 tx:∀f∈o.own,f.2.length≤1000
theorem Cc{xs:List bm}{k:aK}{x:bm}(h:dY fk k xs=some x):x∈xs:=dL h
theorem uV{k:aK}{xs:List bm}(h:∀f∈xs,f.2.length≤1000):(ki k xs).length≤1000:=by
 unfold ki
 cases hg:dY fk k xs with
 | none=>simp
 | some x=>exact h x (Cc hg)
theorem Ov.If{o:Ov}(h:o.Tx)(k:aK):(o.rd k).length≤1000:=by
 unfold Ov.rd
 split
 ·exact uV h.own
 ·split
  ·split
   ·exact uV h.base
   ·simp
  ·simp
theorem Ov.Tp{o:Ov}(h:∀f∈o.own,f.2.length≤1000)(n s:aK):∀f∈(o.wr n s).own,f.2.length≤1000:=by
 intro f a
 unfold Ov.wr at a
 split at a
 ·rename_i he
  have b:s.length≤20:=by
   unfold Ov.jJ at he
   split at he
   ·split at he
    ·cases he
    ·omega
   ·cases he
  rcases sO a with rfl|a
  ·show s.length≤1000;omega
  ·exact h f a
 ·exact h f a
section
variable {xs:List bm} {ns ts:List aK} {k:Nat} {o:Ov}
theorem Ov.Fit.more(h:o.Fit xs ns ts k):o.Fit xs ns ts (k+1):=⟨h.eb,h.en,h.et,h.pj,iq h.len,h.tx⟩
theorem Ov.Fit.wr(h:o.Fit xs ns ts k)(n s:aK):(o.wr n s).Fit xs ns ts (k+1):=
 ⟨(Ov.QG _ _ _).trans h.eb,(Ov.NX _ _ _).trans h.en,(Ov.AC _ _ _).trans h.et,Ov.Qp h.pj _ _,aJ (Ov.To _ _ _) (Nat.succ_le_succ h.len),Ov.Tp h.tx _ _⟩
theorem Ov.Fit.two(h:o.Fit xs ns ts k)(a b:aK)(f:aK→aK):(o.two a b f).1.Fit xs ns ts (k+1):=by
 unfold Ov.two;split
 ·exact h.wr _ _
 ·exact h.more
theorem Ov.Fit.join(h:o.Fit xs ns ts k)(b:aK)(l:List aK):(o.join b l).1.Fit xs ns ts (k+1):=by
 unfold Ov.join;split
 ·exact h.wr _ _
 ·exact h.more
theorem Ov.Fit.run(h:o.Fit xs ns ts k)(a:aK):(o.run a).1.Fit xs ns ts (k+1):=by
 unfold Ov.run
 repeat' split
 all_goals first
  | exact h.wr _ _
  | exact h.two _ _ _
  | exact h.join _ _
  | exact h.more
theorem Ov.Fit.small(h:o.Fit xs ns ts k)(a:xs.length≤10000)(b:ns.length≤10000)(c:ts.length≤10000)(d:k≤10000)(e:eQ fk xs):o.Small:=
 ⟨by rw[h.eb];exact a,aJ h.len d,by rw[h.en];exact b,by rw[h.et];exact c,h.pj,by rw[h.eb];exact e⟩
theorem Ov.Fit.txs(h:o.Fit xs ns ts k)(a:∀f∈xs,f.2.length≤1000):o.Tx:=⟨by rw[h.eb];exact a,h.tx⟩
end
theorem Ov.wF(o:Ov):∀(ns:List aK) (s:aK),0≤(o.j6 ns s).2
 | [],s=>by simp[Ov.j6]
 | n::ns,s=>by
  unfold Ov.j6
  split
  ·exact Ov.wF o ns _
  ·exact Ov.ze _ _
theorem Ov.Hy(o:Ov)(b:aK):0≤(o.run b).2:=by
 unfold Ov.run Ov.two Ov.join Ov.wX
 have c:=fun a=>o.ze a
 have d:=fun a s=>o.uF a s
 have e:=fun a s=>o.wF a s
 repeat' split
 all_goals first
  | exact c _
  | exact d _ _
  | exact e _ _
  | simp
theorem yy(x y:UInt8)(s:aK):Lib.replaceAll s [x] [y]=s.map fun c=>if c=x then y else c:=by
 unfold Lib.replaceAll Lib.replace
 by_cases g:x=y
 ·subst g
  simp only[beq_self_eq_true,if_true]
  have:(fun c:UInt8=>if c=x then x else c)=id:=by
   funext c;split<;>simp_all
  rw[this,List.map_id]
 ·have j:([x]==[y])=false:=by simpa using g
  rw[aa (by rw[j];exact dI)]
  have r:Lib.replaceNum s [x] (-1)=Lib.count s [x]:=by unfold Lib.replaceNum;rw[ab (.inl (by decide))]
  rw[r]
  have key:∀(n:Nat) (s:aK),s.length≤n→Lib.replaceK [x] [y] (Lib.count s [x]) s=s.map fun c=>if c=x then y else c:=by
   intro n
   induction n with
   | zero=>
    intro s t
    obtain rfl:s=[]:=bM (by omega)
    rfl
   | succ n ih=>
    intro s t
    have h:=qs x s
    by_cases i:(dB x s).2.2=true
    ·rw[ab i] at h
     have o:=mg x s i
     have d:∀(l:aK),(∀z∈(dB x l).1,z≠x):=by
      intro l
      induction l with
      | nil=>simp[dB]
      | cons z l ihl=>
       rw[tO]
       split
       ·simp
       ·rename_i hz
        intro u e
        rcases aY.1 e with rfl|e
        ·exact hz
        ·exact ihl u e
     have f:=d s
     have k:∀a b:aK,s=a++x::b→s.length=a.length+b.length+1∧s.drop (a.length+1)=b∧s.take a.length=a:=by
      rintro a b rfl
      refine⟨by simp;omega,?_,gX⟩
      rw[←cX,fB];rfl
     obtain⟨p,q,v⟩:=k _ _ o
     have w:Lib.count s [x]=Lib.count (dB x s).2.1 [x]+1:=by
      rw[Lib.count_hit (by simp) h,bE,q,fL]
     rw[w,Lib.replaceK_hit _ _ _ _ _ h,bE,q,v,ih _ (by omega)]
     generalize (dB x s).1=a at *
     generalize (dB x s).2.1=b at *
     rw[o,cU,du,ab rfl]
     have:a.map (fun c=>if c=x then y else c)=a:=by
      have m:a.map (fun c=>if c=x then y else c)=a.map id:=iP fun z hz=>aa (f z hz)
      rw[m,List.map_id]
     rw[this]
     simp
    ·rw[aa i] at h
     rw[Lib.count_miss h]
     have d:∀(l:aK),(dB x l).2.2=false→∀z∈l,z≠x:=by
      intro l
      induction l with
      | nil=>simp
      | cons z l ihl=>
       rw[tO]
       split
       ·simp
       ·rename_i hz
        intro k u e
        rcases aY.1 e with rfl|e
        ·exact hz
        ·exact ihl k u e
     have f:=d s (by simpa using i)
     show s=_
     have m:s.map (fun c=>if c=x then y else c)=s.map id:=iP fun z hz=>aa (f z hz)
     rw[m,List.map_id]
  exact key _ s (aq _)
theorem BD:(Tryz.prog.info? 54).map (fun i=>(i.zero,i.size,i.bytes))=some (some (.agg #[S [],S []]),2,32):=by kernel_rfl
theorem JO:tf Tryz.prog 39 54 2:=tf.mk' Tryz.underlying39 BD rfl (by omega) (by omega)
structure Eh (w w':World) (v v':Value):Prop where
 o:al (fun b=>v.ownBlock=some b) w w'
 b:∀g,v'.ownBlock=some g→v.ownBlock=some g∨w.heap.size≤g
def gT{α:Type}(i:Nat)(x:α)(xs:List α):List α:=xs.take i++x::xs.drop i
theorem qW:∀(xs:List bm),∀u∈xs.flatMap br.enc,u.oneCell'=true:=by
 intro xs u b
 obtain⟨x,_,a⟩:=cG.1 b
 rcases aY.1 a with rfl|a
 ·rfl
 ·rcases aY.1 a with rfl|a
  ·rfl
  ·cases a
theorem xO   {xs:List bm}(h:w.ownsRow 0 54 2 (.slice A n c) n (xs.flatMap br.enc))(m:n≤c)(r:c≤maxLen)(x:bm) (o:Cs w vb 54 #[S x.1,S x.2])(t:n≤1000000) :
  Calls Tryz.prog 56 #[.slice A n c,.int .i64 n,.slice (some ⟨vb,0,none⟩) 1 1] w fun e w'=>
   ∃b d,e=.returned (.slice b (n+1:Nat) d)∧w'.ownsRow 0 54 2 (.slice b (n+1:Nat) d) (n+1) ((gT n x xs).flatMap br.enc)∧Eh w w' (.slice A n c) (.slice b (n+1:Nat) d):=by
 have p:=di.jk (T:=br) (by decide) h
 have f:Rd w (some ⟨vb,0,none⟩) 1 2 [S x.1,S x.2]:=⟨rfl,fun _=>⟨vb,0,rfl,fun j u hu=>by rw[o.cell,bX];simpa using hu⟩⟩
 unfold maxLen at r
 have H:=aj h
 have q:=aj p.1
 have i:=aj f
 clear h o p f
 go_enter Tryz.func56,Tryz.ntmps56
 go_wp2_with (at_builtin;go_must (refine dy (v:=.slice A n c) (n:=n) (xs:=xs.flatMap br.enc) rfl JO rfl rfl rfl H.ou i.ou (by simp[Value.oneCell']) (by omega) ?_);intro b d y a k l)
 all_goals
  go_ret
  have s:(gT n x xs).flatMap br.enc=xs.flatMap br.enc++[S x.1,S x.2]:=by
   unfold gT
   rw[ay (by rw[q.ou];exact aq _),dR (by rw[q.ou];exact aq _),bF]
   try rfl
  exact⟨b,d,rfl,by rw[s];exact a,(al.refl _ _).grown k (fun g hg=>.inr (by cases A<;>exact hg)),fun g hg=>l.elim (fun hb=>.inl (by cases A<;>exact hb.symm.trans hg)) (fun hb=>.inr (by rw[hb] at hg;injection hg with hg;omega))⟩
theorem Dr   {xs:List bm}  (D:Cs w g 54 (xs.flatMap br.enc++rest).toArray) (F:xs.length=n) (E:(xs.flatMap br.enc++rest).length=c*2) (X:i<n) (N:n+1≤c) (Y:c≤maxLen)
  (x:bm)  (l:Cs w vb 54 #[S x.1,S x.2]) (q:vb≠g) (hn:n≤1000000) :
  Calls Tryz.prog 56 #[.slice (some ⟨g,0,none⟩) n c,.int .i64 i,.slice (some ⟨vb,0,none⟩) 1 1] w fun e w'=>
   ∃rest',e=.returned (.slice (some ⟨g,0,none⟩) (n+1:Nat) c)∧Cs w' g 54 ((gT i x xs).flatMap br.enc++rest').toArray∧((gT i x xs).flatMap br.enc++rest').length=c*2∧al (fun b=>b=g) w w':=by
 have Z:∀(W:World) lb cb,W=w→(callFunc 92 #[.slice (some ⟨vb,0,none⟩) 1 1,.slice (some ⟨g,(i+1)*2,none⟩) lb cb]).run Tryz.prog W=.ok (.value (.bool false)) W:=fun W lb cb e=>by
  subst e
  rw[run_callFunc_extern Tryz.func92 (by kernel_rfl) (by kernel_rfl) (by kernel_rfl) (e:=Extern.SlicesOverlaps.overlaps #[39,39] #[4]) (by kernel_rfl),
   Lib.run_overlaps_apart W 39 4 54 Tryz.underlying39 2 (fun _=>by kernel_rfl) ⟨vb,0,none⟩ ⟨g,(i+1)*2,none⟩ 1 1 lb cb q _ _ _ _ l.shape D.shape (by rw[eE];omega) (l.frozen 0) (l.frozen _)]
  rfl
 unfold maxLen at Y
 have O:(xs.flatMap br.enc).length=n*2:=by rw[bC,F];rfl
 have G:Hd (((xs.drop i).flatMap br.enc).length=(n-i)*2):=by rw[Hd,bC,be,F];rfl
 have d:Hd ((xs.drop i).flatMap br.enc=(xs.flatMap br.enc).drop (i*2)):=mO br xs i
 have P:Hd (∀j u,((xs.drop i).flatMap br.enc)[j]?=some u→w.cell? ⟨g,i*2+j,none⟩=some u):=fun j u p=>by
  rw[d.ou,cQ] at p
  rw[D.cell,aB,bG (by have:=(aw.1 p).1;omega)]
  exact p
 have Q:Hd ((i+1)*2+(n-i)*2≤(xs.flatMap br.enc++rest).length):=by rw[Hd,E];omega
 obtain⟨o,f⟩:∃o,o=(xs.flatMap br.enc++rest).take ((i+1)*2)++(xs.drop i).flatMap br.enc++(xs.flatMap br.enc++rest).drop ((i+1)*2+((xs.drop i).flatMap br.enc).length):=⟨_,rfl⟩
 have R:=aj (Ck (xs.flatMap br.enc) rest [S x.1,S x.2] i n 2 O rfl X (c1:=o) (by rw[f,d.ou]))
 have r:=aj f
 have a:Hd (o.length=c*2):=by
  rw[Hd,f]
  have h1:=G.ou
  have H:=Q.ou
  simp only[af,aH,be] at E h1 H ⊢
  omega
 have s:Hd ((gT i x xs).flatMap br.enc=(xs.flatMap br.enc).take (i*2)++[S x.1,S x.2]++(xs.flatMap br.enc).drop (i*2)):=by
  have:=lF br xs i
  have H:=d.ou
  rw[Hd,gT,bF,bN,H,this,←aT]
  try rfl
 have HG:=aj D
 have HV:=aj l
 have HR:=aj E
 clear D l F E O f
 go_enter Tryz.func56,Tryz.ntmps56
 go_wp2
 refine aV [8] 100 (Cl w (fun b=>b=g)) (by kernel_rfl) (by kernel_rfl) (Cl.of (al.refl _ _).drew) ?_
 refine dH ?_
 refine cH rfl rfl ?_
 intro K hK
 refine nZ Tryz.underlying39 (k:=2) (by kernel_rfl) rfl rfl rfl (cur:=xs.flatMap br.enc++rest) (cs:=(xs.drop i).flatMap br.enc) HG.ou.drew ?_ ?_ ?_ ?_ ?_
 ·rw[G.ou,show(n+1-i).min (n-i)=n-i by simp only[iN];split<;>omega]
 ·exact P.ou
 ·rw[G.ou];exact Q.ou
 ·exact qW _
 rw[←r.ou]
 intro u p T
 have U:=aj p
 have I:=aj ((al.refl (fun b=>b=g) w).drew.trans T fun _ _ h=>h)
 have J:Hd (Cs u vb 54 #[S x.1,S x.2]):=HV.ou.aP I.ou q
 refine hK _ _ (fun _=>Cl.of I.ou) ?_
 clear hK K p T
 refine bj ?_
 refine dH ?_
 refine ar ?_
 go_wp2_with (with_reducible refine nN rfl Tryz.underlying39 (k:=2) (by kernel_rfl) rfl rfl rfl (cur:=o) (cs:=[S x.1,S x.2]) U.ou ?_ ?_ ?_ ?_ ?_)
 ·have:Nat.min 1 (n+1-i)=1:=by simp only[iN];split<;>omega
  rw[this];rfl
 ·intro j y L
  rw[J.ou.cell,bX];simpa using L
 ·rw[a.ou];show i*2+2≤c*2;omega
 ·intro y L
  exact qW [x] y (by simpa [br] using L)
 intro v l t
 have z:=R.ou
 have m:=s.ou
 have A:=a.ou
 have M:=aj (I.ou.trans t fun _ _ h=>h)
 have B:=aj l
 clear r a P d l t U
 have C:Hd (Cs v g 54 ((gT i x xs).flatMap br.enc++((xs.flatMap br.enc++rest).drop ((n+1)*2))).toArray∧((gT i x xs).flatMap br.enc++((xs.flatMap br.enc++rest).drop ((n+1)*2))).length=c*2):=by
  rw[m]
  have V:o.take (i*2)++S x.1::S x.2::o.drop (i*2+2)=(xs.flatMap br.enc).take (i*2)++[S x.1,S x.2]++(xs.flatMap br.enc).drop (i*2)++(xs.flatMap br.enc++rest).drop ((n+1)*2):=by
   rw[←z];simp
  refine⟨by rw[←V];exact B.ou,?_⟩
  rw[←V]
  simp only[af,aH,an,be,A]
  omega
 clear z m A R s B
 go_wp2
 go_ret
 exact⟨_,rfl,C.ou.1,C.ou.2,M.ou⟩
theorem En   {xs:List bm}  (F:Cs w g 54 (xs.flatMap br.enc++rest).toArray) (hl:xs.length=n) (hi:i<n)
  (x:bm)  (C:Cs w vb 54 #[S x.1,S x.2]) (hn:n≤1000000) :
  Calls Tryz.prog 56 #[.slice (some ⟨g,0,none⟩) n n,.int .i64 i,.slice (some ⟨vb,0,none⟩) 1 1] w fun e w'=>
   ∃c rest',e=.returned (.slice (some ⟨w.heap.size,0,none⟩) (n+1:Nat) c)∧Cs w' w.heap.size 54 ((gT i x xs).flatMap br.enc++rest').toArray∧((gT i x xs).flatMap br.enc++rest').length=c*2∧n+1≤c∧c≤maxLen∧bf w w':=by
 obtain⟨i0,H,I,J,ac⟩:=info_parts BD
 have hX:(xs.flatMap br.enc).length=n*2:=by rw[bC,hl];rfl
 have HD:Hd (((xs.drop i).flatMap br.enc).length=(n-i)*2):=by rw[Hd,bC,be,hl];rfl
 have L:Hd (((xs.take i).flatMap br.enc).length=i*2):=by rw[Hd,bC,aH,hl,gH (by omega)];rfl
 have M:Hd (∀j u,((xs.drop i).flatMap br.enc)[j]?=some u→w.cell? ⟨g,i*2+j,none⟩=some u):=fun j u a=>by
  have e1:(xs.drop i).flatMap br.enc=(xs.flatMap br.enc).drop (i*2):=mO br xs i
  rw[e1,cQ] at a
  rw[F.cell,aB,bG (by have:=(aw.1 a).1;omega)]
  exact a
 have P:Hd (∀j u,((xs.take i).flatMap br.enc)[j]?=some u→w.cell? ⟨g,0+j,none⟩=some u):=fun j u a=>by
  have e1:(xs.take i).flatMap br.enc=(xs.flatMap br.enc).take (i*2):=lF br xs i
  have hj:=(aw.1 a).1
  rw[L.ou] at hj
  rw[e1,cP hj] at a
  rw[bX,F.cell,aB,bG (by omega)]
  exact a
 have l:Hd ((gT i x xs).flatMap br.enc=(xs.take i).flatMap br.enc++[S x.1,S x.2]++(xs.drop i).flatMap br.enc):=by
  rw[Hd,gT,bF,bN,←aT]
  try rfl
 have HG:=aj F
 have HV:=aj C
 have Q:=aj J
 have R:0<i0.size:=by omega
 have T:i0.bytes≤256:=by omega
 have U:=aj H
 have V:=aj I
 have W:=F.lt
 have ao:=C.lt
 clear F C hl hX H I J ac
 go_enter Tryz.func56,Tryz.ntmps56
 go_upto_region 10 with(at_builtin;go_must (refine vE (m:=n+1-i) rfl Tryz.underlying39 Tryz.underlying3 U.ou V.ou rfl rfl ?hx1 (olds:=(xs.take i).flatMap br.enc) (by rw[L.ou,Q.ou]) P.ou (by omega) R (by omega) T (by omega) ?hx2);case' hx2=>(intro cap X ag;generalize hW1:w.drew.alloc _=W1))
 case hx1=>(show Value.int .i64 ((n:Int)+1-i)=_;congr 1;omega)
 have hm:i+(n+1-i)=n+1:=by omega
 have Y:Hd (bf w W1):=by rw[Hd,←hW1];exact(al.refl No w).drew.alloc _
 obtain⟨q,s⟩:∃q,q=(Builtin.zeroCells (Value.agg #[S [],S []]).cells (n+1-i)).toList:=⟨_,rfl⟩
 obtain⟨f,t⟩:∃f,f=(Builtin.zeroCells (Value.agg #[S [],S []]).cells (cap-(i+(n+1-i)))).toList:=⟨_,rfl⟩
 obtain⟨N,hN⟩:∃N,N=w.heap.size:=⟨_,rfl⟩
 obtain⟨O,hO⟩:∃O,O=(xs.take i).flatMap br.enc:=⟨_,rfl⟩
 obtain⟨D,hD⟩:∃D,D=(xs.drop i).flatMap br.enc:=⟨_,rfl⟩
 have C1:Hd (Cs W1 N 54 (O++q++f).toArray):=by
  rw[Hd,←hW1,s,t,hN,hO]
  exact Cs.new w.drew _ _
 have o:Hd (q.length=(n+1-i)*2):=by rw[Hd,s,ir];rfl
 have r:Hd (f.length=(cap-(n+1))*2):=by rw[Hd,t,ir,hm];rfl
 have V1:Hd (Cs W1 vb 54 #[S x.1,S x.2]):=HV.ou.aP Y.ou id
 have D1:Hd (∀j u,D[j]?=some u→W1.cell? ⟨g,i*2+j,none⟩=some u):=fun j u a=>by
  rw[Y.ou.cell W id];exact M.ou j u (hD▸a)
 have ai:=aj hD
 rw[←hO] at L l
 rw[←hD] at HD l
 rw[hm] at X
 rw[hm,←hN]
 have ak:g≠N:=by omega
 have ap:vb≠N:=by omega
 have HN:=aj hN
 have d:=aj L.ou
 have p:=aj HD.ou
 clear s t hO hD hN hm hW1 M P HG HV U V Q R T L HD
 obtain⟨CC,z⟩:∃CC,CC=O++q++f:=⟨_,rfl⟩
 rw[←z] at C1
 have A:=aj z
 clear z
 go_wp2_with (with_reducible refine nN rfl Tryz.underlying39 (k:=2) (by kernel_rfl) rfl rfl rfl (cur:=CC) (cs:=[S x.1,S x.2]) C1.ou ?_ ?_ ?_ ?_ ?_)
 ·have:Nat.min 1 (n+1-i)=1:=by simp only[iN];split<;>omega
  rw[this];rfl
 ·intro j y E
  rw[V1.ou.cell,bX];simpa using E
 ·have Z:=d.ou;have h2:=o.ou;have h3:=r.ou
  rw[A.ou]
  simp only[af,Z,h2,h3,an,bI];omega
 ·intro y E
  exact qW [x] y (by simpa [br] using E)
 intro u a B
 have a:Cs u N 54 (O++[S x.1,S x.2]++q.drop 2++f).toArray:=by
  rw[←xF O q f [S x.1,S x.2] i 2 d.ou rfl (by rw[o.ou];omega),←A.ou]
  simpa using a
 have C2:=aj a
 have E2:=aj B
 have D2:Hd (∀j u',D[j]?=some u'→u.cell? ⟨g,i*2+j,none⟩=some u'):=fun j u' hu'=>by
  rw[B.cell (bZ W Y.ou.size) ak];exact D1.ou j u' hu'
 clear a B C1 V1 D1 A
 go_wp2_with fail
 refine aV [8] 100 (Cl u (fun b=>b=N)) (by kernel_rfl) (by kernel_rfl) (Cl.of (al.refl _ _).drew) ?_
 refine dH ?_
 refine cH rfl rfl ?_
 intro K hK
 refine nZ Tryz.underlying39 (k:=2) (by kernel_rfl) rfl rfl rfl (cur:=O++[S x.1,S x.2]++q.drop 2++f) (cs:=D) C2.ou.drew ?_ ?_ ?_ ?_ ?_
 ·rw[p.ou];congr 1;simp only[iN];split<;>omega
 ·exact D2.ou
 ·have Z:=d.ou;have h2:=o.ou;have h3:=r.ou;have h4:=p.ou
  simp only[af,be,Z,h2,h3,h4,an,bI];omega
 ·intro y E
  rw[ai.ou] at E
  exact qW _ y E
 rw[yn O q f [S x.1,S x.2] D i 2 d.ou rfl (by rw[o.ou,p.ou];omega)]
 intro v C B
 have C3:Hd (Cs v N 54 ((gT i x xs).flatMap br.enc++f).toArray):=by rw[Hd,l.ou];exact C
 have LC:Hd (((gT i x xs).flatMap br.enc++f).length=cap*2):=by
  have Z:=d.ou;have h3:=r.ou;have h4:=p.ou
  rw[Hd,l.ou]
  simp only[af,Z,h3,h4,an,bI];omega
 have E3:Hd (bf w v):=by
  have:=Y.ou.trans (G:=fun b=>b=N) (E2.ou.trans ((al.refl _ u).drew.trans B fun _ _ h=>h) fun _ _ h=>h) fun b hb e=>by have:=HN.ou;omega
  exact this
 refine hK _ _ (fun _=>Cl.of ((al.refl _ u).drew.trans B fun _ _ h=>h)) ?_
 clear hK K C B C2 D2 l d p o r Y E2
 refine bj ?_
 refine dH ?_
 refine ar ?_
 go_wp2
 go_ret
 have am:=HN.ou
 subst am
 exact⟨cap,f,rfl,C3.ou,LC.ou,X,ag,E3.ou⟩
theorem Ko   {xs:List bm}(h:w.ownsRow 0 54 2 (.slice A n c) n (xs.flatMap br.enc))(B:i≤n)(x:bm) (l:Cs w vb 54 #[S x.1,S x.2])(p:(Value.slice A n c).ownBlock≠some vb)(m:n≤1000000) :
  Calls Tryz.prog 56 #[.slice A n c,.int .i64 i,.slice (some ⟨vb,0,none⟩) 1 1] w fun e w'=>
   ∃A' o,e=.returned (.slice A' (n+1:Nat) o)∧w'.ownsRow 0 54 2 (.slice A' (n+1:Nat) o) (n+1) ((gT i x xs).flatMap br.enc)∧Eh w w' (.slice A n c) (.slice A' (n+1:Nat) o):=by
 have q:=(di.jk (T:=br) (by decide) h).1
 by_cases e:i=n
 ·subst e
  rcases h.2 with⟨hv',h0⟩|⟨g,cap,cur,hv',hb,hh,r,hc,_⟩
  ·injection hv' with j k d
   exact xO h (by omega) (by rw[d];exact au _) x l m
  ·injection hv' with j k d
   exact xO h (by omega) (by rw[d];exact hc) x l m
 ·obtain⟨g,rest,rfl,s,C,v,r,t⟩:=kU h (by omega) (by decide)
  have u:((gT i x xs).flatMap br.enc).length=(n+1)*2:=by
   rw[bC]
   simp only[gT,af,aH,an,be,q,br]
   omega
  by_cases a:n+1≤c
  ·refine(Dr s q v (by omega) a t x l (fun e=>p (by rw[e];rfl)) m).mono ?_
   rintro e w' ⟨f,rfl,j,k,d⟩
   exact⟨_,_,rfl,iM j (au _) u k a t,⟨d.gU fun b _ e=>by subst e;rfl,fun g' hg'=>.inl hg'⟩⟩
  ·obtain rfl:c=n:=by omega
   refine(En s q (by omega) x l m).mono ?_
   rintro e w' ⟨o,f,rfl,j,k,d,y,z⟩
   refine⟨_,_,rfl,iM j (au _) u k d y,⟨z.any,fun g' hg'=>.inr ?_⟩⟩
   simp[Value.ownBlock] at hg'
   omega
theorem Ec   {cs:List Value}(h:Rd w A n 2 cs)(j:∀u∈cs,u.oneCell'=true)(k:A=none→n=0)(o:n≤1000000) :
  Calls Tryz.prog 47 #[.slice A n c] w fun e w'=>∃b d,e=.returned (.slice b n d)∧w'.ownsRow 0 54 2 (.slice b n d) n cs∧bf w w'∧∀g,(Value.slice b n d).ownBlock=some g→w.heap.size≤g:=by
 have p:=fun(W:World)=>Lib.run_eql_slice_nil (P:=Tryz.prog) W 39 54 A n c 0 0 Tryz.underlying39
 rcases A with _|ad
 ·obtain rfl:=k rfl
  obtain rfl:cs=[]:=bM (by simpa using h.1)
  go_enter Tryz.func47,Tryz.ntmps47
  go_wp2
  go_ret
  exact⟨none,0,rfl,World.ownsRow_nil _ _ _ _,al.refl _ _,fun g hg=>by simp[Value.ownBlock] at hg⟩
 ·have H:=aj h
  clear h
  go_enter Tryz.func47,Tryz.ntmps47
  go_wp2_with (at_builtin;go_must (refine dy (v:=.slice (some ⟨w.heap.size,0,none⟩) 0 0) (n:=0) (xs:=[]) rfl JO rfl rfl rfl (tH w _ _) (H.ou.alloc _) j (by omega) ?_);intro b d l a i f)
  go_ret
  rw[bX] at a f
  have m:bf w l:=((al.refl _ _).alloc (.cells #[] 54)).grown i (fun g hg=>by simp[Value.ownBlock] at hg;left;omega)
  refine⟨b,d,?_,by simpa using a,m,fun g hg=>?_⟩
  ·simp[bX]
  ·rcases f with h|h<;>rw[h] at hg<;>simp[Value.ownBlock] at hg<;>omega
theorem mD   {xs:List bm}(h:di br w A n xs)(d:A=none→n=0)(f:n≤1000000) :
  Calls Tryz.prog 47 #[.slice A n c] w fun e w'=>∃a b,e=.returned (.slice a xs.length b)∧bR br 54 w w' a b xs:=by
 have g:=h.1
 refine(Ec (h.rd (by decide)) (qW xs) d f).mono ?_
 rintro e w' ⟨a,b,rfl,i,j,k⟩
 subst g
 exact⟨a,b,rfl,i,j,k⟩
theorem zG:∀(xs:List bm) (p:Nat) (f:bm),p<xs.length→(xs.set p f).flatMap br.enc=((xs.flatMap br.enc).set (p*2) (S f.1)).set (p*2+1) (S f.2)
 | [],p,f,h=>by simp at h
 | x::xs,0,f,h=>by simp[br]
 | x::xs,p+1,f,h=>by
  have ih:=zG xs p f (by simpa using h)
  rw[aR,bN,ih,bN]
  simp only[br,dV,cW,ey,aR]
theorem di.kR{α:Type}{T:kJ α}   {xs:List α}(h:di T w A n xs)(a:A=none):n=0:=by
 rcases fY n with h0|h0
 ·exact h0
 ·obtain⟨b,o,e,_⟩:=h.2 h0
  rw[a] at e;cases e
theorem FS   {xs:List bm}(h:di br w A n xs)(hn:n≤100000)(f:bm)(V:eQ fk xs) :
  Calls Tryz.prog 31 #[.slice A n c,.agg #[S f.1,S f.2]] w fun e w'=>∃l d,e=.returned (.slice l (jY fk f xs).length d)∧bR br 54 w w' l d (jY fk f xs):=by
 obtain⟨w0,m⟩:∃w0,w0=w.alloc (.cells #[S f.1,S f.2] 54):=⟨_,rfl⟩
 have t:bf w w0:=by rw[m];exact(al.refl No w).alloc _
 have W:=mD (c:=c) (h.ext t) h.kR (by omega)
 have Y:=Ao (key:=fk) xs f.1
 have Z:=h.1
 have y:=JQ V f
 have C:Cs w0 w.heap.size 54 #[S f.1,S f.2]:=by rw[m];exact Cs.new _ _ _
 have ac:w.heap.size<w0.heap.size:=C.lt
 obtain⟨b,k⟩:∃b,b=jU fk xs f.1:=⟨_,rfl⟩
 obtain⟨p,q⟩:∃p,p=j9 fk xs f.1:=⟨_,rfl⟩
 have hF:∀{v:World} {l:Option Addr} {d:Nat},bR br 54 w0 v l d xs→Calls Tryz.prog 52 #[.slice l xs.length d,S f.1] v fun e w'=>e=.returned (.tuple #[.int .i64 (p:Nat),.bool b])∧bf v w':=fun D=>by
  rw[q,k]
  exact OL (D.row (by decide)) (by omega) f.1 V
 rw[←k,←q] at y
 rw[←q] at Y
 have N:Hd (b=true→p<xs.length):=fun e=>by
  rw[e] at k
  unfold jU at k
  rw[←q] at k
  by_cases O:p<xs.length
  ·exact O
  ·rw[cg (by omega)] at k;cases k
 have E:=aj y
 have HF:Hd (∀{v:World} {l:Option Addr} {d:Nat},bR br 54 w0 v l d xs→Calls Tryz.prog 52 #[.slice l xs.length d,S f.1] v fun e w'=>e=.returned (.tuple #[.int .i64 (p:Nat),.bool b])∧bf v w'):=@hF
 have HB:=aj C
 have F:=aj t
 have HL:=aj Z
 have c0:∀ξ:X w0 No,ξ.v.cell? ⟨w.heap.size,0,none⟩=some (S f.1):=C.x id 0
 have c1:∀ξ:X w0 No,ξ.v.cell? ⟨w.heap.size,1,none⟩=some (S f.2):=C.x id 1
 clear y hF k q C t Z
 go_enter Tryz.func31,Tryz.ntmps31
 go_upto_region 1 with fail
 rw[←m]
 clear m
 go_wp2_with fail
 refine W.mono ?_
 clear W
 rintro e u ⟨l,d,rfl,D⟩
 have P:=aj D
 obtain⟨ξ,rfl⟩:∃ξ:X w0 No,u=ξ.v:=⟨⟨u,D.ext⟩,rfl⟩
 clear D
 go_wp2_with fail
 refine(HF.ou P.ou).mono ?_
 rintro e u ⟨rfl,hu⟩
 have z:=aj (P.ou.on hu)
 obtain⟨ξ,rfl⟩:∃ξ:X w0 No,u=ξ.v:=⟨⟨u,z.ou.ext⟩,rfl⟩
 clear hu P HF
 cases b with
 | true=>
  have q:=N.ou rfl
  obtain⟨g,rest,rfl,K,L,G,Q,hm⟩:=kU z.ou.own (by omega) (by decide)
  have hy:xs[p]?=some xs[p]:=aF q
  have a:∀j,j<2→(ξ.v.cell? ⟨g,p*2+j,none⟩)=some (((br.enc xs[p]))[j]?.getD undef):=fun j hj=>by
   obtain⟨b',o',x',R,_,r,T⟩:=(z.ou.row (by decide)).get q
   injection R with R
   injection R with he1 he2
   subst he1;subst he2
   rw[hy] at r
   injection r with r
   subst r
   have:=T j ((br.enc xs[p])[j]'(by rw[br.len];exact hj)) (aF _)
   rw[bX] at this
   rw[aF (by rw[br.len];exact hj)]
   exact this
  have d0:ξ.v.cell? ⟨g,p*2,none⟩=some (S (xs[p]).1):=a 0 (by omega)
  have d1:ξ.v.cell? ⟨g,p*2+1,none⟩=some (S (xs[p]).2):=a 1 (by omega)
  have f0:=K.frozen (p*2)
  have f1:=K.frozen (p*2+1)
  have ag:w0.heap.size≤g:=z.ou.new g rfl
  have ai:g≠w.heap.size:=by omega
  have HG:=aj K
  have HR:=aj G
  have HX:=aj L
  clear K G L a hy
  go_wp2_with fail
  go_ret
  have hS:=(HG.ou.cM (p*2) (S f.1)).cM (p*2+1) (S f.2)
  have H:jY fk f xs=xs.set p f:=E.ou
  have B:(xs.set p f).length=xs.length:=bT
  have e3:(((xs.flatMap br.enc++rest).toArray.setIfInBounds (p*2) (S f.1)).setIfInBounds (p*2+1) (S f.2))=((xs.set p f).flatMap br.enc++rest).toArray:=by
   have L:=HX.ou
   rw[show br.size=2 from rfl] at L
   rw[ax,ax,zG xs p f q,eJ _ _ (by omega),eJ _ _ (by rw[bT];omega)]
  rw[e3] at hS
  have G:=HR.ou
  have hO:al (fun b=>b=g) ξ.v ((ξ.v.setCell ⟨g,p*2,none⟩ (S f.1)).setCell ⟨g,p*2+1,none⟩ (S f.2)):=((al.refl _ _).at_ _ _).at_ _ _
  refine⟨some ⟨g,0,none⟩,d,by rw[H,B];rfl,?_⟩
  rw[H]
  refine bR.from (w:=w0) ⟨?_,z.ou.ext.trans hO fun b k e=>by omega,fun g' hg'=>?_⟩ F.ou
  ·refine iM hS (au _) (bC _ _) ?_ (by rw[B];exact Q) hm
   simp only[af,bC,B] at G ⊢
   exact G
  ·simp[Value.ownBlock] at hg'
   omega
 | false=>
  obtain⟨M,s⟩:∃M,M=ξ.v.alloc (.cells #[S f.1,S f.2] 54):=⟨_,rfl⟩
  have hv:Cs M ξ.v.heap.size 54 #[S f.1,S f.2]:=by rw[s];exact Cs.new _ _ _
  have I:bf ξ.v M:=by rw[s];exact(al.refl No ξ.v).alloc _
  have J:=aj (z.ou.on I)
  have hI:=Ko (i:=p) J.ou.own Y f hv (fun e=>by
   have U:ξ.v.heap.size<ξ.v.heap.size:=(z.ou.own.lt _ e).2
   omega) (by have:=HL.ou;omega)
  have HI:=aj hI
  clear hI hv I
  go_wp2_with fail
  rw[←s]
  refine HI.ou.mono ?_
  clear s HI
  rintro e u ⟨A2,c2,rfl,U,h2⟩
  have H1:=aj U
  have H2:=aj h2
  clear U h2
  go_wp2_with fail
  go_ret
  have H:jY fk f xs=gT p f xs:=E.ou
  have B:(gT p f xs).length=xs.length+1:=by
   simp only[gT,af,aH,an,be];omega
  refine⟨A2,c2,by rw[H,B];rfl,?_⟩
  rw[H]
  have hs:=J.ou.ext.size
  refine bR.from (w:=w0) ⟨by rw[B];exact H1.ou,J.ou.ext.trans H2.ou.o fun b k e=>?_,fun g' hg'=>?_⟩ F.ou
  ·have:=J.ou.new b e;omega
  ·rw[B] at hg'
   rcases H2.ou.b g' hg' with h|h
   ·exact J.ou.new g' h
   ·omega
@[go_sem] theorem Uz (A B C:Option Addr) (n c m d k e:Nat) (w:World):(Instr.build 174 #[(0,.slice A n c),(2,.slice B m d),(3,.slice C k e)]).run Tryz.prog w =
 .ok (.agg #[.slice A n c,.slice none 0 0,.slice B m d,.slice C k e]) w:=run_build w 174 _ _ (by kernel_rfl)
theorem Ux {B C:Option Addr}{n c m d k e:Nat}{xs:List bm}{ns ts:List aK}(t:di br w A n xs)(u:di cI w B m ns)(x:di cI w C k ts)(O:n≤10000)(P:m≤10000)(Q:k≤10000) :
  Calls Tryz.prog 59 #[.slice A n c,.slice B m d,.slice C k e] w fun e w'=>∃g r,e=.returned (pt g)∧qN 174 w' g r ⟨xs,[],ns,ts⟩∧bf w w'∧w.heap.size≤g:=by
 have j:=aj (mD (c:=c) t t.kR (by omega))
 have l:=aj (fun v (hv:bf w v)=>nO (c:=d) (u.ext hv) u.kR (by omega))
 have o:=aj (fun v (hv:bf w v)=>nO (c:=e) (x.ext hv) x.kR (by omega))
 clear t u x
 go_enter Tryz.func59,Tryz.ntmps59
 go_wp2_with fail
 refine(j.ou).mono ?_;rintro e i ⟨z,D,rfl,f⟩;obtain⟨E,a⟩:∃ξ:X w No,ξ.v=i:=⟨⟨i,(X.here w No).h.ae f.ext⟩,rfl⟩;subst a;have K:=aj f.ext;have L:=aj f;clear f
 go_wp2_with fail
 refine(l.ou _ E.h).mono ?_;rintro e i ⟨F,G,rfl,f⟩;obtain⟨H,a⟩:∃ξ:X w No,ξ.v=i:=⟨⟨i,E.h.ae f.ext⟩,rfl⟩;subst a;have y:=aj f.ext;have M:=aj f;clear f
 go_wp2_with fail
 refine(o.ou _ H.h).mono ?_;rintro e i ⟨I,J,rfl,f⟩;obtain⟨p,a⟩:∃ξ:X w No,ξ.v=i:=⟨⟨i,H.h.ae f.ext⟩,rfl⟩;subst a;have q:=aj f.ext;have N:=aj f;clear f
 clear j l o
 go_wp2_with fail
 go_ret
 have s:bf p.v (p.v.alloc (.cells #[.slice z xs.length D,.slice none 0 0,.slice F ns.length G,.slice I ts.length J] 174)):=(al.refl No _).alloc _
 refine⟨p.v.heap.size,⟨z,D,none,0,F,G,I,J⟩,rfl,⟨Cs.new _ _ _,((L.ou.row (by decide)).ext (y.ou.ae q.ou)).ext s,di.none_,((M.ou.row (by decide)).ext q.ou).ext s,(N.ou.row (by decide)).ext s,fun b o' e=>by cases e⟩,p.h.ae s,p.h.size⟩
theorem Vm{t:TypeId}   {o:Ov}(n:t=174)(h:qN t w g r o)(d:o.Small) :
  Calls Tryz.prog 61 #[pt g] w fun e w'=>∃A' c',e=.returned (.slice A' o.own.length c')∧bR br 54 w w' A' c' o.own:=by
 have i:=aj (mD (c:=r.oc) h.own h.own.kR (aJ d.own (by omega)))
 have c1:=h.cs.cell 1
 simp only[aB,aQ,aX] at c1
 clear h d
 go_enter Tryz.func61,Tryz.ntmps61
 go_wp2_with fail
 refine(i.ou).mono ?_;rintro e f ⟨j,k,rfl,b⟩;obtain⟨p,a⟩:∃ξ:X w No,ξ.v=f:=⟨⟨f,(X.here w No).h.ae b.ext⟩,rfl⟩;subst a;have l:=aj b.ext;have m:=aj b;clear b
 go_wp2_with fail
 go_ret
 exact⟨j,k,rfl,m.ou⟩
theorem s7   {o:Ov}(h:qN 174 w g r o)(f:o.Small)(k s:aK)(E:k.length≤maxLen)(j:s.length≤maxLen) :
  Calls Tryz.prog 96 #[pt g,S k,S s] w fun e w'=>e=.returned (eT (o.jJ k s))∧∃r',qN 174 w' g r' (o.wr k s)∧al (fun b=>b=g) w w':=by
 unfold maxLen at j
 have l:=aj (jr (c:=r.tc) h.targets (aJ f.targets (by omega)) k)
 have m:=aj (fun v (hv:bf w v)=>FS (c:=r.oc) (h.own.ext hv) (aJ f.own (by omega)) (k,s) f.pj)
 have c1:∀ξ:X w No,ξ.v.cell? ⟨g,1,none⟩=some (.slice r.oA o.own.length r.oc):=h.cs.x id 1
 have u:=h.cs.cell 3
 simp only[aB,aQ,aX] at u
 have F:∀ξ:X w No,ξ.v.frozen? ⟨g,1,none⟩=false:=fun ξ=>(h.cs.aP ξ.h id).frozen 1
 have H:=aj h
 obtain⟨b,n⟩:∃b,b=iH o.targets k:=⟨_,rfl⟩
 rw[←n] at l
 have p:Hd (o.jJ k s=if b then (if 20<s.length then 2 else 0) else 6):=by unfold Hd Ov.jJ;rw[←n]
 obtain⟨L,q⟩:∃L,L=jY fk (k,s) o.own:=⟨_,rfl⟩
 rw[←q] at m
 have y:Hd (o.jJ k s≠0→o.wr k s=o):=fun hne=>by unfold Ov.wr;rw[aa hne]
 have t:Hd (o.jJ k s=0→o.wr k s={ o with own:=L }):=fun he=>by unfold Ov.wr;rw[ab he,q]
 clear n q h f
 go_enter Tryz.func96,Tryz.ntmps96
 go_wp2_with fail
 refine lL (X.here w No) (l.ou) fun ξ1 Hξ1=>?_
 clear l u
 cases b with
 | false=>
  go_wp2_with fail
  go_ret
  have a:o.jJ k s=6:=p.ou
  rw[a,y.ou (by rw[a];omega)]
  exact⟨rfl,r,H.ou.ext ξ1.h,ξ1.h.any⟩
 | true=>
  by_cases z:20<s.length
  ·have a:Hd (o.jJ k s=2):=by unfold Hd;rw[p.ou,ab rfl,ab z]
   go_wp2_with fail
   go_ret
   rw[a.ou,y.ou (by rw[a.ou];omega)]
   exact⟨rfl,r,H.ou.ext ξ1.h,ξ1.h.any⟩
  ·have a:Hd (o.jJ k s=0):=by unfold Hd;rw[p.ou,ab rfl,aa z]
   go_wp2_with fail
   refine(m.ou _ ξ1.h).mono ?_;rintro e A ⟨G,I,rfl,i⟩;obtain⟨B,d⟩:∃ξ:X w No,ξ.v=A:=⟨⟨A,ξ1.h.ae i.ext⟩,rfl⟩;subst d;have D:=aj i.ext;have C:=aj i;clear i
   clear m
   go_wp2_with fail
   go_ret
   rw[a.ou,t.ou a.ou]
   exact⟨rfl,_,(H.ou.ext B.h).store (C.ou.row (by decide)) (fun b o' e _=>bZ (H.ou.ext ξ1.h).cs.lt (C.ou.new b (by rw[e];rfl))),B.h.any.trans ((al.refl _ _).at_ 1 _) fun _ _ h=>h⟩
theorem wh   {o:Ov}(h:qN 174 w g r o)(b:o.Small)(k:aK)(l:k.length≤maxLen) :
  Calls Tryz.prog 157 #[pt g,S k] w fun e w'=>e=.returned (.tuple #[S (o.rd k),eT (o.rq k)])∧bf w w':=by
 have f:=aj (um (c:=r.oc) h.own (aJ b.own (by omega)) k b.pj)
 have j:=aj (fun v (hv:bf w v)=>jr (c:=r.nc) (h.aN.ext hv) (aJ b.aN (by omega)) k)
 have i:=aj (fun v (hv:bf w v)=>um (c:=r.bc) (h.base.ext hv) (aJ b.base (by omega)) k b.ui)
 have m:∀ξ:X w No,ξ.v.cell? ⟨g,0,none⟩=some (.slice r.bA o.base.length r.bc):=h.cs.x id 0
 have c1:=h.cs.cell 1
 simp only[aB,aQ,aX] at c1
 have n:∀ξ:X w No,ξ.v.cell? ⟨g,2,none⟩=some (.slice r.nA o.aN.length r.nc):=h.cs.x id 2
 have a:Hd (o.rd k=if ji k o.own then ki k o.own else if iH o.aN k then (if ji k o.base then ki k o.base else []) else []):=rfl
 have d:Hd (o.rq k=if ji k o.own then 0 else if iH o.aN k then (if ji k o.base then 0 else 5) else 6):=rfl
 generalize ki k o.own=t1 at f a
 generalize ji k o.own=b1 at f a d
 generalize iH o.aN k=b2 at j a d
 generalize ki k o.base=t3 at i a
 generalize ji k o.base=b3 at i a d
 clear h b
 go_enter Tryz.func157,Tryz.ntmps157
 go_wp2_with fail
 refine lL (X.here w No) (f.ou) fun ξ1 Hξ1=>?_
 clear f c1
 cases b1 with
 | true=>
  go_wp2_with fail
  go_ret2
  exact⟨by rw[a.ou,d.ou];rfl,ξ1.h⟩
 | false=>
  go_wp2_with fail
  refine lL ξ1 (j.ou _ ξ1.h) fun ξ2 Hξ2=>?_
  clear j
  cases b2 with
  | false=>
   go_wp2_with fail
   go_ret2
   exact⟨by rw[a.ou,d.ou];rfl,ξ2.h⟩
  | true=>
   go_wp2_with fail
   refine lL ξ2 (i.ou _ ξ2.h) fun ξ3 Hξ3=>?_
   clear i
   cases b3 <;>
   ·go_wp2_with fail
    go_ret2
    exact⟨by rw[a.ou,d.ou];rfl,ξ3.h⟩
def tS(L:aK)(a k:Nat):UInt8:=if k<a∨L.length≤k+a then L.getD (L.length-1-k) 0 else L.getD k 0
structure JT (w wr:World) (g:Nat) (L:aK) (a:Nat):Prop where
 cell:∀k,k<L.length→wr.cell? ⟨g,k,none⟩=some (.int .u8 ((tS L a k).toNat:Int))
 Sj:∀k,k<L.length→wr.frozen? ⟨g,k,none⟩=false
 x:al (fun b=>b=g) w wr
theorem KX   (h:JT w w g L 0)(A:L.length=n)(D:n≤maxLen) :
  Calls Tryz.prog 158 #[.slice (some ⟨g,0,none⟩) n c] w fun e w'=>e=.returned (.tuple #[])∧∃a,n≤2*a+1∧JT w w' g L a:=by
 unfold maxLen at D
 have E:=aj h
 clear h
 have d:=aj A
 clear A
 go_enter Tryz.func158,Tryz.ntmps158
 go_wp2_with fail
 go_loopw [2,3] (fun i j wr=>∃a:Nat,2*a≤n+1∧i=.int .i64 a∧j=.int .i64 ((n:Int)-1-a)∧JT w wr g L a) (fun i _ _=>n+1-(intOf i).toNat)
 case atStart=>exact⟨0,by omega,rfl,by simp,E.ou⟩
 case round=>
  obtain⟨a,O,rfl,rfl,B⟩:=hrel
  have b:=aj B
  clear B
  by_cases l:(a:Int)<(n:Int)-1-a
  ·have c1:=b.ou.cell a (by rw[d.ou];omega)
   have m:=b.ou.cell (n-1-a) (by rw[d.ou];omega)
   have P:=b.ou.Sj a (by rw[d.ou];omega)
   have F:=b.ou.Sj (n-1-a) (by rw[d.ou];omega)
   obtain⟨j,o⟩:∃j,j=n-1-a:=⟨_,rfl⟩
   have f:(n:Int)-1-a=(j:Int):=by omega
   rw[←o] at m F
   rw[f] at l ⊢
   obtain⟨x,p⟩:∃x,x=(tS L a a).toNat:=⟨_,rfl⟩
   obtain⟨y,q⟩:∃y,y=(tS L a j).toNat:=⟨_,rfl⟩
   rw[←p] at c1
   rw[←q] at m
   have G:=aj p
   have H:=aj q
   clear p q
   have I:j<n:=by omega
   have J:a<n:=by omega
   have K:=aj o
   clear o f
   go_wp2_with (first|refine dN ?_|refine lM ?_ ?_<;>intro hq)
   go_region
   go_wp2_with fail
   go_roundw
   case rel=>
    have Q:=d.ou
    have R:=K.ou
    have M:=G.ou
    have N:=H.ou
    have r:tS L a a=L.getD a 0:=by unfold tS;rw[aa (by omega)]
    have s:tS L a j=L.getD j 0:=by unfold tS;rw[aa (by omega)]
    have t:tS L (a+1) j=L.getD a 0:=by unfold tS;rw[ab (by omega)];congr 1;omega
    have u:tS L (a+1) a=L.getD j 0:=by unfold tS;rw[ab (by omega)];congr 1;omega
    refine⟨a+1,by omega,by go_num,by go_num,⟨fun k hk=>?_,fun k hk=>?_,?_⟩⟩
    ·rw[World.cell?_drew]
     by_cases v:k=j
     ·subst v
      rw[t,←r,←M]
      exact World.cell?_setCell_same _ _ _ (by rw[World.cell?_setCell_other _ _ _ _ (by simp<;>omega)];exact m)
     ·rw[World.cell?_setCell_other _ _ _ _ (by simp<;>omega)]
      by_cases z:k=a
      ·subst z
       rw[u,←s,←N]
       exact World.cell?_setCell_same _ _ _ c1
      ·rw[World.cell?_setCell_other _ _ _ _ (by simp<;>omega),b.ou.cell k hk]
       congr 3
       unfold tS
       by_cases C:k<a∨L.length≤k+a
       ·rw[ab C,ab (by omega)]
       ·rw[aa C,aa (by omega)]
    ·simp[b.ou.Sj k hk]
    ·exact((b.ou.x.at_ _ _).at_ _ _).drew
   case measure=>simp[intOf];omega
  ·go_wp2_with (refine lM ?_ ?_<;>intro hq)
   go_end0
   exact⟨rfl,a,by omega,b.ou⟩
theorem OC {a:Nat}(h:L.length≤2*a+1){k:Nat}(b:k<L.length):tS L a k=L.reverse[k]'(by simpa using b):=by
 rw[List.getElem_reverse]
 unfold tS
 split
 ·rw[aL,aF (by omega)];rfl
 ·have e:L.length-1-k=k:=by omega
  rw[aL,aF b]
  simp only[e]
  rfl
theorem FK(s:aK)(cap:Nat)(w:World)(e:TypeId)(k:Nat)(c:k<s.length)(z:Nat×Nat)(a:s.length≤z.1) :
  (w.alloc (.cells (bytesRow ⟨s.toArray⟩ cap) e z)).cell? ⟨w.heap.size,k,none⟩=some (.int .u8 (s[k].toNat:Int)) ∧
  (w.alloc (.cells (bytesRow ⟨s.toArray⟩ cap) e z)).frozen? ⟨w.heap.size,k,none⟩=false:=by
 have b:(w.alloc (.cells (bytesRow ⟨s.toArray⟩ cap) e z)).heap[w.heap.size]?=some (.cells (bytesRow ⟨s.toArray⟩ cap) e z):=heap_alloc_new w _
 constructor
 ·rw[cell_of_row _ _ _ _ _ _ b,bytesRow_at _ _ _ (by simpa using c)]
  simp
 ·obtain⟨d,f⟩:=z
  have a:s.length≤d:=a
  simp only[World.frozen?,b]
  simp
  omega
theorem Mv(s:aK)(i:s.length≤maxLen)(w:World):Calls Tryz.prog 100 #[S s] w fun e w'=>e=.returned (S s.reverse)∧bf w w':=by
 have h:=run_bytes_of_string (P:=Tryz.prog) w 9 233 5 ⟨s.toArray⟩ Tryz.underlying9 Tryz.underlying233 Tryz.underlying5
 obtain⟨cap,d⟩:∃cap,cap=grownCap w (⟨s.toArray⟩:ByteArray).size 0 5:=⟨_,rfl⟩
 obtain⟨W,g⟩:∃W,W=w.drew.alloc (.cells (bytesRow ⟨s.toArray⟩ cap) 5 ((bytesRow ⟨s.toArray⟩ cap).size,(bytesRow ⟨s.toArray⟩ cap).size+1)):=⟨_,rfl⟩
 rw[←d,←g] at h
 have f:JT W W w.heap.size s 0:=by
  refine⟨fun k hk=>?_,fun k hk=>?_,al.refl _ _⟩
  ·have:=(FK s cap w.drew 5 k hk ((bytesRow ⟨s.toArray⟩ cap).size,(bytesRow ⟨s.toArray⟩ cap).size+1) (by simp[bytesRow])).1
   rw[g]
   have e:tS s 0 k=s[k]:=by unfold tS;rw[aa (by omega),aL,aF hk];rfl
   rw[e];exact this
  ·have:=(FK s cap w.drew 5 k hk ((bytesRow ⟨s.toArray⟩ cap).size,(bytesRow ⟨s.toArray⟩ cap).size+1) (by simp[bytesRow])).2
   rw[g];exact this
 have l:bf w W:=by rw[g];exact(al.refl No w).drew.alloc _
 have h:(convert 9 233 (S s)).run Tryz.prog w=.ok (.slice (some ⟨w.heap.size,0,none⟩) s.length cap) W:=h
 have m:=aj (KX (c:=cap) f rfl i)
 have n:=aj l
 clear g d f l
 unfold maxLen at i
 go_enter Tryz.func100,Tryz.ntmps100
 go_wp2_with (refine dN ?_)
 refine m.ou.mono ?_
 rintro e u ⟨rfl,a,o,f⟩
 have q:(convert 233 9 (.slice (some ⟨w.heap.size,0,none⟩) s.length cap)).run Tryz.prog u=.ok (S s.reverse) u:=by
  have:=run_convert_bytes_back (P:=Tryz.prog) u 233 9 5 ⟨w.heap.size,0,none⟩ cap s.reverse Tryz.underlying233 Tryz.underlying5 Tryz.underlying9 (fun j hj=>by
   rw[pG,bX,f.cell j (by simpa using hj),OC o (by simpa using hj)])
  rw[List.length_reverse] at this
  exact this
 have p:Hd (bf w u):=n.ou.trans f.x fun b hb e=>by omega
 clear m f h
 refine cS ?_
 go_ret
 exact⟨rfl,p.ou⟩
end Go.Proofs.YtpgmcijdcnnjpaaGreatDoor
