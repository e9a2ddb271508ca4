/- Lemmas for it. -/
import Derived.Test.YtpgmcijdcnnjpaaGreatDoorPk35
set_option linter.all false
set_option maxRecDepth 100000
set_option maxHeartbeats 8000000
namespace Go.Proofs.YtpgmcijdcnnjpaaGreatDoor
open Go Go.RowKit
variable {A:Option Addr}
abbrev Ug:TypeId:=52
abbrev Uq:=(Option Addr×Nat×Nat)×Int
def Mm:kJ Uq:=⟨2,fun x=>[.slice x.1.1 x.1.2.1 x.1.2.2,.int .i64 x.2],fun _=>rfl⟩
theorem QL:(Tryz.prog.info? Ug).map (fun i=>(i.zero,i.size,i.bytes))=some (some (.agg #[.slice none 0 0,.int .i64 0]),2,32):=by kernel_rfl
theorem MZ:tf Tryz.prog 34 Ug 2:=tf.mk' Tryz.underlying34 QL rfl (by omega) (by omega)
structure FC (on:Bool) (us:List (List Nat)) (cs:List Int) (n:Nat):Prop where
 le:n≤us.length
 all:on=true→n=us.length
 brk:n<us.length→∃m c,n=m+1∧cs[m]?=some c∧c≠0
 ok:on=false→∀i c,i+1<n→cs[i]?=some c→c=0
def PH(w0 w:World)(dg xg k:Nat)(rows:List Ch)(fp:Nat→Prop)(pf:Int)(gs:List dv)(st:List Bool)(on:Bool)(e:Ending)(w':World):Prop:=
 (pf≠0∧e=.returned (.tuple #[.slice none 0 0,eT pf])∧sr w0 w w' dg xg (k+10) rows fp No) ∨
 (pf=0∧∃(r:Nat→Nat) (n:Nat) (A:Option Addr) (c:Nat) (ocs:List Uq),kQ (jc gs st) gs.length r∧FC on (dD gs st r) (ku gs (dD gs st r) rows n).2 n∧e=.returned (.tuple #[.slice A n c,.nilIface]) ∧
  di Mm w' A n ocs∧ocs.map (·.2)=(ku gs (dD gs st r) rows n).2∧sr w0 w w' dg xg (k+10) (ku gs (dD gs st r) rows n).1 fp No)
theorem SH(a:TypeId)(w:World):(Instr.typeAssert .nilIface a 50 true).run Tryz.prog w=.ok (.tuple #[.int .i64 0,.bool false]) w:=by
 unfold Instr.typeAssert
 rw[Sem.run_bind,run_underlying Tryz.underlying50]
 simp[Result.andThen,Sem.run_pure,Sem.run_bind,Tryz.zeroValue50]
theorem QU(f:Int)(w:World):Calls Tryz.prog 46 #[eT f] w fun e w'=>e=.returned (.int .i64 f)∧bf w w':=by
 by_cases h:f=0
 ·subst h
  rw[cO]
  have a:=SH
  go_enter Tryz.func46,Tryz.ntmps46
  go_wp2_with fail
  go_ret
  exact⟨rfl,al.refl _ _⟩
 ·rw[bS h]
  have b:=Qi f
  go_enter Tryz.func46,Tryz.ntmps46
  go_wp2_with fail
  go_ret
  exact⟨rfl,al.refl _ _⟩
theorem SQ(n:Int)(w:World):(binOp .eql 31 .nilIface (.iface 50 (.int .i64 n))).run Tryz.prog w=.ok (.bool false) w:=run_eql_iface_nil_left (P:=Tryz.prog) w 50 (.int .i64 n) Tryz.underlying31
theorem V3(n m:Int)(w:World):(binOp .eql 31 (.iface 50 (.int .i64 n)) (.iface 50 (.int .i64 m))).run Tryz.prog w=.ok (.bool (n==m)) w:=by
 rfl
section
variable {w0 w:World} {dg xg k:Nat} {rows:List Ch} {fp G:Nat→Prop}
theorem qt.zi(h:qt w0 w dg xg k rows fp G){g:Nat}{t:TypeId}{cs:Array Value}(a:Cs w g t cs)(f:Pk≠t)(i:yp≠t)(j:GR≠t)(l:xZ≠t)(m:nC≠t)(o:DQ≠t):¬fp g:=by
 obtain⟨-,-,-,-,q,next,Z,r,d,s,lc,b,n,H,rfl,c,p⟩:=h
 intro e
 rcases e with e|e
 ·exact pq.yV c.lv.st c.lv.dk a i j l m o e
 ·exact Cs.oC p.cs a f e.symm
abbrev Fv(v:Value):Nat→Prop:=fun q=>v.ownBlock=some q
theorem qt.noG(h:qt w0 w dg xg k rows fp G):qt w0 w dg xg k rows fp No:=by
 obtain⟨a,c,f,m,g,next,Z,r,d,i,lc,b,n,H,rfl,j,l⟩:=h
 exact⟨a,c,f,(fun q e=>e.elim),g,next,Z,r,d,i,lc,b,n,H,rfl,j,l.gU fun q e=>e.elim .inl fun e=>e.elim⟩
theorem qt.U8(h:qt w0 w dg xg k rows fp No){G:Nat→Prop}(a:∀q,¬G q):qt w0 w dg xg k rows fp G:=by
 obtain⟨c,f,g,o,i,next,Z,r,d,j,lc,b,n,H,rfl,l,m⟩:=h
 exact⟨c,f,g,(fun q e=>(a q e).elim),i,next,Z,r,d,j,lc,b,n,H,rfl,l,m.gU fun q e=>e.elim .inl fun e=>(a q e).elim⟩
theorem qt.write{u:World}(h:qt w0 w dg xg k rows fp G)(c:al G w u)(j:∀q,G q→∃cs,Cs w q Ug cs)(s:∀q,G q→w0.heap.size≤q){l:Nat→Prop}(m:∀q,l q→(G q∨w.heap.size≤q)∧q<u.heap.size):qt w0 u dg xg k rows fp l:=by
 have a:∀q,G q→¬fp q:=fun q e=>by
  obtain⟨_,f⟩:=j q e
  exact h.zi f (by decide) (by decide) (by decide) (by decide) (by decide) (by decide)
 obtain⟨t,v,x,B,y,next,Z,r,d,z,lc,b,n,H,rfl,o,p⟩:=h
 have i:¬G xg:=fun e=>a xg e (.inr rfl)
 refine⟨t.trans c fun q hq e=>by have:=s q e;omega,v,x,fun q e=>(m q e).2,y,next,Z,r,d,z,lc,b,n,H,rfl,o.aP c (fun q e e2=>a q e2 (.inl e)) (fun g hg e=>?_),p.step (p.cs.aP c i) (c.gU fun _ _ e=>.inr e) fun q e=>?_⟩
 ·obtain⟨_,f⟩:=fI o.lv.st.own hg
  obtain⟨_,A⟩:=j g e
  exact Cs.oC f A (by decide) rfl
 ·rcases e with e|e
  ·exact .inl (.inl e)
  ·exact(m q e).1.imp .inr id
theorem mv(hE:sF w0)(h:qt w0 w dg xg k rows fp No)(hk:k≤100000)(s goal:aK)(hs:s.length≤9223372036854775807)(b9:goal.length≤10000)(on:Bool) :
  Calls Tryz.prog 15 #[pt xg,S s,S goal,.bool on] w (PH w0 w dg xg k rows fp (zW rows s goal) (iI rows s goal) (mZ rows (iI rows s goal)) on):=by
 have HP:Hd (Calls Tryz.prog 14 #[pt xg,S s,S goal] w (FN w (zW rows s goal) (iI rows s goal) (mZ rows (iI rows s goal)))):=nT hE h s goal hs b9
 have W:=aj (fun K=>lV (s:=s) (goal:=goal) h.ok K)
 have HE:=aj hE
 have HH:=aj h
 have Y:=aj h.lt
 generalize zW rows s goal=pf at HP W ⊢
 generalize iI rows s goal=gs at HP W ⊢
 generalize mZ rows gs=st at HP ⊢
 clear hE h
 go_enter Tryz.func15,Tryz.ntmps15
 go_wp2_with fail
 refine HP.ou.mono ?_
 rintro e Z ⟨ac,bn⟩
 have X1:=aj ac
 rcases bn with⟨K,rfl⟩|⟨K,A,c,os,B,d,xs,r,rfl,hL,hcap,hG,hU⟩
 ·rw[bS K]
  clear HP ac
  go_wp2_with fail
  go_ret2
  exact .inl ⟨K,by rw[bS K];rfl,sr.here ((HH.ou.ext X1.ou).gU (by omega)) X1.ou⟩
 subst K
 have F:=aj (W.ou rfl)
 have bo:=aj hL
 have HG:=aj hG
 have HU:=aj hU
 have a0:Hd (∀u∈dD gs st r,u.Pairwise (·<·)∧(∀k∈u,k<gs.length)∧u.length≤10):=fun u hu=>by
  have h3:=Ag u hu
  have h4:=F.ou.n
  obtain⟨p,_,rfl,_⟩:=lp hu
  exact⟨pX _ _ _ _,fun k hk=>(ka.1 hk).1,by omega⟩
 have bp:(dD gs st r).length≤10:=aJ oW F.ou.n
 obtain⟨G,a1⟩:∃G,G=dD gs st r:=⟨_,rfl⟩
 rw[←a1] at HU a0 bp ⊢
 have H:=aj a1
 have H1:=aj (HH.ou.ext ac)
 have ca:Hd (w0.heap.size≤Z.heap.size):=(HH.ou.x0.ae X1.ou).size
 have bs:=aj (tE F.ou.fit (fun u hu=>(a0.ou u hu).1) HH.ou.ok)
 clear ac HP W hL hG hU a1
 go_wp2_with fail
 go_loopw [13,29] (fun ov iv wr=>∃i:Nat,i≤G.length∧iv=.int .i64 i∧∃(D:Option Addr) (E:Nat) (a:List Uq),ov=.slice D a.length E∧wr.ownsRow 0 Ug 2 (.slice D a.length E) a.length (a.flatMap Mm.enc)∧(∀g,Fv (.slice D a.length E) g→Z.heap.size≤g)∧a.map (·.2)=(ku gs G rows i).2∧(on=false→∀c∈(ku gs G rows i).2,c=0) ∧
  ∃L,qt w0 wr dg xg (k+i) (ku gs G rows i).1 L (Fv (.slice D a.length E))∧al fp Z wr∧∀q,L q→fp q∨Z.heap.size≤q) (fun _ iv _=>G.length-(intOf iv).toNat)
 case atStart=>exact⟨0,au _,rfl,none,0,[],rfl,World.ownsRow_nil _ _ _ _,(fun g hg=>by have hg:(none:Option Nat)=some g:=hg;cases hg),rfl,(fun _ c m=>by cases m),fp,H1.ou.U8 (fun q e=>by have e:(none:Option Nat)=some q:=e;cases e),al.refl _ _,fun q e=>.inl e⟩
 case round=>
  clear H1
  obtain⟨i,hi,rfl,D,E,a,rfl,y,bv,a2,hz,L,bw,bx,bz⟩:=hrel
  have ag:=aj y
  have a3:=aj bv
  have M:=aj a2
  have HZ:=aj hz
  have S1:=aj bw
  have O1:=aj bx
  have F1:=aj bz
  have a4:=(bs.ou i hi).2.1
  have a5:Hd (a.length=i):=by
   have:=congrArg List.length a2
   rwa [bH,a4] at this
  have cq:a.length≤10:=by have:=a5.ou;omega
  have cb:=aj a4
  clear y bv a2 hz bw bx bz a4
  by_cases bA:i<G.length
  ·have ai:=HU.ou fp wr Y.ou O1.ou
   obtain⟨bu,ou,⟨⟨uA,uc⟩,u⟩,rfl,ak,cu⟩:=yK ai.1 bA
   have a6:G[i]?=some u:=by rw[←ai.2.2,bP,ak];rfl
   have b4:di G9 wr uA u.length u:=ai.2.1 _ (ah ak)
   obtain⟨a7,a8,cc⟩:=a0.ou u (ah a6)
   have ce:=aj (ah ak)
   have ch:=aj (HG.ou fp wr Y.ou O1.ou)
   have ci:=aj a8
   have e0:wr.cell? ⟨bu,ou+i,none⟩=some (.slice uA u.length uc):=cu (X.here wr No)
   have a9:=aj (OQ (c:=c) (uc:=uc) HE.ou S1.ou (by omega) F.ou ch.ou b4 a7 a8 cc)
   have HC:=aj (o8 F.ou.fit a7 S1.ou.ok)
   have bb:=aj (rj (gs:=gs) (rows:=rows) a6)
   obtain⟨Ri,bc⟩:∃x,x=ku gs G rows i:=⟨_,rfl⟩
   rw[←bc] at a9 HC bb M HZ
   have cm:=aj bc
   obtain⟨bd,am⟩:=Ri
   obtain⟨Q,hQ⟩:∃x,x=qH gs u bd:=⟨_,rfl⟩
   have f:Hd (ku gs G rows (i+1)=(Q.1,am++[Q.2])):=by rw[Hd,bb.ou,hQ];rfl
   have av:Hd (Calls Tryz.prog 44 #[pt xg,.slice A gs.length c,.slice uA u.length uc] wr fun e w'=>e=.returned (eT Q.2)∧sr w0 wr w' dg xg (k+i+1) Q.1 L (Fv (.slice D a.length E))):=by rw[hQ];exact a9.ou
   have cn:Hd (Q.2=0∨(0<Q.2∧Q.2<11)):=by
    rw[hQ]
    rcases HC.ou with⟨h,-⟩|⟨-,h⟩
    ·exact .inl h
    ·exact .inr h
   obtain⟨bg,l⟩:=Q
   clear ai cu ak a6 b4 a7 a8 bc hQ a9 HC bb
   go_wp2_with fail
   refine av.ou.mono ?_
   rintro e w2 ⟨rfl,N,b5,bi,b6⟩
   have S2:=aj b5
   have ao:=aj (cl ag.ou bi fun g hg e=>by
    obtain⟨_,m⟩:=fI ag.ou hg
    exact S1.ou.zi m (by decide) (by decide) (by decide) (by decide) (by decide) (by decide) e)
   have O2:Hd (al fp Z w2):=O1.ou.under bi F1.ou
   have F2:Hd (∀q,N q→fp q∨Z.heap.size≤q):=fun q e=>(b6 q e).elim (fun e=>F1.ou q e) fun e=>.inr (aJ O1.ou.size e)
   have bk:=aj (J2 (u:=u) (c:=c) (uc:=uc) (HG.ou fp w2 Y.ou O2.ou) (fun g hg=>(F.ou.v g hg).2.1) ((HU.ou fp w2 Y.ou O2.ou).2.1 _ ce.ou) (by omega) ci.ou)
   clear b5 bi b6 e0 av ag S1
   have aD:(l==11)=false:=by
    rw[bl]
    rcases cn.ou with h|h
    ·have h:l=0:=h;omega
    ·have h:0<l∧l<11:=h;omega
   obtain⟨ns,b7⟩:∃x,x=gC gs u:=⟨_,rfl⟩
   rw[←b7] at bk
   clear b7
   have ap:=aj (fun v=>QU l v)
   have I:Hd (∀(u5 J:World) (nv:Option Addr×Nat×Nat) (o:Option Addr) (t:Nat),bf w2 u5→J.ownsRow 0 Ug 2 (.slice o (a.length+1:Nat) t) (a.length+1) (a.flatMap Mm.enc++[Value.slice nv.1 nv.2.1 nv.2.2,.int .i64 l])→u5.grownBy J (Value.slice D a.length E).ownBlock →
     ((Value.slice o (a.length+1:Nat) t).ownBlock=(Value.slice D a.length E).ownBlock∨(Value.slice o (a.length+1:Nat) t).ownBlock=some u5.heap.size) →
     J.ownsRow 0 Ug 2 (.slice o (a++[(nv,l)]).length t) (a++[(nv,l)]).length ((a++[(nv,l)]).flatMap Mm.enc)∧(∀g,Fv (.slice o (a++[(nv,l)]).length t) g→Z.heap.size≤g)∧qt w0 J dg xg (k+(i+1)) bg N (Fv (.slice o (a++[(nv,l)]).length t))∧al fp Z J):=fun u5 J nv o t V y hg hb=>by
    have hl:(a++[(nv,l)]).length=a.length+1:=by simp
    have b8:al (Fv (.slice D a.length E)) u5 J:=(al.refl _ _).grown hg fun g e=>.inr e
    have h1:∀g,Fv (.slice o (a.length+1:Nat) t) g→Fv (.slice D a.length E) g∨u5.heap.size≤g:=fun g e=>by
     rcases hb with h|h
     ·exact .inl (h.symm.trans e)
     ·have h3:some u5.heap.size=some g:=h.symm.trans e
      injection h3 with h3
      exact .inr (by omega)
    have ct:Z.heap.size≤u5.heap.size:=aJ O2.ou.size V.size
    rw[hl,bF]
    refine⟨y,fun g e=>?_,(S2.ou.ext V).write b8 (fun q e=>fI (oH ao.ou V) e) (fun q e=>aJ ca.ou (a3.ou q e)) (fun q e=>⟨h1 q e,?_⟩),(O2.ou.ae V).trans b8 fun q hq e=>by have:=a3.ou q e;omega⟩
    ·rcases h1 g e with h|h
     ·exact a3.ou g h
     ·omega
    ·obtain⟨_,m⟩:=fI y e
     exact m.lt
   by_cases K:l=0
   ·subst K
    rw[cO] at ap ⊢
    have hq:=SQ 11
    clear aD
    go_wp2_with fail
    refine bk.ou.mono ?_
    rintro e u3 ⟨O,P,rfl,R⟩
    have X3:=aj R.ext
    clear R
    go_wp2_with fail
    refine(ap.ou u3).mono ?_
    rintro e u4 ⟨rfl,V⟩
    have X4:=aj (X3.ou.ae V)
    clear V
    go_wp2_with (first|(at_builtin;go_must (refine dy (v:=.slice D a.length E) (n:=a.length) (xs:=a.flatMap Mm.enc) rfl MZ rfl rfl rfl (oH ao.ou (X4.ou.ae ((al.refl No _).alloc _))) (iQ u4 _ [.slice O ns.length P,.int .i64 0]) (by simp[Value.oneCell']) (by omega) ?_);intro o t J b z C)|fail)
    obtain⟨q1,q2,q3,q4⟩:=I.ou _ J (O,ns.length,P) o t (X4.ou.ae ((al.refl No _).alloc _)) b z C
    have Q1:=aj q1
    have Q2:=aj q2
    have Q3:=aj q3
    have Q4:=aj q4
    clear b z C q1 q2 q3 q4 I
    go_roundw
    case rel=>
     refine⟨i+1,by omega,by go_num,o,t,a++[((O,ns.length,P),0)],by simp,Q1.ou,Q2.ou,?_,?_,N,?_,Q4.ou,F2.ou⟩
     ·rw[f.ou,cU,M.ou];rfl
     ·intro ho c m
      rw[f.ou] at m
      rcases az.1 m with m|m
      ·exact HZ.ou ho c m
      ·exact aC.1 m
     ·rw[f.ou];exact Q3.ou
    case measure=>simp[intOf];omega
   ·rw[bS K] at ap ⊢
    have hq:=V3 l 11
    rw[aD] at hq
    go_wp2_with fail
    refine bk.ou.mono ?_
    rintro e u3 ⟨O,P,rfl,R⟩
    have X3:=aj R.ext
    clear R
    go_wp2_with fail
    refine(ap.ou u3).mono ?_
    rintro e u4 ⟨rfl,V⟩
    have X4:=aj (X3.ou.ae V)
    clear V
    cases on with
    | true=>
     go_wp2_with (first|(at_builtin;go_must (refine dy (v:=.slice D a.length E) (n:=a.length) (xs:=a.flatMap Mm.enc) rfl MZ rfl rfl rfl (oH ao.ou (X4.ou.ae ((al.refl No _).alloc _))) (iQ u4 _ [.slice O ns.length P,.int .i64 l]) (by simp[Value.oneCell']) (by omega) ?_);intro o t J b z C)|(refine aZ rfl ?_;refine bK ?_;all_goals (refine ar ?_)))
     obtain⟨q1,q2,q3,q4⟩:=I.ou _ J (O,ns.length,P) o t (X4.ou.ae ((al.refl No _).alloc _)) b z C
     have Q1:=aj q1
     have Q2:=aj q2
     have Q3:=aj q3
     have Q4:=aj q4
     clear b z C q1 q2 q3 q4 I
     go_roundw
     case rel=>
      refine⟨i+1,by omega,by go_num,o,t,a++[((O,ns.length,P),l)],by simp,Q1.ou,Q2.ou,?_,(fun ho=>by cases ho),N,?_,Q4.ou,F2.ou⟩
      ·rw[f.ou,cU,M.ou];rfl
      ·rw[f.ou];exact Q3.ou
     case measure=>simp[intOf];omega
    | false=>
     go_wp2_with (first|(at_builtin;go_must (refine dy (v:=.slice D a.length E) (n:=a.length) (xs:=a.flatMap Mm.enc) rfl MZ rfl rfl rfl (oH ao.ou (X4.ou.ae ((al.refl No _).alloc _))) (iQ u4 _ [.slice O ns.length P,.int .i64 l]) (by simp[Value.oneCell']) (by omega) ?_);intro o t J b z C)|(refine aZ rfl ?_;refine bK ?_;all_goals (refine ar ?_)))
     obtain⟨q1,q2,q3,q4⟩:=I.ou _ J (O,ns.length,P) o t (X4.ou.ae ((al.refl No _).alloc _)) b z C
     have Q1:=aj q1
     have Q2:=aj q2
     have Q3:=aj q3
     have Q4:=aj q4
     clear b z C q1 q2 q3 q4 I
     go_ret2
     have co:am.length=i:=by have:=cb.ou;rw[←cm.ou] at this;exact this
     have U:=a5.ou
     unfold PH
     refine .inr ⟨rfl,r,i+1,o,t,a++[((O,ns.length,P),l)],bo.ou,?_,?_,?_,?_,?_⟩
     ·rw[←H.ou,f.ou]
      refine⟨bA,(fun h=>by cases h),fun _=>⟨i,l,rfl,?_,K⟩,fun _ j c hj m=>?_⟩
      ·show(am++[l])[i]?=some l
       rw[dG (by omega),co,gI]
       try rfl
      ·have m:(am++[l])[j]?=some c:=m
       rw[bG (by omega)] at m
       exact HZ.ou (by trivial) c (ah m)
     ·show Ending.returned (.tuple #[.slice o (a.length+1:Nat) t,.nilIface])=_
      rw[U]
     ·have:=di.jk (T:=Mm) (by decide) Q1.ou
      rw[show(a++[((O,ns.length,P),l)]).length=i+1 by rw[af,U];rfl] at this
      exact this
     ·rw[←H.ou,f.ou,cU,M.ou];rfl
     ·rw[←H.ou,f.ou]
      exact⟨N,Q3.ou.noG.gU (by omega),(al.any X1.ou).trans Q4.ou fun _ _ e=>e,fun q e=>(F2.ou q e).imp id fun e=>aJ X1.ou.size e⟩
  ·obtain rfl:i=G.length:=by omega
   go_wp2_with fail
   go_ret2
   have U:=a5.ou
   unfold PH
   refine .inr ⟨rfl,r,G.length,D,E,a,bo.ou,?_,?_,?_,?_,?_⟩
   ·rw[←H.ou]
    exact⟨aq _,fun _=>rfl,fun h=>absurd h (Nat.lt_irrefl _),fun ho j c _ m=>HZ.ou ho c (ah m)⟩
   ·show Ending.returned (.tuple #[.slice D a.length E,.nilIface])=_
    rw[U]
   ·have:=di.jk (T:=Mm) (by decide) ag.ou
    rw[U] at this
    exact this
   ·rw[←H.ou];exact M.ou
   ·rw[←H.ou]
    exact⟨L,S1.ou.noG.gU (by omega),(al.any X1.ou).trans O1.ou fun _ _ e=>e,fun q e=>(F1.ou q e).imp id fun e=>aJ X1.ou.size e⟩
end
theorem nu.nil:nu []:=⟨⟨List.Pairwise.nil,(fun x hx=>by cases hx),fun x hx=>by cases hx⟩,rfl,fun x hx=>by cases hx⟩
theorem EV{w0 w:World}(v:sF w0)(x:bf w0 w):Calls Tryz.prog 37 #[] w fun e w'=>∃dg n o,e=.returned (.tuple #[pt dg,pt n,.bool true])∧bf w w'∧qt w0 w' dg n 0 [] o No:=by
 have y:=aj v
 have c:=aj x
 have z:=aj (Ub 100 (by omega) (by omega) w)
 clear v x
 go_enter Tryz.func37,Tryz.ntmps37
 go_wp2_with (refine dN ?_)
 refine z.ou.mono ?_
 rintro e T ⟨r,rfl,p,A,h⟩
 have K:=aj p
 have B:=aj A
 have q:=aj h
 have C:=aj (Mg p (by omega) (by omega))
 clear p A h z
 go_wp2_with (refine dN ?_)
 refine C.ou.mono ?_
 rintro e L ⟨rfl,s,d,a,i,j⟩
 have M:=aj d
 have l:Hd (bf w L):=B.ou.trans i fun b hb e=>by have:=q.ou b e;omega
 have t:Hd (∀b,s.fp b→w.heap.size≤b):=fun b hb=>by
  rcases j b hb with e|e
  ·exact q.ou b e
  ·have:=B.ou.size;omega
 have U:=aj a
 have D:=aj (ED (k:=0) (rows:=[]) (dg:=r.g) (next:=0) (P:=fun _=>True) y.ou (c.ou.ae l.ou) nu.nil (by
  have E:=Cj (y.ou.ml.ext (c.ou.ae l.ou)) d (Oc (by omega) (by omega)) rfl
  rw[a] at E
  refine E.mono ?_
  rintro e F ⟨Z,rfl,u,G,H,I,f,N,O⟩
  have Q:sL w F Z s (xl 100):=sL.Kd l.ou.size (M.ou.ext f) t.ou (Oc (by omega) (by omega)) (OS 100) rfl rfl (by rw[a];exact u) G H I N O
  have m:=SV.Oz (w0:=w0) ⟨Q,G,H,I,l.ou.ae f⟩ c.ou.size
  rw[a] at m
  exact⟨Z.g,rfl,f,Z,s,_,m,fun _ _=>.inl trivial⟩))
 clear d a i j C K q
 go_wp2_with (refine dN ?_)
 refine D.ou.mono ?_
 rintro e F ⟨n,rfl,f,o,J,-⟩
 have R:=aj J
 have S:=aj (l.ou.ae f)
 clear f J D
 refine cS ?_
 go_ret3
 exact⟨r.g,n,o,rfl,S.ou,R.ou⟩
inductive mG:List Ch→Prop
 | nil:mG []
 | put {rows:List Ch} (f:bm):mG rows→mG (wZ rows f).1
 | drop {rows:List Ch} (n:aK):mG rows→mG (EY rows n).1
 | bld {rows:List Ch} {s goal:aK} {r:Nat→Nat} {n:Nat}:mG rows→nu rows→zW rows s goal=0→kQ (jc (iI rows s goal) (mZ rows (iI rows s goal))) (iI rows s goal).length r→n≤(dD (iI rows s goal) (mZ rows (iI rows s goal)) r).length→mG (ku (iI rows s goal) (dD (iI rows s goal) (mZ rows (iI rows s goal)) r) rows n).1
def oF(w0:World)(dg k:Nat)(e:Ending)(w':World):Prop:=∃xg rows fp,e=.returned (pt xg)∧qt w0 w' dg xg k rows fp No∧mG rows
theorem oF.of{w0 w w':World}{dg a k:Nat}{rows:List Ch}{d:Nat→Prop}(h:sr w0 w w' dg a k rows d No)(e:mG rows){c:Nat}(f:k≤c):oF w0 dg c (.returned (pt a)) w':=by
 obtain⟨b,g,-,-⟩:=h
 exact⟨a,rows,b,rfl,g.gU f,e⟩
abbrev dkT:TypeId:=83
section
variable {w0 w:World} {dg xg k:Nat} {rows:List Ch} {fp:Nat→Prop}
theorem So(K:sF w0)(h:qt w0 w dg xg k rows fp No)(hk:k≤10000)(L:mG rows)(x:Dd)(M:x.s.length≤800)(N:x.t.length≤400) :
  Calls Tryz.prog 39 #[pt dg,pt xg,.agg #[S x.kind,S x.s,S x.t,.int .i64 x.a,.int .u64 (x.k:Int),.slice x.ca x.cn x.cc]] w (oF w0 dg (k+10)):=by
 obtain⟨u,l⟩:∃v,v=w.alloc (.cells #[S x.kind,S x.s,S x.t,.int .i64 x.a,.int .u64 (x.k:Int),.slice x.ca x.cn x.cc] dkT):=⟨_,rfl⟩
 obtain⟨F,p⟩:∃g,g=w.heap.size:=⟨_,rfl⟩
 have O:bf w u:=by rw[l];exact(al.refl No w).alloc _
 have m:Cs u F dkT #[S x.kind,S x.s,S x.t,.int .i64 x.a,.int .u64 (x.k:Int),.slice x.ca x.cn x.cc]:=by rw[l,p];exact Cs.new _ _ _
 have y:=aj (h.ext O)
 have C:=aj K
 have j:=aj L
 have k0:u.cell? ⟨F,0,none⟩=some (S x.kind):=m.cell 0
 have z:u.cell? ⟨F,1,none⟩=some (S x.s):=m.cell 1
 have B:u.cell? ⟨F,2,none⟩=some (S x.t):=m.cell 2
 obtain⟨f,s,t,ai,ak,ca,cn,cc,ch⟩:=x
 have M:s.length≤800:=M
 have N:t.length≤400:=N
 clear h K L O m
 go_enter Tryz.func39,Tryz.ntmps39
 go_upto_region 1 with fail
 rw[←l,←p]
 clear l p
 obtain⟨Q,R⟩:∃q,(f==([112,117,116]:aK))=q:=⟨_,rfl⟩
 cases Q with
 | true=>
  have i:=aj (El C.ou y.ou (by omega) (s,t) (by show s.length≤900;omega) (by show t.length≤900;omega))
  go_wp2_with fail
  refine i.ou.mono ?_
  rintro e D ⟨rfl,d⟩
  have o:=aj d
  clear d i k0 z B
  go_wp2_with fail
  go_ret
  exact oF.of o.ou (j.ou.put (s,t)) (by omega)
 | false=>
  obtain⟨T,U⟩:∃q,(f==([100,114,111,112]:aK))=q:=⟨_,rfl⟩
  cases T with
  | true=>
   have i:=aj (Pe C.ou y.ou (by omega) s (by omega))
   go_wp2_with fail
   refine i.ou.mono ?_
   rintro e D ⟨rfl,d⟩
   have o:=aj d
   clear d i k0 z B
   go_wp2_with fail
   go_ret
   exact oF.of o.ou (j.ou.drop s) (by omega)
  | false=>
   obtain⟨G,V⟩:∃q,(f==([98,117,105,108,100]:aK))=q:=⟨_,rfl⟩
   obtain⟨E,W⟩:∃q,(f==([103,111]:aK))=q:=⟨_,rfl⟩
   by_cases H:G=true∨E=true
   ·have i:Hd (∀on,Calls Tryz.prog 15 #[pt xg,S s,S t,.bool on] u (fun e w'=>∃v,e=.returned v∧(∃a b,v=.tuple #[a,b])∧oF w0 dg (k+10) (.returned (pt xg)) w')):=fun on=>
     (mv C.ou y.ou (by omega) s t (by omega) (by omega) on).mono fun e w' h=>by
      rcases h with⟨h0,rfl,d⟩|⟨h0,r,n,A,c,ocs,hL,hB,rfl,-,-,d⟩
      ·exact⟨_,rfl,⟨_,_,rfl⟩,oF.of d j.ou (aq _)⟩
      ·exact⟨_,rfl,⟨_,_,rfl⟩,oF.of d (j.ou.bld y.ou.ok h0 hL hB.le) (aq _)⟩
    cases G with
    | true=>
     go_wp2_with fail
     refine(i.ou E).mono ?_
     rintro e D ⟨_,rfl,⟨a,b,rfl⟩,d⟩
     have o:=aj d
     clear d i k0 z B
     go_wp2_with fail
     go_ret
     exact o.ou
    | false=>
     obtain rfl:E=true:=H.resolve_left (by decide)
     clear H
     go_wp2_with fail
     refine(i.ou true).mono ?_
     rintro e D ⟨_,rfl,⟨a,b,rfl⟩,d⟩
     have o:=aj d
     clear d i k0 z B
     go_wp2_with fail
     go_ret
     exact o.ou
   ·obtain⟨rfl,rfl⟩:G=false∧E=false:=by
     cases G<;>cases E<;>simp_all
    clear H
    obtain⟨X,Y⟩:∃q,(f==([115,97,118,101]:aK))=q:=⟨_,rfl⟩
    cases X with
    | true=>
     have i:=aj (MN C.ou y.ou (by omega))
     go_wp2_with fail
     refine i.ou.mono ?_
     rintro e D ⟨rfl,d⟩
     have o:=aj d
     clear d i k0 z B
     go_wp2_with fail
     go_ret
     exact oF.of o.ou j.ou (by omega)
    | false=>
     have i:=aj (OX C.ou y.ou)
     go_wp2_with fail
     refine i.ou.mono ?_
     rintro e D ⟨I,rfl,-,J,P,-⟩
     have Z:=aj P
     clear P i k0 z B
     go_wp2_with fail
     go_ret
     exact⟨I,rows,J,rfl,Z.ou.gU (by omega),j.ou⟩
end
def oT(w0:World)(lt:Bool)(e:Ending)(w':World):Prop:=
 (lt=false∧e=.returned (.tuple #[.pointer none,.pointer none,.bool false])∧bf w0 w')∨(lt=true∧∃dg xg rows fp,e=.returned (.tuple #[pt dg,pt xg,.bool true])∧qt w0 w' dg xg 1000 rows fp No∧mG rows)
theorem sU{w0 w:World}(z:sF w0)(B:bf w0 w) {n c:Nat}{r:List Dd}(h:nF w0 A n r)(hn:n≤9223372036854775807) :
  Calls Tryz.prog 13 #[.slice A n c] w (oT w0 (l6 30 r)):=by
 have R:=aj z
 have C:=aj B
 have T:=aj h
 have U:=h.row.1
 have D:=aj (Dp (c:=c) (h.ext B) 30 (by omega))
 have K:=aj (fun v (hv:bf w0 v)=>EV z hv)
 obtain⟨lt,f⟩:∃b,b=l6 30 r:=⟨_,rfl⟩
 rw[←f] at D ⊢
 have E:=aj f
 clear z B h f
 go_enter Tryz.func13,Tryz.ntmps13
 go_wp2_with fail
 refine D.ou.mono ?_
 rintro e V ⟨rfl,u⟩
 have L:=aj (C.ou.ae u)
 clear u D
 cases lt with
 | false=>
  go_wp2_with fail
  go_ret3
  exact .inl ⟨rfl,rfl,L.ou⟩
 | true=>
  have y:=E.ou.symm
  unfold l6 at y
  rw[aI,bh,bJ] at y
  have M:n≤30:=by omega
  have F:Hd (∀d∈r,d.s.length≤800∧d.t.length≤400):=fun d hd=>by
   have:=y.2 d hd
   simp only[aI,bh] at this
   exact this.1
  clear y
  go_wp2_with fail
  refine(K.ou V L.ou).mono ?_
  rintro e w2 ⟨dg,m,p,rfl,u,g⟩
  have N:=aj g
  clear u g K
  go_wp2_with fail
  go_loopw [6,8] (fun xv iv wr=>∃i:Nat,i≤n∧iv=.int .i64 i∧∃m rows p,xv=pt m∧qt w0 wr dg m (10*i) rows p No∧mG rows) (fun _ iv _=>n-(intOf iv).toNat)
  case atStart=>exact⟨0,au _,rfl,m,[],p,rfl,N.ou,.nil⟩
  case round=>
   clear N
   obtain⟨i,hi,rfl,m,rows,p,rfl,g,q⟩:=hrel
   have G:=aj g
   have O:=aj q
   clear g q
   by_cases f:i<n
   ·obtain⟨b,o,x,rfl,H,P,j⟩:=BG (T.ou.ext G.ou.x0) f
    obtain⟨W,Y⟩:=F.ou x P
    have Z:wr.cell? ⟨b,o+i*6,none⟩=some (S x.kind):=j 0 (X.here _ _) _ rfl
    have c1:wr.cell? ⟨b,o+i*6+1,none⟩=some (S x.s):=j 1 (X.here _ _) _ rfl
    have c2:wr.cell? ⟨b,o+i*6+2,none⟩=some (S x.t):=j 2 (X.here _ _) _ rfl
    have c3:wr.cell? ⟨b,o+i*6+3,none⟩=some (.int .i64 x.a):=j 3 (X.here _ _) _ rfl
    have c4:wr.cell? ⟨b,o+i*6+4,none⟩=some (.int .u64 (x.k:Int)):=j 4 (X.here _ _) _ rfl
    have c5:wr.cell? ⟨b,o+i*6+5,none⟩=some (.slice x.ca x.cn x.cc):=j 5 (X.here _ _) _ rfl
    have Q:=aj (So R.ou G.ou (by omega) O.ou x W Y)
    clear j H P
    go_wp2_with fail
    refine Q.ou.mono ?_
    rintro e w4 ⟨I,l,J,rfl,g,q⟩
    have S4:=aj g
    have R4:=aj q
    clear g q Q Z c1 c2 c3 c4 c5
    go_wp2_with fail
    go_roundw
    case rel=>exact⟨i+1,by omega,by go_num,I,l,J,rfl,S4.ou.gU (by omega),R4.ou⟩
    case measure=>simp[intOf];omega
   ·obtain rfl:i=n:=by omega
    go_wp2_with fail
    go_ret3
    exact .inr ⟨rfl,dg,m,rows,p,rfl,G.ou.gU (by omega),O.ou⟩
abbrev Vz:aK:=[98,32,58,32,97,10,9,116,117,114,110,32,97,32,98,10]
abbrev VP:bm:=([97],[120,121])
abbrev O0:dv:=⟨[[98]],[[97]],[[116,117,114,110,32,97,32,98]],false⟩
def R9:List Ch:=[cF VP]
theorem Te:wZ [] VP=(R9,0):=by decide +kernel
theorem QW:zW R9 Vz [98]=0:=by decide +kernel
theorem Tz:iI R9 Vz [98]=[O0]:=by decide +kernel
theorem UQ:mZ R9 [O0]=[true]:=by decide +kernel
theorem UP:dD [O0] [true] (fun _=>0)=[[0]]:=by decide +kernel
theorem SJ:(ku [O0] [[0]] R9 1).2=[0]:=by decide +kernel
theorem NL:ji [98] (bL (ku [O0] [[0]] R9 1).1)=true∧ki [98] (bL (ku [O0] [[0]] R9 1).1)=[121,120]:=by decide +kernel
theorem TJ{r:Nat→Nat}(h:kQ (jc [O0] [true]) 1 r):dD [O0] [true] r=[[0]]:=by
 have a:kQ (jc [O0] [true]) 1 (fun _=>0):=fun k (hk:k<1)=>by
  obtain rfl:k=0:=by omega
  exact⟨.here,fun y _=>au y⟩
 rw[←UP]
 exact p9 (gs:=[O0]) h a _
theorem vK{w:World}(p:sF w):Calls Tryz.prog 12 #[] w fun e w'=>e=.returned (.bool true)∧bf w w':=by
 have F:=aj p
 have G:=aj (EV p (al.refl No w))
 clear p
 go_enter Tryz.func12,Tryz.ntmps12
 go_wp2_with fail
 refine G.ou.mono ?_
 rintro e N ⟨dg,H,q,rfl,l,s⟩
 have O:=aj s
 have t:=aj (El F.ou s (by omega) VP (by decide) (by decide))
 rw[Te,cO] at t
 clear l s G
 go_upto_region 2 with fail
 refine cj [5] (Cl N q) (Cl.of (al.refl _ _)) ?_
 refine bK ?_
 (refine bQ ?_;intro K hK)
 refine t.ou.mono ?_
 rintro e P ⟨rfl,f⟩
 have u:=aj f
 refine⟨_,rfl,hK _ _ (fun _=>by
  obtain⟨g,-,y,-⟩:=u.ou
  exact Cl.of y) ?_⟩
 clear hK K f t
 refine bj ?_
 refine bK ?_
 refine ar ?_
 obtain⟨Q,i,-,-⟩:=u.ou
 have I:Hd (Calls Tryz.prog 15 #[pt H,S Vz,S [98],.bool false] P (fun e w'=>∃A c v q,e=.returned (.tuple #[.slice A 1 c,.nilIface])∧di Mm w' A 1 [(v,0)]∧qt w w' dg H 11 (ku [O0] [[0]] R9 1).1 q No)):=
  (mv F.ou i (by omega) Vz [98] (by decide) (by decide) false).mono fun e w' h=>by
   rw[QW,Tz,UQ] at h
   rcases h with⟨h0,-⟩|⟨-,r,n,A,c,ocs,hL,hB,he,a,hoc,f⟩
   ·exact absurd rfl h0
   ·rw[TJ hL] at hB hoc f
    obtain rfl:n=1:=by
     have X:n≤1:=hB.le
     rcases dm n 1 with h2|h2
     ·obtain⟨m,_,e,-⟩:=hB.brk h2
      omega
     ·omega
    rw[SJ] at hoc
    obtain⟨g,y,-,-⟩:=f
    match ocs,hoc,a with
    | [(v,c')],hoc,a=>
     have:c'=0:=by simpa using hoc
     subst this
     exact⟨A,c,v,g,he,a,y⟩
 clear u i O
 go_wp2_with fail
 refine I.ou.mono ?_
 rintro e Y ⟨A,c,v,R,rfl,a,d⟩
 have J:=aj (kS d)
 have z:=aj d
 have B:=aj a
 clear a d I
 go_wp2_with fail
 refine J.ou.mono ?_
 rintro e Z ⟨A4,T,rfl,C⟩
 have j:=fh z.ou.ok.jx z.ou.ok.E9
 have D:=aj (um (c:=T) (C.row (by decide)) (by omega) [98] j.2.1)
 rw[NL.1,NL.2] at D
 have U:=aj C.ext
 clear C J j
 go_wp2_with fail
 refine D.ou.mono ?_
 rintro e V ⟨rfl,l⟩
 have L:=aj (U.ou.ae l)
 obtain⟨b,o,x,rfl,W,k,M⟩:=(B.ou.ext L.ou).get (show 0<1 by omega)
 have E:x=(v,0):=by simpa using k.symm
 subst E
 have c1:V.cell? ⟨b,o+1,none⟩=some (.int .i64 0):=M 1 _ rfl
 clear l k M W D
 refine cS ?_
 go_ret
 exact⟨rfl,z.ou.x0.ae L.ou⟩
theorem QI{w:World} {n:Nat}{xs:List Uq}(h:di Mm w A n xs){k:Nat}(d:k<n) :
  ∃b o x,A=some ⟨b,o,none⟩∧xs[k]?=some x∧(∀ξ:X w No,ξ.v.cell? ⟨b,o+k*2,none⟩=some (.slice x.1.1 x.1.2.1 x.1.2.2))∧∀ξ:X w No,ξ.v.cell? ⟨b,o+k*2+1,none⟩=some (.int .i64 x.2):=by
 obtain⟨b,o,x,e,a,f,c⟩:=h.get d
 exact⟨b,o,x,e,f,fun ξ=>(ξ.h.cell a id).trans (c 0 _ rfl),fun ξ=>(ξ.h.cell a id).trans (c 1 _ rfl)⟩
def vQ(cs:List Int):Bool:=cs.all fun c=>decide (c=0)
theorem IQ{w:World} {n c:Nat}{xs:List Uq}(h:di Mm w A n xs)(D:n≤1000):Calls Tryz.prog 16 #[.slice A n c] w fun e w'=>e=.returned (.bool (vQ (xs.map (·.2))))∧bf w w':=by
 have H:=aj h
 have z:=h.1
 obtain⟨cs,a⟩:∃cs,cs=xs.map (·.2):=⟨_,rfl⟩
 rw[←a]
 have d:=aj a
 clear h a
 go_enter Tryz.func16,Tryz.ntmps16
 go_wp2_with fail
 go_loopw [3] (fun iv wr=>∃i:Nat,i≤n∧iv=.int .i64 i∧vQ (cs.take i)=true∧bf w wr) (fun iv _=>n-(intOf iv).toNat)
 case atStart=>exact⟨0,au _,rfl,rfl,al.refl _ _⟩
 case round=>
  obtain⟨i,E,rfl,m,q⟩:=hrel
  have r:=aj m
  have j:=aj q
  clear m q
  by_cases k:i<n
  ·obtain⟨b,o,x,rfl,f,B,s⟩:=QI H.ou k
   have t:wr.cell? ⟨b,o+i*2+1,none⟩=some (.int .i64 x.2):=s ⟨wr,j.ou⟩
   have u:cs[i]?=some x.2:=by rw[d.ou,bP,f];rfl
   obtain⟨v,g⟩:=x
   have y:Hd (cs[i]?=some g):=u
   have t:wr.cell? ⟨b,o+i*2+1,none⟩=some (.int .i64 g):=t
   clear f B s u
   by_cases l:g=0
   ·subst l
    go_wp2_with fail
    go_roundw
    case rel=>exact⟨i+1,by omega,by go_num,ql r.ou y.ou (by decide),j.ou⟩
    case measure=>simp[intOf];omega
   ·have F:(g==0)=false:=by rw[bl];exact l
    have C:decide (g=0)=false:=by rw[aA];exact l
    go_wp2_with fail
    go_ret
    refine⟨fE ?_,j.ou⟩
    exact(mL (p:=fun c=>decide (c=0)) y.ou C).symm
  ·obtain rfl:i=n:=by omega
   go_wp2_with fail
   go_ret
   refine⟨fE ?_,j.ou⟩
   have:=r.ou
   rw[ay (by rw[d.ou,bH];omega)] at this
   exact this.symm
section
variable {rows:List Ch} {s goal:aK} {r:Nat→Nat} {n:Nat} {on:Bool}
theorem FC.whole{a:List (List Nat)}{cs:List Int}(h:FC on a cs n)(b:vQ cs=true):n=a.length:=by
 rcases dm n a.length with hlt|hge
 ·obtain⟨m,c,-,d,e⟩:=h.brk hlt
  have:=bJ.1 b c (ah d)
  simp only[bh] at this
  exact absurd this e
 ·exact Nat.le_antisymm h.le hge
theorem oY{gs:List dv}{st:List Bool}:∀u∈dD gs st r,u.Pairwise (·<·):=fun u hu=>by
 obtain⟨p,_,rfl,_⟩:=lp hu
 exact pX _ _ _ _
theorem xp (b:nu rows) (i:zW rows s goal=0) (j:kQ (jc (iI rows s goal) (mZ rows (iI rows s goal))) (iI rows s goal).length r)
  (e:FC on (dD (iI rows s goal) (mZ rows (iI rows s goal)) r) (ku (iI rows s goal) (dD (iI rows s goal) (mZ rows (iI rows s goal)) r) rows n).2 n) (f:vQ (ku (iI rows s goal) (dD (iI rows s goal) (mZ rows (iI rows s goal)) r) rows n).2=true) :
  ox (iI rows s goal) (dD (iI rows s goal) (mZ rows (iI rows s goal)) r).flatten (bL rows) (gY rows)=some (bL (ku (iI rows s goal) (dD (iI rows s goal) (mZ rows (iI rows s goal)) r) rows n).1,gY (ku (iI rows s goal) (dD (iI rows s goal) (mZ rows (iI rows s goal)) r) rows n).1) ∧
  ∀g∈iI rows s goal,g.ba=false→kV (bL (ku (iI rows s goal) (dD (iI rows s goal) (mZ rows (iI rows s goal)) r) rows n).1) (gY (ku (iI rows s goal) (dD (iI rows s goal) (mZ rows (iI rows s goal)) r) rows n).1) g=true:=by
 have d:=lV b i
 have h:=e.whole f
 have a:=FY d.fit (oY (r:=r)) b n e.le fun c hc=>by
  have:=bJ.1 f c hc
  simpa using this
 rw[h,ay (aq _),←h] at a
 exact⟨a,Gj d.ok j (Vk.of d.ok rows) a⟩
theorem AY{l:List bm}{K:aK→Option iT}{g:dv}(h:kV l K g=true):∀t∈g.targets,ji t l=true:=by
 unfold kV at h
 split at h
 ·rename_i r o _ ho
  exact(qv List.Pairwise.nil ho).2.1
 ·cases h
theorem KF(c:nu rows)(a:zW rows s goal=0)(d:iI rows s goal=[]):ji goal (bL rows)=true:=by
 unfold zW at a
 split at a
 ·rename_i h1;exact absurd a h1
 ·rename_i h1
  obtain⟨-,b⟩:=sJ (s:=s) (by omega)
  exact(uC (l:=bL rows) (Aq b).1 a).2.2.1 d
end
end Go.Proofs.YtpgmcijdcnnjpaaGreatDoor
