/- Lemmas for it. -/
import Derived.Test.YtpgmcijdcnnjpaaGreatDoorPk31
set_option linter.all false
namespace Go.Proofs.YtpgmcijdcnnjpaaGreatDoor
open Go Go.RowKit
variable {cap i k n:Nat} {c:List Ch} {g:dv} {w:World} {h:V7}
def qH(gs:List dv)(u:List Nat)(rows:List Ch):List Ch×Int:=
 if (eB gs u (bL rows) [] []).2≠0 then (rows,(eB gs u (bL rows) [] []).2)
 else oN rows (Pp (eB gs u (bL rows) [] []).1.1 (ja (eB gs u (bL rows) [] []).1.2) (gC gs u))
def Sc(gs:List dv)(s:List Ch×List Int)(u:List Nat):List Ch×List Int:=((qH gs u s.1).1,s.2++[(qH gs u s.1).2])
def ku(gs:List dv)(us:List (List Nat))(rows:List Ch)(i:Nat):List Ch×List Int:=(us.take i).foldl (Sc gs) (rows,[])
theorem rj{gs:List dv}{a:List (List Nat)}{rows:List Ch} {u:List Nat}(h:a[i]?=some u):ku gs a rows (i+1)=Sc gs (ku gs a rows i) u:=by
 unfold ku
 rw[aU,h,eW]
 try rfl
theorem KP(o:Ov)(a:aK):(o.run a).2<11:=by
 have b:∀k,o.rq k<11:=fun k=>by unfold Ov.rq;split<;>(try split)<;>(try split)<;>omega
 have c:∀k s,o.jJ k s<11:=fun k s=>by unfold Ov.jJ;split<;>(try split)<;>omega
 have d:∀(ns:List aK) (s:aK),(o.j6 ns s).2<11:=fun ns=>by
  induction ns with
  | nil=>intro s;show(0:Int)<11;omega
  | cons n ns ih=>
   intro s
   rw[Ov.Ah]
   split
   ·exact ih _
   ·exact b n
 unfold Ov.run Ov.two Ov.join Ov.wX
 repeat' split
 all_goals first
  | exact c _ _
  | exact b _
  | exact d _ _
  | (show(_:Int)<11;omega)
  | omega
theorem zv:∀(cs:List aK) (o:Ov),(o.runs cs).2<11
 | [],_=>by show(0:Int)<11;omega
 | c::cs,o=>by
  rw[Ov.nq]
  split
  ·exact zv cs _
  ·exact KP o c
theorem IR(xs:List bm)(g:dv):(i6 xs g).2<11:=by
 unfold i6
 split
 ·split<;>simp
 ·exact zv _ _
theorem JJ:∀(cs:List aK) (o:Ov),0≤(o.runs cs).2
 | [],_=>fO _
 | c::cs,o=>by
  rw[Ov.nq]
  split
  ·exact JJ cs _
  ·exact Ov.Hy o c
theorem I9(l:List bm)(g:dv):0≤(gV l g).2∧(gV l g).2<11:=by
 have a:0≤(i6 l g).2:=by
  unfold i6
  split
  ·split<;>simp
  ·exact JJ _ _
 have b:=IR l g
 unfold gV
 split
 ·exact⟨a,b⟩
 ·split<;>simp
theorem pW(gs:List dv):∀(u:List Nat) (l out:List bm) (K:List (aK×iT)),0≤(eB gs u l out K).2∧(eB gs u l out K).2<11
 | [],_,_,_=>by rw[eB];exact⟨fO _,by show(0:Int)<11;omega⟩
 | k::ks,l,out,K=>by
  rw[eB]
  cases gs[k]? with
  | none=>exact pW gs ks _ _ _
  | some g=>
   simp only
   split
   ·exact pW gs ks _ _ _
   ·split
    ·exact I9 l g
    ·exact pW gs ks _ _ _
theorem PE{r:iT}{c:aK}(h:c∈r.bD):c.length≤(lQ r).length:=by
 obtain⟨a,b,e⟩:=List.append_of_mem h
 unfold lQ
 rw[e]
 simp only[af,bF,bN,zH]
 omega
theorem BR:∀(a b:List aK),(∀x∈a,x∈b)→a.Nodup→a.length≤b.length
 | [],_,_,_=>au _
 | x::a,b,hs,c=>by
  have c:=gG.1 c
  have d:=BR a (b.erase x) (fun z hz=>(iu (fun e:z=x=>c.1 (e▸hz))).2 (hs z (aE _ hz))) c.2
  rw[iC (hs x bO)] at d
  have:=iV (hs x bO)
  rw[an]
  omega
theorem zc{n:aK}{l:List bm}:n∈l.map fk↔(dY fk n l).isSome=true:=by
 constructor
 ·intro h
  obtain⟨f,a,rfl⟩:=cw.1 h
  cases hg:dY fk (fk f) l with
  | some _=>rfl
  | none=>
   have:=eI.1 hg f a
   simp at this
 ·intro h
  obtain⟨f,a⟩:=dz.1 h
  obtain⟨b,c⟩:=jH a
  exact c▸cC b
theorem KA{n:aK}{f:bm}{l:List bm}:n∈(jY fk f l).map fk↔n=f.1∨n∈l.map fk:=by
 rw[zc,zc]
 by_cases e:n=f.1
 ·subst e
  rw[show dY fk f.1 (jY fk f l)=some f from sM (key:=fk) f l]
  simp
 ·rw[my (key:=fk) f e]
  simp[e]
theorem ly{n:aK}:∀{own l:List bm},n∈(dE own l).map fk↔n∈own.map fk∨n∈l.map fk
 | [],l=>by simp[dE]
 | f::own,l=>by
  show n∈(dE own (jY fk f l)).map fk↔_
  rw[ly,KA,du,aY]
  constructor
  ·rintro(h|h|h)
   ·exact .inl (.inr h)
   ·exact .inl (.inl h)
   ·exact .inr h
  ·rintro((h|h)|h)
   ·exact .inr (.inl h)
   ·exact .inl h
   ·exact .inr (.inr h)
def SZ(L out:List bm)(r:iT):Prop:=
 r.bD.length≤3∧(∀c∈r.bD,c.length≤300)∧r.aN.length≤3∧(∀f∈r.aN,(f.1∈L.map fk∨f.1∈out.map fk)∧f.2.length≤20)∧r.ou.length≤2∧(∀f∈r.ou,f.1∈out.map fk∧f.2.length≤20)∧(lQ r).length≤300
theorem SZ.more{L out own:List bm}{r:iT}(h:SZ L out r):SZ L (dE own out) r:=
 ⟨h.1,h.2.1,h.2.2.1,fun f hf=>⟨(h.2.2.2.1 f hf).1.imp id fun e=>ly.2 (.inr e),(h.2.2.2.1 f hf).2⟩,h.2.2.2.2.1,fun f hf=>⟨ly.2 (.inr (h.2.2.2.2.2.1 f hf).1),(h.2.2.2.2.2.1 f hf).2⟩,h.2.2.2.2.2.2⟩
theorem uN{l:List bm} (h:(gV l g).2=0):(i6 l g).2=0∧(gV l g).1=((i6 l g).1,jw g l (i6 l g).1)∧(lQ (jw g l (i6 l g).1)).length≤300:=by
 unfold gV at h ⊢
 by_cases a:(i6 l g).2≠0
 ·rw[ab a] at h;exact absurd h a
 ·rw[aa a] at h ⊢
  by_cases b:300<(lQ (jw g l (i6 l g).1)).length
  ·rw[ab b] at h;cases h
  ·rw[aa b]
   exact⟨by omega,rfl,by omega⟩
theorem pv{gs:List dv}(j:∀g∈gs,g.bD.length≤3∧g.aN.length≤3∧g.targets.length≤2)(L:List bm):∀(u:List Nat) (l out:List bm) (K:List (aK×iT)),
  (∀f∈l,(f.1∈L.map fk∨f.1∈out.map fk)∧f.2.length≤20)→(∀p∈K,SZ L out p.2)→(eB gs u l out K).2=0→∀p∈(eB gs u l out K).1.2,SZ L (eB gs u l out K).1.1 p.2
 | [],l,out,K,_,hK,_=>hK
 | k::ks,l,out,K,hl,hK,h=>by
  rw[eB] at h ⊢
  cases hgk:gs[k]? with
  | none=>rw[hgk] at h;exact pv j L ks l out K hl hK h
  | some g=>
   rw[hgk] at h
   simp only at h ⊢
   by_cases d:g.ba=true
   ·rw[ab d] at h ⊢
    exact pv j L ks l out K hl hK h
   ·rw[aa d] at h ⊢
    by_cases m:(gV l g).2≠0
    ·rw[ab m] at h;exact absurd h m
    ·rw[aa m] at h ⊢
     obtain⟨t,v,w⟩:=j g (ah hgk)
     obtain⟨B,x,o⟩:=uN (by omega:(gV l g).2=0)
     have b:=vI l g
     have i:=mP l g
     rw[x] at h ⊢
     refine pv j L ks _ _ _ (fun f a=>?_) (fun p d=>?_) h
     ·rcases rP _ a with a|a
      ·exact⟨.inr (ly.2 (.inl (cC a))),(b f a).2⟩
      ·exact⟨(hl f a).1.imp id fun e=>ly.2 (.inr e),(hl f a).2⟩
     ·rcases az.1 d with d|d
      ·exact(hK p d).more
      ·obtain rfl:=aC.1 d
       refine⟨t,fun c hc=>aJ (PE (r:=jw g l (i6 l g).1) hc) o,aJ (zA _ _) v,fun f a=>?_,?_,fun f a=>⟨ly.2 (.inl (cC a)),(b f a).2⟩,o⟩
       ·obtain⟨n,C,a⟩:=cG.1 a
        split at a
        ·rename_i hb
         obtain rfl:=aC.1 a
         unfold ji at hb
         obtain⟨y,q⟩:=dz.1 hb
         obtain⟨z,A⟩:=jH q
         have s:=hl y z
         have e:ki n l=y.2:=by unfold ki;rw[q];rfl
         refine⟨?_,by show(ki n l).length≤20;rw[e];exact s.2⟩
         show(n∈_∨n∈_)
         rw[←A]
         exact s.1.imp id fun e=>ly.2 (.inr e)
        ·cases a
       ·have:=BR ((i6 l g).1.map fk) g.targets (fun k hk=>by
         obtain⟨f,a,rfl⟩:=cw.1 hk
         have:=(b f a).1
         simpa [iH] using this) (rQ i.1)
        rw[bH] at this
        exact aJ this w
theorem tj{gs:List dv}:∀(u:List Nat) (l out:List bm) (K:List (aK×iT)),(∀f∈out,(∃g∈gs,f.1∈g.targets)∧f.2.length≤20)→∀f∈(eB gs u l out K).1.1,(∃g∈gs,f.1∈g.targets)∧f.2.length≤20
 | [],_,_,_,h=>h
 | k::ks,l,out,K,h=>by
  rw[eB]
  cases hgk:gs[k]? with
  | none=>exact tj ks _ _ _ h
  | some g=>
   simp only
   split
   ·exact tj ks _ _ _ h
   ·split
    ·intro f a;cases a
    ·rename_i ho
     rw[(uN (by omega:(gV l g).2=0)).2.1]
     refine tj ks _ _ _ fun f a=>?_
     rcases rP _ a with a|a
     ·obtain⟨b,c⟩:=vI l g f a
      exact⟨⟨g,ah hgk,by simpa [iH] using b⟩,c⟩
     ·exact h f a
structure xE (gs:List dv):Prop where
 ok:vC gs
 b:∀g∈gs,g.bD.length≤3∧g.aN.length≤3∧g.targets.length≤2
theorem Ca{gs:List dv}(q:xE gs){u:List Nat}(A:u.Pairwise (·<·)){rows:List Ch}(h:nu rows)(v:(eB gs u (bL rows) [] []).2=0)(s:∀c∈(eB gs u (bL rows) [] []).1.1.map cF,dQ c=0) :
  (∀n,n∈gC gs u↔(ja (eB gs u (bL rows) [] []).1.2 n).isSome=true)∧∀n r,ja (eB gs u (bL rows) [] []).1.2 n=some r→oh (lQ r)=(r,0):=by
 have a:=qG gs u (bL rows) [] [] v
 have d:=pv q.b (bL rows) u (bL rows) [] [] (fun f hf=>⟨.inl (cC hf),((fh h.jx h.E9).2.2 f hf).2⟩) (fun p o=>by cases o) v
 have i:=ya q.ok.ds q.ok.t1 A
 generalize eB gs u (bL rows) [] []=R at a d s ⊢
 obtain⟨⟨out,K⟩,f⟩:=R
 dsimp only at a d s ⊢
 have a:K.map (·.1)=gC gs u:=by simpa using a
 have j:∀n,n∈gC gs u↔(ja K n).isSome=true:=fun n=>by
  have:=Io (K:=K) (by rw[a];exact i) n
  rwa [a] at this
 refine⟨j,fun n r hr=>?_⟩
 have B:(n,r)∈K:=by
  have C:n∈K.map (·.1):=by rw[a];exact(j n).2 (by rw[hr];rfl)
  obtain⟨p,o,l⟩:=cw.1 C
  have w:=wK K (by rw[a];exact i) p o
  rw[l,hr] at w
  obtain⟨J,L⟩:=p
  cases l
  cases w
  exact o
 obtain⟨D,E,F,x,G,z,-⟩:=d _ B
 have g:∀k,k∈out.map fk→i7 k=true:=fun k hk=>by
  obtain⟨y,t,rfl⟩:=cw.1 hk
  obtain⟨m,H,I,-⟩:=qO (s (cF y) (cC t))
  rcases I with⟨e,-⟩|e
  ·have e:mX y.1=mX m:=e
   have e:y.1=m:=by simpa using e
   rw[show fk y=y.1 from rfl,e];exact H
  ·have e:mX y.1=qm m:=e
   simp at e
 refine LK r D F G E (fun f hf=>⟨?_,(x f hf).2⟩) fun f hf=>⟨g _ (z f hf).1,(z f hf).2⟩
 rcases(x f hf).1 with h5|h5
 ·obtain⟨y,t,e⟩:=cw.1 h5
  rw[←e]
  exact((fh h.jx h.E9).2.2 y t).1
 ·exact g _ h5
theorem Ff {gs:List dv} (e:xE gs) {u:List Nat} (f:u.Pairwise (·<·)) {rows:List Ch} (h:nu rows) (g:(eB gs u (bL rows) [] []).2=0)
  (a:(oN rows (Pp (eB gs u (bL rows) [] []).1.1 (ja (eB gs u (bL rows) [] []).1.2) (gC gs u))).2=0):sR (Pp (eB gs u (bL rows) [] []).1.1 (ja (eB gs u (bL rows) [] []).1.2) (gC gs u)):=by
 rcases ni rows (Pp (eB gs u (bL rows) [] []).1.1 (ja (eB gs u (bL rows) [] []).1.2) (gC gs u)) with⟨-,h1,-⟩|⟨-,h1,-⟩
 ·obtain⟨b,i⟩:=Ca e f h g fun c a=>h1 c (cE _ a)
  intro c a
  rcases az.1 a with a|a
  ·obtain⟨y,-,rfl⟩:=cw.1 a
   intro j;exact absurd rfl j
  ·obtain⟨n,k,rfl⟩:=cw.1 a
   intro _
   obtain⟨r,d⟩:=dz.1 ((b n).1 k)
   show(oh (lQ ((ja _ n).getD su))).2=0
   rw[d,Option.getD_some,i n r d]
 ·omega
theorem o8{gs:List dv}(p:xE gs){u:List Nat}(q:u.Pairwise (·<·)){rows:List Ch}(h:nu rows) :
  ((qH gs u rows).2=0∧nu (qH gs u rows).1∧ox gs u (bL rows) (gY rows)=some (bL (qH gs u rows).1,gY (qH gs u rows).1))∨((qH gs u rows).1=rows∧0<(qH gs u rows).2∧(qH gs u rows).2<11):=by
 have m:=pW gs u (bL rows) [] []
 have a:=tr gs u (bL rows) [] (bL rows) [] (gY rows) List.Pairwise.nil (lr h.jx.pj h.jx.ok) rfl
 have b:=Ff p q h
 have d:=Ca p q h
 unfold qH
 generalize eB gs u (bL rows) [] []=R at m a b d ⊢
 obtain⟨⟨out,K⟩,f⟩:=R
 dsimp only at m a b d ⊢
 by_cases i:f≠0
 ·rw[ab i]
  exact .inr ⟨rfl,by show 0<f;omega,m.2⟩
 ·rw[aa i]
  have i:f=0:=by omega
  have a:=a i
  have j:=h.RS (b i)
  rcases ni rows (Pp out (ja K) (gC gs u)) with⟨e,h1,h2⟩|⟨e,h1,h2⟩
  ·left
   have t:∀c∈out.map cF,dQ c=0:=fun c hc=>h1 c (cE _ hc)
   obtain⟨g,hback⟩:=d i t
   obtain⟨v,w,x⟩:=Cb out h.jx t
   obtain⟨b1,b2,b3⟩:=FG (ja K) hback (gC gs u) v (fun c hc=>h1 c (cN _ hc)) fun n hn=>(g n).1 hn
   have o:dw rows (Pp out (ja K) (gC gs u))=dw (dw rows (out.map cF)) ((gC gs u).map (cD (ja K))):=by
    unfold dw Pp
    rw[eW]
   rw[e] at j ⊢
   refine⟨rfl,j,?_⟩
   have y:Bo (ja []) (gY rows)=gY rows:=by funext s;rfl
   rw[y] at a
   show ox gs u (bL rows) (gY rows)=some (bL (dw rows _),gY (dw rows _))
   rw[a,o,b2,b3,w,x]
   congr 2
   funext k
   unfold Bo
   by_cases l:k∈gC gs u
   ·rw[ab l]
    obtain⟨r,z⟩:=dz.1 ((g k).1 l)
    rw[z];rfl
   ·rw[aa l]
    cases hkk:ja K k with
    | none=>rfl
    | some r=>exact absurd ((g k).2 (by rw[hkk];rfl)) l
  ·exact .inr ⟨e,h1,h2⟩
theorem tE{gs:List dv}(d:xE gs){a:List (List Nat)}(e:∀u∈a,u.Pairwise (·<·)){rows:List Ch}(h:nu rows):∀i,i≤a.length→nu (ku gs a rows i).1∧(ku gs a rows i).2.length=i∧∀c∈(ku gs a rows i).2,0≤c∧c<11
 | 0,_=>⟨h,rfl,fun c b=>by cases b⟩
 | i+1,hi=>by
  obtain⟨f,g,j⟩:=tE d e h i (by omega)
  rw[rj (aF (show i<a.length by omega))]
  have b:=o8 d (e _ (ez (show i<a.length by omega))) f
  refine⟨?_,by show(_++[_]).length=i+1;rw[af,g];rfl,fun c hm=>?_⟩
  ·rcases b with⟨-,h4,-⟩|⟨h4,-⟩
   ·exact h4
   ·show nu (qH gs _ _).1
    rw[h4];exact f
  ·rcases az.1 hm with hm|hm
   ·exact j c hm
   ·obtain rfl:=aC.1 hm
    rcases b with⟨h4,-⟩|⟨-,h4,h5⟩
    ·rw[h4];exact⟨fO _,by omega⟩
    ·exact⟨by omega,h5⟩
theorem FY{gs:List dv}(e:xE gs){a:List (List Nat)}(f:∀u∈a,u.Pairwise (·<·)){rows:List Ch}(h:nu rows):∀i,i≤a.length→(∀c∈(ku gs a rows i).2,c=0)→ox gs (a.take i).flatten (bL rows) (gY rows)=some (bL (ku gs a rows i).1,gY (ku gs a rows i).1)
 | 0,_,_=>rfl
 | i+1,hi,hz=>by
  have b:i<a.length:=by omega
  have d:=aF b
  rw[rj d] at hz ⊢
  have ih:=FY e f h i (by omega) fun c hc=>hz c (cE _ hc)
  have g:(qH gs a[i] (ku gs a rows i).1).2=0:=hz _ (cN _ (aC.2 rfl))
  rw[aU,d,jE,wk,ih]
  show ox gs [a[i]].flatten _ _=_
  rw[show [a[i]].flatten=a[i] by simp]
  rcases o8 e (f _ (ez b)) (tE e f h i (by omega)).1 with⟨-,-,h4⟩|⟨-,h4,-⟩
  ·exact h4
  ·omega
abbrev xR(K:aK→Option iT):aK→Option (jy×iT):=fun s=>(K s).map fun r=>(⟨none,0,none,0,none,0⟩,r)
theorem wO(K:aK→Option iT):(fun s=>(xR K s).map (·.2))=K:=by
 funext s
 show Option.map _ (Option.map _ (K s))=K s
 cases K s<;>rfl
theorem Bb{l:List bm}{F H:aK→Option (jy×iT)}(h:∀s,(F s).map (·.2)=(H s).map (·.2)){gs:List dv}{st:List Bool} {G:dv}:mN l F gs st i G=mN l H gs st i G:=by
 unfold mN
 rw[qB,qB,show(fun s=>(F s).map (·.2))=fun s=>(H s).map (·.2) from funext h]
theorem vd{l:List bm}{F H:aK→Option (jy×iT)}(h:∀s,(F s).map (·.2)=(H s).map (·.2))(gs:List dv):∀i,gp l F gs i=gp l H gs i
 | 0=>rfl
 | i+1=>by
  rw[gp,gp,vd h gs i]
  cases gs[i]? with
  | none=>rfl
  | some g=>simp only;rw[Bb h]
def mZ(rows:List Ch)(gs:List dv):List Bool:=Ek (bL rows) (xR (gY rows)) gs
structure Vk (gs:List dv) (l:List bm) (K:aK→Option iT) (st:List Bool):Prop where
 fr:∀(k:Nat) g,gs[k]?=some g→pk st k=false→g.ba=false→kV l K g=true
 nd:∀(k:Nat) g,gs[k]?=some g→pk st k=false→∀n∈g.aN,∀(j:Nat) q,gs[j]?=some q→j<k→n∈q.targets→pk st j=false
theorem Vk.of{gs:List dv}(c:vC gs)(rows:List Ch):Vk gs (bL rows) (gY rows) (mZ rows gs):=by
 have key:∀(k:Nat) g,gs[k]?=some g→pk (mZ rows gs) k=false→mN (bL rows) (xR (gY rows)) gs (gp (bL rows) (xR (gY rows)) gs k) k g=false:=fun k g hg h=>by
  have a:(gp (bL rows) (xR (gY rows)) gs gs.length).getD k false=false:=h
  rw[pV _ _ _ _ _ (aw.1 hg).1,hg] at a
  exact a
 refine⟨fun k g hg h hp=>?_,fun k g hg h n hn j q hq hj ht=>?_⟩
 ·have a:=key k g hg h
  unfold mN at a
  rw[hp,dM] at a
  have b:ld (bL rows) (xR (gY rows)) g=true:=by simpa using a.1
  rw[qB,wO] at b
  exact b
 ·have a:=key k g hg h
  unfold mN at a
  rw[dM] at a
  have b:=List.any_eq_false.1 a.2 n hn
  unfold uS at b
  rw[xG (xm c.ds hq ht) hj] at b
  have d:(gp (bL rows) (xR (gY rows)) gs k).getD j false=false:=by simpa using b
  rw[pV _ _ _ _ _ hj] at d
  show(gp (bL rows) (xR (gY rows)) gs gs.length).getD j false=false
  rw[pV _ _ _ _ _ (aw.1 hq).1]
  exact d
section
variable {gs:List dv} {st:List Bool} {r:Nat→Nat} {l:List bm} {K:aK→Option iT}
theorem DI(h:kQ (jc gs st) gs.length r)  (a:gs[k]?=some g)(d:g.ba=false)(b:pk st k=true):k∈(dD gs st r).flatten:=by
 have e:Hj gs k=true:=by unfold Hj;rw[a];simp[d]
 have c:=(aw.1 a).1
 exact List.mem_flatten.2 ⟨_,Fu h c b e,ka.2 ⟨c,b,rfl⟩⟩
theorem Es (h:k∈(dD gs st r).flatten):pk st k=true∧k<gs.length:=by
 obtain⟨u,b,a⟩:=List.mem_flatten.1 h
 obtain⟨p,_,rfl,_⟩:=lp b
 exact⟨(ka.1 a).2.1,(ka.1 a).1⟩
def zy(gs:List dv)(st:List Bool):List Nat:=(List.range gs.length).filter fun k=>!pk st k
theorem nr  : k∈zy gs st↔k<gs.length∧pk st k=false:=by
 unfold zy
 rw[fF,dS]
 simp
theorem Lq(s:vC gs)(h:kQ (jc gs st) gs.length r)(C:Vk gs l K st):UH gs (zy gs st++(dD gs st r).flatten):=by
 intro a i b D g u E n y j q hq v z
 have t:=s.od i g u n y j q hq z
 have f:=(aw.1 hq).1
 have p:(zy gs st).Pairwise (·<·):=List.Pairwise.filter _ List.pairwise_lt_range
 rcases List.append_eq_append_iff.1 D with⟨c,e1,m⟩|⟨c,e1,m⟩
 ·
  cases o:pk st j with
  | false=>rw[e1];exact cE _ (nr.2 ⟨f,o⟩)
  | true=>
   have w:pk st i=true:=(Es (r:=r) (by rw[m];simp)).1
   have d:=DI h hq v o
   have A:=JG u y (xm s.ds hq z) t w o
   have B:r i=r j:=GI h (aw.1 u).1 f (kL.here.down A)
   have k:=xk h
   rw[m] at d k
   rcases az.1 d with e|e
   ·rw[e1];exact cN _ e
   ·rcases aY.1 e with rfl|e
    ·omega
    ·have:=((dp.1 (eN.1 k).2.1).1 j e).2 B
     omega
 ·cases c with
  | nil=>
   rw[cv] at e1
   have m:(dD gs st r).flatten=i::b:=by simpa using m.symm
   cases o:pk st j with
   | false=>rw[←e1];exact nr.2 ⟨f,o⟩
   | true=>
    have w:pk st i=true:=(Es (r:=r) (by rw[m];simp)).1
    have d:=DI h hq v o
    have A:=JG u y (xm s.ds hq z) t w o
    have B:r i=r j:=GI h (aw.1 u).1 f (kL.here.down A)
    have k:=xk h
    rw[m] at d k
    rcases aY.1 d with rfl|e
    ·omega
    ·have:=((dp.1 k).1 j e).2 B
     omega
  | cons x c=>
   obtain⟨rfl,m⟩:i=x∧b=c++(dD gs st r).flatten:=by simpa using m
   have w:i∈zy gs st:=by rw[e1];simp
   have o:pk st j=false:=C.nd i g u (nr.1 w).2 n y j q hq t z
   have e:j∈zy gs st:=nr.2 ⟨f,o⟩
   rw[e1] at e p
   rcases az.1 e with e|e
   ·exact e
   ·rcases aY.1 e with rfl|e
    ·omega
    ·have:=(dp.1 (eN.1 p).2.1).1 j e
     omega
theorem Gj(c:vC gs)(h:kQ (jc gs st) gs.length r)(p:Vk gs l K st){j:List bm}{m:aK→Option iT}(d:ox gs (dD gs st r).flatten l K=some (j,m)):∀g∈gs,g.ba=false→kV j m g=true:=by
 intro g n f
 obtain⟨k,o⟩:=gi n
 have s:=rZ c (dD gs st r).flatten (zy gs st) l K j m ?_ (Lq c h p) (fun i hi g n f=>p.fr i g n (nr.1 hi).2 f) d
 ·refine s k (az.2 ?_) g o f
  cases hst:pk st k with
  | false=>exact .inl (nr.2 ⟨(aw.1 o).1,hst⟩)
  | true=>exact .inr (DI h o f hst)
 ·refine gu.2 ⟨(List.nodup_range).filter _,(xk h).imp fun h=>h.1,fun a ha b hb e=>?_⟩
  have q:=(nr.1 ha).2
  rw[e,(Es hb).1] at q
  cases q
end
theorem LJ{gs:List dv}{rows:List Ch}(h:∀g∈gs,g.ba=false→kV (bL rows) (gY rows) g=true)(r:Nat→Nat):dD gs (mZ rows gs) r=[]:=by
 have e:mZ rows gs=List.replicate gs.length false:=Cz (fun g hg hp=>by rw[qB,wO];exact h g hg hp) gs.length
 rw[e]
 exact Hg gs _ r
theorem Cj (j:Ml w){r:jZ}{d:Dk} {l:eX}{rows:List Ch}(k:ef w r d)(on:gM d.now h l rows)(b:d.down=false) :
  Calls Tryz.prog 53 #[pt r.g] w fun e w'=>∃Z:pq,e=.returned (.tuple #[pt Z.g,.nilIface])∧gq w' Z r.g∧Z.h=h∧Z.l.z=l.z∧Z.rows=rows∧bf w w'∧w.heap.size≤Z.g∧w.heap.size≤Z.l.g:=by
 obtain⟨base,out,b1,b2,b3,m,o⟩:=on.all
 have a:=on.lg
 have f:ee h.first ((d.now.drop 44).take (d.now.length-44)) 0 [] [] 0=(out,l.next):=by
  have:=m
  unfold sj at this
  rw[a.1,a.2.1,a.2.2.1] at this
  exact this
 refine(PA j k b on.wide on.n.1 on.n.2 on.sel (by have:=on.hd.1;omega) b1 b2 b3 f).mono ?_
 rintro e w' ⟨g,y,A,c,p,i,q,s,t⟩
 refine⟨_,p,i,rfl,?_,o.symm,t,q,s⟩
 obtain⟨B,C,D,E,F⟩:=l
 dsimp only at a
 obtain⟨u,v,x,-⟩:=a
 subst u v x
 rfl
theorem sL.Kd{w0 w w':World}{r:jZ}{d:Dk} {l:eX}{rows:List Ch}{Z:pq}(q:w0.heap.size≤w.heap.size)(i:ef w' r d)(c:∀b,r.fp b→w0.heap.size≤b)(on:gM d.now h l rows)(j:d.Ok)(k:d.kept=d.now)(m:d.wait=[])(f:gq w' Z r.g)(n:Z.h=h)(a:Z.l.z=l.z)(o:Z.rows=rows)(s:w.heap.size≤Z.g)(t:w.heap.size≤Z.l.g):sL w0 w' Z r d:=
 ⟨f,i,by
  have:=on.z Z.l.g
  rw[←n,←o] at this
  have e:({ l with g:=Z.l.g }:eX)=Z.l:=by
   obtain⟨u,v,x,y,A⟩:=l
   obtain⟨B,C,p,D,E,F⟩:=Z
   obtain⟨G,H,I,J,K⟩:=p
   simp only[eX.mk.injEq,true_and] at a ⊢
   exact⟨a.1.symm,a.2.1.symm,a.2.2.1.symm,a.2.2.2.symm⟩
  rw[e] at this
  exact this,j,k,m,fun b hb=>by
  rcases hb with e|e|e
  ·exact c b e
  ·omega
  ·omega⟩
theorem TM{l m:eX}(h:l.z=m.z):l.from_=m.from_∧l.many=m.many∧l.first=m.first∧l.next=m.next:=by
 obtain⟨a,b,c,d,e⟩:=l
 obtain⟨f,g,i,j,k⟩:=m
 simp only[eX.mk.injEq,true_and] at h
 exact h
theorem Vj{f:List aK} {l m:eX}{rows:List Ch}(H:gM f h m rows)(e:l.z=m.z):gM f h l rows:=by
 have:=H.z l.g
 have k:({ m with g:=l.g }:eX)=l:=by
  obtain⟨a,b,c,d,i⟩:=l
  obtain⟨j,n,o,p,q⟩:=m
  simp only[eX.mk.injEq,true_and] at e ⊢
  exact⟨e.1.symm,e.2.1.symm,e.2.2.1.symm,e.2.2.2.symm⟩
 rw[k] at this
 exact this
theorem Mh(l:eX)(c:List Ch)(d:Dk):(kl l c d).1.2.wait.length≤d.wait.length+(if 40<c.length then 0 else 43):=by
 by_cases a:40<c.length
 ·rw[ab a]
  unfold kl
  rw[ab a]
  exact aq _
 rw[aa a]
 have b:=BW l c d
 have e:=qu (ed l c d).1
 have f:(ea l c.length (ed l c d).1.fl).1.wait.length≤(ed l c d).1.fl.wait.length+1:=oa _ _ _
 have g:=qu (ea l c.length (ed l c d).1.fl).1
 unfold kl
 repeat' split
 all_goals try dsimp only
 all_goals omega
theorem BY(h:V7)(l:eX)(rows c:List Ch)(d:Dk):(wT h l rows c d).1.2.wait.length≤d.wait.length+43:=by
 have a:=Mh l c d
 unfold wT
 split
 all_goals try dsimp only
 all_goals (split at a<;>omega)
theorem KL(h:V7)(l:eX){rows:List Ch}(c:List Ch)(d:Dk)(a:(eY rows).length≤7140):(vS h l rows c d).1.2.wait.length≤1000+d.wait.length:=by
 have k0:(ru (eY rows)).length≤21:=by rw[yT];exact DK a
 have b:=zR (lf h l (eY rows)) (eY rows) d
 have e:(yH h l rows d).1.2.wait.length≤d.wait.length+22:=by
  unfold yH
  split
  all_goals try dsimp only
  all_goals omega
 have f:=BY (yH h l rows d).1.1.1 (yH h l rows d).1.1.2 rows c (yH h l rows d).1.2
 have g:=BY h l rows c d
 unfold vS
 repeat' split
 all_goals try dsimp only
 all_goals omega
theorem Gv {w0 w:World} (B:Ml w0) (G:Ml w) (H:w0.heap.size≤w.heap.size) {Z:pq} {r:jZ} {d:Dk} (L:sL w0 w Z r d) (I:d.ix=-1∨sq Z.l d.now) (J:Z.h.bU+1≤1000000000∧Z.l.first+Z.l.many≤1000000000)
  {A:Option Addr}   (M:∀v,al (Z.fp r) w v→di fA v A n c) (N:n≤1000000) (C:∀x∈c,x.1.length≤1000∧x.2.1.length≤1000) :
  Calls Tryz.prog 77 #[pt Z.g,.slice A n cap] w fun e w'=>∃f o i q,e=.returned (eT f)∧lP w w' Z r i q o∧o.now.length=d.now.length ∧
   ((f≠0∧f≠11∧0≤f∧sL w0 w' i q o∧i.h=Z.h∧i.l.z=Z.l.z∧i.rows=Z.rows∧o=d∧KK Z.rows Z.l.next Z.l.many c=((Z.rows,Z.l.next),f)) ∨
    (f=0∧sL w0 w' i q o∧(d.ix=-1→o.ix=-1)∧i.rows=dw Z.rows c∧KK Z.rows Z.l.next Z.l.many c=((i.rows,i.l.next),0)∧i.l.many=Z.l.many∧(sq Z.l d.now→sq i.l o.now)∧i.h.bU≤Z.h.bU+1∧i.l.first≤Z.l.first+Z.l.many) ∨
    (f=11∧d.ix≠-1∧(∀b,i.fp q b→w0.heap.size≤b)∧o.wait.length≤1000∧∀K,∃h2 l2 r2,(r2=Z.rows∨r2=dw Z.rows c)∧gM (eV K o.kept o.wait 0) h2 l2 r2∧h2.bU≤Z.h.bU+1∧l2.first≤Z.l.first+Z.l.many)):=by
 refine(Ol G (L.RS B) M N C).mono ?_
 rintro e w' ⟨U,V,D,o,f,a,O,i,q,j,t,u,s⟩
 have p:=lP.fp0 j L.fp H
 obtain⟨W,P,E,Q,R,F,S,T⟩:=QN (d:=d) (h:=Z.h) (l:=Z.l.z) (rows:=Z.rows) (c:=c) (L.on.z 0) L.ok L.kn L.wt (I.imp id fun k=>k) J
 rw[show vS Z.h Z.l.z Z.rows c d=_ from F] at a
 injection a with a k4
 injection a with a k3
 injection a with y a
 injection a with k2 k2'
 subst y k2 k2' k3 k4
 refine⟨R,Q,i,q,O,j,S,?_⟩
 rcases T with⟨a1,a2,a3,a4,a5,a6,a7,a8⟩|⟨a1,a2,a3,a4,a5,a6,a7,a8,a9,a10,a11,a12⟩|⟨a1,a2,a3⟩
 ·left
  subst a7
  exact⟨a1,a2,a3,⟨by have:=j.st;rw[←j.g] at this;exact this,j.dk,by rw[t,s,a4,a6];exact Vj L.on (u.trans a5),L.ok,L.kn,L.wt,p⟩,t.trans a4,u.trans a5,s.trans a6,rfl,a8⟩
 ·right;left
  have z:=TM (l:=i.l) (m:=P) (by rw[←u])
  refine⟨a1,⟨by have:=j.st;rw[←j.g] at this;exact this,j.dk,by rw[t,s];exact Vj a6 (by rw[←u]),a2,a3,a4,p⟩,a5,s.trans a7,by rw[s,z.2.2.2];exact a8,by rw[z.2.1];exact a9,fun hd=>?_,by rw[t];exact a11,by rw[z.2.2.1];exact a12⟩
  have:=a10 hd
  unfold sq at this ⊢
  rw[z.1,z.2.1,z.2.2.1,z.2.2.2]
  exact this
 ·right;right
  refine⟨a1,a2,p,?_,a3⟩
  have y:=KL Z.h Z.l.z c d L.on.small.2
  rw[F,L.wt] at y
  exact y
theorem Lg{w0 w:World}(z:Ml w0)(D:Ml w)(E:w0.heap.size≤w.heap.size){Z:pq}{r:jZ}{d:Dk}(L:sL w0 w Z r d)(F:Z.h.bU+1≤1000000000∧Z.l.first+Z.l.many≤1000000000) :
  Calls Tryz.prog 110 #[pt Z.g] w fun e w'=>∃f m c p,e=.returned (eT f)∧lP w w' Z r c p m∧m.now.length=d.now.length ∧
   ((f=0∧sL w0 w' c p m∧(d.ix=-1→m.ix=-1)∧c.rows=Z.rows∧c.l.next=0∧c.l.many=Z.l.many∧sq c.l m.now∧c.h.bU=Z.h.bU+1∧c.l.first=Z.l.first+Z.l.many) ∨
    (f=11∧d.ix≠-1∧(∀b,c.fp p b→w0.heap.size≤b)∧m.wait.length≤1000∧∀K,∃y l2,gM (eV K m.kept m.wait 0) y l2 Z.rows∧y.bU≤Z.h.bU+1∧l2.first≤Z.l.first+Z.l.many)):=by
 have a:=L.RS z
 refine(Pi D L.st L.dk a.wide a.n1 a.n2 a.wt (fun e=>a.nm (.inl e)) ⟨a.l1.1,a.l1.2.1,a.l1.2.2.1⟩ a.hs (fun x hx=>by
  have O:=nG (a.jx.ok x hx)
  have P:=oV (a.jx.ok x hx)
  omega) a.rn a.rt).mono ?_
 rintro e w' ⟨m,f,q,G,c,p,i,j,t⟩
 have u:=lP.fp0 i L.fp E
 obtain⟨A,H,B,I,J⟩:=NP L.on L.ok L.kn L.wt F
 rw[B] at q
 injection q with v k2
 subst v k2
 refine⟨H,A,c,p,G,i,I,?_⟩
 rcases J with⟨rfl,o1,kn1,wt1,fu1,H1,sc1,nu1⟩|⟨rfl,hfu,hK⟩
 ·left
  rw[ab rfl] at t
  obtain⟨C,M,o⟩:=t
  rw[sc1] at o
  have n:=L.on.lg.2.1
  refine⟨rfl,⟨by have:=i.st;rw[←i.g] at this;exact this,i.dk,by rw[C,o,j];exact H1 M,o1,kn1,wt1,u⟩,fu1,j,by rw[o],by rw[o];exact n.symm,?_,by rw[C];rfl,by rw[o]⟩
  rw[o]
  intro k s _ y N x
  have:=nu1 k s y N
  show je s (Z.l.first+Z.l.many+k)≠_
  rw[this]
  exact fun e=>by cases e
 ·right
  have v:=zR (lf Z.h Z.l (eY Z.rows)) (eY Z.rows) d
  have k0:(ru (eY Z.rows)).length≤21:=by rw[yT];exact DK L.on.small.2
  rw[B,L.wt] at v
  have v:A.wait.length≤0+(ru (eY Z.rows)).length+1:=v
  exact⟨rfl,hfu,u,by omega,hK⟩
abbrev UG(N:Nat):eX:=⟨0,44,N-44,1,0⟩
theorem DA{N i:Nat}(a:i<N):(xl N).now[i]?=some (if i=1 then ec (pM Pq) else ec []):=by
 show((List.replicate N (ec [])).set 1 (ec (pM Pq)))[i]?=_
 by_cases e:i=1
 ·subst e
  rw[cR (by simpa using a),ab rfl]
 ·rw[df (by omega),aa e]
  simp[a]
theorem Eb(N:Nat):(xl N).now.length=N:=by simp[xl]
theorem Oc{N:Nat}(d:50≤N)(e:N≤120):gM (xl N).now Pq (UG N) []:=by
 have f:∀s∈(xl N).now,s.length=340:=mF (fun s hs=>by rw[ga hs];exact fV [] (by simp)) (fV _ (by rw[tL];omega))
 refine⟨f,by rw[Eb];exact⟨d,e⟩,⟨rfl,by rw[Eb],rfl,aq _,by (show 1≤1000000000;decide),au _⟩,by decide,?_,?_,⟨[],[],⟨List.Pairwise.nil,fun x hx=>(by cases hx),fun x hx=>(by cases hx)⟩,by simp,?_,?_,rfl⟩,⟨⟨List.Pairwise.nil,fun x hx=>(by cases hx),fun x hx=>(by cases hx)⟩,rfl⟩,fun k s a hx=>?_⟩
 ·show pE ((xl N).now.getD 1 [])=Pq
  rw[aL,DA (by omega)]
  exact Cy (by decide) (by decide) (by decide) (by decide)
 ·show(pE ((xl N).now.getD 0 [])).bU<1
  rw[aL,DA (by omega)]
  show(pE (ec [])).bU<1
  rw[Lt]
  decide
 ·show(sB (xl N).now 0 21).take 0=[]
  rfl
 ·refine Ha 1 _ 0 [] [] 0 fun s hs=>?_
  obtain⟨k,a⟩:=gi hs
  have b:k<(UG N).many:=by
   have:=(aw.1 a).1
   rw[aH] at this
   omega
  rw[mT b] at a
  have c:k<N-44:=b
  rw[show(UG N).from_+k=44+k from rfl,DA (by omega),aa (by omega)] at a
  injection a with a
  exact a.symm
 ·have c:k<N-44:=a
  rw[DA (by omega),aa (by omega)] at hx
  injection hx with hx
  rw[←hx]
  exact rV.zero _
theorem OS(N:Nat):(xl N).Ok:=⟨rfl,by show(-1:Int)≤-1;decide,mF (fun s hs=>by rw[ga hs];exact fV [] (by simp)) (fV _ (by rw[tL];omega))⟩
def QC(w w':World)(N:Nat)(Z:pq)(r:jZ):Prop:=sL w w' Z r (xl N)∧Z.h=Pq∧Z.l.z=UG N∧Z.rows=[]∧bf w w'
theorem zC {B a:Nat}{e:TypeId}{v:Value}{xs:List Value}(h:w.ownsRow B e a v n xs){b:Nat}(c:v.ownBlock=some b):b<w.heap.size:=by
 rcases h.2 with⟨rfl,_⟩|⟨g',cap,cur,rfl,_,hh,_⟩
 ·simp[Value.ownBlock] at c
 ·simp[Value.ownBlock] at c
  subst c
  exact Cs.lt (show Cs w _ _ _ from hh)
theorem Aa {Z:pq}{r:jZ}{d:Dk}(c:gq w Z r.g)(a:ef w r d):∀b,Z.fp r b→b<w.heap.size:=fun b hb=>by
 rcases hb with(e|e|e|e)|e|e
 ·rw[e];exact a.cs.lt
 ·exact zC a.kept (by rw[e];rfl)
 ·exact zC a.now (by rw[e];rfl)
 ·exact zC a.wait e
 ·rw[e];exact c.cs.lt
 ·rw[e];exact Cs.lt c.lg
theorem Oi{l:eX}{N:Nat}(h:l.z=UG N):l.from_=44∧l.many=N-44∧l.first=1∧l.next=0:=by
 obtain⟨a,b,c,d,e⟩:=l
 simp only[eX.mk.injEq,true_and] at h
 exact h
structure SV (w0 u:World) (dg sg N mn next E1 F1:Nat) (rows:List Ch) (Z:pq) (r:jZ) (d:Dk):Prop where
 lv:sL w0 u Z r d
 dg:r.g=dg
 sg:Z.g=sg
 fu:d.ix=-1
 rw:Z.rows=rows
 nx:Z.l.next=next
 mn:Z.l.many=mn
 ep:Z.h.bU≤E1
 fs:Z.l.first≤F1
 dn:d.now.length=N
section
variable {w0 u v:World} {dg sg N mn next E1 F1:Nat} {rows:List Ch} {Z:pq} {r:jZ} {d:Dk}
theorem SV.ext(h:SV w0 u dg sg N mn next E1 F1 rows Z r d)(a:bf u v):SV w0 v dg sg N mn next E1 F1 rows Z r d:=
 ⟨h.lv.ext a,h.dg,h.sg,h.fu,h.rw,h.nx,h.mn,h.ep,h.fs,h.dn⟩
theorem SV.aP{F:Nat→Prop}(h:SV w0 u dg sg N mn next E1 F1 rows Z r d)(a:al F u v)(e:∀b,Z.fp r b→¬F b)(f:∀g,(Value.slice Z.A Z.rows.length Z.c).ownBlock=some g→¬F g):SV w0 v dg sg N mn next E1 F1 rows Z r d:=
 ⟨⟨⟨h.lv.st.cs.aP a (e _ (.inr (.inl rfl))),h.lv.st.lg.aP a (e _ (.inr (.inr rfl))),cl h.lv.st.own a f⟩,h.lv.dk.aP a fun b hb=>e b (.inl hb),h.lv.on,h.lv.ok,h.lv.kn,h.lv.wt,h.lv.fp⟩,h.dg,h.sg,h.fu,h.rw,h.nx,h.mn,h.ep,h.fs,h.dn⟩
theorem SV.gU{a b:Nat}(h:SV w0 u dg sg N mn next E1 F1 rows Z r d)(c:E1≤a)(e:F1≤b):SV w0 u dg sg N mn next a b rows Z r d:=
 ⟨h.lv,h.dg,h.sg,h.fu,h.rw,h.nx,h.mn,aJ h.ep c,aJ h.fs e,h.dn⟩
def VT(w0 w w':World)(dg sg N mn next E1 F1:Nat)(rows:List Ch)(Z:pq)(r:jZ):Prop:=
 ∃Z' r' d',SV w0 w' dg sg N mn next E1 F1 rows Z' r' d'∧al (Z.fp r) w w'∧∀b,Z'.fp r' b→Z.fp r b∨w.heap.size≤b
theorem SV.SY (h:SV w0 u dg sg N mn next E1 F1 rows Z r d) (j:Ml w0) (y:Ml u) (z:w0.heap.size≤u.heap.size) (G:E1+1≤1000000000∧F1+mn≤1000000000)
  {A:Option Addr}   (B:∀v,al (Z.fp r) u v→di fA v A n c) (C:n≤1000000) (k:∀x∈c,x.1.length≤1000∧x.2.1.length≤1000) :
  Calls Tryz.prog 77 #[pt sg,.slice A n cap] u fun e w'=>e=.returned (eT (KK rows next mn c).2)∧0≤(KK rows next mn c).2∧VT w0 u w' dg sg N mn (KK rows next mn c).1.2 (E1+1) (F1+mn) (KK rows next mn c).1.1 Z r:=by
 have H:=h.ep
 have I:=h.fs
 have J:=h.mn
 have:=Gv j y z h.lv (.inl h.fu) (by omega) B C k (cap:=cap)
 rw[h.sg] at this
 refine this.mono ?_
 rintro e w' ⟨f,l,m,p,q,a,b,i⟩
 rw[h.rw,h.nx,h.mn] at i
 have s:m.g=sg:=a.sg.trans h.sg
 have t:p.g=dg:=a.g.trans h.dg
 have w:l.now.length=N:=b.trans h.dn
 rcases i with⟨hf,-,hp,hL,e1,e2,e3,e4,e5⟩|⟨rfl,hL,hfu,e1,e2,e3,-,e4,e5⟩|⟨-,hf,-⟩
 ·rw[e5]
  obtain⟨-,D,E,F⟩:=TM e2
  exact⟨q,hp,m,p,l,⟨hL,t,s,by rw[e4];exact h.fu,e3,by rw[F,h.nx],by rw[D,h.mn],by rw[e1];omega,by rw[E];omega,w⟩,a.o,a.f⟩
 ·rw[e2]
  exact⟨q,fO _,m,p,l,⟨hL,t,s,hfu h.fu,rfl,rfl,e3,by omega,by omega,w⟩,a.o,a.f⟩
 ·exact absurd h.fu hf
theorem SV.save(h:SV w0 u dg sg N mn next E1 F1 rows Z r d)(c:Ml w0)(m:Ml u)(n:w0.heap.size≤u.heap.size)(v:E1+1≤1000000000∧F1+mn≤1000000000) :
  Calls Tryz.prog 110 #[pt sg] u fun e w'=>e=.returned .nilIface∧VT w0 u w' dg sg N mn 0 (E1+1) (F1+mn) rows Z r:=by
 have w:=h.ep
 have x:=h.fs
 have y:=h.mn
 have:=Lg c m n h.lv (by omega)
 rw[h.sg] at this
 refine this.mono ?_
 rintro e w' ⟨f,j,k,l,p,a,b,i⟩
 have q:k.g=sg:=a.sg.trans h.sg
 have s:l.g=dg:=a.g.trans h.dg
 have t:j.now.length=N:=b.trans h.dn
 rcases i with⟨rfl,hL,hfu,e1,e2,e3,-,e4,e5⟩|⟨-,hf,-⟩
 ·exact⟨p,k,l,j,⟨hL,s,q,hfu h.fu,e1.trans h.rw,e2,e3.trans h.mn,by omega,by omega,t⟩,a.o,a.f⟩
 ·exact absurd h.fu hf
theorem SV.open(h:SV w0 u dg sg N mn next E1 F1 rows Z r d)(l:Ml u)(m:w0.heap.size≤u.heap.size) :
  Calls Tryz.prog 53 #[pt dg] u fun e w'=>∃sg',e=.returned (.tuple #[pt sg',.nilIface])∧bf u w'∧VT w0 u w' dg sg' N mn next E1 F1 rows Z r:=by
 have:=Cj l h.lv.dk h.lv.on h.lv.ok.dn
 rw[h.dg] at this
 refine this.mono ?_
 rintro e w' ⟨f,rfl,a,i,j,k,c,n,o⟩
 obtain⟨-,p,q,s⟩:=TM j
 have t:=h.ep
 have v:=h.fs
 refine⟨f.g,rfl,c,f,r,d,⟨sL.Kd m (h.lv.dk.ext c) (fun b hb=>h.lv.fp b (.inl hb)) h.lv.on h.lv.ok h.lv.kn h.lv.wt (by rw[h.dg];exact a) i j k n o,h.dg,rfl,h.fu,k.trans h.rw,s.trans h.nx,p.trans h.mn,by rw[i];exact h.ep,by rw[q];exact h.fs,h.dn⟩,al.any c,fun b hb=>?_⟩
 rcases hb with e|e|e
 ·exact .inl (.inl e)
 ·exact .inr (by omega)
 ·exact .inr (by omega)
theorem SV.SN(h:SV w0 u dg sg N mn next E1 F1 rows Z r d) :
  Calls Tryz.prog 88 #[pt sg] u fun e w'=>∃A c,e=.returned (.slice A rows.length c)∧bR fA 107 u w' A c rows:=by
 have:=Qf h.lv.st (by have:=h.lv.on.small;omega)
 rw[h.sg,h.rw] at this
 exact this
end
theorem SV.Oz{w0 w w':World}{N:Nat}{Z:pq}{r:jZ}(h:QC w w' N Z r)(d:w0.heap.size≤w.heap.size):SV w0 w' r.g Z.g N (N-44) 0 1 1 [] Z r (xl N):=by
 obtain⟨a,e,c,f,-⟩:=h
 exact⟨⟨a.st,a.dk,a.on,a.ok,a.kn,a.wt,fun b hb=>aJ d (a.fp b hb)⟩,rfl,rfl,rfl,f,(Oi c).2.2.2,(Oi c).2.1,by rw[e];exact aq _,by rw[(Oi c).2.2.1];exact aq _,by rw[Eb]⟩
def UE(F:Nat→Prop)(u:World)(V:jy)(R:iT):Prop:=∀v,al F u v→pz v V R
theorem UE.step{F a:Nat→Prop}{u c:World}{V:jy}{R:iT}(h:UE F u V R)(d:al F u c)(f:∀b,a b→F b∨u.heap.size≤b):UE a c V R:=fun v hv=>h v (d.trans hv fun b hb e=>by
 rcases f b e with h1|h1
 ·exact h1
 ·omega)
def Uv{α:Type}(T:kJ α)(F:Nat→Prop)(u:World)(A:Option Addr)(xs:List α):Prop:=∀v,al F u v→di T v A xs.length xs
section
variable {α:Type} {T:kJ α} {F F':Nat→Prop} {u u':World} {A:Option Addr} {xs:List α}
theorem Uv.fresh(a:0<T.size){t:TypeId}{c:Nat}(h:bR T t u u' A c xs)(d:∀b,F b→b<u.heap.size):Uv T F u' A xs:=fun v hv=>di.jk a (cl h.own hv fun g hg e=>by
 have:=h.new g hg
 have:=d g e
 omega)
end
end Go.Proofs.YtpgmcijdcnnjpaaGreatDoor
