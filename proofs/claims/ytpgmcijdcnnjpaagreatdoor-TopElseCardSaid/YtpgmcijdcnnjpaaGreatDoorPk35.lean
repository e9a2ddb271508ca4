/- Lemmas for it. -/
import Derived.Test.YtpgmcijdcnnjpaaGreatDoorPk34
import Derived.Test.YtpgmcijdcnnjpaaGreatDoorPk33
set_option linter.all false
set_option maxRecDepth 100000
set_option maxHeartbeats 8000000
namespace Go.Proofs.YtpgmcijdcnnjpaaGreatDoor
open Go Go.RowKit
variable {g lc ll:Nat} {v:wR} {m:Mk} {lA:Option Addr} {gs:List dv} {l:List bm} {goal s:aK}
theorem Gw.start {w u:World}      (a:bf w u) (c:w.heap.size≤g)
  (d:Cs u g TT #[.slice v.vA m.vars.length v.vc,.slice v.rA m.rules.length v.rc,.slice v.pA m.ba.length v.pc,.slice lA ll lc,.slice none 0 0,.slice none 0 0,.slice none 0 0]) :
  Gw w u g v m lA lc ll ⟨none,0,none,0,none,0⟩ [] [] []:=
 ⟨d,bR.nil _ _ _ _ a,bR.nil _ _ _ _ a,bR.nil _ _ _ _ a,c,(fun b h=>by simp[Value.ownBlock] at h),(fun x a=>by cases a)⟩
theorem Gw.UN{w u d:World}     {a:AR}{way c:List aK}{gs:List (fW×dv)}(h:Gw w u g v m lA lc ll a way c gs){F:Nat→Prop}(i:∀b,F b→b<w.heap.size)(j:al F u d):jW d a.oA gs (gs.map (·.2)):=
 have f:al (JD w.heap.size (sP g a way.length c.length gs.length)) u d:=j.gU fun q _ e=>.inl (i q e)
 ⟨by rw[bH];exact di.jk (by decide) (cl h.fo.own j fun g hg e=>by have:=h.fo.new g hg;have:=i g e;omega),fun x hm=>⟨(h.rw x hm).1 d f,(h.rw x hm).2.1 d f,(h.rw x hm).2.2 d f⟩,rfl⟩
def N8(w:World)(r:List dv×Int)(e:Ending)(w':World):Prop:=
 ∃(A:Option Addr) (c:Nat) (os:List (fW×dv)),e=.returned (.tuple #[.slice A r.1.length c,eT r.2])∧(∀(F:Nat→Prop) (u:World),(∀b,F b→b<w.heap.size)→al F w' u→jW u A os r.1)∧bf w w'∧r.1.length≤c
theorem Tj{w:World}(n:Ml w) {rs:List (fW×lR)}    (o:pY w v rs m)(p:di br w lA l.length l)(s:Ps m l)(goal:aK)(H:goal.length≤10000)(h:i7 goal=true→∀x∈nV m l goal,x.length≤200)(t:(nV m l goal).length<100) :
  Calls Tryz.prog 41 #[Sz v m,.slice lA l.length lc,S goal] w (N8 w (iO m l goal)):=by
 have I:=aj (fun w=>wS goal w H)
 obtain⟨nb,i⟩:∃b,b=i7 goal:=⟨_,rfl⟩
 rw[←i] at I h
 have y:=aj i
 have J:=aj n
 have K:=aj o
 have L:=aj p
 have M:=aj s
 have N:=aj h
 have O:=aj t
 obtain⟨P,d⟩:∃u,u=w.alloc (.cells #[.slice v.vA m.vars.length v.vc,.slice v.rA m.rules.length v.rc,.slice v.pA m.ba.length v.pc] kN):=⟨_,rfl⟩
 have X1:Hd (bf w P):=by rw[d];exact(al.refl No w).alloc _
 have C1:Hd (Cs P w.heap.size kN #[.slice v.vA m.vars.length v.vc,.slice v.rA m.rules.length v.rc,.slice v.pA m.ba.length v.pc]):=by rw[d];exact Cs.new _ _ _
 clear n o p s h t i
 go_enter Tryz.func41,Tryz.ntmps41
 go_upto_region 1 with fail
 rw[←d]
 clear d
 go_wp2_with fail
 refine(I.ou P).mono ?_
 rintro e k ⟨rfl,j⟩
 have Q:=aj (C1.ou.aP j id)
 have R:=aj (X1.ou.ae j)
 clear j I X1 C1
 cases nb with
 | false=>
  go_wp2_with fail
  go_ret2
  have hv:iO m l goal=([],3):=by rw[iO,ab y.ou.symm]
  rw[hv]
  exact⟨none,0,[],rfl,fun _ _ _ _=>jW.nil _,R.ou,aq _⟩
 | true=>
  have k0:k.cell? ⟨w.heap.size,0,none⟩=some (.slice v.vA m.vars.length v.vc):=Q.ou.cell 0
  have k1:k.cell? ⟨w.heap.size,1,none⟩=some (.slice v.rA m.rules.length v.rc):=Q.ou.cell 1
  have k2:k.cell? ⟨w.heap.size,2,none⟩=some (.slice v.pA m.ba.length v.pc):=Q.ou.cell 2
  go_upto_region 4 with fail
  obtain⟨g,C⟩:∃g,g=k.heap.size:=⟨_,rfl⟩
  obtain⟨T,f⟩:∃u,u=k.alloc (.cells #[.slice v.vA m.vars.length v.vc,.slice v.rA m.rules.length v.rc,.slice v.pA m.ba.length v.pc,.slice lA l.length lc,.slice none 0 0,.slice none 0 0,.slice none 0 0] TT):=⟨_,rfl⟩
  have z:bf k T:=by rw[f];exact(al.refl No _).alloc _
  have X3:=aj (R.ou.ae z)
  have HG:Hd (w.heap.size≤g):=by rw[Hd,C];exact R.ou.size
  have G3:Hd (Gw w T g v m lA lc l.length ⟨none,0,none,0,none,0⟩ [] [] []):=Gw.start X3.ou HG.ou (by rw[f,C];exact Cs.new _ _ _)
  have D:=aj (PY J.ou K.ou L.ou M.ou g goal (N.ou (by first|trivial|rfl)) 100 (aq _) T _ [] [] [] goal G3.ou kW.nil (fun x U=>by cases U) (au _) (au _) (by unfold nV;simp) (iZ (ME _ _) O.ou))
  obtain⟨⟨out,c⟩,V⟩:∃r,r=dZ m l 100 [] [] goal:=⟨_,rfl⟩
  have A:Hd (iO m l goal=if c≠0 then ([],c) else (out,0)):=by
   rw[Hd,iO,aa (by rw[←y.ou];decide),←V]
  rw[eG,←V] at D
  rw[←f,←C]
  clear f C z k0 k1 k2 V
  go_wp2_with fail
  refine D.ou.mono ?_
  rintro e u4 ⟨W,X,Y⟩
  have W:e=.returned (eT c):=W
  subst W
  have X4:Hd (bf w u4):=X3.ou.trans X fun q hq e=>by
   rcases e with rfl|e|e|e
   ·have:=HG.ou;omega
   ·cases e
   ·cases e
   ·cases e
  by_cases E:c=0
  ·subst E
   obtain⟨a,ac,gs,Z,G,_,_,_,_⟩:=Y (by first|trivial|rfl)
   have G:gs.map (·.2)=out:=G
   have k6:u4.cell? ⟨g,6,none⟩=some (.slice a.oA gs.length a.oc):=Z.cs.cell 6
   have B:=aj Z
   have HM:=aj G
   rw[cO]
   clear Y X D Z G
   go_wp2_with fail
   go_ret2
   rw[A.ou,aa (by simp)]
   refine⟨a.oA,a.oc,gs,?_,?_,X4.ou,?_⟩
   ·rw[←HM.ou,bH];rfl
   ·intro F u hF U
    have:=B.ou.UN hF U
    rw[HM.ou] at this
    exact this
   ·have:=Dt B.ou.fo.own
    rw[←HM.ou,bH]
    exact this
  ·rw[bS E]
   clear Y X D
   go_wp2_with fail
   go_ret2
   rw[A.ou,ab E]
   exact⟨none,0,[],by rw[show((([]:List dv),c).2)=c from rfl,bS E];rfl,fun _ _ _ _=>jW.nil _,X4.ou,aq _⟩
theorem Oh (h:xy s=true):s.length≤8:=by
 unfold xy i7 at h
 simp only[aI,bh] at h
 obtain⟨⟨_,h⟩,_⟩:=h
 unfold oz at h
 split at h
 ·rename_i hc
  have:=congrArg List.length (mg 37 s hc)
  simp only[af,an,bI] at this h
  omega
 ·exact h
theorem zl{p:Bool}:∀{l seen:List aK},oe p seen l=true→∀x∈l,x.length≤8
 | [],_,_,x,hx=>by cases hx
 | y::r,seen,h,x,hx=>by
  unfold oe at h
  simp only[aI] at h
  rcases aY.1 hx with rfl|hx
  ·exact Oh h.1.1.1
  ·exact zl h.2 x hx
structure VX (r:lR):Prop where
 t:∀x∈r.targets,x.length≤8
 n:∀x∈r.aN,x.length≤8
 c:∀x∈r.bD,x.length≤28
structure Bi (m:Mk):Prop where
 r:∀x∈m.rules,VX x
 p:∀x∈m.ba,x.length≤8
theorem uZ:Bi qf:=⟨(fun x hx=>by cases hx),(fun x hx=>by cases hx)⟩
theorem Iv (h:Bi m)(s:aK):Bi (mH m s).1:=by
 unfold mH
 split
 ·exact h
 ·split
  ·exact h
  ·split
   ·exact h
   ·split
    ·rename_i h4
     unfold Jj at h4
     rw[aI] at h4
     have a:=zl h4.1
     refine⟨fun x hx=>?_,h.p⟩
     rcases az.1 hx with hx|hx
     ·exact h.r x hx
     ·obtain rfl:=aC.1 hx
      exact⟨fun y hy=>a y (cE _ hy),fun y hy=>a y (cN _ hy),(fun y hy=>by cases hy)⟩
    ·exact h
theorem Lv (h:Bi m)(s:aK):Bi (tT m s).1:=by
 unfold tT
 split
 ·exact h
 ·rename_i r hr
  split
  ·exact h
  ·split
   ·exact h
   ·rename_i h3
    have a:=h.r r (List.mem_of_getLast? hr)
    refine⟨fun x hx=>?_,h.p⟩
    rcases az.1 hx with hx|hx
    ·exact h.r x (List.dropLast_subset _ hx)
    ·obtain rfl:=aC.1 hx
     refine⟨a.t,a.n,fun y hy=>?_⟩
     rcases az.1 hy with hy|hy
     ·exact a.c y hy
     ·obtain rfl:=aC.1 hy
      omega
theorem Iz (h:Bi m)(s:aK):Bi (nX m s).1:=by
 cases s with
 | nil=>exact h
 | cons x r=>
  rw[rJ]
  split
  ·exact h
  ·split
   ·exact Lv h r
   ·split
    ·unfold OE
     split
     ·exact h
     ·rename_i h1
      refine⟨h.r,fun y hy=>?_⟩
      rcases az.1 hy with hy|hy
      ·exact h.p y hy
      ·obtain rfl:=aC.1 hy
       rw[not_or] at h1
       have a:=h1.1
       rw[gy] at a
       unfold i7 at a
       simp only[aI,bh] at a
       exact a.1.2
    ·split
     ·unfold OI
      split
      ·exact h
      ·split
       ·exact h
       ·exact⟨h.r,h.p⟩
     ·exact Iv h _
theorem za:∀(ls:List aK) (m:Mk),Bi m→Bi (jV ls m).1
 | [],_,h=>h
 | l::ls,m,h=>by
  unfold jV
  split
  ·exact za ls _ (Iz h l)
  ·exact uZ
theorem pZ(s:aK):Bi (fj s).1:=by
 unfold fj
 split
 ·exact uZ
 ·split
  ·exact uZ
  ·split
   ·exact za _ _ uZ
   ·exact uZ
theorem V5  (h:qg l=true):Ps (fj s).1 l:=by
 have a:=Ay s
 have b:=pZ s
 obtain⟨j,_,d⟩:=oM h
 refine⟨aJ a.r (by decide),fun r hr=>?_,aJ a.p (by decide),by omega,d⟩
 obtain⟨e,f,g,i⟩:=a.rt r hr
 have q:=b.r r hr
 exact⟨e,f,g,i,fun x hx=>by have:=q.t x hx;omega,fun x hx=>by have:=q.n x hx;omega,fun x hx=>by have:=q.c x hx;omega⟩
theorem z8{α β:Type}{f:α→List β}{k:Nat}:∀{l:List α},(∀x∈l,(f x).length≤k)→(l.flatMap f).length≤k*l.length
 | [],_=>by simp
 | x::xs,h=>by
  have a:=h x (by simp)
  have b:=z8 (l:=xs) fun y hy=>h y (aE _ hy)
  simp only[bN,af,an]
  rw[Nat.mul_add]
  omega
theorem OW  (h:qg l=true)(goal:aK):(nV (fj s).1 l goal).length<100:=by
 have a:=Ay s
 obtain⟨b,_,_⟩:=oM h
 have c:=z8 (f:=fun r:lR=>r.targets) (k:=2) (l:=(fj s).1.rules) fun r hr=>(a.rt r hr).2.1
 have d:=z8 (f:=fun r:lR=>oE r []) (k:=3) (l:=(fj s).1.rules) fun r hr=>by
  show(oE r []).length≤3
  unfold oE
  rw[bH]
  exact(a.rt r hr).2.2.1
 have e:=a.r
 unfold nV
 simp only[af,an,bH]
 omega
theorem Nn  (h:qg l=true) (f:goal.length≤20):∀x∈nV (fj s).1 l goal,x.length≤200:=by
 have c:=pZ s
 obtain⟨_,d,_⟩:=oM h
 intro x a
 unfold nV at a
 simp only[az,aY,cw,cG] at a
 rcases a with(((rfl|⟨y,b,rfl⟩)|⟨r,hr,a⟩))|⟨r,hr,a⟩
 ·omega
 ·have:=(d y b).1;omega
 ·have:=(c.r r hr).t x a;omega
 ·unfold oE at a
  obtain⟨y,b,rfl⟩:=cw.1 a
  have g:=(c.r r hr).n y b
  have e:=tM y []
  simp only[bI] at e
  omega
theorem sJ (h:(fj s).2=0):s.length≤600∧pH (fj s).1=0:=by
 unfold fj at h ⊢
 by_cases c:600<s.length
 ·rw[ab c] at h
  cases h
 ·refine⟨by omega,?_⟩
  rw[aa c] at h ⊢
  by_cases b:(jV (iG 10 s) qf).2≠0
  ·rw[ab b] at h
   exact absurd h b
  ·rw[aa b] at h ⊢
   by_cases a:pH (jV (iG 10 s) qf).1=0
   ·rw[ab a] at h ⊢
    exact a
   ·rw[aa a] at h
    exact absurd h a
theorem IL  (b:Ps m l)(goal:aK):∀g∈(iO m l goal).1,Ud g:=by
 have c:=zz (Gf b) 100 [] [] goal (fun g a=>by cases a)
 unfold iO
 split
 ·intro g a;cases a
 ·split
  ·intro g a;cases a
  ·exact c
theorem MD(l:List bm)(G:dv):(gV l G).1.1.length≤G.bD.length:=by
 have:=(mP l G).2.1
 unfold gV
 split
 ·exact au _
 ·split
  ·exact au _
  ·exact this
theorem tz{gs:List dv}(a:∀g∈gs,g.bD.length≤3):∀(u:List Nat) (l out:List bm) (K:List (aK×iT)),(eB gs u l out K).1.1.length≤out.length+3*u.length
 | [],_,_,_=>aq _
 | k::ks,l,out,K=>by
  rw[eB,an]
  cases hg:gs[k]? with
  | none=>have:=tz a ks l out K;simp only;omega
  | some g=>
   simp only
   split
   ·have:=tz a ks l out K;omega
   ·split
    ·exact au _
    ·have b:=tz a ks (dE (gV l g).1.1 l) (dE (gV l g).1.1 out) (K++[(g.targets.headD [],(gV l g).1.2)])
     have c:=ma (gV l g).1.1 out
     have d:=MD l g
     have e:=a g (ah hg)
     omega
theorem xC{P:dv→Prop}{N:aK→Prop}{rec:List dv→aK→List dv×Int}(h:∀o n,N n→(∀g∈o,P g)→∀g∈(rec o n).1,P g):∀(ns:List aK) (o:List dv),(∀n∈ns,N n)→(∀g∈o,P g)→∀g∈(iE rec o ns).1,P g
 | [],_,_,ho=>ho
 | n::ns,o,hn,ho=>by
  unfold iE
  split
  ·exact h o n (hn n bO) ho
  ·exact xC h ns _ (fun k hk=>hn k (aE _ hk)) (h o n (hn n bO) ho)
theorem xD{m:Mk}{l:List bm}{P:dv→Prop}{N:aK→Prop}(c:∀n g,N n→iY m l n=some g→P g∧∀k∈g.aN,N k):∀(f:Nat) (way:List aK) (out:List dv) (n:aK),N n→(∀g∈out,P g)→∀g∈(dZ m l f way out n).1,P g
 | 0,_,_,_,_,ho=>ho
 | f+1,way,out,n,hn,ho=>by
  have:=fun w=>xC (rec:=dZ m l f w) (N:=N) fun o n hn h=>xD c f w o n hn h
  unfold dZ
  split
  ·exact ho
  ·split
   ·exact ho
   ·split
    ·split<;>exact ho
    ·rename_i g hg
     have a:=c n g hn hg
     split
     ·exact this _ _ _ a.2 ho
     ·split
      ·exact this _ _ _ a.2 ho
      ·intro x b
       rcases az.1 b with b|b
       ·exact this _ _ _ a.2 ho x b
       ·obtain rfl:=aC.1 b
        exact a.1
theorem uw{v:vw}{K:Nat}(hK:2≤K)(a:∀c t,v c=some t→t.length≤K):∀s:aK,2*(iS v s).length≤s.length*K
 | []=>by simp[iS]
 | [x]=>by simp[iS];omega
 | x::y::r=>by
  have d:=uw hK a (y::r)
  have g:=uw hK a r
  rw[sa]
  have e:(x::y::r).length*K=r.length*K+K+K:=by simp only[an,ey]
  have f:(y::r).length*K=r.length*K+K:=by simp only[an,ey]
  rw[f] at d
  rw[e]
  cases h:lN v (x::y::r) with
  | none=>simp only[an];omega
  | some t=>
   have:t.length≤K:=by
    by_cases b:x=36
    ·simp only[lN,b,if_true] at h
     exact a _ _ h
    ·simp[lN,b] at h
   simp only[af,iK,jm]
   omega
theorem wL{K:Nat}{l:List aK}(h:∀x∈l,x.length≤K):(l.headD []).length≤K:=by
 cases l with
 | nil=>simp
 | cons a r=>exact h a bO
theorem TS  (h:qg l=true) (f:goal.length≤8):∀x∈nV (fj s).1 l goal,x.length≤20:=by
 have c:=pZ s
 obtain⟨_,d,_⟩:=oM h
 intro x a
 unfold nV at a
 simp only[az,aY,cw,cG] at a
 rcases a with(((rfl|⟨y,b,rfl⟩)|⟨r,hr,a⟩))|⟨r,hr,a⟩
 ·omega
 ·exact(d y b).1
 ·have:=(c.r r hr).t x a;omega
 ·unfold oE at a
  obtain⟨y,b,rfl⟩:=cw.1 a
  have g:=(c.r r hr).n y b
  have e:=tM y []
  simp only[bI] at e
  omega
def V4(g:dv):Prop:=Uf g∧1≤g.targets.length∧g.bD.length≤3
theorem Pa  (h:qg l=true) (v:goal.length≤8)(n:aK)(g:dv)(p:n.length≤20)(d:iY (fj s).1 l n=some g):(V4 g∧∀t∈g.targets,t.length≤20)∧∀k∈g.aN,k.length≤20:=by
 have q:Ps (fj s).1 l:=V5 h
 have u:=pZ s
 have j:∀k∈g.aN,k.length≤20:=fun k hk=>TS h v k (zQ d k hk)
 obtain⟨b1,b2,b3⟩:=Gf q n g d
 have m:=(Ej q d).1
 have a:∀t∈g.targets,t.length≤20:=fun t a=>by
  rcases jK d with⟨r,hr',rfl⟩|⟨_,r,_,hs,rfl,_⟩
  ·rw[pD] at a
   have:=(u.r r (jn hr').1).t t a
   omega
  ·have a:t∈kA r n _:=a
   unfold kA at a
   rw[aa (qY hs)] at a
   obtain rfl:=aC.1 a
   exact p
 have i:∀c∈g.bD,c.length≤1000:=fun c i=>by
  have key:∀(r:lR) (stem:aK),r∈(fj s).1.rules→stem.length≤20→g=gW (fj s).1 r n stem→c.length≤1000:=fun r stem hr' hst e=>by
   subst e
   have i:c∈r.bD.map (CG (kA r n stem) (oE r stem) stem):=i
   obtain⟨b,o,rfl⟩:=cw.1 i
   have w:=(u.r r hr').c b o
   have B:=wL a
   have C:=wL j
   have y:=rG j
   have D:(gW (fj s).1 r n stem).aN.length≤3:=b2
   have z:(js (gW (fj s).1 r n stem).aN).length≤63:=by
    refine aJ y ?_
    omega
   have A:=uw (K:=63) (by decide) (ER (t:=(gW (fj s).1 r n stem).targets.headD []) (f:=(gW (fj s).1 r n stem).aN.headD []) (n:=js (gW (fj s).1 r n stem).aN) (k:=stem) (by omega) (by omega) z (by omega)) b
   have E:b.length*63≤28*63:=fy _ w
   show(iS _ b).length≤1000
   have F:2*(iS (qS ((kA r n stem).headD []) ((oE r stem).headD []) (js (oE r stem)) stem) b).length≤b.length*63:=A
   omega
  rcases jK d with⟨r,hr',rfl⟩|⟨_,r,hr',hs,rfl,_⟩
  ·exact key r [] (jn hr').1 (au _) rfl
  ·exact key r _ hr' (aJ (FX _ _) p) rfl
 exact⟨⟨⟨⟨by omega,by omega,by omega,i,fun x hx=>by have:=j x hx;omega,fun x hx=>by have:=a x hx;omega⟩,m,b3⟩,a⟩,j⟩
theorem Hb  (h:qg l=true)(goal:aK):∀g∈(iO (fj s).1 l goal).1,V4 g∧∀t∈g.targets,t.length≤20:=by
 unfold iO
 split
 ·intro g a;cases a
 ·rename_i hn
  have a:goal.length≤8:=by
   by_cases b:i7 goal=true
   ·unfold i7 at b
    simp only[aI,bh] at b
    exact b.1.2
   ·exact absurd (by simpa using b) hn
  split
  ·intro g a;cases a
  ·exact xD (N:=fun n=>n.length≤20) (fun n g hn hr=>Pa h a n g hn hr) 100 [] [] goal (by show goal.length≤20;omega) (fun g a=>by cases a)
def zW(rows:List Ch)(s goal:aK):Int:=if (fj s).2≠0 then (fj s).2 else (iO (fj s).1 (bL rows) goal).2
def iI(rows:List Ch)(s goal:aK):List dv:=(iO (fj s).1 (bL rows) goal).1
theorem BB{rows:List Ch}(h:nu rows):qg (bL rows)=true:=by
 obtain⟨g,a,b⟩:=fh h.jx h.E9
 unfold qg
 rw[aI,aI,bh,bJ]
 refine⟨⟨by omega,fun f hf=>?_⟩,KN.2 fun i x y hx hy=>?_⟩
 ·obtain⟨c,j⟩:=b f hf
  have:=re c
  unfold Ew
  rw[aI,bh,bh]
  omega
 ·obtain⟨d,e⟩:=aw.1 hx
  obtain⟨b1,b2⟩:=aw.1 hy
  have:=cL.1 a i (i+1) d b1 (by omega)
  rw[e,b2] at this
  exact this
structure Ic (gs:List dv):Prop where
 n:gs.length≤10
 ok:vC gs
 v:∀g∈gs,V4 g
 t:∀g∈gs,∀t∈g.targets,t.length≤20
 b:∀g∈gs,Ud g
theorem Ic.fit (h:Ic gs):xE gs:=⟨h.ok,fun g hg=>⟨(h.b g hg).2.2,(h.b g hg).2.1,(h.b g hg).1⟩⟩
theorem lV{rows:List Ch} (h:nu rows)(a:zW rows s goal=0):Ic (iI rows s goal):=by
 have d:=BB h
 unfold zW at a
 split at a
 ·rename_i h1;exact absurd a h1
 ·rename_i h1
  obtain⟨-,b⟩:=sJ (s:=s) (by omega)
  obtain⟨e,f,-,-⟩:=uC (l:=bL rows) (Aq b).1 a
  have c:=Hb (s:=s) d goal
  exact⟨f,e.ok fun g hg=>(c g hg).1.2.1,fun g hg=>(c g hg).1,fun g hg=>(c g hg).2,IL (V5 d) goal⟩
def FN(w:World)(pf:Int)(gs:List dv)(st:List Bool)(e:Ending)(w':World):Prop:=
 bf w w'∧((pf≠0∧e=.returned (.tuple #[.slice none 0 0,.slice none 0 0,eT pf])) ∨
  (pf=0∧∃(A:Option Addr) (c:Nat) (os:List (fW×dv)) (B:Option Addr) (d:Nat) (xs:List ((Option Addr×Nat)×List Nat)) (r:Nat→Nat),
   e=.returned (.tuple #[.slice A gs.length c,.slice B (dD gs st r).length d,.nilIface])∧kQ (jc gs st) gs.length r∧gs.length≤c ∧
   (∀(F:Nat→Prop) (u:World),(∀b,F b→b<w.heap.size)→al F w' u→jW u A os gs)∧(∀(F:Nat→Prop) (u:World),(∀b,F b→b<w.heap.size)→al F w' u→Be u B xs (dD gs st r))))
def JM(w:World)(rows:List Ch)(s goal:aK):Ending→World→Prop:=FN w (zW rows s goal) (iI rows s goal) (mZ rows (iI rows s goal))
section
variable {w0 w u:World} {dg xg k:Nat} {rows:List Ch} {fp G:Nat→Prop}
theorem nT(hE:sF w0)(h:qt w0 w dg xg k rows fp G)(s goal:aK)(hs:s.length≤9223372036854775807)(bc:goal.length≤10000) :
  Calls Tryz.prog 14 #[pt xg,S s,S goal] w (JM w rows s goal):=by
 have HE:=aj hE
 have ag:=aj h.x0
 have O:=aj (fun P=>lV (s:=s) (goal:=goal) h.ok P)
 have y:=BB h.ok
 have Q:=fh h.ok.jx h.ok.E9
 have bd:=Q.1
 have o:=aj Q.2.1
 obtain⟨-,-,-,-,sg,next,Z,r,d,lA,lc,b,nn,H,bg,a4,a5⟩:=h
 have T:Hd (di br w lA (bL rows).length (bL rows)):=(a5.rb w (al.refl _ _)).1
 have bi:Hd (lZ w b nn (Mj H)):=(a5.rb w (al.refl _ _)).2.1
 have bk:Hd (Ry w H):=(a5.rb w (al.refl _ _)).2.2
 have bn:=aj a5.hk
 have CS:=aj a5.cs
 have HP:=aj (GQ (hE.ml.ext ag.ou) s hs)
 have HF:Hd (zW rows s goal=if (fj s).2≠0 then (fj s).2 else (iO (fj s).1 (bL rows) goal).2):=rfl
 have z:=aj (V5 (s:=s) y)
 have A:=aj (OW (s:=s) y goal)
 have C:Hd (i7 goal=true→∀x∈nV (fj s).1 (bL rows) goal,x.length≤200):=fun h=>Nn (s:=s) y (by have:=re h;omega)
 obtain⟨gs,U⟩:∃g,g=iI rows s goal:=⟨_,rfl⟩
 have ai:Hd (iI rows s goal=gs):=U.symm
 have p:Hd ((iO (fj s).1 (bL rows) goal).1=gs):=U.symm
 unfold JM
 rw[ai.ou] at O ⊢
 have V:Hd (Ek (bL rows) H gs=mZ rows gs):=vd (fun s=>(bn.ou s).trans (congrFun (wO (gY rows)) s).symm) gs _
 obtain⟨L,hL⟩:∃l,l=bL rows:=⟨_,rfl⟩
 obtain⟨st,ak⟩:∃x,x=mZ rows gs:=⟨_,rfl⟩
 obtain⟨pf,D⟩:∃x,x=zW rows s goal:=⟨_,rfl⟩
 rw[←hL] at T CS HF z A C p V o bd
 rw[←ak] at V ⊢
 rw[←D] at O HF ⊢
 obtain⟨R,hR⟩:∃R,R=fj s:=⟨_,rfl⟩
 rw[←hR] at HP HF z A C p
 obtain⟨m,f⟩:=R
 clear hE y Q bg a4 a5 U hL ak D hR ai
 go_enter Tryz.func14,Tryz.ntmps14
 go_wp2_with fail
 refine HP.ou.mono ?_
 rintro e u1 ⟨v,rs,rfl,hM,hu⟩
 have am:pY u1 v rs m:=hM No u1 (fun b hb=>hb.elim) (al.refl _ _)
 obtain⟨g9,W⟩:∃g,g=u1.heap.size:=⟨_,rfl⟩
 obtain⟨j,E⟩:∃u,u=u1.alloc (.cells #[.slice v.vA m.vars.length v.vc,.slice v.rA m.rules.length v.rc,.slice v.pA m.ba.length v.pc] kN):=⟨_,rfl⟩
 have x1:bf u1 j:=by rw[E];exact(al.refl No u1).alloc _
 have C1:Hd (Cs j g9 kN #[.slice v.vA m.vars.length v.vc,.slice v.rA m.rules.length v.rc,.slice v.pA m.ba.length v.pc]):=by rw[E,W];exact Cs.new _ _ _
 have X1:=aj (hu.ae x1)
 have M1:=aj (am.ext x1)
 clear HP hM hu am x1
 go_upto_region 2 with fail
 rw[←E,←W]
 clear E W
 by_cases hf:f=0
 case neg=>
  have D:Hd (pf=f):=by rw[Hd,HF.ou,ab hf]
  rw[bS hf]
  go_wp2_with fail
  go_ret3
  rw[D.ou]
  unfold FN
  exact⟨X1.ou,.inl ⟨hf,by rw[bS hf];rfl⟩⟩
 subst hf
 have ao:Hd (pf=(iO m L goal).2):=by rw[Hd,HF.ou,aa (by simp)]
 clear HF
 rw[cO]
 have Y:Hd (∀v2,bf j v2→Calls Tryz.prog 41 #[Sz v m,.slice lA L.length lc,S goal] v2 (N8 v2 (iO m L goal))):=fun v2 hv=>
  Tj (lc:=lc) (HE.ou.ml.ext (ag.ou.ae (X1.ou.ae hv))) (M1.ou.ext hv) (T.ou.ext (X1.ou.ae hv)) z.ou goal bc C.ou A.ou
 obtain⟨⟨a,J⟩,ap⟩:∃R,R=iO m L goal:=⟨_,rfl⟩
 rw[←ap] at Y ao p
 have bo:a=gs:=p.ou
 subst bo
 have bp:=aj (CS.ou.aP X1.ou id)
 have m0:∀ξ:X j No,ξ.v.cell? ⟨g9,0,none⟩=some (.slice v.vA m.vars.length v.vc):=C1.ou.x id 0
 have m1:∀ξ:X j No,ξ.v.cell? ⟨g9,1,none⟩=some (.slice v.rA m.rules.length v.rc):=C1.ou.x id 1
 have m2:∀ξ:X j No,ξ.v.cell? ⟨g9,2,none⟩=some (.slice v.pA m.ba.length v.pc):=C1.ou.x id 2
 have m3:∀ξ:X j No,ξ.v.cell? ⟨xg,1,none⟩=some (.slice lA L.length lc):=bp.ou.x id 1
 clear z A C p ap M1 C1
 go_upto_region 4 with fail
 (refine aV [6] 100 (Cl (j) (No)) (by kernel_rfl) (by kernel_rfl) (Cl.of (al.refl _ _).drew) ?_;refine bK ?_)
 (refine bQ ?_;intro K hK)
 refine(Y.ou _ (al.refl _ _).drew).mono ?_
 rintro e M ⟨A4,c4,os,he,hG,av,i⟩
 have he:e=.returned (.tuple #[.slice A4 a.length c4,eT J]):=he
 subst he
 have i:a.length≤c4:=i
 have HG:=aj hG
 have aD:Hd (bf j M):=(al.refl No j).drew.ae av
 have X4:=aj (X1.ou.ae aD.ou)
 refine⟨_,rfl,hK _ _ (fun _=>Cl.of aD.ou) ?_⟩
 clear hK K hG av Y m0 m1 m2 m3
 refine bj ?_
 refine bK ?_
 refine ar ?_
 have bs:pf=J:=ao.ou
 subst bs
 by_cases P:pf=0
 case neg=>
  rw[bS P]
  go_wp2_with fail
  go_ret3
  unfold FN
  exact⟨X4.ou,.inl ⟨P,by rw[bS P];rfl⟩⟩
 have t:=aj (O.ou P)
 subst P
 rw[cO]
 have N:=t.ou.n
 have bu:Hd (∀g∈a,Ud g∧1≤g.targets.length∧(g.targets.headD []).length≤1000000):=fun g hg=>⟨t.ou.b g hg,(t.ou.v g hg).2.1,by have:=wL (t.ou.v g hg).1.lt;omega⟩
 have a0:w.heap.size≤j.heap.size:=X1.ou.size
 have a1:Hd (∀v4,bf M v4→jW v4 A4 os a):=fun v4 hv=>HG.ou No v4 (fun _ e=>e.elim) hv
 have a2:Hd (∀v4,bf M v4→Calls Tryz.prog 43 #[.slice A4 a.length c4,.slice lA L.length lc,.map (some b)] v4 fun e w'=>∃B d,e=.returned (.slice B a.length d)∧di TX w' B a.length st∧bf v4 w'):=fun v4 hv=>by
  have h1:=Rs (c:=c4) (lc:=lc) (a1.ou v4 hv) N i bu.ou (bi.ou.aP (X4.ou.ae hv) id).kpm (bk.ou.ext (X4.ou.ae hv)) (T.ou.ext (X4.ou.ae hv)) (by omega) o.ou
  rw[V.ou] at h1
  exact h1
 have a3:=aj (CS.ou.aP X4.ou id)
 have m3:∀ξ:X M No,ξ.v.cell? ⟨xg,1,none⟩=some (.slice lA L.length lc):=a3.ou.x id 1
 have m4:∀ξ:X M No,ξ.v.cell? ⟨xg,2,none⟩=some (.map (some b)):=a3.ou.x id 2
 go_upto_region 7 with fail
 (refine aV [11,12] 100 (Cl (M) (No)) (by kernel_rfl) (by kernel_rfl) (Cl.of (al.refl _ _).drew) ?_;refine bK ?_)
 (refine bQ ?_;intro K hK)
 refine(a2.ou _ (al.refl _ _).drew).mono ?_
 rintro e u5 ⟨B5,d5,rfl,a6,a7⟩
 have I:Hd (bf M u5):=(al.refl No M).drew.ae a7
 have S5:=aj a6
 refine⟨_,rfl,hK _ _ (fun _=>Cl.of I.ou) ?_⟩
 clear hK K a6 a7 a2
 refine bj ?_
 refine bK ?_
 (refine bQ ?_;intro K hK)
 refine(Qt (a1.ou u5 I.ou) N i t.ou.b S5.ou).mono ?_
 rintro e u6 ⟨B6,d6,xs,rr,a8,rfl,a9,bb⟩
 have ac:=aj (I.ou.ae bb)
 have bv:=aj a8
 have bw:=aj a9
 refine⟨_,rfl,hK _ _ (fun _=>Cl.of ac.ou) ?_⟩
 clear hK K a8 a9 bb m3 m4
 refine bj ?_
 refine bK ?_
 refine ar ?_
 go_wp2_with fail
 go_ret3
 have bx:w.heap.size≤u5.heap.size:=(X4.ou.ae I.ou).size
 have bz:w.heap.size≤j.drew.heap.size:=a0
 unfold FN
 refine⟨X4.ou.ae ac.ou,.inr ⟨rfl,A4,c4,os,B6,d6,xs,rr,rfl,bv.ou,i,fun F v hF hv=>HG.ou F v (fun q e=>bZ (hF q e) bz) ((al.any ac.ou).trans hv fun _ _ e=>e),fun F v hF hv=>bw.ou F v (fun q e=>bZ (hF q e) bx) hv⟩⟩
end
theorem SZ.lim{L out:List bm}{r:iT}(h:SZ L out r)(i:∀f∈L,f.1.length≤10000)(d:∀f∈out,f.1.length≤10000):r.Ku:=by
 obtain⟨k,j,m,e,o,g,-⟩:=h
 have b:∀(n:aK) (l:List bm),(∀f∈l,f.1.length≤10000)→n∈l.map fk→n.length≤10000:=fun n l hl b=>by
  obtain⟨f,a,rfl⟩:=cw.1 b
  exact hl f a
 refine⟨by omega,by omega,by omega,fun c hc=>by have:=j c hc;omega,fun f a=>⟨?_,by have:=(e f a).2;omega⟩,fun f a=>⟨b _ _ d (g f a).1,by have:=(g f a).2;omega⟩⟩
 exact(e f a).1.elim (b _ _ i) (b _ _ d)
structure UX (gs:List dv) (u:List Nat) (out:List bm) (K:List (aK×iT)):Prop where
 o:∀f∈out,f.1.length≤20∧f.2.length≤20
 ol:out.length≤30
 k:∀n∈gC gs u,∃r,ja K n=some r∧r.Ku∧(lQ r).length≤300
 n:∀n∈gC gs u,n.length≤20
 nl:(gC gs u).length≤10
theorem Rn (j:Ic gs){u:List Nat}(A:u.Pairwise (·<·))(q:u.length≤10){rows:List Ch}(h:nu rows)(w:(eB gs u (bL rows) [] []).2=0):UX gs u (eB gs u (bL rows) [] []).1.1 (eB gs u (bL rows) [] []).1.2:=by
 have d:=tz (fun g l=>(j.v g l).2.2) u (bL rows) [] []
 have e:=tj (gs:=gs) u (bL rows) [] [] (fun f hf=>by cases hf)
 have a:=qG gs u (bL rows) [] [] w
 have i:=pv j.fit.b (bL rows) u (bL rows) [] [] (fun f hf=>⟨.inl (cC hf),((fh h.jx h.E9).2.2 f hf).2⟩) (fun p j=>by cases j) w
 have r:=ya j.ok.ds j.ok.t1 A
 generalize eB gs u (bL rows) [] []=R at d e a i ⊢
 obtain⟨⟨out,K⟩,f⟩:=R
 dsimp only at d e a i ⊢
 have a:K.map (·.1)=gC gs u:=by simpa using a
 have x:∀f∈out,f.1.length≤20∧f.2.length≤20:=fun f hf=>by
  obtain⟨⟨g,l,B⟩,C⟩:=e f hf
  exact⟨j.t g l _ B,C⟩
 refine⟨x,by have:out.length≤0+3*u.length:=d;omega,fun n hn=>?_,fun n hn=>?_,aJ (Hp gs u) q⟩
 ·rw[←a] at hn
  obtain⟨p,m,s⟩:=cw.1 hn
  have y:=wK K (by rw[a];exact r) p m
  rw[s] at y
  have z:=i p m
  exact⟨p.2,y,z.lim (fun f hf=>by have:=re ((fh h.jx h.E9).2.2 f hf).1;omega) (fun f hf=>by have:=(x f hf).1;omega),z.2.2.2.2.2.2⟩
 ·obtain⟨k,D,c⟩:=fX.1 hn
  unfold s8 at c
  split at c
  ·rename_i g l
   split at c
   ·cases c
   ·cases c
    have o:=ah l
    exact j.t g o _ (j.ok.head o)
  ·cases c
theorem tX{α β:Type}{f:α→β}{l:List α}{i:Nat}{x:α}(h:l[i]?=some x):(l.take (i+1)).map f=(l.take i).map f++[f x]:=by
 rw[aU,h,cU]
 try rfl
section
variable {w0 w:World} {dg xg k:Nat} {rows:List Ch} {fp G:Nat→Prop}
theorem OQ(hE:sF w0)(h:qt w0 w dg xg k rows fp G)(hk:k≤1000000) (hp:Ic gs){A:Option Addr}{c:Nat}{os:List (fW×dv)}(hG:jW w A os gs){uA:Option Addr}{uc:Nat}{u:List Nat}(hI:di G9 w uA u.length u)(hu:u.Pairwise (·<·))(ac:∀k∈u,k<gs.length)(bd:u.length≤10) :
  Calls Tryz.prog 44 #[pt xg,.slice A gs.length c,.slice uA u.length uc] w fun e w'=>e=.returned (eT (qH gs u rows).2)∧sr w0 w w' dg xg (k+1) (qH gs u rows).1 fp G:=by
 have HH:=aj h
 have HE:=aj hE
 have HG:=aj hG
 have HI:=aj hI
 have b6:=aj ac
 have b7:=aj hp
 have N:=fh h.ok.jx h.ok.E9
 have ag:=aj (Rn hp hu bd h.ok)
 have ai:=aj (Ff hp.fit hu h.ok)
 have O:Hd (qH gs u rows=if (eB gs u (bL rows) [] []).2≠0 then (rows,(eB gs u (bL rows) [] []).2) else oN rows (Pp (eB gs u (bL rows) [] []).1.1 (ja (eB gs u (bL rows) [] []).1.2) (gC gs u))):=rfl
 have bg:RO (bL rows):=⟨by omega,N.2.1,fun f hf=>⟨by have:=re (N.2.2 f hf).1;omega,by have:=(N.2.2 f hf).2;omega⟩⟩
 obtain⟨sg,next,Z,r,d,lA,lc,b,nn,H,b8,a4,a5⟩:=h.st
 have s:=aj (Tr (c:=c) (uc:=uc) (lc:=lc) (hE.ext h.x0).t hG hp.v hI bd ac (a5.rb w (al.refl _ _)).1 bg (by omega))
 have k1:w.cell? ⟨xg,1,none⟩=some (.slice lA (bL rows).length lc):=a5.cs.cell 1
 obtain⟨R,hR⟩:∃R,R=eB gs u (bL rows) [] []:=⟨_,rfl⟩
 rw[←hR] at ag ai O s
 obtain⟨⟨out,K⟩,f⟩:=R
 have b9:=aj h.lt
 clear h hE hG hI ac hp N bg b8 a4 a5 hR hu
 go_enter Tryz.func44,Tryz.ntmps44
 go_wp2_with fail
 refine s.ou.mono ?_
 rintro e w1 ⟨ak,bi⟩
 have X1:=aj ak
 rcases bi with⟨P,oA,oc,b1,n1,F1,he,hO,hKm,hbb,hn1⟩|⟨P,he⟩
 case inr=>
  have P:f≠0:=P
  have he:e=.returned (.tuple #[.slice none 0 0,.map none,eT f]):=he
  subst he
  rw[bS P]
  clear s k1 ak
  go_wp2_with fail
  go_ret
  have e1:qH gs u rows=(rows,f):=by rw[O.ou,ab P]
  rw[e1]
  exact⟨by rw[bS P];rfl,sr.here ((HH.ou.ext X1.ou).gU (fN _)) X1.ou⟩
 have P:f=0:=P
 subst P
 have he:e=.returned (.tuple #[.slice oA out.length oc,.map (some b1),.nilIface]):=he
 subst he
 have bk:Hd (qH gs u rows=oN rows (Pp out (ja K) (gC gs u))):=by rw[Hd,O.ou,aa (by simp)]
 have HO:=aj (show di br w1 oA out.length out from hO)
 have am:=aj hKm
 have C:Hd (UX gs u out K):=ag.ou rfl
 have cn:=C.ou.ol
 have ca:=C.ou.nl
 clear s k1 ak hO hKm hbb hn1 O ag
 go_wp2_with fail
 go_loopw [10,31] (fun lv iv wr=>∃i:Nat,i≤out.length∧iv=.int .i64 i∧∃(D:Option Addr) (E:Nat) (cs:List Ch),lv=.slice D cs.length E∧cs=(out.take i).map cF∧bR fA sD w1 wr D E cs) (fun _ iv _=>out.length-(intOf iv).toNat)
 case atStart=>exact⟨0,au _,rfl,none,0,[],rfl,rfl,bR.nil _ _ _ _ (al.refl _ _)⟩
 case round=>
  obtain⟨i,hi,rfl,D,E,cs,rfl,ao,hF⟩:=hrel
  have I:=aj hF
  have bo:=aj ao
  have co:cs.length≤30:=by rw[ao,bH,aH];omega
  have Y:=aj hF.ext
  clear hF ao
  by_cases ap:i<out.length
  ·obtain⟨bw,ow,⟨M,Q⟩,rfl,av,d0,d1⟩:=jI HO.ou ap
   have aD:=C.ou.o _ (ah av)
   have cq:M.length≤20:=aD.1
   have cu:Q.length≤20:=aD.2
   have a0:=aj (tX (f:=cF) av)
   have g0:wr.cell? ⟨bw,ow+i*2,none⟩=some (S M):=d0 ⟨wr,Y.ou⟩
   have g1:wr.cell? ⟨bw,ow+i*2+1,none⟩=some (S Q):=d1 ⟨wr,Y.ou⟩
   obtain⟨w5,U⟩:∃u,u=wr.alloc (.cells #[S M,S Q] 54):=⟨_,rfl⟩
   obtain⟨g5,a1⟩:∃g,g=wr.heap.size:=⟨_,rfl⟩
   have x5:bf wr w5:=by rw[U];exact(al.refl No _).alloc _
   have C5:Hd (Cs w5 g5 54 #[S M,S Q]):=by rw[U,a1];exact Cs.new _ _ _
   have F5:=aj (I.ou.on x5)
   clear av d0 d1 aD x5 I
   go_upto_region 8 with fail
   rw[←U,←a1]
   clear U a1 g0 g1
   obtain⟨F,y⟩:∃F:Nat→Prop,F=fun q=>(Value.slice D cs.length E).ownBlock=some q:=⟨_,rfl⟩
   have a2:¬F g5:=fun e=>by rw[y] at e;exact aO F5.ou.own C5.ou (by decide) _ e rfl
   have m0:∀ξ:X w5 F,ξ.v.cell? ⟨g5,0,none⟩=some (S M):=C5.ou.x a2 0
   have m1:∀ξ:X w5 F,ξ.v.cell? ⟨g5,1,none⟩=some (S Q):=C5.ou.x a2 1
   have W:=aj y
   have cb:=aj (fun v=>Iw M (by omega) v)
   clear y a2
   (refine aV [3,7,8] 100 (Cl (w5) (F)) (by kernel_rfl) (by kernel_rfl) (Cl.of (al.refl _ _).drew) ?_;refine bK ?_)
   (refine bQ ?_;intro K hK)
   refine(cb.ou _).mono ?_
   rintro e u6 ⟨rfl,l⟩
   have X6:Hd (bf w5 u6):=(al.refl No w5).drew.ae l
   refine⟨_,rfl,hK _ _ (fun _=>Cl.of (al.any X6.ou)) ?_⟩
   clear hK K l
   refine bj ?_
   refine bK ?_
   (refine bQ ?_;intro K hK)
   have x7:bf u6 (u6.alloc (.cells #[S (mX M),S Q,.bool false] sD)):=(al.refl No _).alloc _
   have F7:=aj (F5.ou.on (X6.ou.ae x7))
   have X7:=aj (X6.ou.ae x7)
   refine hK _ _ (fun _=>Cl.of (al.any X7.ou)) ?_
   clear hK K x7
   refine bj ?_
   refine cH rfl rfl ?_
   intro K hK
   refine eO (v:=.slice D cs.length E) (n:=cs.length) (xs:=cs.flatMap fA.enc) N9 rfl rfl rfl F7.ou.own (iQ u6 _ [S (mX M),S Q,.bool false]) (by simp[Value.oneCell']) (by omega) ?_
   intro A' c' w8 a z J
   have F8:=aj (F7.ou.grow (m:=1) (ys:=[cF (M,Q)]) rfl a z J)
   have O8:Hd (al F w5 w8):=(al.any X7.ou).grown z fun g hg=>.inr (by rw[W.ou];exact hg)
   refine hK _ _ (fun _=>Cl.of O8.ou) ?_
   clear hK K a z J m0 m1
   refine bj ?_
   refine bK ?_
   refine ar ?_
   go_wp2_with fail
   go_roundw
   case rel=>exact⟨i+1,by omega,by go_num,A',c',cs++[cF (M,Q)],by simp,by rw[a0.ou,←bo.ou],F8.ou⟩
   case measure=>simp[intOf];omega
  ·obtain rfl:i=out.length:=by omega
   have ce:Hd (cs=out.map cF):=by rw[Hd,bo.ou,ay (aq _)]
   have a3:=aj (J2 (c:=c) (uc:=uc) (HG.ou.ext (X1.ou.ae Y.ou)) (fun g hg=>(b7.ou.v g hg).2.1) (HI.ou.ext (X1.ou.ae Y.ou)) (by omega) b6.ou)
   obtain⟨ns,a6⟩:∃x,x=gC gs u:=⟨_,rfl⟩
   have s:Hd (∀n∈ns,(∃r,ja K n=some r∧r.Ku∧(lQ r).length≤300)∧n.length≤20):=fun n hn=>by rw[a6] at hn;exact⟨C.ou.k n hn,C.ou.n n hn⟩
   rw[←a6] at a3 ai bk ca
   clear a6 HO
   go_wp2_with fail
   refine a3.ou.mono ?_
   rintro e u3 ⟨B3,d3,rfl,a7⟩
   have bp:=aj a7.own
   have bs:=aj (I.ou.on a7.ext)
   clear a3 I a7 Y
   go_wp2_with fail
   go_loopw [10,49] (fun lv jv wr=>∃j:Nat,j≤ns.length∧jv=.int .i64 j∧∃(D:Option Addr) (E:Nat) (B:List Ch),lv=.slice D B.length E∧B=cs++(ns.take j).map (cD (ja K))∧bR fA sD w1 wr D E B∧wr.ownsRow 0 9 1 (.slice B3 ns.length d3) ns.length (ns.flatMap cI.enc)) (fun _ jv _=>ns.length-(intOf jv).toNat)
   case atStart=>exact⟨0,au _,rfl,D,E,cs,rfl,by simp,bs.ou,bp.ou⟩
   case round=>
    clear bs bp
    obtain⟨j,hj,rfl,D,E,B,rfl,a8,hF,l⟩:=hrel
    have I:=aj hF
    have bu:=aj a8
    have a9:=aj l
    have Y:=aj I.ou.ext
    have cx:B.length≤40:=by
     rw[a8,af,bH,aH]
     omega
    clear hF a8 l
    by_cases ap:j<ns.length
    ·obtain⟨bn,on,n,rfl,bb,ct⟩:=dq (di.jk (T:=cI) (by decide) a9.ou) ap
     obtain⟨⟨r,hr,bv,cf⟩,cy⟩:=s.ou n (ah bb)
     have a0:=aj (tX (f:=cD (ja K)) bb)
     have e1:wr.cell? ⟨bn,on+j,none⟩=some (S n):=ct (X.here _ _)
     obtain⟨V,hV⟩:∃V,F1 n=some (V,r):=by
      have L:=am.ou.k n
      rw[hr] at L
      cases hF1:F1 n with
      | none=>rw[hF1] at L;cases L
      | some p=>
       rw[hF1] at L
       obtain⟨V,q⟩:=p
       have L:some q=some r:=L
       cases L
       exact⟨V,rfl⟩
     have bx:Hd (cD (ja K) n=(qm n,lQ r,false)):=by rw[Hd,cD,hr];rfl
     have bz:=(am.ou.r n (V,r) hV).1
     have ch:=aj bz
     have ci:=aj (fun v=>Th n (by omega) v)
     obtain⟨cA,cc,nA,nc,oA,oc⟩:=V
     obtain⟨F,y⟩:∃F:Nat→Prop,F=fun q=>(Value.slice D B.length E).ownBlock=some q:=⟨_,rfl⟩
     have W:=aj y
     have cm:∀ξ:X wr F,(Instr.lookup uj (.map (some b1)) (S n) false).run Tryz.prog ξ.v=.ok (.agg #[.slice cA r.bD.length cc,.slice nA r.aN.length nc,.slice oA r.ou.length oc]) ξ.v:=fun ξ=>by
      have hm:=am.ou.m.aP Y.ou id
      have L:=(hm.aP ξ.h fun e=>by
       rw[y] at e
       obtain⟨_,hc⟩:=fI I.ou.own e
       exact hm.zi hc rfl).get n (by unfold maxLen;omega)
      rw[show Mj F1 n=some (vJ ⟨cA,cc,nA,nc,oA,oc⟩ r) by show Option.map _ (F1 n)=_;rw[hV];rfl] at L
      exact L
     have bA:Hd (∀v,bf w1 v→Calls Tryz.prog 76 #[.agg #[.slice cA r.bD.length cc,.slice nA r.aN.length nc,.slice oA r.ou.length oc]] v fun e w'=>e=.returned (S (lQ r))∧bf v w'):=fun v hv=>DC (v:=⟨cA,cc,nA,nc,oA,oc⟩) (HE.ou.ext (HH.ou.x0.ae (X1.ou.ae hv))).t (ch.ou.ext hv) bv
     generalize lQ r=rt at bx bA cf
     clear ct bb hr bv hV bz y
     go_upto_region 13 with fail
     (refine aV [2,6,8,9] 100 (Cl (wr) (F)) (by kernel_rfl) (by kernel_rfl) (Cl.of (al.refl _ _).drew) ?_;refine bK ?_)
     (refine bQ ?_;intro K hK)
     refine(ci.ou _).mono ?_
     rintro e u6 ⟨rfl,l⟩
     have X6:Hd (bf wr u6):=(al.refl No wr).drew.ae l
     refine⟨_,rfl,hK _ _ (fun _=>Cl.of (al.any X6.ou)) ?_⟩
     clear hK K l
     refine bj ?_
     refine bK ?_
     (refine bQ ?_;intro K hK)
     refine(bA.ou _ (Y.ou.ae X6.ou)).mono ?_
     rintro e u7 ⟨rfl,l⟩
     have X7:=aj (X6.ou.ae l)
     refine⟨_,rfl,hK _ _ (fun _=>Cl.of (al.any X7.ou)) ?_⟩
     clear hK K l
     refine bj ?_
     refine bK ?_
     (refine bQ ?_;intro K hK)
     have x8:bf u7 (u7.alloc (.cells #[S (qm n),S rt,.bool false] sD)):=(al.refl No _).alloc _
     have X8:=aj (X7.ou.ae x8)
     have F8:=aj (I.ou.on X8.ou)
     refine hK _ _ (fun _=>Cl.of (al.any X8.ou)) ?_
     clear hK K x8
     refine bj ?_
     refine cH rfl rfl ?_
     intro K hK
     refine eO (v:=.slice D B.length E) (n:=B.length) (xs:=B.flatMap fA.enc) N9 rfl rfl rfl F8.ou.own (iQ u7 _ [S (qm n),S rt,.bool false]) (by simp[Value.oneCell']) (by omega) ?_
     intro A' c' w8 a z J
     have F9:=aj (F8.ou.grow (m:=1) (ys:=[(qm n,rt,false)]) rfl a z J)
     have O8:Hd (al F wr w8):=(al.any X8.ou).grown z fun g hg=>.inr (by rw[W.ou];exact hg)
     have XE:=aj (cl a9.ou O8.ou fun g hg e=>by rw[W.ou] at e;exact fG a9.ou I.ou.own (by decide) g hg e)
     refine hK _ _ (fun _=>Cl.of O8.ou) ?_
     clear hK K a z J cm e1
     refine bj ?_
     refine bK ?_
     refine ar ?_
     go_wp2_with fail
     go_roundw
     case rel=>exact⟨j+1,by omega,by go_num,A',c',B++[(qm n,rt,false)],by simp,by rw[a0.ou,bx.ou,←aT,←bu.ou],F9.ou,XE.ou⟩
     case measure=>simp[intOf];omega
    ·obtain rfl:j=ns.length:=by omega
     have bc:Hd (B=Pp out (ja K) ns):=by rw[Hd,bu.ou,ay (aq _),ce.ou]
     have XE:=aj (X1.ou.ae I.ou.ext)
     have b4:∀x∈B,x.1.length≤1000∧x.2.1.length≤1000:=fun x l=>by
      rw[bc.ou] at l
      rcases az.1 l with l|l
      ·obtain⟨f,hf,rfl⟩:=cw.1 l
       obtain⟨L,h2⟩:=C.ou.o f hf
       exact⟨by show f.1.length+2≤1000;omega,by show f.2.length≤1000;omega⟩
      ·obtain⟨n,hn,rfl⟩:=cw.1 l
       obtain⟨⟨r,hr,-,h3⟩,h2⟩:=s.ou n hn
       exact⟨by show n.length+2≤1000;omega,by show(lQ ((ja K n).getD su)).length≤1000;rw[hr,Option.getD_some];omega⟩
     have b5:=aj (CY (cap:=E) (A:=D) (n:=B.length) (c:=B) HE.ou (HH.ou.ext XE.ou) hk (fun v hv=>di.jk (by decide) (cl I.ou.own hv fun g hg e=>by
      have h3:=b9.ou g e
      have h4:=I.ou.new g hg
      have h5:=X1.ou.size
      omega)) (by omega) b4 (fun h=>by rw[bc.ou] at h ⊢;exact ai.ou (by trivial) h))
     clear b4
     go_wp2_with fail
     refine b5.ou.mono ?_
     rintro e u5 ⟨rfl,hR⟩
     have R5:=aj hR
     clear hR b5
     go_wp2_with fail
     go_ret
     rw[bk.ou,←bc.ou]
     exact⟨rfl,R5.ou.after XE.ou⟩
end
end Go.Proofs.YtpgmcijdcnnjpaaGreatDoor
