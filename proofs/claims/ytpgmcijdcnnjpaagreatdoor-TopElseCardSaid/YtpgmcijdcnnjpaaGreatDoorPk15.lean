/- Lemmas for it. -/
import Derived.Test.YtpgmcijdcnnjpaaGreatDoorPk14
set_option linter.all false
set_option maxRecDepth 100000
set_option maxHeartbeats 4000000
namespace Go.Proofs.YtpgmcijdcnnjpaaGreatDoor
open Go Go.RowKit
variable {n t:aK} {b i k lc x y:Nat} {G g:dv} {out:List dv} {f:aK→Option Value} {v w:World} {a:fW} {lA:Option Addr} {up:List Nat}
def PJ(m:Mk):Prop:=∀r∈m.rules,∀q∈m.rules,∀t,t∈r.targets→t∈q.targets→r=q
theorem uR{a:List lR} (h:oD a n=none):∀r∈a,n∉r.targets:=by
 intro r b c
 unfold oD at h
 have:=eI.1 h r b
 simp[iH,c] at this
theorem pD(m:Mk)(r:lR)(n:aK):(gW m r n []).targets=r.targets:=by simp[gW,kA]
theorem Ih(m:Mk)(r:lR)(n k:aK):gW m r n []=gW m r k []:=by simp[gW,kA]
theorem RM{m:Mk}{l:List bm}(e:PJ m){k:aK}{q:dv}(c:iY m l n=some g)(hq:iY m l k=some q)(b:t∈g.targets)(a:t∈q.targets):g=q:=by
 rcases jK c with⟨r,hr,rfl⟩|⟨hn,r,_,hs,rfl,_⟩
 ·rcases jK hq with⟨r',hr',rfl⟩|⟨hn',r',_,hs',rfl,_⟩
  ·rw[pD] at b a
   have:=e r (jn hr).1 r' (jn hr').1 t b a
   subst this
   exact Ih _ _ _ _
  ·exfalso
   rw[pD] at b
   have a:t∈kA r' k _:=a
   unfold kA at a
   rw[aa (qY hs'),aC] at a
   subst a
   exact uR hn' r (jn hr).1 b
 ·have d:t=n:=by
   have b:t∈kA r n _:=b
   unfold kA at b
   rwa [aa (qY hs),aC] at b
  rcases jK hq with⟨r',hr',rfl⟩|⟨hn',r',_,hs',rfl,_⟩
  ·exfalso
   rw[pD] at a
   subst d
   exact uR hn r' (jn hr').1 a
  ·have f:t=k:=by
    have a:t∈kA r' k _:=a
    unfold kA at a
    rwa [aa (qY hs'),aC] at a
   subst d;subst f
   rw[c] at hq
   exact bB hq
structure Mp (m:Mk) (l:List bm) (out:List dv):Prop where
 rl:∀g∈out,∃n,iY m l n=some g
 ds:out.Pairwise fun a b=>∀t∈a.targets,t∉b.targets
 tp:∀(i:Nat) g,out[i]?=some g→∀n∈g.aN,(∃k q,k<i∧out[k]?=some q∧n∈q.targets)∨(iY m l n=none∧Nv l n=true)
def RX(m:Mk)(l:List bm)(way:List aK):Prop:=∀t∈way,∃g n,iY m l n=some g∧t∈g.targets∧∀u∈g.targets,u∈way
def IC(way:List aK)(out:List dv):Prop:=∀g∈out,∀t∈g.targets,t∉way
def Ja(m:Mk)(l:List bm)(out:List dv)(n:aK):Prop:=(∃g∈out,n∈g.targets)∨(iY m l n=none∧Nv l n=true)
theorem GV  (h:(gQ out n).isSome=false):∀g∈out,n∉g.targets:=by
 intro g a b
 unfold gQ at h
 have:out.findIdx? (fun g=>iH g.targets n)=none:=by simpa using h
 have:=fM.1 this g a
 simp[iH,b] at this
theorem FO   (h:gQ out n=some i):∃g,out[i]?=some g∧n∈g.targets:=by
 unfold gQ at h
 obtain⟨a,b,_⟩:=cK.1 h
 exact⟨out[i],aF a,by simpa [iH] using b⟩
theorem xm (f:out.Pairwise fun a b=>∀t∈a.targets,t∉b.targets)   (k:out[i]?=some g)(c:n∈g.targets):gQ out n=some i:=by
 obtain⟨d,e⟩:=aw.1 k
 unfold gQ
 refine cK.2 ⟨d,by rw[e];simpa [iH] using c,fun j hj=>?_⟩
 have:=cL.1 f j i (by omega) d hj
 rw[e] at this
 have l:n∉(out[j]'(by omega)).targets:=fun h=>this n h c
 simpa [iH] using l
section
variable {m:Mk} {l:List bm}
theorem Mp.add   (h:Mp m l out)(d:iY m l n=some g)(f:∀q∈out,∀t∈q.targets,t∉g.targets)(o:∀k∈g.aN,Ja m l out k):Mp m l (out++[g]):=by
 refine⟨fun q hq=>?_,?_,fun i q hi k hk=>?_⟩
 ·rcases az.1 hq with hq|hq
  ·exact h.rl q hq
  ·obtain rfl:q=g:=by simpa using hq
   exact⟨n,d⟩
 ·refine eN.2 ⟨h.ds,jM _ _,fun a ha b hb=>?_⟩
  obtain rfl:b=g:=by simpa using hb
  exact f a ha
 ·rcases dm i out.length with hlt|hge
  ·rw[bG hlt] at hi
   rcases h.tp i q hi k hk with⟨j,p,h1,h2,h3⟩|h1
   ·exact .inl ⟨j,p,h1,by rw[bG (by omega)];exact h2,h3⟩
   ·exact .inr h1
  ·rw[dG hge] at hi
   have r:i-out.length=0:=by
    rcases fY (i-out.length) with h0|h0
    ·exact h0
    ·rw[cg (by simp only[bE];omega)] at hi;cases hi
   rw[r] at hi
   obtain rfl:g=q:=by simpa using hi
   rcases o k hk with⟨p,hp,hk2⟩|h1
   ·obtain⟨j,c,e⟩:=iL hp
    exact .inl ⟨j,p,by omega,by rw[bG c,aF c,e],hk2⟩
   ·exact .inr h1
theorem Ja.more{out a:List dv} (h:Ja m l out n):Ja m l (out++a) n:=by
 rcases h with⟨g,hg,hn⟩|h
 ·exact .inl ⟨g,cE _ hg,hn⟩
 ·exact .inr h
theorem BL{way:List aK}{rec:List dv→aK→List dv×Int}(b:∀out n,Mp m l out→IC way out→(rec out n).2=0→(∃a,(rec out n).1=out++a)∧Mp m l (rec out n).1∧IC way (rec out n).1∧Ja m l (rec out n).1 n) :
  ∀(ns:List aK) (out:List dv),Mp m l out→IC way out→(iE rec out ns).2=0→(∃a,(iE rec out ns).1=out++a)∧Mp m l (iE rec out ns).1∧IC way (iE rec out ns).1∧∀n∈ns,Ja m l (iE rec out ns).1 n
 | [],out,h1,h2,_=>⟨⟨[],by simp[iE]⟩,h1,h2,fun n hn=>by cases hn⟩
 | n::ns,out,h1,h2,h0=>by
  unfold iE at h0 ⊢
  split at h0
  ·rename_i hne;exact absurd h0 hne
  ·rename_i d
   rw[aa d]
   have d:(rec out n).2=0:=by omega
   obtain⟨⟨a,f⟩,g,h,i⟩:=b out n h1 h2 d
   obtain⟨⟨c,e⟩,j,o,p⟩:=BL b ns _ g h h0
   refine⟨⟨a++c,by rw[e,f,aT]⟩,j,o,fun k hk=>?_⟩
   rcases aY.1 hk with rfl|hk
   ·rw[e];exact i.more
   ·exact p k hk
theorem B8(j:PJ m):∀(f:Nat) (way:List aK) (out:List dv) (name:aK),RX m l way→Mp m l out→IC way out→(dZ m l f way out name).2=0 →
  (∃r,(dZ m l f way out name).1=out++r)∧Mp m l (dZ m l f way out name).1∧IC way (dZ m l f way out name).1∧Ja m l (dZ m l f way out name).1 name
 | 0,_,_,_,_,_,_,h=>by simp[dZ] at h
 | f+1,way,out,name,hw,ho,hf,h=>by
  unfold dZ at h ⊢
  by_cases x:iH way name=true
  ·rw[ab x] at h;simp at h
  rw[aa x] at h ⊢
  by_cases w:(gQ out name).isSome=true
  ·rw[ab w]
   obtain⟨i,D⟩:=dz.1 w
   obtain⟨g,E,F⟩:=FO D
   exact⟨⟨[],by simp⟩,ho,hf,.inl ⟨g,ah E,F⟩⟩
  rw[aa w] at h ⊢
  cases hr:iY m l name with
  | none=>
   rw[hr] at h
   simp only at h ⊢
   by_cases s:Nv l name=true
   ·rw[ab s]
    exact⟨⟨[],by simp⟩,ho,hf,.inr ⟨hr,s⟩⟩
   ·rw[aa s] at h;simp at h
  | some g=>
   rw[hr] at h
   simp only at h ⊢
   have y:name∉way:=by simpa [iH] using x
   have d:=wG hr
   have v:∀q∈out,∀t∈q.targets,t∉g.targets:=fun q hq t ht htg=>by
    obtain⟨k,G⟩:=ho.rl q hq
    have:=RM j hr G htg ht
    subst this
    exact GV (by simpa using w) g hq d
   have z:RX m l (way++g.targets):=fun t ht=>by
    rcases az.1 ht with ht|ht
    ·obtain⟨q,k,a,b,c⟩:=hw t ht
     exact⟨q,k,a,b,fun u j=>cE _ (c u j)⟩
    ·exact⟨g,name,hr,ht,fun u j=>cN _ j⟩
   have A:IC (way++g.targets) out:=fun q hq t ht hm=>by
    rcases az.1 hm with hm|hm
    ·exact hf q hq t ht hm
    ·exact v q hq t ht hm
   have key:=BL (m:=m) (l:=l) (way:=way++g.targets) (rec:=dZ m l f (way++g.targets)) (fun o n a b c=>B8 j f _ o n z a b c) g.aN out ho A
   generalize iE (dZ m l f (way++g.targets)) out g.aN=R at h key ⊢
   by_cases s:R.2≠0
   ·rw[ab s] at h;exact absurd h s
   rw[aa s] at h ⊢
   by_cases B:R.1.length=10
   ·rw[ab B] at h;simp at h
   rw[aa B]
   obtain⟨⟨r,e⟩,H,C,I⟩:=key (by omega)
   refine⟨⟨r++[g],by show R.1++[g]=_;rw[e,aT]⟩,H.add hr (fun q hq t ht htg=>C q hq t ht (cN _ htg)) I,fun q hq t ht hm=>?_,.inl ⟨g,by simp,d⟩⟩
   rcases az.1 hq with hq|hq
   ·exact C q hq t ht (cE _ hm)
   ·obtain rfl:q=g:=by simpa using hq
    obtain⟨p,k,a,b,c⟩:=hw t hm
    have:=RM j hr a ht b
    subst this
    exact y (c _ d)
theorem uH:∀(f:Nat) (way:List aK) (out:List dv) (name:aK),out.length≤10→(dZ m l f way out name).1.length≤10
 | 0,_,_,_,h=>h
 | f+1,way,out,name,h=>by
  have b:∀(ns:List aK) (o:List dv) (w:List aK),o.length≤10→(iE (dZ m l f w) o ns).1.length≤10:=by
   intro ns
   induction ns with
   | nil=>intro o w a;exact a
   | cons n ns ih=>
    intro o w a
    unfold iE
    split
    ·exact uH f w o n a
    ·exact ih _ w (uH f w o n a)
  unfold dZ
  split
  ·exact h
  ·split
   ·exact h
   ·split
    ·split<;>exact h
    ·rename_i g _
     have:=b g.aN out (way++g.targets) h
     split
     ·exact this
     ·split
      ·exact this
      ·simp only[af,an,bI];omega
theorem uC(j:PJ m){goal:aK}(h:(iO m l goal).2=0):Mp m l (iO m l goal).1∧(iO m l goal).1.length≤10 ∧
  ((iO m l goal).1=[]→Nv l goal=true)∧(∀g,(iO m l goal).1.getLast?=some g→goal∈g.targets):=by
 unfold iO at h ⊢
 split at h
 ·simp at h
 rename_i h0
 rw[aa h0]
 split at h
 ·rename_i b;exact absurd h b
 rename_i b
 rw[aa b]
 have b:(dZ m l 100 [] [] goal).2=0:=by omega
 have c:=uH (m:=m) (l:=l) 100 [] [] goal (by simp)
 have d:=B8 j 100 [] [] goal (fun t ht=>by cases ht) ⟨fun g a=>(by cases a),List.Pairwise.nil,fun i g hi=>(by simp at hi)⟩ (fun g a=>by cases a) b
 refine⟨d.2.1,c,fun f=>?_,fun g a=>?_⟩
 ·rcases d.2.2.2 with⟨g,a,_⟩|h2
  ·have f:(dZ m l 100 [] [] goal).1=[]:=f
   rw[f] at a;cases a
  ·exact h2.2
 ·have a:(dZ m l (99+1) [] [] goal).1.getLast?=some g:=a
  have b:(dZ m l (99+1) [] [] goal).2=0:=b
  unfold dZ at a b
  rw[aa (by simp[iH]),aa (by simp[gQ])] at a b
  cases hr:iY m l goal with
  | none=>
   rw[hr] at a
   simp only at a
   split at a<;>simp at a
  | some q=>
   rw[hr] at a b
   simp only at a b
   split at a
   ·rename_i h2;rw[ab h2] at b;exact absurd b h2
   ·rename_i h2
    rw[aa h2] at b
    split at a
    ·rename_i h3;rw[ab h3] at b;simp at b
    ·simp only[List.getLast?_append,List.getLast?_singleton,Option.or_some,Option.some.injEq] at a
     have e:q=g:=by simpa using a
     subst e
     exact wG hr
end
theorem Aj:∀{ts made:List aK},yE made ts=false→(∀t∈ts,t∉made)∧ts.Nodup
 | [],made,_=>⟨fun t a=>(by cases a),List.nodup_nil⟩
 | t::ts,made,h=>by
  unfold yE at h
  simp only[dM] at h
  obtain⟨b,c⟩:=Aj h.2
  have a:t∉made:=by simpa [iH] using h.1
  refine⟨fun u hu=>?_,gG.2 ⟨fun hm=>b t hm (by simp),c⟩⟩
  rcases aY.1 hu with rfl|hu
  ·exact a
  ·exact fun hm=>b u hu (cE _ hm)
theorem Cu(c:List aK):∀{rs:List lR} {made all:List aK},vD c rs made=some all→(∀r∈rs,(∀t∈r.targets,t∉made)∧r.targets.Nodup∧px c r=true)∧rs.Pairwise (fun a b=>∀t∈a.targets,t∉b.targets)∧(∀t,t∈all↔t∈made∨∃r∈rs,t∈r.targets)
 | [],made,all,h=>by
  unfold vD at h
  cases h
  exact⟨fun r hr=>(by cases hr),List.Pairwise.nil,fun t=>by simp⟩
 | r::rs,made,all,h=>by
  unfold vD at h
  split at h
  ·cases h
  ·rename_i h1
   split at h
   ·rename_i h2
    obtain⟨e,f⟩:=Aj (by simpa using h1)
    obtain⟨d,g,i⟩:=Cu c h
    refine⟨fun q hq=>?_,dp.2 ⟨fun q hq t ht hm=>(d q hq).1 t hm (cN _ ht),g⟩,fun t=>?_⟩
    ·rcases aY.1 hq with rfl|hq
     ·exact⟨e,f,h2⟩
     ·exact⟨fun t ht hm=>(d q hq).1 t ht (cE _ hm),(d q hq).2⟩
    ·rw[i t]
     simp only[az,aY,exists_eq_or_imp,or_assoc]
   ·cases h
theorem Aq{m:Mk}(h:pH m=0):PJ m∧(∀r∈m.rules,r.targets.Nodup)∧(∀r∈m.rules,px m.ba r=true):=by
 unfold pH at h
 split at h
 ·simp at h
 ·rename_i all hc
  obtain⟨c,g,_⟩:=Cu m.ba hc
  refine⟨fun r hr q hq t ht hm=>?_,fun r hr=>(c r hr).2.1,fun r hr=>(c r hr).2.2⟩
  obtain⟨i,d,a⟩:=iL hr
  obtain⟨j,e,b⟩:=iL hq
  have f:=cL.1 g
  rcases jg i j with hlt|heq|hgt
  ·have:=f i j d e hlt t (by rw[a];exact ht)
   rw[b] at this
   exact absurd hm this
  ·subst heq;rw[←a,←b]
  ·have:=f j i e d hgt t (by rw[b];exact hm)
   rw[a] at this
   exact absurd ht this
theorem Gt{m:Mk}{r:lR}{st:aK}(a:1≤r.targets.length)(b:r.targets.length≤2)(c:r.aN.length≤3):1≤(gW m r n st).targets.length∧(gW m r n st).targets.length≤2∧(gW m r n st).aN.length≤3:=by
 refine⟨?_,?_,?_⟩
 ·show 1≤(kA r n st).length
  unfold kA
  split
  ·exact a
  ·exact aq 1
 ·show(kA r n st).length≤2
  unfold kA
  split
  ·exact b
  ·exact fN 1
 ·show(oE r st).length≤3
  unfold oE
  rw[bH]
  exact c
theorem Ej{m:Mk}{l:List bm}  (d:Ps m l)(h:iY m l n=some G):1≤G.targets.length∧G.targets.length≤2∧G.aN.length≤3:=by
 rcases jK h with⟨r,hr,rfl⟩|⟨_,r,hr,_,rfl,_⟩
 ·obtain⟨a,b,c,_⟩:=d.t r (jn hr).1
  exact Gt a b c
 ·obtain⟨a,b,c,_⟩:=d.t r hr
  exact Gt a b c
theorem Qm:(Tryz.prog.info? ia).map (fun i=>(i.zero,i.size,i.bytes))=some (some (.agg #[.slice none 0 0,.slice none 0 0,.slice none 0 0,.bool false]),4,80):=by kernel_rfl
theorem Ut:tf Tryz.prog 28 ia 4:=tf.mk' Tryz.underlying28 Qm rfl (by omega) (by omega)
theorem yW{m:Mk}{l:List bm}{way:List aK}   {f:Nat}(a:iH way n=false)(b:(gQ out n).isSome=false)(c:iY m l n=some g){R:List dv×Int}(d:iE (dZ m l f (way++g.targets)) out g.aN=R) :
  dZ m l (f+1) way out n=if R.2≠0 then R else if R.1.length=10 then (R.1,2) else (R.1++[g],0):=by
 rw[dZ,aa (by rw[a];decide),aa (by rw[b];decide),c]
 show(if (iE (dZ m l f (way++g.targets)) out g.aN).2≠0 then _ else _)=_
 rw[d]
theorem Hz{rec:List dv→aK→List dv×Int} {ns:List aK}  {r:List dv×Int}(a:ns[k]?=some t)(b:rec out t=r):iE rec out (ns.drop k)=if r.2≠0 then r else iE rec r.1 (ns.drop (k+1)):=by
 obtain⟨c,e⟩:=aw.1 a
 rw[cB c,e,iE,b]
theorem al.under{F a:Nat→Prop}{u:World}(h:al F w u)(k:al a u v)(b:∀q,a q→F q∨w.heap.size≤q):al F w v:=h.trans k fun q hq e=>(b q e).elim id fun h=>absurd h (by omega)
theorem jW.nil(w:World):jW w none [] []:=⟨⟨rfl,fun h=>absurd h (by decide)⟩,(fun x hx=>by cases hx),rfl⟩
theorem ME(c way:List aK):BC c way≤c.length:=dK _ _
def SS(w:World)(m:Option Nat)(f:aK→Option Value):Prop:=
 ∀u,bf w u→∀t:aK,t.length≤maxLen→(Instr.lookup uj (.map m) (S t) true).run Tryz.prog u=.ok (.tuple #[(f t).getD pg,.bool (f t).isSome]) u
theorem SS.ext {m:Option Nat} (h:SS w m f)(a:bf w v):SS v m f:=fun u hu=>h u (a.ae hu)
theorem lZ.kpm {n:Nat} (h:lZ w b n f):SS w (some b) f:=fun _ hu t ht=>(h.aP hu id).look t ht
theorem TE  {m:Option Nat}  (V:SS w m f)   (W:di cI w a.tA G.targets.length G.targets) (h1:1≤G.targets.length) (hl:(G.targets.headD []).length≤1000000)
  {y z A:Option Addr} {B C D c1 E F:Nat} (M:(f (G.targets.headD [])).getD pg=.agg #[.slice y B c1,.slice z C E,.slice A D F]) :
  Calls Tryz.prog 121 #[.map m,AP (a,G)] w fun e w'=>e=.returned (.tuple #[.agg #[.slice y B c1,.slice z C E,.slice A D F],.bool (f (G.targets.headD [])).isSome])∧bf w w':=by
 obtain⟨tA,N,X,nc,Y,Z⟩:=a
 obtain⟨bt,I,t,O,J,ct⟩:=dq W (k:=0) (by omega)
 have K:G.targets.headD []=t:=by
  cases htl:G.targets with
  | nil=>rw[htl] at J;cases J
  | cons p r=>rw[htl] at J;exact bB J
 have O:tA=some ⟨bt,I,none⟩:=O
 subst O
 rw[K] at hl M ⊢
 obtain⟨H,i⟩:∃u,u=w.alloc (.cells #[.slice (some ⟨bt,I,none⟩) G.targets.length N,.slice X G.aN.length nc,.slice Y G.bD.length Z,.bool G.ba] ia):=⟨_,rfl⟩
 obtain⟨g,l⟩:∃u,u=H.alloc (.cells #[.slice none 0 0,.slice none 0 0,.slice none 0 0] pn):=⟨_,rfl⟩
 obtain⟨b3,s⟩:∃b,b=w.heap.size:=⟨_,rfl⟩
 obtain⟨d,n⟩:∃b,b=w.heap.size+1:=⟨_,rfl⟩
 have s1:H.heap.size=w.heap.size+1:=by rw[i];simp
 have x1:bf w H:=by rw[i];exact(al.refl No w).alloc _
 have P:bf H g:=by rw[l];exact(al.refl No H).alloc _
 have C3:Hd (Cs g b3 ia #[.slice (some ⟨bt,I,none⟩) G.targets.length N,.slice X G.aN.length nc,.slice Y G.bD.length Z,.bool G.ba]):=(show Cs H b3 ia _ by rw[i,s];exact Cs.new _ _ _).aP P id
 have C4:Hd (Cs g d pn #[.slice none 0 0,.slice none 0 0,.slice none 0 0]):=by rw[l,n,←s1];exact Cs.new _ _ _
 have Q:Hd (bf w g):=x1.ae P
 have HB:Hd (w.heap.size≤d):=by rw[n];exact fN _
 have R:(Instr.lookup uj (.map m) (S t) true).run Tryz.prog g=.ok (.tuple #[.agg #[.slice y B c1,.slice z C E,.slice A D F],.bool (f t).isSome]) g:=by
  have h:=V g Q.ou t (by unfold maxLen;omega)
  rw[M] at h
  exact h
 have e0:g.cell? ⟨bt,I,none⟩=some (S t):=ct ⟨g,Q.ou⟩
 have k0:g.cell? ⟨b3,0,none⟩=some (.slice (some ⟨bt,I,none⟩) G.targets.length N):=C3.ou.cell 0
 clear V W ct J K M x1 P s1
 go_enter Tryz.func121,Tryz.ntmps121
 go_upto_region 1 with fail
 rw[←i,←l,←n,←s]
 clear i l s n
 go_upto_region 2 with fail
 obtain⟨j,o⟩:∃u,u=g.alloc (.cells #[.slice y B c1,.slice z C E,.slice A D F] pn):=⟨_,rfl⟩
 obtain⟨L,v⟩:∃b,b=g.heap.size:=⟨_,rfl⟩
 rw[←o,←v]
 have T:bf g j:=by rw[o];exact(al.refl No g).alloc _
 have U:Hd (Cs j L pn #[.slice y B c1,.slice z C E,.slice A D F]):=by rw[o,v];exact Cs.new _ _ _
 have x:=aj (C4.ou.aP T id)
 have X3:=aj (Q.ou.ae T)
 have q0:j.cell? ⟨L,0,none⟩=some (.slice y B c1):=U.ou.cell 0
 have q1:j.cell? ⟨L,1,none⟩=some (.slice z C E):=U.ou.cell 1
 have q2:j.cell? ⟨L,2,none⟩=some (.slice A D F):=U.ou.cell 2
 have y0:j.cell? ⟨d,0,none⟩=some (.slice none 0 0):=x.ou.cell 0
 have y1:j.cell? ⟨d,1,none⟩=some (.slice none 0 0):=x.ou.cell 1
 have y2:j.cell? ⟨d,2,none⟩=some (.slice none 0 0):=x.ou.cell 2
 have z0:=x.ou.frozen 0
 have z1:=x.ou.frozen 1
 have z2:=x.ou.frozen 2
 have HO:Hd (∀a b c,al (fun q=>q=d) j (((j.setCell ⟨d,0,none⟩ a).setCell ⟨d,1,none⟩ b).setCell ⟨d,2,none⟩ c)):=fun a b c=>(((al.refl _ _).at_ 0 a).at_ 1 b).at_ 2 c
 have HS:Hd (∀a b c,Cs (((j.setCell ⟨d,0,none⟩ a).setCell ⟨d,1,none⟩ b).setCell ⟨d,2,none⟩ c) d pn #[a,b,c]):=fun a b c=>((x.ou.cM 0 a).cM 1 b).cM 2 c
 clear o v T R e0 k0 C4
 go_wp2_with fail
 refine eP (p:=4) (u:=5) (ty:=pn) (ad:=⟨d,0,none⟩) rfl rfl rfl (oQ (HS.ou _ _ _)) ?_
 exact⟨rfl,X3.ou.trans (HO.ou _ _ _) fun q hq e=>by have e:q=d:=e;have:=HB.ou;omega⟩
def jR(l:List bm):List aK→List bm→Option (List bm)
 | [],out=>some out
 | t::ts,out=>if ji t l=true then jR l ts (jY fk (t,ki t l) out) else none
theorem IT{l:List bm}{ts:List aK}  {out:List bm}(a:ts[k]?=some t):jR l (ts.drop k) out=if ji t l=true then jR l (ts.drop (k+1)) (jY fk (t,ki t l) out) else none:=by
 obtain⟨b,e⟩:=aw.1 a
 rw[cB b,e,jR]
def PB:Option (List bm)→Ending→World→Prop
 | some o,e,w'=>∃(A:Option Addr) (c:Nat),e=.returned (.tuple #[.slice A o.length c,.bool true])∧di br w' A o.length o
 | none,e,_=>e=.returned (.tuple #[.slice none 0 0,.bool false])
theorem Sk   (N:di cI w a.tA G.targets.length G.targets)(h2:G.targets.length≤100)  {l:List bm}(O:di br w lA l.length l)(ac:l.length≤900000)(Q:eQ fk l) :
  Calls Tryz.prog 122 #[AP (a,G),.slice lA l.length lc] w fun e w'=>PB (jR l G.targets []) e w'∧bf w w':=by
 obtain⟨y,D,R,nc,T,U⟩:=a
 obtain⟨h,d⟩:∃u,u=w.alloc (.cells #[.slice y G.targets.length D,.slice R G.aN.length nc,.slice T G.bD.length U,.bool G.ba] ia):=⟨_,rfl⟩
 obtain⟨b2,f⟩:∃b,b=w.heap.size:=⟨_,rfl⟩
 have B:Hd (bf w h):=by rw[d];exact(al.refl No w).alloc _
 have C2:Hd (Cs h b2 ia #[.slice y G.targets.length D,.slice R G.aN.length nc,.slice T G.bD.length U,.bool G.ba]):=by rw[d,f];exact Cs.new _ _ _
 have HT:Hd (di cI h y G.targets.length G.targets):=di.ext N B.ou
 have HL:=aj (O.ext B.ou)
 have HR:=aj Q
 have k0:h.cell? ⟨b2,0,none⟩=some (.slice y G.targets.length D):=C2.ou.cell 0
 clear N O Q
 go_enter Tryz.func122,Tryz.ntmps122
 go_upto_region 1 with fail
 rw[←d,←f]
 clear d f
 go_wp2_with fail
 go_loopw [6,14] (fun ov i wr=>∃k:Nat,k≤G.targets.length∧i=.int .i64 k∧∃(A:Option Addr) (c:Nat) (o:List bm),ov=.slice A o.length c∧di br wr A o.length o∧o.length≤k∧eQ fk o∧jR l (G.targets.drop k) o=jR l G.targets []∧bf h wr) (fun _ i _=>G.targets.length-(intOf i).toNat)
 case atStart=>exact⟨0,au _,rfl,none,0,[],rfl,di.none_,aq _,List.Pairwise.nil,rfl,al.refl _ _⟩
 case round=>
  clear k0
  obtain⟨k,hk,rfl,A,c,o,rfl,V,ag,j,W,X⟩:=hrel
  have Y:=aj V
  have m:=aj j
  have E:=aj W
  have C:=aj X
  clear V j W X
  by_cases F:k<G.targets.length
  ·obtain⟨bt,ot,t,rfl,n,Z⟩:=dq HT.ou F
   have e0:wr.cell? ⟨bt,ot+k,none⟩=some (S t):=Z ⟨wr,C.ou⟩
   have H:=aj (IT (l:=l) (out:=o) n)
   have I:=aj (um (c:=lc) (HL.ou.ext C.ou) (by omega) t HR.ou)
   obtain⟨gt,p⟩:∃g,g=ki t l:=⟨_,rfl⟩
   obtain⟨gb,q⟩:∃g,g=ji t l:=⟨_,rfl⟩
   rw[←p,←q] at I H
   clear n Z p q
   go_wp2_with fail
   refine I.ou.mono ?_
   rintro e u ⟨rfl,J⟩
   have XU:=aj (C.ou.ae J)
   have K:=aj (Y.ou.ext J)
   clear J I e0
   cases gb with
   | false=>
    have L:Hd (jR l G.targets []=none):=by rw[Hd,←E.ou,H.ou];rfl
    go_wp2_with fail
    go_ret2
    rw[L.ou]
    exact⟨rfl,B.ou.ae XU.ou⟩
   | true=>
    have M:=aj (FS (c:=c) K.ou (by omega) (t,gt) m.ou)
    have r:=mq (key:=fk) (t,gt) o
    have s:=aj (ny m.ou (t,gt))
    have v:Hd (jR l (G.targets.drop (k+1)) (jY fk (t,gt) o)=jR l G.targets []):=by rw[Hd,←E.ou,H.ou];rfl
    obtain⟨P,hP⟩:∃P,P=jY fk (t,gt) o:=⟨_,rfl⟩
    rw[←hP] at M r s v
    clear hP
    go_wp2_with fail
    refine M.ou.mono ?_
    rintro e z ⟨A',c',rfl,hF⟩
    have HF:=aj hF
    clear hF M
    have x:P.length≤k+1:=by omega
    clear r
    go_wp2_with fail
    go_roundw
    case rel=>exact⟨k+1,by omega,by go_num,A',c',P,rfl,HF.ou.row (by decide),x,s.ou,v.ou,XU.ou.ae HF.ou.ext⟩
    case measure=>simp[intOf];omega
  ·obtain rfl:k=G.targets.length:=by omega
   have L:Hd (jR l G.targets []=some o):=by rw[Hd,←E.ou,cr (aq _)];rfl
   go_wp2_with fail
   go_ret2
   rw[L.ou]
   exact⟨⟨A,c,rfl,Y.ou⟩,B.ou.ae C.ou⟩
theorem BN{l:List bm}:∀{ts:List aK} {out o:List bm},jR l ts out=some o→o.length≤out.length+ts.length
 | [],out,o,h=>by cases h;simp
 | t::ts,out,o,h=>by
  rw[jR] at h
  by_cases a:ji t l=true
  ·rw[ab a] at h
   have:=BN h
   have:=mq (key:=fk) (t,ki t l) out
   rw[an]
   omega
  ·rw[aa a] at h;cases h
abbrev Mj(F:aK→Option (jy×iT)):aK→Option Value:=fun s=>(F s).map fun p=>vJ p.1 p.2
def Ry(w:World)(F:aK→Option (jy×iT)):Prop:=∀s p,F s=some p→pz w p.1 p.2∧p.2.bD.length≤10000∧p.2.aN.length≤10000∧p.2.ou.length≤10000
theorem Ry.ext{w v:World}{F:aK→Option (jy×iT)}(h:Ry w F)(a:bf w v):Ry v F:=fun s p e=>⟨(h s p e).1.ext a,(h s p e).2⟩
def ld(l:List bm)(F:aK→Option (jy×iT))(g:dv):Bool:=match F (g.targets.headD []),jR l g.targets [] with
 | some p,some o=>oB p.2 (jw g l o)
 | _,_=>false
theorem Rc  {m:Option Nat} {F:aK→Option (jy×iT)} (hM:SS w m (Mj F)) (hF:Ry w F)   (ht:di cI w a.tA G.targets.length G.targets) (hn:di cI w a.nA G.aN.length G.aN) (hc:di cI w a.cA G.bD.length G.bD)
  (h1:1≤G.targets.length) (h2:G.targets.length≤100) (h3:G.aN.length≤1000) (h4:G.bD.length≤1000) (h5:(G.targets.headD []).length≤1000000)
   {l:List bm} (hl:di br w lA l.length l) (ac:l.length≤1000) (hr:eQ fk l) :
  Calls Tryz.prog 73 #[AP (a,G),.slice lA l.length lc,.map m] w fun e w'=>e=.returned (.bool (ld l F G))∧bf w w':=by
 obtain⟨D,q⟩:∃u,u=w.alloc (.cells #[.slice a.tA G.targets.length a.tc,.slice a.nA G.aN.length a.nc,.slice a.cA G.bD.length a.cc,.bool G.ba] ia):=⟨_,rfl⟩
 obtain⟨b2,M⟩:∃b,b=w.heap.size:=⟨_,rfl⟩
 have j:bf w D:=by rw[q];exact(al.refl No w).alloc _
 have X1:=aj j
 have C2:Hd (Cs D b2 ia #[.slice a.tA G.targets.length a.tc,.slice a.nA G.aN.length a.nc,.slice a.cA G.bD.length a.cc,.bool G.ba]):=by rw[q,M];exact Cs.new _ _ _
 obtain⟨U,W,c1,Y,Z,c2,p3,n3,c3,hv⟩:∃U W c1 Y Z c2 p3 n3 c3,(Mj F (G.targets.headD [])).getD pg=.agg #[.slice U W c1,.slice Y Z c2,.slice p3 n3 c3]:=by
  cases hq:F (G.targets.headD []) with
  | none=>exact⟨_,_,_,_,_,_,_,_,_,by show(Option.map _ (F (G.targets.headD []))).getD _=_;rw[hq];rfl⟩
  | some p=>exact⟨_,_,_,_,_,_,_,_,_,by show(Option.map _ (F (G.targets.headD []))).getD _=_;rw[hq];rfl⟩
 have ag:(Mj F (G.targets.headD [])).isSome=(F (G.targets.headD [])).isSome:=by
  show(Option.map _ (F (G.targets.headD []))).isSome=_
  cases F (G.targets.headD [])<;>rfl
 have N:Option.getD (Option.map (fun p:jy×iT=>vJ p.1 p.2) (F (G.targets.headD []))) pg=.agg #[.slice U W c1,.slice Y Z c2,.slice p3 n3 c3]:=hv
 have s:=aj (TE (hM.ext j) (a:=a) (ht.ext j) h1 h5 hv)
 rw[ag] at s
 have HO:=aj (fun u (f:bf D u)=>Sk (a:=a) (lc:=lc) ((ht.ext j).ext f) h2 ((hl.ext j).ext f) (by omega) hr)
 have ai:=aj (fun u (f:bf D u) (B:Option Addr) (d:Nat) (o:List bm) (ho:di br u B o.length o) (ho2:o.length≤1000)=>Ve (gv:=⟨a.tA,a.tc,a.nA,a.nc,a.cA,a.cc⟩) (c:=lc) (d:=d) (⟨(ht.ext j).ext f,(hn.ext j).ext f,(hc.ext j).ext f⟩:EU u ⟨a.tA,a.tc,a.nA,a.nc,a.cA,a.cc⟩ G) ((hl.ext j).ext f) ho hr h4 h3 ac ho2)
 have ak:=aj (hF.ext j)
 have a0:=aj h3
 have a1:=aj h4
 have a2:=aj h2
 have i:Hd (ld l F G=match F (G.targets.headD []),jR l G.targets [] with
  | some p,some o=>oB p.2 (jw G l o)
  | _,_=>false):=rfl
 have O:=aj (fun o (e:jR l G.targets []=some o)=>BN e)
 generalize jR l G.targets []=OO at i HO O
 have P:=aj (ak.ou (G.targets.headD []))
 generalize F (G.targets.headD [])=FF at i s N P
 have HV:=aj N
 have k0:D.cell? ⟨b2,0,none⟩=some (.slice a.tA G.targets.length a.tc):=C2.ou.cell 0
 have k1:D.cell? ⟨b2,1,none⟩=some (.slice a.nA G.aN.length a.nc):=C2.ou.cell 1
 have k2:D.cell? ⟨b2,2,none⟩=some (.slice a.cA G.bD.length a.cc):=C2.ou.cell 2
 have k3:D.cell? ⟨b2,3,none⟩=some (.bool G.ba):=C2.ou.cell 3
 clear hM hF ht hn hc h1 h2 h3 h4 h5 hl ac hr ag j hv N ak
 go_enter Tryz.func73,Tryz.ntmps73
 go_upto_region 1 with fail
 rw[←q,←M]
 clear q M
 go_wp2_with fail
 refine s.ou.mono ?_
 rintro e u1 ⟨rfl,f⟩
 have U1:=aj f
 clear f s
 obtain⟨Q,t⟩:∃u,u=u1.alloc (.cells #[.slice U W c1,.slice Y Z c2,.slice p3 n3 c3] pn):=⟨_,rfl⟩
 obtain⟨b7,S⟩:∃b,b=u1.heap.size:=⟨_,rfl⟩
 have x2:bf u1 Q:=by rw[t];exact(al.refl No u1).alloc _
 have C7:Hd (Cs Q b7 pn #[.slice U W c1,.slice Y Z c2,.slice p3 n3 c3]):=by rw[t,S];exact Cs.new _ _ _
 have E:=aj (U1.ou.ae x2)
 have am:=aj (HO.ou Q E.ou)
 have k:=aj (C2.ou.aP E.ou id)
 have j0:Q.cell? ⟨b2,0,none⟩=some (.slice a.tA G.targets.length a.tc):=k.ou.cell 0
 have j1:Q.cell? ⟨b2,1,none⟩=some (.slice a.nA G.aN.length a.nc):=k.ou.cell 1
 have j2:Q.cell? ⟨b2,2,none⟩=some (.slice a.cA G.bD.length a.cc):=k.ou.cell 2
 have j3:Q.cell? ⟨b2,3,none⟩=some (.bool G.ba):=k.ou.cell 3
 clear x2 k0 k1 k2 k3 HO
 go_upto_region 2 with fail
 rw[←t,←S]
 clear t S
 go_wp2_with fail
 refine am.ou.mono ?_
 rintro e u3 ⟨H,f⟩
 have U3:=aj f
 have g:=aj H
 clear f H am
 cases FF with
 | none=>
  have I:Hd (ld l F G=false):=i.ou
  cases OO with
  | none=>
   obtain rfl:=g.ou
   go_upto_region 3 with fail
   refine aV [9,10] 100 (Cl u3 No) (by kernel_rfl) (by kernel_rfl) (Cl.of (al.refl _ _).drew) ?_
   refine bK ?_
   refine ar ?_
   go_wp2_with fail
   go_ret
   exact⟨by rw[I.ou];rfl,((X1.ou.ae E.ou).ae U3.ou).drew⟩
  | some o=>
   obtain⟨A,c,rfl,_⟩:=g.ou
   go_upto_region 3 with fail
   refine aV [9,10] 100 (Cl u3 No) (by kernel_rfl) (by kernel_rfl) (Cl.of (al.refl _ _).drew) ?_
   refine bK ?_
   refine ar ?_
   go_wp2_with fail
   go_ret
   exact⟨by rw[I.ou];rfl,((X1.ou.ae E.ou).ae U3.ou).drew⟩
 | some p=>
  cases OO with
  | none=>
   have I:Hd (ld l F G=false):=i.ou
   obtain rfl:=g.ou
   go_upto_region 3 with fail
   refine aV [9,10] 100 (Cl u3 No) (by kernel_rfl) (by kernel_rfl) (Cl.of (al.refl _ _).drew) ?_
   refine bK ?_
   refine ar ?_
   go_wp2_with fail
   go_ret
   exact⟨by rw[I.ou];rfl,((X1.ou.ae E.ou).ae U3.ou).drew⟩
  | some o=>
   obtain⟨⟨cA,cc,nA,nc,oA,oc⟩,r⟩:=p
   have I:Hd (ld l F G=oB r (jw G l o)):=i.ou
   obtain⟨A,c,rfl,J⟩:=g.ou
   have y:(Value.agg #[.slice cA r.bD.length cc,.slice nA r.aN.length nc,.slice oA r.ou.length oc])=.agg #[.slice U W c1,.slice Y Z c2,.slice p3 n3 c3]:=HV.ou
   injection y with y
   simp only[Array.mk.injEq,List.cons.injEq,Value.slice.injEq,and_true] at y
   obtain⟨⟨rfl,rfl,rfl⟩,⟨rfl,rfl,rfl⟩,rfl,rfl,rfl⟩:=y
   have ao:=O.ou o rfl
   obtain⟨n,z⟩:∃v,v=u3.drew:=⟨_,rfl⟩
   have XD:bf u3 n:=by rw[z];exact(al.refl No u3).drew
   have UD:=aj (U3.ou.ae XD)
   have ap:=aj (J.ext XD)
   have T:=aj (C7.ou.aP UD.ou id)
   have C:=aj (k.ou.aP UD.ou id)
   have a4:o.length≤100:=by have:=a2.ou;simp only[bI] at ao;omega
   have L:=aj (ai.ou n (E.ou.ae UD.ou) A c o ap.ou (by omega))
   obtain⟨R,hR⟩:∃R,R=jw G l o:=⟨_,rfl⟩
   have av:R.bD.length≤10000∧R.aN.length≤10000∧R.ou.length≤10000:=by
    rw[hR]
    have h1:=a1.ou
    have h2:=a0.ou
    have h3:=zA l G.aN
    exact⟨by show G.bD.length≤_;omega,by show(qk l G.aN).length≤_;omega,by show o.length≤_;omega⟩
   have a3:=aj av
   have HK:=aj (P.ou _ rfl)
   rw[←hR] at L I
   have d0:∀ξ:X n No,ξ.v.cell? ⟨b7,0,none⟩=some (.slice cA r.bD.length cc):=T.ou.x id 0
   have d1:∀ξ:X n No,ξ.v.cell? ⟨b7,1,none⟩=some (.slice nA r.aN.length nc):=T.ou.x id 1
   have d2:∀ξ:X n No,ξ.v.cell? ⟨b7,2,none⟩=some (.slice oA r.ou.length oc):=T.ou.x id 2
   have e0:∀ξ:X n No,ξ.v.cell? ⟨b2,0,none⟩=some (.slice a.tA G.targets.length a.tc):=C.ou.x id 0
   have e1:∀ξ:X n No,ξ.v.cell? ⟨b2,1,none⟩=some (.slice a.nA G.aN.length a.nc):=C.ou.x id 1
   have e2:∀ξ:X n No,ξ.v.cell? ⟨b2,2,none⟩=some (.slice a.cA G.bD.length a.cc):=C.ou.x id 2
   have e3:∀ξ:X n No,ξ.v.cell? ⟨b2,3,none⟩=some (.bool G.ba):=C.ou.x id 3
   clear ao hR J XD av j0 j1 j2 j3 O ai i P
   go_upto_region 3 with fail
   refine aV [9,10] 100 (Cl n No) (by kernel_rfl) (by kernel_rfl) (by rw[z];exact Cl.of (al.refl _ _)) ?_
   rw[←z]
   clear z
   refine bK ?_
   (refine bQ ?_;intro K hK)
   refine L.ou.mono ?_
   rintro e u4 ⟨V,rfl,hq,f⟩
   have U4:=aj f
   have HS:=aj (TG (HK.ou.1.ext ((E.ou.ae UD.ou).ae U4.ou)) hq HK.ou.2 a3.ou)
   refine⟨_,rfl,hK _ _ (fun _=>Cl.of U4.ou) ?_⟩
   clear hK K f hq
   refine bj ?_
   obtain⟨ξ4,rfl⟩:∃ξ:X n No,u4=ξ.v:=⟨⟨u4,U4.ou⟩,rfl⟩
   refine dH ?_
   (refine bQ ?_;intro K hK)
   refine HS.ou.mono ?_
   rintro e u5 ⟨rfl,f⟩
   have U5:=aj (ξ4.h.ae f)
   refine⟨_,rfl,hK _ _ (fun _=>Cl.of U5.ou) ?_⟩
   clear hK K f
   refine bj ?_
   obtain⟨sb,aD⟩:∃b,b=oB r R:=⟨_,rfl⟩
   rw[←aD] at I ⊢
   clear aD d0 d1 d2 e0 e1 e2 e3
   refine dH ?_
   refine ar ?_
   go_wp2_with fail
   go_ret
   exact⟨by rw[I.ou];rfl,(X1.ou.ae (E.ou.ae UD.ou)).ae U5.ou⟩
abbrev mJ:=Nat×Nat
inductive kL (E:List mJ) (x:Nat):Nat→Prop
 | here:kL E x x
 | down {y z:Nat}:kL E x y→(y,z)∈E→kL E x z
 | up {y z:Nat}:kL E x y→(z,y)∈E→kL E x z
section
variable {E F:List mJ}
theorem kL.trans{z:Nat}(h:kL E x y)(k:kL E y z):kL E x z:=by
 induction k with
 | here=>exact h
 | down _ e ih=>exact ih.down e
 | up _ e ih=>exact ih.up e
theorem kL.symm (h:kL E x y):kL E y x:=by
 induction h with
 | here=>exact .here
 | down _ e ih=>exact(kL.here.up e).trans ih
 | up _ e ih=>exact(kL.here.down e).trans ih
theorem kL.more (h:kL E x y)(a:∀e∈E,e∈F):kL F x y:=by
 induction h with
 | here=>exact .here
 | down _ e ih=>exact ih.down (a _ e)
 | up _ e ih=>exact ih.up (a _ e)
end
def ym(E:List mJ)(x m:Nat):Prop:=kL E x m∧∀y,kL E x y→m≤y
theorem ym.uniq{E:List mJ}{x m k:Nat}(h:ym E x m)(a:ym E x k):m=k:=Nat.le_antisymm (h.2 k a.1) (a.2 m h.1)
def mU(up:List Nat):Nat→Nat→Nat
 | 0,i=>i
 | f+1,i=>if up.getD i 0=i then i else mU up f (up.getD i 0)
def cY(up:List Nat)(i:Nat):Nat:=mU up i i
def Bc(up:List Nat)(e:mJ):List Nat:=up.set (max (cY up e.1) (cY up e.2)) (min (cY up e.1) (cY up e.2))
def IB(up:List Nat):Prop:=∀i,i<up.length→up.getD i 0≤i
theorem mR{a:List Nat}(h:IB a):∀(f i:Nat),i≤f→i<a.length→mU a f i=mU a i i∧mU a f i≤i∧a.getD (mU a f i) 0=mU a f i
 | 0,i,hi,hl=>by
  obtain rfl:i=0:=by omega
  have:=h 0 hl
  exact⟨rfl,aq _,by show a.getD 0 0=0;omega⟩
 | f+1,i,hi,hl=>by
  have m:=h i hl
  by_cases b:a.getD i 0=i
  ·have c:mU a (f+1) i=i:=by unfold mU;rw[ab b]
   have d:mU a i i=i:=by
    cases i with
    | zero=>rfl
    | succ j=>unfold mU;rw[ab b]
   rw[c,d]
   exact⟨rfl,aq _,b⟩
  ·have c:mU a (f+1) i=mU a f (a.getD i 0):=by
    conv=>lhs;unfold mU
    rw[aa b]
   obtain⟨e,k,g⟩:=mR h f (a.getD i 0) (by omega) (by omega)
   cases i with
   | zero=>omega
   | succ j=>
    have d:mU a (j+1) (j+1)=mU a j (a.getD (j+1) 0):=by
     conv=>lhs;unfold mU
     rw[aa b]
    obtain⟨l,_,_⟩:=mR h j (a.getD (j+1) 0) (by omega) (by omega)
    rw[c,d,e,l]
    rw[e] at k g
    exact⟨rfl,by omega,g⟩
 termination_by f=>f
theorem lS (h:IB up) (a:i<up.length):cY up i≤i:=(mR h i i (aq _) a).2.1
theorem wV (h:IB up) (a:i<up.length):up.getD (cY up i) 0=cY up i:=(mR h i i (aq _) a).2.2
theorem lB (h:IB up) (b:i<up.length):cY up i=if up.getD i 0=i then i else cY up (up.getD i 0):=by
 have c:=h i b
 unfold cY
 cases i with
 | zero=>
  have:up.getD 0 0=0:=by omega
  rw[ab this];rfl
 | succ j=>
  conv=>lhs;unfold mU
  by_cases a:up.getD (j+1) 0=j+1
  ·rw[ab a,ab a]
  ·rw[aa a,aa a]
   exact(mR h j (up.getD (j+1) 0) (by omega) (by omega)).1
theorem sS  (a:up.getD i 0=i):cY up i=i:=by
 unfold cY
 cases i with
 | zero=>rfl
 | succ j=>unfold mU;rw[ab a]
theorem Hv (h:IB up) (a:i<up.length):cY up (cY up i)=cY up i:=sS (wV h a)
theorem vY {a:Nat}(c:a<up.length):(up.set a b).getD i 0=if i=a then b else up.getD i 0:=by
 rw[aL,aL,List.getElem?_set]
 by_cases h:a=i
 ·subst h;simp[c]
 ·rw[aa h,aa (fun e=>h e.symm)]
theorem IS (h:IB up){a:Nat}(l:a<up.length)(g:b<up.length)(m:up.getD a 0=a)(n:up.getD b 0=b)(o:a≤b) :
  IB (up.set b a)∧∀i,i<up.length→cY (up.set b a) i=if cY up i=b then a else cY up i:=by
 have j:IB (up.set b a):=fun i d=>by
  rw[vY g]
  rw[bT] at d
  split
  ·omega
  ·exact h i d
 refine⟨j,fun i=>?_⟩
 induction i using Nat.strongRecOn with
 | ind i ih=>
  intro d
  have f:i<(up.set b a).length:=by rw[bT];exact d
  by_cases e:up.getD i 0=i
  ·rw[sS e]
   by_cases c:i=b
   ·subst c
    rw[ab rfl,lB j f,vY g,ab rfl]
    split
    ·omega
    ·rename_i hne
     rw[ih a (by omega) l,sS m]
     split<;>omega
   ·rw[aa c]
    refine sS ?_
    rw[vY g,aa c];exact e
  ·have k:up.getD i 0<i:=Nat.lt_of_le_of_ne (h i d) e
   have c:i≠b:=by rintro rfl;exact e n
   rw[lB j f,vY g,aa c,aa e,ih _ k (by omega),lB h d,aa e]
structure zb (E:List mJ) (up:List Nat):Prop where
 low:IB up
 MI:∀e∈E,e.1<up.length∧e.2<up.length
 iff:∀x y,x<up.length→y<up.length→(cY up x=cY up y↔kL E x y)
theorem kL.lt{E:List mJ}{n:Nat}(a:∀e∈E,e.1<n∧e.2<n) (h:kL E x y)(b:x<n):y<n:=by
 induction h with
 | here=>exact b
 | down _ e _=>exact(a _ e).2
 | up _ e _=>exact(a _ e).1
theorem zb.least{E:List mJ} (h:zb E up) (a:x<up.length):ym E x (cY up x):=by
 have c:cY up x<up.length:=iZ (lS h.low a) a
 refine⟨(h.iff x _ a c).1 (Hv h.low a).symm,fun y hy=>?_⟩
 have b:=hy.lt h.MI a
 rw[(h.iff x y a b).2 hy]
 exact lS h.low b
theorem zb.new{E:List mJ} (h:zb E up):zb E (up++[up.length]):=by
 have d:∀i,i<up.length→(up++[up.length]).getD i 0=up.getD i 0:=fun i f=>by
  rw[aL,aL,bG f]
 have b:(up++[up.length]).getD up.length 0=up.length:=by simp[aL]
 have l:IB (up++[up.length]):=fun i f=>by
  rw[af,bE] at f
  rcases dm i up.length with hlt|hge
  ·rw[d i hlt];exact h.low i hlt
  ·obtain rfl:i=up.length:=by omega
   rw[b];exact aq _
 have a:∀i,i<up.length→cY (up++[up.length]) i=cY up i:=by
  intro i
  induction i using Nat.strongRecOn with
  | ind i ih=>
   intro f
   have k:i<(up++[up.length]).length:=by rw[af];omega
   rw[lB l k,lB h.low f,d i f]
   by_cases g:up.getD i 0=i
   ·rw[ab g,ab g]
   ·rw[aa g,aa g]
    have:=h.low i f
    exact ih _ (by omega) (by omega)
 have j:cY (up++[up.length]) up.length=up.length:=sS b
 refine⟨l,fun e g=>by have:=h.MI e g;rw[af];omega,fun x y hx hy=>?_⟩
 rw[af,bE] at hx hy
 rcases dm x up.length with hxl|hxl
 ·rcases dm y up.length with hyl|hyl
  ·rw[a x hxl,a y hyl];exact h.iff x y hxl hyl
  ·obtain rfl:y=up.length:=by omega
   rw[a x hxl,j]
   constructor
   ·intro e;have:=lS h.low hxl;omega
   ·intro c;have:=c.lt h.MI hxl;omega
 ·obtain rfl:x=up.length:=by omega
  rcases dm y up.length with hyl|hyl
  ·rw[a y hyl,j]
   constructor
   ·intro e;have:=lS h.low hyl;omega
   ·intro c;have:=c.symm.lt h.MI hyl;omega
  ·obtain rfl:y=up.length:=by omega
   exact⟨fun _=>.here,fun _=>rfl⟩
theorem kL.one{E:List mJ}{e:mJ} (h:kL (E++[e]) x y):kL E x y∨(kL E x e.1∧kL E e.2 y)∨(kL E x e.2∧kL E e.1 y):=by
 induction h with
 | here=>exact .inl .here
 | down _ a ih=>
  rcases az.1 a with a|a
  ·rcases ih with h1|⟨h1,h2⟩|⟨h1,h2⟩
   ·exact .inl (h1.down a)
   ·exact .inr (.inl ⟨h1,h2.down a⟩)
   ·exact .inr (.inr ⟨h1,h2.down a⟩)
  ·have a:=aC.1 a
   subst a
   rcases ih with h1|⟨h1,h2⟩|⟨h1,h2⟩
   ·exact .inr (.inl ⟨h1,.here⟩)
   ·exact .inr (.inl ⟨h1,.here⟩)
   ·exact .inl h1
 | up _ a ih=>
  rcases az.1 a with a|a
  ·rcases ih with h1|⟨h1,h2⟩|⟨h1,h2⟩
   ·exact .inl (h1.up a)
   ·exact .inr (.inl ⟨h1,h2.up a⟩)
   ·exact .inr (.inr ⟨h1,h2.up a⟩)
  ·have a:=aC.1 a
   subst a
   rcases ih with h1|⟨h1,h2⟩|⟨h1,h2⟩
   ·exact .inr (.inr ⟨h1,.here⟩)
   ·exact .inl h1
   ·exact .inr (.inr ⟨h1,.here⟩)
theorem zb.VM{E:List mJ} (h:zb E up){e:mJ}(o:e.1<up.length)(p:e.2<up.length):zb (E++[e]) (Bc up e):=by
 have u:=lS h.low o
 have v:=lS h.low p
 have s:=wV h.low o
 have t:=wV h.low p
 have r:max (cY up e.1) (cY up e.2)<up.length:=by omega
 have key:=IS h.low (a:=min (cY up e.1) (cY up e.2)) (b:=max (cY up e.1) (cY up e.2)) (by omega) r
  (by
   rcases Nat.le_total (cY up e.1) (cY up e.2) with hl|hl
   ·rw[gH hl];exact s
   ·rw[Nat.min_eq_right hl];exact t)
  (by
   rcases Nat.le_total (cY up e.1) (cY up e.2) with hl|hl
   ·rw[Nat.max_eq_right hl];exact t
   ·rw[Nat.max_eq_left hl];exact s) (by omega)
 have g:∀{x y},kL E x y→kL (E++[e]) x y:=fun h=>h.more fun _ hm=>cE _ hm
 refine⟨key.1,fun d hd=>?_,fun x y hx hy=>?_⟩
 ·unfold Bc
  rw[bT]
  rcases az.1 hd with hd|hd
  ·exact h.MI d hd
  ·obtain rfl:=aC.1 hd
   exact⟨o,p⟩
 ·unfold Bc at hx hy
  rw[bT] at hx hy
  have c1:∀z,z<up.length→(cY up z=cY up e.1↔kL E z e.1):=fun z hz=>h.iff z e.1 hz o
  have q:∀z,z<up.length→(cY up z=cY up e.2↔kL E z e.2):=fun z hz=>h.iff z e.2 hz p
  have l:∀z,z<up.length→cY (Bc up e) z=if cY up z=cY up e.1∨cY up z=cY up e.2 then min (cY up e.1) (cY up e.2) else cY up z:=fun z hz=>by
   show cY (up.set _ _) z=_
   rw[key.2 z hz]
   rcases Nat.le_total (cY up e.1) (cY up e.2) with hl|hl
   ·rw[Nat.max_eq_right hl,gH hl]
    by_cases j:cY up z=cY up e.2
    ·rw[ab j,ab (.inr j)]
    ·rw[aa j]
     by_cases n:cY up z=cY up e.1
     ·rw[ab (.inl n)];exact n
     ·rw[aa (fun hc=>hc.elim n j)]
   ·rw[Nat.max_eq_left hl,Nat.min_eq_right hl]
    by_cases j:cY up z=cY up e.1
    ·rw[ab j,ab (.inl j)]
    ·rw[aa j]
     by_cases n:cY up z=cY up e.2
     ·rw[ab (.inr n)];exact n
     ·rw[aa (fun hc=>hc.elim j n)]
  rw[l x hx,l y hy]
  have m:min (cY up e.1) (cY up e.2)=cY up e.1∨min (cY up e.1) (cY up e.2)=cY up e.2:=by omega
  have i:∀z,(cY up z=cY up e.1∨cY up z=cY up e.2)→z<up.length→kL (E++[e]) z e.1:=fun z hz hl=>by
   rcases hz with hz|hz
   ·exact g ((c1 z hl).1 hz)
   ·exact(g ((q z hl).1 hz)).up (by simp)
  by_cases c:cY up x=cY up e.1∨cY up x=cY up e.2
  ·by_cases f:cY up y=cY up e.1∨cY up y=cY up e.2
   ·rw[ab c,ab f]
    exact⟨fun _=>(i x c hx).trans (i y f hy).symm,fun _=>rfl⟩
   ·rw[ab c,aa f]
    refine⟨fun hc=>?_,fun hc=>?_⟩
    ·exfalso
     rcases m with hm|hm
     ·exact f (.inl (hc.symm.trans hm))
     ·exact f (.inr (hc.symm.trans hm))
    ·exfalso
     rcases hc.one with k|⟨_,k⟩|⟨_,k⟩
     ·have:=(h.iff x y hx hy).2 k
      rcases c with c|c
      ·exact f (.inl (this.symm.trans c))
      ·exact f (.inr (this.symm.trans c))
     ·exact f (.inr ((q y hy).2 k.symm))
     ·exact f (.inl ((c1 y hy).2 k.symm))
  ·by_cases f:cY up y=cY up e.1∨cY up y=cY up e.2
   ·rw[aa c,ab f]
    refine⟨fun hc=>?_,fun hc=>?_⟩
    ·exfalso
     rcases m with hm|hm
     ·exact c (.inl (hc.trans hm))
     ·exact c (.inr (hc.trans hm))
    ·exfalso
     rcases hc.one with k|⟨k,_⟩|⟨k,_⟩
     ·have:=(h.iff x y hx hy).2 k
      rcases f with f|f
      ·exact c (.inl (this.trans f))
      ·exact c (.inr (this.trans f))
     ·exact c (.inl ((c1 x hx).2 k))
     ·exact c (.inr ((q x hx).2 k))
   ·rw[aa c,aa f]
    refine⟨fun hc=>g ((h.iff x y hx hy).1 hc),fun hc=>?_⟩
    rcases hc.one with k|⟨k,_⟩|⟨k,_⟩
    ·exact(h.iff x y hx hy).2 k
    ·exact absurd (.inl ((c1 x hx).2 k)) c
    ·exact absurd (.inr ((q x hx).2 k)) c
end Go.Proofs.YtpgmcijdcnnjpaaGreatDoor
