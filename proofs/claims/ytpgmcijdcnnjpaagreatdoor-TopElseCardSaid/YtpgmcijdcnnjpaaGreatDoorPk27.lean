/- Lemmas for it. -/
import Derived.Test.YtpgmcijdcnnjpaaGreatDoorPk26
set_option linter.all false
set_option maxRecDepth 100000
set_option maxHeartbeats 2000000
namespace Go.Proofs.YtpgmcijdcnnjpaaGreatDoor
open Go Go.RowKit
variable {w w0:World} {b g j n:Nat} {x:Ch} {v:Value} {d:Dk} {rows:List Ch} {A:Option Addr} {r r0:jZ} {e:Ending}
abbrev o6:TypeId:=151
theorem Qg(n:Nat)(w:World):Calls Tryz.prog 162 #[.int .i64 n] w fun e w'=>e=.returned (S (dU n))∧bf w w':=by
 go_enter Tryz.func162,Tryz.ntmps162
 refine cS ?_
 go_ret
 exact⟨rfl,(al.refl _ _).alloc _⟩
theorem CH(a:Nat)(b:a<18446744073709551616):(BitVec.ofInt 64 (a:Int)).toNat=a:=by
 rw[BitVec.ofInt_natCast,BitVec.toNat_ofNat];exact kp (by omega)
theorem uL(a b:Nat)(c:a<9223372036854775808)(d:b<9223372036854775808):bits .or .i64 (a:Int) (b:Int)=((a ||| b:Nat):Int):=by
 have e:a ||| b<2 ^ 63:=Nat.or_lt_two_pow (by omega) (by omega)
 show IntKind.i64.wrap ((BitVec.ofInt 64 (a:Int) ||| BitVec.ofInt 64 (b:Int)).toNat:Int)=_
 rw[BitVec.toNat_or,CH a (by omega),CH b (by omega),IntKind.wrap_i64]
 omega
theorem Iq(k a b:Nat)(h:a<2 ^ k):a ||| (b*2 ^ k)=a+b*2 ^ k:=by
 rw[Nat.or_comm,←Nat.shiftLeft_eq,←Nat.shiftLeft_add_eq_or_of_lt h,fL]
def ob(s:aK)(i:Nat):Nat:=(s.getD i 0).toNat+(s.getD (i+1) 0).toNat*256+(s.getD (i+2) 0).toNat*65536+(s.getD (i+3) 0).toNat*16777216
theorem wP(s:aK)(i:Nat):ob s i<4294967296:=by
 have a:=(s.getD i 0).toNat_lt
 have b:=(s.getD (i+1) 0).toNat_lt
 have c:=(s.getD (i+2) 0).toNat_lt
 have d:=(s.getD (i+3) 0).toNat_lt
 unfold ob
 omega
theorem Qs(a b c d:UInt8):bits .or .i64 (bits .or .i64 (bits .or .i64 (wrap64 (a.toNat:Int)) (wrap64 (wrap64 (b.toNat:Int)*256))) (wrap64 (wrap64 (c.toNat:Int)*65536))) (wrap64 (wrap64 (d.toNat:Int)*16777216))=((a.toNat+b.toNat*256+c.toNat*65536+d.toNat*16777216:Nat):Int):=by
 have f:=a.toNat_lt;have g:=b.toNat_lt;have h:=c.toNat_lt;have i:=d.toNat_lt
 have e:∀n:Nat,n<4294967296→wrap64 (n:Int)=(n:Int):=fun n hn=>by unfold wrap64;omega
 rw[e _ (by omega),e _ (by omega),e _ (by omega),e _ (by omega)]
 rw[show(b.toNat:Int)*256=((b.toNat*256:Nat):Int) by omega,show(c.toNat:Int)*65536=((c.toNat*65536:Nat):Int) by omega,show(d.toNat:Int)*16777216=((d.toNat*16777216:Nat):Int) by omega]
 rw[e _ (by omega),e _ (by omega),e _ (by omega)]
 rw[uL _ _ (by omega) (by omega),Iq 8 a.toNat b.toNat (by omega),show(2 ^ 8:Nat)=256 from rfl]
 rw[uL _ _ (by omega) (by omega),Iq 16 _ c.toNat (by omega),show(2 ^ 16:Nat)=65536 from rfl]
 rw[uL _ _ (by omega) (by omega),Iq 24 _ d.toNat (by omega)]
theorem OV(s:aK)(f:s.length=4)(w:World):Calls Tryz.prog 133 #[S s] w fun e w'=>e=.returned (.int .i64 (ob s 0:Nat))∧bf w w':=by
 match s,f with
 | [a,b,c,d],_=>
  go_enter Tryz.func133,Tryz.ntmps133
  go_upto_region 1 with fail
  (refine aV [] 100 (Cl (w) (No)) (by kernel_rfl) (by kernel_rfl) (Cl.eU (X.here w No)) ?_;refine bK ?_)
  all_goals (refine ar ?_)
  refine cS ?_
  go_ret
  exact⟨by rw[Qs];rfl,(al.refl No w).drew⟩
structure V7 where
 bU:Nat
 side:Nat
 size:Nat
 first:Nat
abbrev V7.cells(h:V7):Array Value:=#[.int .i64 (h.bU:Nat),.int .i64 (h.side:Nat),.int .i64 (h.size:Nat),.int .i64 (h.first:Nat)]
abbrev VO(h:V7):Value:=.agg h.cells
def pM(h:V7):aK:=72::(dU h.bU++(dU h.side++(dU h.size++dU h.first)))
theorem tL(h:V7):(pM h).length=17:=by simp[pM,jd]
def pE(s:aK):V7:=if s.getD 0 0≠72∨1<ob s 5∨7140<ob s 9∨ob s 13<1 then ⟨0,0,0,0⟩ else ⟨ob s 1,ob s 5,ob s 9,ob s 13⟩
theorem qF  {x y z:Value}(h:Cs w b o6 #[x,y,z,v]):(loadVar o6 ⟨b,0,none⟩).run Tryz.prog w=.ok (.agg #[x,y,z,v]) w:=by
 have a:=h.cell 0
 have c1:=h.cell 1
 have c:=h.cell 2
 have d:=h.cell 3
 simp only[aB,aQ,aX] at a c1 c d
 go_simp
theorem Ke(h:V7)(w:World):Calls Tryz.prog 109 #[VO h] w fun e w'=>e=.returned (S (pM h))∧bf w w':=by
 have k:=aj (fun n v=>Qg n v)
 have l:Hd (pM h=72::(dU h.bU++(dU h.side++(dU h.size++dU h.first)))):=rfl
 have A:=jd h.bU
 have B:=jd h.side
 have C:=jd h.size
 have D:=jd h.first
 have r:=aj (fun v=>k.ou h.bU v)
 have s:=aj (fun v=>k.ou h.side v)
 have t:=aj (fun v=>k.ou h.size v)
 have y:=aj (fun v=>k.ou h.first v)
 generalize dU h.bU=f0 at l A r
 generalize dU h.side=f1 at l B s
 generalize dU h.size=f2 at l C t
 generalize dU h.first=f3 at l D y
 clear k
 go_enter Tryz.func109,Tryz.ntmps109
 obtain⟨m,g⟩:∃x,x=w.heap.size:=⟨_,rfl⟩
 obtain⟨w0,c⟩:∃v,v=w.alloc (.cells h.cells o6):=⟨_,rfl⟩
 have E:bf w w0:=by rw[c];exact(al.refl No w).alloc _
 have d:Cs w0 m o6 h.cells:=by rw[c,g];exact Cs.new _ _ _
 go_upto_region 1 with fail
 rw[←c,←g]
 clear c g
 have F:∀ξ:X w0 No,ξ.v.cell? ⟨m,0,none⟩=some (.int .i64 (h.bU:Nat)):=Cs.x d id 0
 have G:∀ξ:X w0 No,ξ.v.cell? ⟨m,1,none⟩=some (.int .i64 (h.side:Nat)):=Cs.x d id 1
 have H:∀ξ:X w0 No,ξ.v.cell? ⟨m,2,none⟩=some (.int .i64 (h.size:Nat)):=Cs.x d id 2
 have I:∀ξ:X w0 No,ξ.v.cell? ⟨m,3,none⟩=some (.int .i64 (h.first:Nat)):=Cs.x d id 3
 refine uJ 17 [2,3,6,7,10,11,14,15,16] (Cl w0 No) rfl (by kernel_rfl) (by kernel_rfl) (Cl.eU (X.here w0 No)) ?_
 (refine dF (i:=0) (by kernel_rfl) rfl rfl rfl rfl ?_;intro K hK;go_big_quiet_op;go_big_quiet_on);(refine dF (i:=1) (by kernel_rfl) rfl rfl rfl rfl ?_;intro K hK;go_big_quiet_op;go_big_quiet_on);(refine dF (i:=4) (by kernel_rfl) rfl rfl rfl rfl ?_;intro K hK;go_big_quiet_op;go_big_quiet_on);(refine dF (i:=5) (by kernel_rfl) rfl rfl rfl rfl ?_;intro K hK;go_big_quiet_op;go_big_quiet_on);(refine dF (i:=8) (by kernel_rfl) rfl rfl rfl rfl ?_;intro K hK;go_big_quiet_op;go_big_quiet_on);(refine dF (i:=9) (by kernel_rfl) rfl rfl rfl rfl ?_;intro K hK;go_big_quiet_op;go_big_quiet_on);(refine dF (i:=12) (by kernel_rfl) rfl rfl rfl rfl ?_;intro K hK;go_big_quiet_op;go_big_quiet_on);(refine dF (i:=13) (by kernel_rfl) rfl rfl rfl rfl ?_;intro K hK;go_big_quiet_op;go_big_quiet_on)
 refine xP (fun i=>match i with|3=>[(2,some 5)]|7=>[(3,some 6),(6,some 9)]|11=>[(7,some 10),(10,some 13)]|15=>[(11,some 14),(14,some 17)]|16=>[(15,some 18)]|_=>[])
  [(2,some 5),(3,some 6),(6,some 9),(7,some 10),(10,some 13),(11,some 14),(14,some 17),(15,some 18),(16,some 2)]
  (fun j v u=>match j with
   | 2=>v=S f0
   | 3=>v=S (72::f0)
   | 6=>v=S f1
   | 7=>v=S (72::(f0++f1))
   | 10=>v=S f2
   | 11=>v=S (72::(f0++(f1++f2)))
   | 14=>v=S f3
   | _=>v=S (72::(f0++(f1++(f2++f3))))) bf
  (by kernel_rfl) rfl (by kernel_rfl) (Cl.eU (X.here w0 No)) (fun u z ⟨ξ,e⟩ b=>⟨ξ.on (v:=z) (by rw[←e];exact b),rfl⟩) ?_ ?_ ?_
 ·simp only[sZ]
  refine⟨?_,?_,?_,?_,?_,?_,?_,?_,?_,trivial⟩
  all_goals
   intro v u z b h
   exact h
 ·simp only[qT]
  refine⟨?_,?_,?_,?_,?_,?_,?_,?_,?_,trivial⟩
  ·intro a u _ _
   (show cT _ _ _ _ _;refine eR ?_;intro K hK;simp only[eH,Act.put,ax,aR,aS])
   go_simp
   refine(r.ou u).mono ?_
   rintro e p ⟨rfl,b⟩
   exact⟨_,rfl,hK _ _ ⟨b,rfl⟩⟩
  ·rintro a u _ ⟨f,_⟩
   (show cT _ _ _ _ _;refine eR ?_;intro K hK;simp only[eH,Act.put,ax,aR,aS])
   rw[f]
   go_simp
   exact hK _ _ ⟨al.refl _ _,rfl⟩
  ·intro a u _ _
   (show cT _ _ _ _ _;refine eR ?_;intro K hK;simp only[eH,Act.put,ax,aR,aS])
   go_simp
   refine(s.ou u).mono ?_
   rintro e p ⟨rfl,b⟩
   exact⟨_,rfl,hK _ _ ⟨b,rfl⟩⟩
  ·rintro a u _ ⟨f,o,_⟩
   (show cT _ _ _ _ _;refine eR ?_;intro K hK;simp only[eH,Act.put,ax,aR,aS])
   rw[f,o]
   go_simp
   exact hK _ _ ⟨al.refl _ _,rfl⟩
  ·intro a u _ _
   (show cT _ _ _ _ _;refine eR ?_;intro K hK;simp only[eH,Act.put,ax,aR,aS])
   go_simp
   refine(t.ou u).mono ?_
   rintro e p ⟨rfl,b⟩
   exact⟨_,rfl,hK _ _ ⟨b,rfl⟩⟩
  ·rintro a u _ ⟨f,o,_⟩
   (show cT _ _ _ _ _;refine eR ?_;intro K hK;simp only[eH,Act.put,ax,aR,aS])
   rw[f,o]
   go_simp
   exact hK _ _ ⟨al.refl _ _,by simp⟩
  ·intro a u _ _
   (show cT _ _ _ _ _;refine eR ?_;intro K hK;simp only[eH,Act.put,ax,aR,aS])
   go_simp
   refine(y.ou u).mono ?_
   rintro e p ⟨rfl,b⟩
   exact⟨_,rfl,hK _ _ ⟨b,rfl⟩⟩
  ·rintro a u _ ⟨f,o,_⟩
   (show cT _ _ _ _ _;refine eR ?_;intro K hK;simp only[eH,Act.put,ax,aR,aS])
   rw[f,o]
   go_simp
   exact hK _ _ ⟨al.refl _ _,by simp⟩
  ·rintro a u _ ⟨f,_⟩
   (show cT _ _ _ _ _;refine eR ?_;intro K hK;simp only[eH,Act.put,ax,aR,aS])
   rw[f]
   go_simp
   exact hK _ _ ⟨al.refl _ _,rfl⟩
 ·rintro a u ⟨ξ,rfl⟩ hd
  simp only[pw] at hd
  obtain⟨-,-,-,-,-,-,-,-,q,-⟩:=hd
  simp only[eH,Act.put,ax,aR,aS,q]
  go_wp2_with fail
  go_ret
  exact⟨by rw[l.ou];rfl,E.ae ξ.h⟩
@[go_sem] theorem Sy (a b c d:Int) (w:World):(Instr.build o6 #[(0,.int .i64 a),(1,.int .i64 b),(2,.int .i64 c),(3,.int .i64 d)]).run Tryz.prog w=.ok (.agg #[.int .i64 a,.int .i64 b,.int .i64 c,.int .i64 d]) w:=run_build w o6 _ _ (by kernel_rfl)
def hdK(h:V7):Nat→Option Value
 | 2=>some (.int .i64 (h.bU:Nat))
 | 5=>some (.int .i64 (h.side:Nat))
 | 8=>some (.int .i64 (h.size:Nat))
 | 11=>some (.int .i64 (h.first:Nat))
 | 12=>some (VO h)
 | _=>none
def Vy(w1:World)(h:V7)(done:List Nat)(vals:Nat→Value)(u:World):Prop:=
 (∀i∈done,∀x,hdK h i=some x→vals i=x)∧(13∈done→∃g,vals 13=pt g∧w1.heap.size≤g∧(14∈done→Cs u g o6 h.cells)∧(14∉done→Cs u g o6 #[.int .i64 0,.int .i64 0,.int .i64 0,.int .i64 0]))∧(14∈done→13∈done)
theorem Vy.step{l:World}{h:V7}{a:List Nat}{b:Nat→Value}{u m:World}{i:Nat} (f:Vy l h a b u)(n:bf u m)(c:i≠13)(d:i≠14)(o:∀x,hdK h i=some x→v=x):Vy l h (a++[i]) (fun j=>if j=i then v else b j) m:=by
 refine⟨fun j hm x hk=>?_,fun hm=>?_,fun hm=>?_⟩
 ·by_cases e:j=i
  ·subst e;dsimp only;rw[ab rfl];exact o x hk
  ·dsimp only;rw[aa e]
   rcases az.1 hm with hm|hm
   ·exact f.1 j hm x hk
   ·exact absurd (aC.1 hm) e
 ·have k:13∈a:=by
   rcases az.1 hm with hm|hm
   ·exact hm
   ·exact absurd (aC.1 hm).symm c
  obtain⟨g,e,p,q,r⟩:=f.2.1 k
  refine⟨g,by dsimp only;rw[aa fun h=>c h.symm];exact e,p,fun hm=>?_,fun hm=>?_⟩
  ·rcases az.1 hm with hm|hm
   ·exact(q hm).aP n id
   ·exact absurd (aC.1 hm).symm d
  ·exact(r fun h=>hm (az.2 (.inl h))).aP n id
 ·rcases az.1 hm with hm|hm
  ·exact az.2 (.inl (f.2.2 hm))
  ·exact absurd (aC.1 hm).symm d
theorem po  {a b c d:Value}(h:Cs w g o6 #[a,b,c,d])(x y z v:Value):Cs ((((w.setCell ⟨g,0,none⟩ x).setCell ⟨g,1,none⟩ y).setCell ⟨g,2,none⟩ z).setCell ⟨g,3,none⟩ v) g o6 #[x,y,z,v]:=by
 have:=(((h.cM 0 x).cM 1 y).cM 2 z).cM 3 v
 simpa only [ax,aR,aS] using this
theorem o7  (h:bf w0 w)(a:w0.heap.size≤g)(x y z v:Value):bf w0 ((((w.setCell ⟨g,0,none⟩ x).setCell ⟨g,1,none⟩ y).setCell ⟨g,2,none⟩ z).setCell ⟨g,3,none⟩ v):=
 (((h.setCell (p:=⟨g,0,none⟩) (.inl a) x).setCell (p:=⟨g,1,none⟩) (.inl a) y).setCell (p:=⟨g,2,none⟩) (.inl a) z).setCell (p:=⟨g,3,none⟩) (.inl a) v
theorem Nt(s:aK)(hs:s.length=340)(w:World):Calls Tryz.prog 84 #[S s] w fun e w'=>e=.returned (VO (pE s))∧bf w w':=by
 have A:∀i,i+4≤340→Hd (∀v,Calls Tryz.prog 133 #[S ((s.take (i+4)).drop i)] v fun e w'=>e=.returned (.int .i64 (ob s i:Nat))∧bf v w'):=fun i hi v=>by
  have h:=OV ((s.take (i+4)).drop i) (by simp;omega) v
  have e:ob ((s.take (i+4)).drop i) 0=ob s i:=by
   unfold ob
   simp[aL,List.getElem?_take]
  rw[e] at h
  exact h
 have G:=A 1 (by omega)
 have M:=A 5 (by omega)
 have N:=A 9 (by omega)
 have O:=A 13 (by omega)
 simp only[Nat.reduceAdd] at G M N O
 rw[List.drop_one] at G
 have k:Hd (pE s=if s.getD 0 0≠72∨1<ob s 5∨7140<ob s 9∨ob s 13<1 then ⟨0,0,0,0⟩ else ⟨ob s 1,ob s 5,ob s 9,ob s 13⟩):=rfl
 have b0:=wP s 1
 have b1:=wP s 5
 have b2:=wP s 9
 have b3:=wP s 13
 clear A
 obtain⟨h,r⟩:∃h:V7,h=⟨ob s 1,ob s 5,ob s 9,ob s 13⟩:=⟨_,rfl⟩
 go_enter Tryz.func84,Tryz.ntmps84
 obtain⟨y,t⟩:∃x,x=w.heap.size:=⟨_,rfl⟩
 obtain⟨w0,o⟩:∃v,v=w.alloc (.cells #[.int .i64 0,.int .i64 0,.int .i64 0,.int .i64 0] o6):=⟨_,rfl⟩
 have Y:bf w w0:=by rw[o];exact(al.refl No w).alloc _
 have H:Cs w0 y o6 #[.int .i64 0,.int .i64 0,.int .i64 0,.int .i64 0]:=by rw[o,t];exact Cs.new _ _ _
 go_upto_region 1 with fail
 rw[←o,←t]
 have l:w.heap.size≤y:=by omega
 clear o t
 have l5:¬s.length<5:=by omega
 go_cut [3] from 4 to 17 (fun v u=>∃g,v=pt g∧Cs u g o6 h.cells∧bf w0 u)
 case first=>
  refine uJ 15 [2,5,8,11,12,13,14] (Cl w0 No) rfl (by kernel_rfl) (by kernel_rfl) (Cl.eU (X.here w0 No)) ?_
  (refine dF (i:=0) (by kernel_rfl) rfl rfl rfl rfl ?_;intro K hK;go_big_quiet_op;go_big_quiet_on);(refine dF (i:=1) (by kernel_rfl) rfl rfl rfl rfl ?_;intro K hK;go_big_quiet_op;go_big_quiet_on);(refine dF (i:=3) (by kernel_rfl) rfl rfl rfl rfl ?_;intro K hK;go_big_quiet_op;go_big_quiet_on);(refine dF (i:=4) (by kernel_rfl) rfl rfl rfl rfl ?_;intro K hK;go_big_quiet_op;go_big_quiet_on);(refine dF (i:=6) (by kernel_rfl) rfl rfl rfl rfl ?_;intro K hK;go_big_quiet_op;go_big_quiet_on);(refine dF (i:=7) (by kernel_rfl) rfl rfl rfl rfl ?_;intro K hK;go_big_quiet_op;go_big_quiet_on);(refine dF (i:=9) (by kernel_rfl) rfl rfl rfl rfl ?_;intro K hK;go_big_quiet_op;go_big_quiet_on);(refine dF (i:=10) (by kernel_rfl) rfl rfl rfl rfl ?_;intro K hK;go_big_quiet_op;go_big_quiet_on)
  refine Dn (fun i=>match i with|12=>[(2,some 6),(5,some 9),(8,some 12),(11,some 15)]|14=>[(13,some 3),(12,some 16)]|_=>[])
   [(2,some 6),(5,some 9),(8,some 12),(11,some 15),(12,some 16),(13,some 3),(14,none)] (Vy w0 h)
   (by kernel_rfl) rfl (by kernel_rfl) (Cl.eU (X.here w0 No)) (fun a=>⟨fun i hi=>(by cases hi),fun hi=>(by cases hi),fun hi=>(by cases hi)⟩) ?_ ?_
  ·simp only[tu]
   refine⟨?_,?_,?_,?_,?_,?_,?_,trivial⟩
   ·rintro b a u ⟨ξ,rfl⟩ hi _ hj
    (show cT _ _ _ _ _;refine eR ?_;intro K hK;simp only[eH,Act.put,ax,aR,aS])
    go_simp
    refine(G.ou ξ.v).mono ?_
    rintro e I ⟨rfl,d⟩
    exact⟨_,rfl,hK _ _ ⟨Cl.of (ξ.h.ae d),hj.step d (by decide) (by decide) (by rintro x hk;cases hk;rw[r])⟩⟩
   ·rintro b a u ⟨ξ,rfl⟩ hi _ hj
    (show cT _ _ _ _ _;refine eR ?_;intro K hK;simp only[eH,Act.put,ax,aR,aS])
    go_simp
    refine(M.ou ξ.v).mono ?_
    rintro e I ⟨rfl,d⟩
    exact⟨_,rfl,hK _ _ ⟨Cl.of (ξ.h.ae d),hj.step d (by decide) (by decide) (by rintro x hk;cases hk;rw[r])⟩⟩
   ·rintro b a u ⟨ξ,rfl⟩ hi _ hj
    (show cT _ _ _ _ _;refine eR ?_;intro K hK;simp only[eH,Act.put,ax,aR,aS])
    go_simp
    refine(N.ou ξ.v).mono ?_
    rintro e I ⟨rfl,d⟩
    exact⟨_,rfl,hK _ _ ⟨Cl.of (ξ.h.ae d),hj.step d (by decide) (by decide) (by rintro x hk;cases hk;rw[r])⟩⟩
   ·rintro b a u ⟨ξ,rfl⟩ hi _ hj
    (show cT _ _ _ _ _;refine eR ?_;intro K hK;simp only[eH,Act.put,ax,aR,aS])
    go_simp
    refine(O.ou ξ.v).mono ?_
    rintro e I ⟨rfl,d⟩
    exact⟨_,rfl,hK _ _ ⟨Cl.of (ξ.h.ae d),hj.step d (by decide) (by decide) (by rintro x hk;cases hk;rw[r])⟩⟩
   ·rintro b a u ⟨ξ,rfl⟩ hi hd hj
    have Z:=hj.1 2 (hd (2,some 6) (by simp)) _ rfl
    have e5:=hj.1 5 (hd (5,some 9) (by simp)) _ rfl
    have e8:=hj.1 8 (hd (8,some 12) (by simp)) _ rfl
    have J:=hj.1 11 (hd (11,some 15) (by simp)) _ rfl
    (show cT _ _ _ _ _;refine eR ?_;intro K hK;simp only[eH,Act.put,ax,aR,aS])
    rw[Z,e5,e8,J]
    go_simp
    exact hK _ _ ⟨⟨ξ,rfl⟩,hj.step (al.refl _ _) (by decide) (by decide) (by rintro x hk;cases hk;rw[r])⟩
   ·rintro b a u ⟨ξ,rfl⟩ hi hd hj
    have B:=ξ.h.size
    (show cT _ _ _ _ _;refine eR ?_;intro K hK;simp only[eH,Act.put,ax,aR,aS])
    go_simp
    refine hK _ _ ⟨Cl.of (ξ.h.ae ((al.refl _ _).alloc _)),fun j hm x hk=>?_,fun hm=>?_,fun hm=>az.2 (.inr (aC.2 rfl))⟩
    ·by_cases e:j=13
     ·subst e;cases hk
     ·dsimp only
      rw[aa e]
      rcases az.1 hm with hm|hm
      ·exact hj.1 j hm x hk
      ·exact absurd (aC.1 hm) e
    ·refine⟨_,rfl,B,fun h14=>?_,fun _=>Cs.new _ _ _⟩
     exfalso
     rcases az.1 h14 with h|h
     ·exact hi (hj.2.2 h)
     ·cases aC.1 h
   ·rintro b a u ⟨ξ,rfl⟩ hi hd hj
    have B:=ξ.h.size
    have L:=hj.1 12 (hd (12,some 16) (by simp)) _ rfl
    obtain⟨g,f,z,-,k2⟩:=hj.2.1 (hd (13,some 3) (by simp))
    have c:=k2 hi
    have P:=c.cell 0
    have f0:=c.frozen 0
    have f1:=c.frozen 1
    have f2:=c.frozen 2
    have f3:=c.frozen 3
    have c1:=c.cell 1
    have Q:=c.cell 2
    have R:=c.cell 3
    simp only[aB,aQ,aX] at P c1 Q R
    (show cT _ _ _ _ _;refine eR ?_;intro K hK;simp only[eH,Act.put,ax,aR,aS])
    rw[L,f]
    go_simp
    have C:=(((c.cM 0 (.int .i64 (ob s 1:Nat))).cM 1 (.int .i64 (ob s 5:Nat))).cM 2 (.int .i64 (ob s 9:Nat))).cM 3 (.int .i64 (ob s 13:Nat))
    simp only[ax,aR,aS] at C
    refine hK _ _ ⟨Cl.of ((((ξ.h.setCell (p:=⟨g,0,none⟩) (.inl z) _).setCell (p:=⟨g,1,none⟩) (.inl z) _).setCell (p:=⟨g,2,none⟩) (.inl z) _).setCell (p:=⟨g,3,none⟩) (.inl z) _),fun j hm x hk=>?_,fun hm=>?_,fun hm=>az.2 (.inl (hd (13,some 3) (by simp)))⟩
    ·by_cases e:j=14
     ·subst e;cases hk
     ·dsimp only
      rw[aa e]
      rcases az.1 hm with hm|hm
      ·exact hj.1 j hm x hk
      ·exact absurd (aC.1 hm) e
    ·exact⟨g,f,z,fun _=>(by rw[r];exact C),fun h=>absurd (az.2 (.inr (aC.2 rfl))) h⟩
  ·rintro b a u ⟨ξ,rfl⟩ hd hj
   have f:=hj.2.1 (hd (13,some 3) (by simp))
   obtain⟨g,f,z,k1,-⟩:=f
   have c:=k1 (hd (14,none) (by simp))
   simp only[eH,Act.put,ax,aR,aS,f]
   go_wp2_with fail
   go_meet
   exact⟨g,rfl,c,ξ.h⟩
 case rest=>
  obtain⟨g,hv,c,d⟩:=hcut
  subst hv
  subst r
  have P:wc.cell? ⟨g,0,none⟩=some (.int .i64 (ob s 1:Nat)):=c.cell 0
  have c1:wc.cell? ⟨g,1,none⟩=some (.int .i64 (ob s 5:Nat)):=c.cell 1
  have Q:wc.cell? ⟨g,2,none⟩=some (.int .i64 (ob s 9:Nat)):=c.cell 2
  have R:wc.cell? ⟨g,3,none⟩=some (.int .i64 (ob s 13:Nat)):=c.cell 3
  have n:=H.aP d id
  have z0:=n.frozen 0
  have z1:=n.frozen 1
  have z2:=n.frozen 2
  have z3:=n.frozen 3
  have y0:wc.cell? ⟨y,0,none⟩=some (.int .i64 0):=n.cell 0
  have y1:wc.cell? ⟨y,1,none⟩=some (.int .i64 0):=n.cell 1
  have y2:wc.cell? ⟨y,2,none⟩=some (.int .i64 0):=n.cell 2
  have y3:wc.cell? ⟨y,3,none⟩=some (.int .i64 0):=n.cell 3
  have D:0<s.length:=by omega
  have e0:s.getD 0 0=s[0]:=by rw[aL,aF D];rfl
  rw[e0] at k
  have E:=Y.ae d
  have m:=aj n
  clear c n
  go_upto_region 2 with fail
  by_cases F:s[0]=72
  ·have T:((s[0].toNat:Int)==72)=true:=by rw[F];rfl
   by_cases U:1<ob s 5
   ·have q1:decide ((1:Int)<(ob s 5:Nat))=true:=aM (by omega)
    have q:=aj (k.ou.trans (ab (.inr (.inl U))))
    clear k
    refine cS ?_
    refine jN rfl rfl rfl (qF (po m.ou _ _ _ _)) ?_
    exact⟨by rw[q.ou]<;>rfl,o7 E l _ _ _ _⟩
   ·have q1:decide ((1:Int)<(ob s 5:Nat))=false:=aG (by omega)
    by_cases V:7140<ob s 9
    ·have q2:decide ((7140:Int)<(ob s 9:Nat))=true:=aM (by omega)
     have q:=aj (k.ou.trans (ab (.inr (.inr (.inl V)))))
     clear k
     refine cS ?_
     refine jN rfl rfl rfl (qF (po m.ou _ _ _ _)) ?_
     exact⟨by rw[q.ou]<;>rfl,o7 E l _ _ _ _⟩
    ·have q2:decide ((7140:Int)<(ob s 9:Nat))=false:=aG (by omega)
     by_cases W:ob s 13<1
     ·have q3:decide ((ob s 13:Nat)<(1:Int))=true:=aM (by omega)
      have q:=aj (k.ou.trans (ab (.inr (.inr (.inr W)))))
      clear k
      refine cS ?_
      refine jN rfl rfl rfl (qF (po m.ou _ _ _ _)) ?_
      exact⟨by rw[q.ou]<;>rfl,o7 E l _ _ _ _⟩
     ·have q3:decide ((ob s 13:Nat)<(1:Int))=false:=aG (by omega)
      have q:=aj (k.ou.trans (aa (by rintro(h|h|h|h);exact h F;exact U h;exact V h;exact W h)))
      clear k
      refine cS ?_
      refine jN rfl rfl rfl (qF (po m.ou _ _ _ _)) ?_
      exact⟨by rw[q.ou]<;>rfl,o7 E l _ _ _ _⟩
  ·have T:((s[0].toNat:Int)==72)=false:=by rw[show(72:Int)=((72:UInt8).toNat:Int) from rfl,BH];exact aG F
   have ac:((s[0].toNat:Int)!=72)=true:=by rw[bne,T];rfl
   have q:=aj (k.ou.trans (ab (.inl F)))
   clear k
   refine cS ?_
   refine jN rfl rfl rfl (qF (po m.ou _ _ _ _)) ?_
   exact⟨by rw[q.ou]<;>rfl,o7 E l _ _ _ _⟩
theorem IsB.ext{B:Nat}{d:List Value}{W e:World}(h:Lib.IsBuilderF oI Ey B b d W)(a:bf W e):Lib.IsBuilderF oI Ey B b d e:=by
 have key:∀p,Lib.BuilderAtF oI Ey B b p d W→Lib.BuilderAtF oI Ey B b p d e:=fun p h=>by
  have f:=h.lt
  obtain⟨i,v,j,c,g⟩:=h
  exact⟨i,v,(a.block b f id).trans j,c.kept (row:=none) ⟨a.os,a.tape,a.output,a.size,fun k hk _=>a.block k hk id⟩ (Classical.em _),g⟩
 exact h.elim (fun h=>.inl (key _ h)) (fun h=>.inr (key _ h))
def Bj(c:Ch):aK:=bt ((c.1.length:Int)%256)::bt ((c.2.1.length:Int)%256)::bt ((c.2.1.length:Int)/256%256)::(c.1++c.2.1)
def eY(rows:List Ch):aK:=rows.flatMap Bj
theorem Gm(c:Ch):(Bj c).length=c.1.length+c.2.1.length+3:=by simp[Bj]
theorem Cg   (h:rows[j]?=some x):eY (rows.take (j+1))=eY (rows.take j)++Bj x:=by
 unfold eY
 rw[aU,h,bF]
 simp
@[go_sem] theorem Vf (a b c:Int) (w:World):(convert 233 9 (.slice (some ⟨w.heap.size,0,none⟩) 3 3)).run Tryz.prog (w.alloc (.cells #[.int .u8 a,.int .u8 b,.int .u8 c] 5))=.ok (S [bt a,bt b,bt c]) (w.alloc (.cells #[.int .u8 a,.int .u8 b,.int .u8 c] 5)):=by
 rw[run_convert_bytes_arg _ 233 5 Tryz.underlying233 Tryz.underlying5 w.heap.size 0 3 3 [a,b,c] rfl (fun i hi=>?_) 9 Tryz.underlying9]
 ·rfl
 ·rw[(Cs.new w 5 #[.int .u8 a,.int .u8 b,.int .u8 c]).cell]
  match i,hi with
  | 0,_=>rfl
  | 1,_=>rfl
  | 2,_=>rfl
theorem QK  {c:Nat} (h:di fA w A n rows)(hn:n≤1000)(Q:∀x∈rows,x.1.length≤1000∧x.2.1.length≤1000) :
  Calls Tryz.prog 163 #[.slice A n c] w fun e w'=>e=.returned (S (eY rows))∧bf w w':=by
 have HS:=aj h
 have R:=aj Q
 have ac:=h.1
 have m:∀j,(eY (rows.take j)).length≤2003*j:=by
  intro j
  induction j with
  | zero=>simp[eY]
  | succ j ih=>
   by_cases E:j<rows.length
   ·have F:rows[j]?=some rows[j]:=aF E
    rw[Cg F,af,Gm]
    have:=R.ou _ (ez E)
    omega
   ·rw[ay (by omega)] at ih ⊢
    omega
 have HL:=aj m
 clear h Q m
 go_enter Tryz.func163,Tryz.ntmps163
 obtain⟨p,g⟩:∃x,x=w.heap.size:=⟨_,rfl⟩
 obtain⟨T,k⟩:∃v,v=w.alloc (.cells #[.pointer none,.slice none 0 0] oI):=⟨_,rfl⟩
 have U:bf w T:=by rw[k];exact(al.refl No w).alloc _
 have B1:Hd (Lib.IsBuilderF oI Ey p p [] T):=by rw[k,g];exact Lib.IsBuilderF.of (Lib.fresh_isBuilder oI Ey w)
 have X1:=aj U
 clear U
 go_upto_region 2 with fail
 rw[←k,←g]
 have D:=aj g
 clear k g
 refine cS ?_
 go_loopw [8] (fun i wr=>∃j:Nat,j≤n∧i=.int .i64 j∧Lib.IsBuilderF oI Ey p p (Lib.byteCells (eY (rows.take j))) wr∧bf w wr) (fun i _=>n-(intOf i).toNat)
 case atStart=>exact⟨0,au _,rfl,B1.ou,X1.ou⟩
 case round=>
  obtain⟨j,E,rfl,u,y⟩:=hrel
  have V:=aj u
  have q:=aj y
  clear u y
  by_cases G:j<n
  ·have H:decide ((j:Int)<(n:Int))=true:=aM (by omega)
   obtain⟨b,o,x,I,z,W,X,Y⟩:=nK HS.ou G
   subst I
   obtain⟨key,a,d⟩:=x
   have F:=R.ou _ (ah z)
   have r0:=W ⟨wr,q.ou⟩
   have r1:=X ⟨wr,q.ou⟩
   have r2:=Y ⟨wr,q.ou⟩
   dsimp only at r0 r1 r2 F
   clear W X Y
   obtain⟨B,r⟩:∃x,x=wr.heap.size:=⟨_,rfl⟩
   obtain⟨s,l⟩:∃v,v=wr.alloc (.cells #[S key,S a,.bool d] 107):=⟨_,rfl⟩
   have x2:bf wr s:=by rw[l];exact(al.refl No wr).alloc _
   have f:Cs s B 107 #[S key,S a,.bool d]:=by rw[l,r];exact Cs.new _ _ _
   have s0:s.cell? ⟨B,0,none⟩=some (S key):=f.cell 0
   have s1:s.cell? ⟨B,1,none⟩=some (S a):=f.cell 1
   go_upto_region 5 with fail
   rw[←l,←r]
   clear l r
   have J:∀o,(s.alloc o).cell? ⟨B,0,none⟩=some (S key):=fun o=>(f.alloc o).cell 0
   have K:∀o,(s.alloc o).cell? ⟨B,1,none⟩=some (S a):=fun o=>(f.alloc o).cell 1
   have C:Hd (Bj (key,a,d)=bt ((key.length:Int)%256)::bt ((a.length:Int)%256)::bt ((a.length:Int)/256)::(key++a)):=by
    rw[Hd]
    unfold Bj
    dsimp only
    rw[show((a.length:Int)/256%256)=(a.length:Int)/256 by omega]
   have L:=aj (Cg z)
   go_wp2_with (refine dN ?_)
   obtain⟨Z,t⟩:∃v,v=s.alloc (.cells #[.int .u8 ((key.length:Int)%256),.int .u8 ((a.length:Int)%256),.int .u8 ((a.length:Int)/256)] 5):=⟨_,rfl⟩
   have M:bf wr Z:=by rw[t];exact x2.alloc _
   rw[←t]
   clear t s0 s1 J K f
   refine(r8 p p _ _ Z (IsB.ext V.ou M) ?_ (by have:=q.ou.size;have:=M.size;have:=D.ou;omega)).mono ?_
   ·have:=HL.ou j
    simp[Lib.byteCells,ByteArray.size] at this ⊢
    omega
   rintro e w4 ⟨rfl,N,O⟩
   have X4:Hd (bf w w4):=al.below ((q.ou.ae M).toBelow.trans (by rw[←D.ou];exact O))
   refine cS ?_
   go_roundw
   case rel=>exact⟨j+1,by omega,by go_num,by rw[L.ou,C.ou];unfold Lib.byteCells Lib.strCells at *;rw[cU];exact N,X4.ou⟩
   case measure=>simp[intOf];omega
  ·obtain rfl:j=n:=by omega
   have H:decide ((j:Int)<(j:Int))=false:=aG (by omega)
   have hS:=Tryz.Builder_String_any_k p p (eY (rows.take j)) wr V.ou (by rw[D.ou];exact q.ou.size)
   go_wp2_with (refine dN ?_)
   refine hS.mono ?_
   rintro e w9 ⟨rfl,-,P,-⟩
   refine cS ?_
   go_ret
   rw[ay (by omega)]
   exact⟨rfl,al.below (q.ou.toBelow.trans (by rw[←D.ou];exact P))⟩
structure lJ (rows:List Ch):Prop where
 pj:eQ ck rows
 ok:∀x∈rows,dQ x=0
 here:∀x∈rows,x.2.2=false
theorem Cd(x:Ch)(r:List Ch):eY (x::r)=Bj x++eY r:=rfl
theorem Lb   (h:rows[j]?=some x):eY (rows.drop j)=Bj x++eY (rows.drop (j+1)):=by
 rw[ti h,Cd]
theorem Qo (h:dQ x=0)(r:aK):∃(a b c:UInt8),Bj x++r=a::b::c::(x.1++(x.2.1++r))∧a.toNat=x.1.length∧b.toNat+256*c.toNat=x.2.1.length:=by
 have d:=nG h
 have e:=oV h
 refine⟨bt ((x.1.length:Int)%256),bt ((x.2.1.length:Int)%256),bt ((x.2.1.length:Int)/256%256),by simp only[Bj,dV,aT],?_,?_⟩
 ·rw[show((x.1.length:Int)%256)=((x.1.length%256:Nat):Int) by omega,mC _ (by omega)];omega
 ·rw[show((x.2.1.length:Int)%256)=((x.2.1.length%256:Nat):Int) by omega,show((x.2.1.length:Int)/256%256)=((x.2.1.length/256%256:Nat):Int) by omega,mC _ (by omega),mC _ (by omega)];omega
theorem BI{x:Ch}:∀{L:List Ch},(∀y∈L,ck y<ck x)→jY ck x L=L++[x]
 | [],_=>rfl
 | y::L,h=>by
  have a:Mn (ck x) (ck y)=false:=by
   have:=h y (by simp)
   unfold Mn
   exact aG (by exact Std.not_le.2 this)
  show(if Mn (ck x) (ck y) then _ else y::jY ck x L)=_
  rw[a,aa dI,BI fun z hz=>h z (by simp[hz])]
  try rfl
theorem Is (h:lJ rows)  (a:rows[j]?=some x):dw (rows.take j) [x]=rows.take (j+1):=by
 have b:rows.take (j+1)=rows.take j++[x]:=by rw[aU,a];rfl
 have c:=h.here x (ah a)
 show jq (rows.take j) x=_
 unfold jq
 rw[c,aa dI,b]
 refine BI fun y hy=>?_
 have d:eQ ck (rows.take j++[x]):=by rw[←b];exact h.pj.sublist (List.take_sublist _ _)
 exact(eN.1 d).2.2 y hy x (by simp)
def Vl:Value→Nat
 | .string b=>b.size
 | _=>0
theorem Nr (hm:Ml w) (h:lJ rows)(hn:rows.length≤1000) :
  Calls Tryz.prog 85 #[S (eY rows)] w fun e w'=>∃A c,e=.returned (.tuple #[.slice A rows.length c,.bool true])∧bR fA 107 w w' A c rows:=by
 have Q:=aj h
 have HM:=aj hm
 clear h hm
 go_enter Tryz.func85,Tryz.ntmps85
 go_wp2_with (refine lM ?_ ?_<;>intro hq)
 go_loopw [0,4] (fun t l wr=>∃j:Nat,j≤rows.length∧t=S (eY (rows.drop j))∧∃A c,l=.slice A j c∧bR fA 107 w wr A c (rows.take j)) (fun t _ _=>Vl t)
 case atStart=>exact⟨0,au _,rfl,none,0,rfl,bR.nil _ _ _ _ (al.refl _ _)⟩
 case round=>
  obtain⟨j,hj,rfl,W,c1,rfl,R⟩:=hrel
  have I:=aj R
  clear R
  by_cases Y:j<rows.length
  ·have J:rows[j]?=some rows[j]:=aF Y
   obtain⟨x,Z⟩:∃x,x=rows[j]:=⟨_,rfl⟩
   rw[←Z] at J
   have i:=Q.ou.ok x (ah J)
   have o:=Q.ou.here x (ah J)
   obtain⟨key,f,am⟩:=x
   dsimp only at o
   subst o
   have k1:key.length≤10:=nG i
   have k2:f.length≤300:=oV i
   have HT:=aj (Lb J)
   obtain⟨r,hr⟩:∃r,r=eY (rows.drop (j+1)):=⟨_,rfl⟩
   rw[←hr] at HT
   obtain⟨a,b,c,u,ha,hb⟩:=Qo i r
   have g:=aj (HT.ou.trans u)
   obtain⟨t,U⟩:∃t,t=eY (rows.drop j):=⟨_,rfl⟩
   rw[←U] at g ⊢
   have k:t.length=3+key.length+f.length+r.length:=by rw[g.ou];simp;omega
   have t0:t[0]'(by omega)=a:=by simp[g.ou]
   have t1:t[1]'(by omega)=b:=by simp[g.ou]
   have t2:t[2]'(by omega)=c:=by simp[g.ou]
   have L:(t==([]:aK))=false:=by rw[bl];intro e;rw[e] at k;simp at k;omega
   have M:=aj k
   have N:=aj hr
   dsimp only at ha hb g
   have p0:0<t.length:=by omega
   have p1:1<t.length:=by omega
   have p2:2<t.length:=by omega
   have ua:(t[0].toNat:Int)=(key.length:Int):=by rw[t0];omega
   have ub:(t[1].toNat:Int)+256*(t[2].toNat:Int)=(f.length:Int):=by rw[t1,t2];omega
   have y:decide ((t.length:Int)<3)=false:=aG (by omega)
   have g4:decide ((t.length:Int)<(3:Int)+(t[0].toNat:Int)+(t[1].toNat:Int)+(256:Int)*(t[2].toNat:Int))=false:=aG (by omega)
   have b0:(t[0].toNat:Int)≤255:=by have:=t[0].toNat_lt;omega
   have b1:(t[1].toNat:Int)≤255:=by have:=t[1].toNat_lt;omega
   have b2:(t[2].toNat:Int)≤255:=by have:=t[2].toNat_lt;omega
   have i1:(1:Int)<(t.length:Int):=by omega
   have i2:(2:Int)<(t.length:Int):=by omega
   have UA:=aj ua
   have UB:=aj ub
   clear HT u U hr k t0 t1 t2 ua ub ha hb
   go_upto_region 3 with fail
   (refine aV [] 100 (Cl (wr) (No)) (by kernel_rfl) (by kernel_rfl) (Cl.eU (X.here wr No)) ?_;refine NV ?_)
   all_goals (refine ar ?_)
   obtain⟨V,z⟩:∃v,v=wr.drew:=⟨_,rfl⟩
   have X1:Hd (bf wr V):=by rw[Hd,z];exact(al.refl No wr).drew
   rw[←z]
   clear z
   go_upto_region 6 with fail
   rw[UA.ou]
   (refine aV [] 100 (Cl (V) (No)) (by kernel_rfl) (by kernel_rfl) (Cl.eU (X.here V No)) ?_;refine dH ?_)
   all_goals (refine ar ?_)
   rw[show((3:Int)+(key.length:Int)+(t[1].toNat:Int)+(256:Int)*(t[2].toNat:Int))=(3:Int)+(key.length:Int)+(f.length:Int) by have:=UB.ou;omega]
   obtain⟨G,C⟩:∃v,v=V.drew:=⟨_,rfl⟩
   have X2:Hd (bf wr G):=by rw[Hd,C];exact X1.ou.drew
   rw[←C]
   clear C
   have ao:List.drop 3 (List.take (3+key.length) t)=key:=by rw[g.ou,fL];simp
   have ap:List.drop (3+key.length) (List.take (3+key.length+f.length) t)=f:=by
    rw[g.ou,show 3+key.length+f.length=(key.length+f.length)+3 by omega,show 3+key.length=key.length+3 by omega]
    have e:List.take (key.length+f.length) (key++(f++r))=key++f:=by rw[←aT];exact fJ (by simp)
    simp[e]
   have ac:List.drop (3+key.length+f.length) t=r:=by
    rw[g.ou,show 3+key.length+f.length=(key.length+f.length)+3 by omega];simp
   have av:3+key.length+f.length≤t.length:=by have:=M.ou;omega
   go_upto_region 7 with fail
   refine aV [8,9] 9 (Cl G No) (by kernel_rfl) (by kernel_rfl) (Cl.eU (X.here G No)) ?_
   refine dH ?_
   (refine bQ ?_;intro K hK)
   refine hK _ _ (fun _=>Cl.of ((al.refl No G).drew.alloc _)) ?_
   clear hK K
   refine bj ?_
   (refine bQ ?_;intro K hK)
   refine hK _ _ (fun L=>absurd rfl L) ?_
   clear hK K
   refine bj ?_
   refine ar ?_
   obtain⟨y,D⟩:∃x,x=G.heap.size:=⟨_,rfl⟩
   obtain⟨O,q⟩:∃v,v=(G.alloc (.cells #[S key,S f,.bool false] 107)).drew:=⟨_,rfl⟩
   have p:Hd (Cs O y 107 #[S key,S f,.bool false]):=by rw[q,D];exact Cs.new _ _ _
   have X3:Hd (bf wr O):=by rw[q];exact(X2.ou.alloc _).drew
   rw[←q,←D]
   clear q D
   have d0:O.cell? ⟨y,0,none⟩=some (S key):=p.ou.cell 0
   have d1:O.cell? ⟨y,1,none⟩=some (S f):=p.ou.cell 1
   have d2:O.cell? ⟨y,2,none⟩=some (.bool false):=p.ou.cell 2
   have HK:=aj (qP (key,f,false) (by show key.length≤10000;omega) (by show f.length≤1000000;omega) (HM.ou.ext (I.ou.ext.ae X3.ou)))
   rw[i,cO] at HK
   go_upto_region 8 with fail
   go_wp2_with fail
   refine HK.ou.mono ?_
   rintro e H ⟨rfl,hu⟩
   have X4:Hd (bf wr H):=X3.ou.ae hu
   have E:=aj (p.ou.aP hu id)
   clear hu p X3 X2 X1 HK d0 d1 d2
   have d0:H.cell? ⟨y,0,none⟩=some (S key):=E.ou.cell 0
   have d1:H.cell? ⟨y,1,none⟩=some (S f):=E.ou.cell 1
   have d2:H.cell? ⟨y,2,none⟩=some (.bool false):=E.ou.cell 2
   go_wp2_with fail
   obtain⟨g5,F⟩:∃x,x=H.heap.size:=⟨_,rfl⟩
   obtain⟨v5,s⟩:∃v,v=H.alloc (.cells #[S key,S f,.bool false] 107):=⟨_,rfl⟩
   have ag:Hd (Cs v5 g5 107 #[S key,S f,.bool false]):=by rw[s,F];exact Cs.new _ _ _
   have X5:Hd (bf wr v5):=by rw[s];exact X4.ou.alloc _
   rw[←s,←F]
   clear s F
   have ai:(rows.take j).length=j:=by rw[aH];omega
   have hA:=Da (w:=v5) (A:=W) (B:=some ⟨g5,0,none⟩) (n:=j) (m:=1) (c:=c1) (d:=1) (xs:=rows.take j) (ys:=[(key,f,false)]) (by
    have h:=(I.ou.on X5.ou).row (by decide)
    rw[ai] at h
    exact h) (Vv (T:=fA) (x:=(key,f,false)) ag.ou rfl) (by omega) (by omega) (Q.ou.pj.sublist (List.take_sublist _ _))
   rw[Is Q.ou J] at hA
   refine hA.mono ?_
   rintro e v6 ⟨A6,c6,rfl,P⟩
   have F6:=aj (P.from (I.ou.ext.ae X5.ou))
   have ak:(rows.take (j+1)).length=j+1:=by rw[aH];omega
   rw[ak]
   clear P hA
   go_wp2_with fail
   rw[ac,N.ou]
   go_roundw
   case rel=>exact⟨j+1,by omega,rfl,A6,c6,rfl,F6.ou⟩
   case measure=>have:=M.ou;simp[Vl,ByteArray.size,←N.ou];omega
  ·obtain rfl:j=rows.length:=by omega
   have U:eY (rows.drop rows.length)=[]:=by rw[ju];rfl
   rw[U]
   have R:Hd (bR fA 107 w wr W c1 rows):=by have h:=I.ou;rw[ay (aq _)] at h;exact h
   clear I
   go_wp2_with fail
   go_ret2
   exact⟨W,c1,rfl,R.ou⟩
structure mW (w0 w:World) (r0 r:jZ) (d:Dk):Prop where
 dk:ef w r d
 g:r.g=r0.g
 o:al r0.fp w0 w
 f:∀b,r.fp b→r0.fp b∨w0.heap.size≤b
theorem mW.start   (h:ef w r d):mW w w r r d:=⟨h,rfl,al.refl _ _,fun _ h=>.inl h⟩
theorem mW.ext{w0 w v:World}{a r:jZ}{d:Dk}(h:mW w0 w a r d)(b:bf w v):mW w0 v a r d:=⟨h.dk.ext b,h.g,h.o.ae b,h.f⟩
theorem mW.step{w':World} {c:Dk}  (h:mW w0 w r0 r d)(i:mY w r c v e w'):e=.returned v∧∃a,mW w0 w' r0 a c:=by
 obtain⟨j,a,k,l,m,n⟩:=i
 refine⟨j,a,k,l.trans h.g,h.o.trans m fun b hb hfb=>?_,fun b hb=>?_⟩
 ·rcases h.f b hfb with h2|h2
  ·exact h2
  ·omega
 ·rcases n b hb with h2|h2
  ·exact h.f b h2
  ·exact .inr (aJ h.o.size h2)
theorem mW.res   (h:mW w0 w r0 r d)  (a:e=.returned v):mY w0 r0 d v e w:=⟨a,r,h.dk,h.g,h.o,h.f⟩
abbrev Pq:V7:=⟨1,0,0,1⟩
def xl(N:Nat):Dk:=⟨(List.replicate N (ec [])).set 1 (ec (pM Pq)),(List.replicate N (ec [])).set 1 (ec (pM Pq)),[],-1,false⟩
theorem Fj{α:Type}(x:α)(N p:Nat):(List.replicate N x).set p x=List.replicate N x:=by
 apply iw
 intro i
 by_cases h:p=i
 ·subst h
  by_cases a:p<N
  ·rw[cR (by simpa using a)];simp[a]
  ·simp[a]
 ·rw[df h]
theorem Mg  {N:Nat}(h:ef w r (Dk.fresh N))(h1:50≤N)(h2:N≤120):Calls Tryz.prog 63 #[pt r.g] w (mY w r (xl N) .nilIface):=by
 have U:Hd (∀(v:World) (b:jZ) (d:Dk),mW w v r b d→d.Up→d.wait.length≤1000→∀(p:Nat) (s:aK),p<d.now.length→s.length≤340→Calls Tryz.prog 107 #[pt r.g,.int .i64 (p:Int),S s] v fun e u=>e=.returned .nilIface∧∃G,mW w u r G { d with now:=d.now.set p (ec s),wait:=d.wait++[(p,ec s)] }):=fun v b d c a hw p s hp hs=>by
  have z:=oS c.dk (p:Int) s (by omega) (by omega)
  obtain⟨V,W⟩:=tK a.dn a.fu hp hs
  rw[V,W,cO,c.g] at z
  exact z.mono fun e u hr=>c.step hr
 have H:Hd (∀(v:World) (b:jZ) (d:Dk),mW w v r b d→d.Up→Calls Tryz.prog 108 #[pt r.g] v fun e u=>e=.returned .nilIface∧∃G,mW w u r G { d with kept:=d.now,wait:=[] }):=fun v b d c a=>by
  have z:=qQ c.dk
  obtain⟨V,W⟩:=vT a.dn a.fu
  rw[V,W,cO,c.g] at z
  exact z.mono fun e u hr=>c.step hr
 have I:Hd (∀(v:World) (b:jZ) (d:Dk),mW w v r b d→Calls Tryz.prog 82 #[pt r.g] v fun e u=>e=.returned (.int .i64 d.now.length)∧bf v u):=fun v b d c=>by
  have z:=qX c.dk
  rw[c.g] at z
  exact z
 have HT:=aj (fun v=>Ke Pq v)
 have X:=tL Pq
 obtain⟨tx,C⟩:∃t,t=pM Pq:=⟨_,rfl⟩
 have Y:=aj C
 rw[←C] at HT X
 clear C
 obtain⟨q,k⟩:∃d,d=Dk.fresh N:=⟨_,rfl⟩
 have A:Hd (q.Up∧q.now=List.replicate N (ec [])∧q.wait.length≤0):=by rw[Hd,k];exact⟨OY N,rfl,aq _⟩
 rw[←k] at h
 have D0:=aj (mW.start h)
 clear h k
 have Q:∀s∈List.replicate N (ec ([]:aK)),s.length=340:=fun s hs=>by rw[ga hs];exact fV [] (by simp)
 have x:∀d:Dk,d.now=List.replicate N (ec [])→d.now.length=N:=fun d e=>by rw[e];simp
 have g1:decide ((N:Int)<50)=false:=aG (by omega)
 have g2:decide (N<50)=false:=aG (by omega)
 have D:=I.ou w r q D0.ou
 rw[x q A.ou.2.1] at D
 go_enter Tryz.func63,Tryz.ntmps63
 go_wp2_with (refine dN ?_)
 refine D.mono ?_
 rintro e w1 ⟨rfl,l⟩
 have J:=U.ou w1 r q (D0.ou.ext l) A.ou.1 (by have:=A.ou.2.2;omega) 0 [] (by rw[x q A.ou.2.1];omega) (by simp)
 go_wp2_with (refine dN ?_)
 refine J.mono ?_
 rintro e w2 ⟨rfl,G,y⟩
 rw[A.ou.2.1,Fj] at y
 obtain⟨R,m⟩:∃d:Dk,d={ q with now:=List.replicate N (ec []),wait:=q.wait++[(0,ec [])] }:=⟨_,rfl⟩
 rw[←m] at y
 have Z:Hd (R.Up∧R.now=List.replicate N (ec [])∧R.wait.length≤44):=by
  rw[Hd,m]
  exact⟨⟨A.ou.1.dn,A.ou.1.fu,Q⟩,rfl,by have:=A.ou.2.2;simp;omega⟩
 have D2:=aj y
 clear y m J D l
 go_wp2_with (refine lM ?_ ?_<;>intro hq)
 go_loopw [3,4] (fun er i wr=>er=.nilIface∧∃j:Nat,44≤j∧j≤N∧i=.int .i64 j∧∃b n,mW w wr r b n∧n.Up∧n.now=List.replicate N (ec [])∧n.wait.length≤j) (fun _ i _=>N-(intOf i).toNat)
 case atStart=>exact⟨rfl,44,aq _,by omega,rfl,G,R,D2.ou,Z.ou.1,Z.ou.2.1,Z.ou.2.2⟩
 case round=>
  obtain⟨rfl,j,ag,ai,rfl,b,n,c,a,B,ak⟩:=hrel
  have DJ:=aj c
  have o:=aj a
  have T:=aj B
  clear c a B
  have K:=I.ou wr b n DJ.ou
  rw[x n T.ou] at K
  by_cases L:j<N
  ·have ac:decide ((j:Int)<(N:Int))=true:=aM (by omega)
   have M:decide (j<N)=true:=aM L
   go_wp2_with fail
   refine K.mono ?_
   rintro e w3 ⟨rfl,l⟩
   have F:=U.ou w3 b n (DJ.ou.ext l) o.ou (by omega) j [] (by rw[x n T.ou];exact L) (by simp)
   rw[T.ou,Fj] at F
   go_wp2_with fail
   refine F.mono ?_
   rintro e w4 ⟨rfl,r4,f⟩
   have D4:=aj f
   clear f F l K
   go_wp2_with fail
   go_roundw
   case rel=>exact⟨rfl,j+1,by omega,by omega,by go_num,r4,_,D4.ou,⟨o.ou.dn,o.ou.fu,Q⟩,rfl,by simp;omega⟩
   case measure=>simp[intOf];omega
  ·obtain rfl:j=N:=by omega
   have ac:decide ((j:Int)<(j:Int))=false:=aG (by omega)
   have M:decide (j<j)=false:=aG (by omega)
   go_wp2_with fail
   refine K.mono ?_
   rintro e w3 ⟨rfl,l⟩
   have O:=H.ou w3 b n (DJ.ou.ext l) o.ou
   go_wp2_with fail
   refine O.mono ?_
   rintro e w4 ⟨rfl,r4,f⟩
   rw[T.ou] at f
   have D4:=aj f
   clear f O l K
   go_wp2_with fail
   refine(HT.ou w4).mono ?_
   rintro e w5 ⟨rfl,l⟩
   have F:=U.ou w5 r4 _ (D4.ou.ext l) ⟨o.ou.dn,o.ou.fu,Q⟩ (by simp) 1 tx (by simp;omega) (by omega)
   go_wp2_with fail
   refine F.mono ?_
   rintro e w6 ⟨rfl,r6,E⟩
   have O:=H.ou w6 r6 _ E ⟨o.ou.dn,o.ou.fu,mF Q (fV _ (by omega))⟩
   have D6:=aj E
   clear E l F
   go_wp2_with fail
   refine O.mono ?_
   rintro e w7 ⟨rfl,r7,P⟩
   have D7:=aj P
   clear P O
   go_wp2_with fail
   go_ret
   have h9:=D7.ou
   rw[o.ou.dn,o.ou.fu,Y.ou] at h9
   exact h9.res rfl
theorem PX   {ys:List Ac}(h:Uy w A n ys){k:Nat}(c:k<n) :
  ∃b o y,A=some ⟨b,o,none⟩∧ys[k]?=some y∧di fA w y.1.1 y.2.length y.2∧(∀ξ:X w No,ξ.v.cell? ⟨b,o+k,none⟩=some (.slice y.1.1 y.2.length y.1.2)):=by
 obtain⟨b,o,x,e,d,a,f⟩:=h.1.get c
 exact⟨b,o,x,e,a,h.2 x (ah a),fun ξ=>(ξ.h.cell d id).trans (by simpa [IH] using f 0 _ rfl)⟩
end Go.Proofs.YtpgmcijdcnnjpaaGreatDoor
