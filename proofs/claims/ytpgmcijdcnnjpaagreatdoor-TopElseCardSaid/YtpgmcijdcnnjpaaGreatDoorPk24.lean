/- Lemmas for it. -/
import Derived.Test.YtpgmcijdcnnjpaaGreatDoorPk23
import Derived.Test.YtpgmcijdcnnjpaaGreatDoorPk21
set_option linter.all false
set_option maxRecDepth 100000
set_option maxHeartbeats 4000000
namespace Go.Proofs.YtpgmcijdcnnjpaaGreatDoor
open Go Go.RowKit
variable {dg n:Nat} {s t:aK} {r:jZ} {k:UInt8}
theorem By:(Tryz.prog.info? 9).map (·.size)=some 1:=by kernel_rfl
theorem LF(n:Nat)(h:n≤1000000)(w:World):(Instr.makeSlice 44 (.int .i64 (n:Int)) (.int .i64 (n:Int))).run Tryz.prog w =
  .ok (.slice (some ⟨w.heap.size,0,none⟩) n n) (w.alloc (.cells (List.replicate n (S [])).toArray 9)):=by
 obtain⟨a,e,f,b,c⟩:=info_parts xU
 have g:(a.bytes:Int)*(n:Int)≤281474976710656:=by rw[c];omega
 have d:=run_make (P:=Tryz.prog) w 44 9 a (S []) Tryz.underlying44 e f .i64 .i64 n n (by omega) (by omega) g (by omega)
 simp only[dh] at d
 rw[d,b]
 have:madeCells (S []).cells (n*1)=(List.replicate n (S [])).toArray:=by
  apply Array.ext
  ·simp[madeCells]
  ·intro i b c
   simp[madeCells,Value.cells,Nat.mod_one]
 rw[this]
theorem PU(n:Nat)(a:n≤1000000)(w:World):Calls Tryz.prog 160 #[.int .u64 1,.int .u64 n] w fun e w'=>e=.returned (.tuple #[.int .u64 0,.int .u64 n])∧w=w':=by
 refine(Tryz.bits_Mul 1 n (by omega) (by omega) w).mono fun e w' ⟨he,hw⟩=>⟨?_,hw.symm⟩
 rw[he,Nat.one_mul,Nat.div_eq_of_lt (by omega),kp (by omega)]
 try rfl
theorem Qn(q:Nat)(s:aK):∀u∈List.replicate q (S s),u.oneCell'=true:=by
 intro u a
 rw[ga a];rfl
theorem My{w:World}{b:Nat} (t:w.cell? ⟨b,0,none⟩=some (S s))(L:n≤1000)(l:1≤n) :
  Calls Tryz.prog 105 #[.slice (some ⟨b,0,none⟩) 1 1,.int .i64 (n:Int)] w fun e w'=>∃g,e=.returned (.slice (some ⟨g,0,none⟩) n n)∧Cs w' g 9 (List.replicate n (S s)).toArray∧bf w w'∧w.heap.size≤g:=by
 have D:=LF n (by omega)
 have E:=aj t
 clear t
 go_enter Tryz.func105,Tryz.ntmps105
 go_upto_region 7 with(first|(go_at_call 160;refine(PU n (by omega) _).mono ?_;rintro e w' ⟨rfl,rfl⟩)|refine dN ?_|refine dN ?_)
 all_goals try exact si
 refine cj [2] (fun _=>True) trivial ?_
 refine bK ?_
 refine cH rfl rfl ?_
 intro K hK
 refine uh (cur:=List.replicate n (S [])) (cs:=[S s]) Tryz.underlying44 By rfl rfl rfl (Cs.new w 9 _) (by simp[iN];omega) (fun j u hu=>?_) (by simp;omega) (by simp[Value.oneCell']) ?_
 ·match j,hu with
  | 0,hu=>
   obtain rfl:S s=u:=by simpa using hu
   exact sW _ _ _ E.ou
 intro v o d
 refine hK _ _ (fun _=>trivial) ?_
 clear hK K
 refine bj ?_
 refine bK ?_
 refine ar ?_
 have x:Hd (Cs v w.heap.size 9 (List.replicate 1 (S s)++List.replicate (n-1) (S [])).toArray):=by
  have e:(List.replicate n (S [])).take 0++[S s]++(List.replicate n (S [])).drop (0+[S s].length)=List.replicate 1 (S s)++List.replicate (n-1) (S []):=by simp[List.drop_replicate]
  rw[e] at o;exact o
 have y:Hd (al (fun b=>b=w.heap.size) w v):=((al.refl _ _).alloc _).trans d fun b hb e=>e
 clear o d
 go_wp2
 go_loopw [8] (fun i wr=>∃m:Nat,1≤m∧m≤n∧i=.int .i64 m∧Cs wr w.heap.size 9 (List.replicate m (S s)++List.replicate (n-m) (S [])).toArray∧al (fun b=>b=w.heap.size) w wr) (fun i _=>n-(intOf i).toNat)
 case atStart=>exact⟨1,aq _,l,rfl,x.ou,y.ou⟩
 case round=>
  obtain⟨m,F,M,rfl,z,A⟩:=hrel
  have B:=aj A
  have a:=aj z
  clear z A x y
  by_cases G:m<n
  ·go_upto_region 9 with fail
   refine aV [7] 100 (fun _=>True) (by kernel_rfl) (by kernel_rfl) trivial ?_
   refine bK ?_
   refine cH rfl rfl ?_
   intro K hK
   have f:Nat.min m (n-m)≤m:=Nat.min_le_left _ _
   have c:Nat.min m (n-m)≤n-m:=Nat.min_le_right _ _
   have h:1≤Nat.min m (n-m):=Nat.le_min.2 ⟨by omega,by omega⟩
   obtain⟨q,hq⟩:∃q,q=Nat.min m (n-m):=⟨_,rfl⟩
   rw[←hq] at f c h
   refine uh (cur:=List.replicate m (S s)++List.replicate (n-m) (S [])) (cs:=List.replicate q (S s)) Tryz.underlying44 By rfl rfl rfl a.ou.drew (by rw[ie];exact hq) (fun j u hu=>?_) (by simp;omega) (Qn q s) ?_
   ·have H:j<q:=by have:=(aw.1 hu).1;simpa using this
    rw[bX,a.ou.drew.cell,aB,bG (by simp;omega)]
    simp[show j<m by omega]
    simp[H] at hu
    exact hu
   intro C p k
   refine hK _ _ (fun _=>trivial) ?_
   clear hK K
   refine bj ?_
   have I:Hd (Cs C w.heap.size 9 (List.replicate (m+q) (S s)++List.replicate (n-(m+q)) (S [])).toArray):=by
    have e:(List.replicate m (S s)++List.replicate (n-m) (S [])).take m++List.replicate q (S s)++(List.replicate m (S s)++List.replicate (n-m) (S [])).drop (m+(List.replicate q (S s)).length)=List.replicate (m+q) (S s)++List.replicate (n-(m+q)) (S []):=by
     rw[fJ (by simp),List.replicate_append_replicate,List.drop_append]
     simp[List.drop_replicate,Nat.sub_sub]
    rw[e] at p;exact p
   have J:Hd (al (fun b=>b=w.heap.size) w C):=(B.ou.drew).trans k fun b hb e=>e
   clear p k
   simp only[ie]
   clear hq
   refine bK ?_
   refine ar ?_
   go_wp2
   go_roundw
   case rel=>exact⟨m+q,by omega,by omega,by go_num,I.ou,J.ou⟩
   case measure=>simp[intOf];omega
  ·go_wp2
   go_ret
   have r:m=n:=by omega
   subst r
   exact⟨w.heap.size,rfl,by simpa using a.ou,B.ou.gU fun b hb e=>by omega,aq _⟩
def Dk.fresh(n:Nat):Dk:=⟨List.replicate n (ec []),List.replicate n (ec []),[],-1,false⟩
@[go_sem] theorem Tv (A B:Option Addr) (n c m d:Nat) (w:World):(Instr.build 120 #[(0,.slice A n c),(1,.slice B m d),(3,.int .i64 (-1))]).run Tryz.prog w =
 .ok (.agg #[.slice A n c,.slice B m d,.slice none 0 0,.int .i64 (-1),.bool false]) w:=run_build w 120 _ _ (by kernel_rfl)
theorem Ub(n:Nat)(A:1≤n)(I:n≤120)(w:World) :
  Calls Tryz.prog 62 #[.int .i64 n] w fun e w'=>∃r,e=.returned (.tuple #[pt r.g,.nilIface])∧ef w' r (Dk.fresh n)∧bf w w'∧∀b,r.fp b→w.heap.size≤b:=by
 go_enter Tryz.func62,Tryz.ntmps62
 go_upto_region 3 with(first|refine dN ?_)
 all_goals try exact si
 go_wp2_with fail
 refine(NW [] (by simp) _).mono ?_
 rintro e x ⟨rfl,i⟩
 go_wp2_with fail
 refine(My (w:=x.alloc (.cells #[S (ec [])] 9)) (s:=ec []) (n:=n) ?_ (by omega) A).mono ?_
 ·rw[(Cs.new x 9 _).cell];rfl
 rintro e p ⟨d,rfl,l,m,j⟩
 have y:Hd (bf w p):=(i.alloc _).ae m
 have B:Hd (w.heap.size≤d):=by
  have:=i.size
  simp at j
  exact aJ this (by omega)
 clear i m j
 have z:=aj l
 clear l
 have c:Hd (p.ownsRow 0 9 1 (.slice (some ⟨d,0,none⟩) n n) n ((List.replicate n (ec [])).map S)):=by
  refine⟨by simp,.inr ⟨d,n,_,rfl,au _,z.ou,aq _,by simp[maxLen];omega,by simp,?_⟩⟩
  simp
 go_wp2_with fail
 refine(ye (BP c.ou) (Sf _) (by simp) (by omega)).mono ?_
 rintro e q ⟨C,t,rfl,a,o,f⟩
 obtain⟨k,rfl⟩:∃g,C=some ⟨g,0,none⟩:=by
  rcases a.2 with⟨q1,q2⟩|⟨g,cap,cur,q1,_⟩
  ·omega
  ·injection q1 with q1;exact⟨g,q1⟩
 have D:=aj a
 have u:=aj o
 have E:Hd (p.heap.size≤k):=f k rfl
 clear a o f
 go_wp2
 go_ret2
 have v:bf q (q.alloc (.cells #[.slice (some ⟨d,0,none⟩) n n,.slice (some ⟨k,0,none⟩) n t,.slice none 0 0,.int .i64 (-1),.bool false] 120)):=(al.refl _ _).alloc _
 have F:d<p.heap.size:=z.ou.lt
 have J:=y.ou.size
 have K:=u.ou.size
 have G:=E.ou
 have j:=B.ou
 refine⟨⟨q.heap.size,d,n,k,t,.slice none 0 0⟩,rfl,⟨?_,?_,?_,?_,?_,?_⟩,(y.ou.ae u.ou).ae v,?_⟩
 ·have:=Cs.new q 120 #[.slice (some ⟨d,0,none⟩) n n,.slice (some ⟨k,0,none⟩) n t,.slice none 0 0,.int .i64 (-1),.bool false]
  simpa [Dk.fresh,jZ.cells] using this
 ·have:=cl (cl c.ou u.ou fun _ _ h=>h) v fun _ _ h=>h
  simpa [Dk.fresh] using this
 ·have:=cl D.ou v fun _ _ h=>h
  simpa [Dk.fresh] using this
 ·exact World.ownsRow_nil _ _ _ _
 ·show d≠k
  omega
 ·exact⟨rfl,by simp[Dk.fresh];omega,by simp[Dk.fresh];omega,by simp[Dk.fresh],by simp[Dk.fresh],by simp[Dk.fresh]⟩
 ·intro b H
  rcases H with h|h|h|h
  ·simp at h;omega
  ·simp at h;omega
  ·simp at h;omega
  ·simp[Value.ownBlock] at h
theorem Gc{w:World} {d:Dk}(h:ef w r d)(k:Nat)(m:k<d.now.length)(s:aK)(n:s.length≤340)(i:d.lU=true) :
  Calls Tryz.prog 107 #[pt r.g,.int .i64 k,S s] w (mY w r d.cJ (E 11)):=by
 have c1:=h.cs.cell 1
 simp only[aB,aQ,aX] at c1
 have o:=h.vf.eA
 have a:=DM h
 rw[i] at a
 have c:=aj a
 clear h a i
 go_enter Tryz.func107,Tryz.ntmps107
 go_wp2_with (refine lM ?_ ?_<;>intro hq)
 all_goals try exact si
 refine c.ou.mono ?_
 rintro e p ⟨rfl,j,f⟩
 have l:=aj j
 clear j
 simp only[if_true]
 go_wp2
 go_ret
 exact⟨rfl,r,l.ou,rfl,f.gU fun b _ e=>.inl e,fun b hb=>.inl hb⟩
def Dk.bad(d:Dk)(i:Int)(s:aK):Bool:=decide (i<0∨(d.now.length:Int)≤i∨340<s.length)
def Dk.wr(d:Dk)(i:Int)(s:aK):Dk:=if d.bad i s then d else if d.lU then d.cJ else d.cJ.written i.toNat s
def Dk.jJ(d:Dk)(i:Int)(s:aK):Int:=if d.bad i s then 1 else if d.lU then 11 else 0
def Dk.fl(d:Dk):Dk:=if d.lU then d.cJ else d.cJ.pR
def Dk.oK(d:Dk):Int:=if d.lU then 11 else 0
def Dk.rd(d:Dk)(i:Int):aK:=if d.down then [] else if i<0∨(d.now.length:Int)≤i then [] else d.now.getD i.toNat []
def Dk.rq(d:Dk)(i:Int):Int:=if d.down then 11 else if i<0∨(d.now.length:Int)≤i then 1 else 0
theorem mY.lO{w w':World} {d:Dk}{e:Ending}{v:Value}(h:ef w r d)(b:e=.returned v)(a:bf w w'):mY w r d v e w':=
 ⟨b,r,h.ext a,rfl,a.gU fun _ _ h=>h.elim,fun _ h=>.inl h⟩
theorem oS{w:World} {d:Dk}(h:ef w r d)(i:Int)(s:aK)(b:s.length≤1000000)(c:d.wait.length≤1000000) :
  Calls Tryz.prog 107 #[pt r.g,.int .i64 i,S s] w (mY w r (d.wr i s) (eT (d.jJ i s))):=by
 unfold Dk.wr Dk.jJ Dk.bad
 by_cases a:i<0∨(d.now.length:Int)≤i∨340<s.length
 ·simp only[a,decide_true,if_true]
  refine(Kw h i s b a).mono ?_
  rintro e w' ⟨rfl,f⟩
  exact mY.lO h rfl f
 ·obtain⟨k,rfl⟩:∃k:Nat,i=k:=⟨i.toNat,by omega⟩
  simp only[a,decide_false,cV,if_false,dh]
  cases hf:d.lU with
  | true=>exact Gc h k (by omega) s (by omega) hf
  | false=>exact NT h k (by omega) s (by omega) hf c
theorem qQ{w:World} {d:Dk}(h:ef w r d) :
  Calls Tryz.prog 108 #[pt r.g] w (mY w r d.fl (eT d.oK)):=by
 unfold Dk.fl Dk.oK
 cases hf:d.lU with
 | true=>exact Gn h hf
 | false=>exact OH h hf
theorem Om{w:World} {d:Dk}(h:ef w r d)(i:Int) :
  Calls Tryz.prog 83 #[pt r.g,.int .i64 i] w fun e w'=>e=.returned (.tuple #[S (d.rd i),eT (d.rq i)])∧bf w w':=by
 refine(OT h i).mono ?_
 rintro e w' ⟨rfl,a⟩
 refine⟨?_,a⟩
 unfold Dk.rd Dk.rq
 split
 ·rfl
 ·split<;>rfl
theorem Dk.uF(d:Dk)(i:Int)(s:aK):0≤d.jJ i s:=by unfold Dk.jJ;split<;>(try split)<;>omega
def dU(n:Nat):aK:=[bt ((n:Int)%256),bt ((n:Int)/256%256),bt ((n:Int)/65536%256),bt ((n:Int)/16777216%256)]
theorem jd(n:Nat):(dU n).length=4:=rfl
def eM(k:UInt8)(n:Nat)(s:aK):aK:=k::(dU n++([bt ((s.length:Int)%256),bt ((s.length:Int)/256%256)]++s))
theorem nB(k:UInt8)(n:Nat)(s:aK):(eM k n s).length=s.length+7:=by
 unfold eM
 simp only[an,af,jd,bI]
 omega
theorem DE(n:Nat)(w:World):Calls Tryz.prog 135 #[.int .i64 n] w fun e w'=>e=.returned (S (dU n))∧bf w w':=by
 go_enter Tryz.func135,Tryz.ntmps135
 refine cS ?_
 go_ret
 exact⟨rfl,(al.refl _ _).alloc _⟩
theorem OM(k:UInt8):bt (k.toNat:Int)=k:=by
 unfold bt
 simp
theorem JZ(k:UInt8)(n:Nat)(s:aK)(y:s.length≤1000000)(w:World):Calls Tryz.prog 189 #[.int .u8 k.toNat,.int .i64 n,S s] w fun e w'=>e=.returned (S (eM k n s))∧bf w w':=by
 have p:=aj (fun v=>DE n v)
 have t:=jd n
 have q:Hd (eM k n s=bt (k.toNat:Int)::(dU n++([bt ((s.length:Int)%256),bt ((s.length:Int)/256%256)]++s))):=by rw[Hd,OM];rfl
 generalize dU n=f at p t q
 go_enter Tryz.func189,Tryz.ntmps189
 go_upto_region 1 with fail
 refine uJ 19 [1,2,4,5,13,14,15,17,18] (Cl w No) rfl (by kernel_rfl) (by kernel_rfl) (Cl.eU (X.here w No)) ?_
 (refine dF (i:=0) (by kernel_rfl) rfl rfl rfl rfl ?_;intro K hK;go_big_quiet_op;go_big_quiet_on);(refine dF (i:=3) (by kernel_rfl) rfl rfl rfl rfl ?_;intro K hK;go_big_quiet_op;go_big_quiet_on);(refine dF (i:=6) (by kernel_rfl) rfl rfl rfl rfl ?_;intro K hK;go_big_quiet_op;go_big_quiet_on);(refine dF (i:=7) (by kernel_rfl) rfl rfl rfl rfl ?_;intro K hK;go_big_quiet_op;go_big_quiet_on);(refine dF (i:=8) (by kernel_rfl) rfl rfl rfl rfl ?_;intro K hK;go_big_quiet_op;go_big_quiet_on);(refine dF (i:=9) (by kernel_rfl) rfl rfl rfl rfl ?_;intro K hK;go_big_quiet_op;go_big_quiet_on);(refine dF (i:=10) (by kernel_rfl) rfl rfl rfl rfl ?_;intro K hK;go_big_quiet_op;go_big_quiet_on);(refine dF (i:=11) (by kernel_rfl) rfl rfl rfl rfl ?_;intro K hK;go_big_quiet_op;go_big_quiet_on);(refine dF (i:=12) (by kernel_rfl) rfl rfl rfl rfl ?_;intro K hK;go_big_quiet_op;go_big_quiet_on);(refine dF (i:=16) (by kernel_rfl) rfl rfl rfl rfl ?_;intro K hK;go_big_quiet_op;go_big_quiet_on)
 refine xP (fun i=>match i with|2=>[(1,some 8)]|5=>[(2,some 9),(4,some 11)]|14=>[(13,some 20)]|15=>[(5,some 12),(14,some 21)]|17=>[(15,some 22)]|18=>[(17,some 24)]|_=>[])
  [(1,some 8),(2,some 9),(4,some 11),(5,some 12),(13,some 20),(14,some 21),(15,some 22),(17,some 24),(18,some 6)]
  (fun j v u=>match j with
   | 1=>∃g,v=.slice (some ⟨g,0,none⟩) 1 1∧Cs u g 5 #[.int .u8 k.toNat]
   | 2=>v=S [bt k.toNat]
   | 4=>v=S f
   | 5=>v=S (bt k.toNat::f)
   | 13=>∃g,v=.slice (some ⟨g,0,none⟩) 2 2∧Cs u g 5 #[.int .u8 ((s.length:Int)%256),.int .u8 ((s.length:Int)/256%256)]
   | 14=>v=S [bt ((s.length:Int)%256),bt ((s.length:Int)/256%256)]
   | 15=>v=S (bt k.toNat::(f++[bt ((s.length:Int)%256),bt ((s.length:Int)/256%256)]))
   | _=>v=S (bt k.toNat::(f++bt ((s.length:Int)%256)::bt ((s.length:Int)/256%256)::s))) bf
  (by kernel_rfl) rfl (by kernel_rfl) (Cl.eU (X.here w No)) (fun u r ⟨ξ,e⟩ c=>⟨ξ.on (v:=r) (by rw[←e];exact c),rfl⟩) ?_ ?_ ?_
 ·simp only[sZ]
  refine⟨?_,?_,?_,?_,?_,?_,?_,?_,?_,trivial⟩
  all_goals
   intro v u r c h
   first
   | exact h
   | (obtain⟨g,e,d⟩:=h;exact⟨g,e,d.aP c id⟩)
 ·simp only[qT]
  refine⟨?_,?_,?_,?_,?_,?_,?_,?_,?_,trivial⟩
  ·intro a u _ _
   (show cT _ _ _ _ _;refine eR ?_;intro K hK;simp only[eH,Act.put,ax,aR,aS])
   go_simp
   exact hK _ _ ⟨(al.refl _ _).alloc _,_,rfl,Cs.new _ _ _⟩
  ·rintro a u _ ⟨⟨g,b,d⟩,_⟩
   have l:=QE d
   (show cT _ _ _ _ _;refine eR ?_;intro K hK;simp only[eH,Act.put,ax,aR,aS])
   rw[b]
   go_simp
   exact hK _ _ ⟨al.refl _ _,rfl⟩
  ·intro a u _ _
   (show cT _ _ _ _ _;refine eR ?_;intro K hK;simp only[eH,Act.put,ax,aR,aS])
   go_simp
   refine(p.ou u).mono ?_
   rintro e z ⟨rfl,c⟩
   exact⟨_,rfl,hK _ _ ⟨c,rfl⟩⟩
  ·rintro a u _ ⟨b,m,_⟩
   (show cT _ _ _ _ _;refine eR ?_;intro K hK;simp only[eH,Act.put,ax,aR,aS])
   rw[b,m]
   go_simp
   exact hK _ _ ⟨al.refl _ _,rfl⟩
  ·intro a u _ _
   (show cT _ _ _ _ _;refine eR ?_;intro K hK;simp only[eH,Act.put,ax,aR,aS])
   go_simp
   exact hK _ _ ⟨(al.refl _ _).alloc _,_,rfl,Cs.new _ _ _⟩
  ·rintro a u _ ⟨⟨g,b,d⟩,_⟩
   have l:=Rt d
   (show cT _ _ _ _ _;refine eR ?_;intro K hK;simp only[eH,Act.put,ax,aR,aS])
   rw[b]
   go_simp
   exact hK _ _ ⟨al.refl _ _,rfl⟩
  ·rintro a u _ ⟨b,m,_⟩
   (show cT _ _ _ _ _;refine eR ?_;intro K hK;simp only[eH,Act.put,ax,aR,aS])
   rw[b,m]
   go_simp
   exact hK _ _ ⟨al.refl _ _,rfl⟩
  ·rintro a u _ ⟨b,_⟩
   have x:¬9223372036854775807<7+s.length:=by omega
   (show cT _ _ _ _ _;refine eR ?_;intro K hK;simp only[eH,Act.put,ax,aR,aS])
   rw[b]
   go_simp
   try rw[aa x]
   exact hK _ _ ⟨al.refl _ _,rfl⟩
  ·rintro a u _ ⟨b,_⟩
   (show cT _ _ _ _ _;refine eR ?_;intro K hK;simp only[eH,Act.put,ax,aR,aS])
   rw[b]
   go_simp
   exact hK _ _ ⟨al.refl _ _,rfl⟩
 ·rintro a u ⟨ξ,rfl⟩ hd
  simp only[pw] at hd
  obtain⟨-,-,-,-,-,-,-,-,o,-⟩:=hd
  simp only[eH,Act.put,ax,aR,aS,o]
  go_wp2_with fail
  go_ret
  exact⟨by rw[q.ou];rfl,ξ.h⟩
abbrev DQ:TypeId:=207
structure eX where
 g:Nat
 from_:Nat
 many:Nat
 first:Nat
 next:Nat
abbrev eX.cells(l:eX)(dg:Nat):Array Value:=#[pt dg,.int .i64 (l.from_:Nat),.int .i64 (l.many:Nat),.int .i64 (l.first:Nat),.int .i64 (l.next:Nat)]
def lh(w:World)(l:eX)(dg:Nat):Prop:=Cs w l.g DQ (l.cells dg)
theorem lh.aP{w v:World}{l:eX}{dg:Nat}{F:Nat→Prop}(h:lh w l dg)(a:al F w v)(b:¬F l.g):lh v l dg:=Cs.aP h a b
theorem lh.ext{w v:World}{l:eX} (h:lh w l dg)(a:bf w v):lh v l dg:=Cs.aP h a id
theorem lh.x{w:World}{l:eX}{dg:Nat}(h:lh w l dg):(∀ξ:X w No,ξ.v.cell? ⟨l.g,0,none⟩=some (pt dg))∧(∀ξ:X w No,ξ.v.cell? ⟨l.g,1,none⟩=some (.int .i64 (l.from_:Nat)))∧(∀ξ:X w No,ξ.v.cell? ⟨l.g,2,none⟩=some (.int .i64 (l.many:Nat)))∧(∀ξ:X w No,ξ.v.cell? ⟨l.g,3,none⟩=some (.int .i64 (l.first:Nat)))∧(∀ξ:X w No,ξ.v.cell? ⟨l.g,4,none⟩=some (.int .i64 (l.next:Nat))):=
 ⟨Cs.x h id 0,Cs.x h id 1,Cs.x h id 2,Cs.x h id 3,Cs.x h id 4⟩
def E7(s:aK):Nat:=(s.getD 5 0).toNat+256*(s.getD 6 0).toNat
def je(s:aK)(n:Nat):Option (UInt8×aK):=
 if (s.take 5).tail=dU n∧(s.getD 0 0=111∨s.getD 0 0=99)∧E7 s≤333 then some (s.getD 0 0,(s.take (7+E7 s)).drop 7) else none
def Vb:Option (UInt8×aK)→Value
 | none=>.tuple #[.int .u8 0,S [],.bool false]
 | some x=>.tuple #[.int .u8 x.1.toNat,S x.2,.bool true]
theorem BH(x c:UInt8):(((x.toNat:Int))==((c.toNat:Int)))=decide (x=c):=by
 rw[eu,bY,aW]
 exact⟨fun h=>im.1 (by omega),fun h=>by rw[h]⟩
theorem SA{w:World} {d:Dk}{l:eX}(h:lh w l r.g)(Q:ef w r d)(z:d.down=false)(i:Nat)(a:aK)(N:d.now[l.from_+i]?=some a)(Z:a.length=340)(hf:l.first≤1000000000000)(hi:i≤1000) :
  Calls Tryz.prog 134 #[pt l.g,.int .i64 i] w fun e w'=>e=.returned (Vb (je a (l.first+i)))∧bf w w':=by
 obtain⟨d0,d1,-,Y,-⟩:=h.x
 have H:=aj h
 have ac:l.from_≤1000:=by
  have A:=(aw.1 N).1
  have h2:=Q.vf.eA
  omega
 have E:Hd (∀v,bf w v→Calls Tryz.prog 83 #[pt r.g,.int .i64 ((l.from_:Int)+(i:Int))] v fun e w'=>e=.returned (.tuple #[S a,.nilIface])∧bf v w'):=fun v hv=>by
  have A:=Om (Q.ext hv) ((l.from_:Int)+(i:Int))
  have ag:=(aw.1 N).1
  have e1:d.rd ((l.from_:Int)+(i:Int))=a:=by
   unfold Dk.rd
   rw[aa (by rw[z];decide),aa (by omega)]
   have:((l.from_:Int)+(i:Int)).toNat=l.from_+i:=by omega
   rw[this,aL,N]
   try rfl
  have e2:d.rq ((l.from_:Int)+(i:Int))=0:=by
   unfold Dk.rq
   rw[aa (by rw[z];decide),aa (by omega)]
  rw[e1,e2] at A
  exact A
 have B:=aj (fun v=>DE (l.first+i) v)
 have O:Hd (je a (l.first+i)=if (a.take 5).tail=dU (l.first+i)∧(a.getD 0 0=111∨a.getD 0 0=99)∧E7 a≤333 then some (a.getD 0 0,(a.take (7+E7 a)).drop 7) else none):=rfl
 have R:=jd (l.first+i)
 rw[show((l.first+i:Nat):Int)=(l.first:Int)+(i:Int) by omega] at B
 generalize dU (l.first+i)=f4 at B O R
 obtain⟨j,h0⟩:∃x,a[0]'(by omega)=x:=⟨_,rfl⟩
 obtain⟨n,h5⟩:∃x,a[5]'(by omega)=x:=⟨_,rfl⟩
 obtain⟨o,h6⟩:∃x,a[6]'(by omega)=x:=⟨_,rfl⟩
 have F:a.getD 0 0=j:=by rw[aL,aF (by omega),h0];rfl
 have G:E7 a=n.toNat+256*o.toNat:=by
  unfold E7
  rw[aL,aL,aF (by omega),aF (by omega),h5,h6]
  try rfl
 rw[F,G] at O
 have b5:=n.toNat_lt
 have b6:=o.toNat_lt
 have f:(((j.toNat:Int))!=111)=!decide (j=111):=by exact congrArg (!·) (BH j 111)
 have q:(((j.toNat:Int))!=99)=!decide (j=99):=by exact congrArg (!·) (BH j 99)
 obtain⟨P,T⟩:∃b,((a.take 5).tail==f4)=b:=⟨_,rfl⟩
 have y:((a.take 5).tail=f4)↔P=true:=by rw[←T,bY]
 have s:Hd (je a (l.first+i)=if P=true∧(j=111∨j=99)∧n.toNat+256*o.toNat≤333 then some (j,(a.take (7+(n.toNat+256*o.toNat))).drop 7) else none):=by
  rw[Hd,O.ou]
  simp only[y]
 clear O y
 clear h Q z N F G
 go_enter Tryz.func134,Tryz.ntmps134
 go_upto_region 1 with fail
 (refine aV [10] 100 (Cl (w) (No)) (by kernel_rfl) (by kernel_rfl) (Cl.eU (X.here w No)) ?_;refine bK ?_)
 (refine bQ ?_;intro K hK)
 refine(E.ou _ (al.refl No w).drew).mono ?_
 rintro e C ⟨rfl,I⟩
 have D:Hd (bf w C):=(al.refl No w).drew.ae I
 refine⟨_,rfl,hK _ _ (fun _=>Cl.of D.ou) ?_⟩
 clear hK K I
 refine bj ?_
 refine bK ?_
 refine ar ?_
 have D3:∀ξ:X C No,ξ.v.cell? ⟨l.g,3,none⟩=some (.int .i64 (l.first:Nat)):=fun ξ=>Y ⟨ξ.v,D.ou.ae ξ.h⟩
 clear d0 d1 Y E
 go_upto_region 2 with fail
 (refine aV [11] 100 (Cl (C) (No)) (by kernel_rfl) (by kernel_rfl) (Cl.eU (X.here C No)) ?_;refine bK ?_)
 (refine bQ ?_;intro K hK)
 refine(B.ou _).mono ?_
 rintro e t ⟨rfl,I⟩
 have J:Hd (bf C t):=(al.refl No C).drew.ae I
 refine⟨_,rfl,hK _ _ (fun _=>Cl.of J.ou) ?_⟩
 clear hK K I D3
 refine bj ?_
 by_cases p:P=true∧(j=111∨j=99)
 ·obtain⟨rfl,U⟩:=p
  have k:Hd (je a (l.first+i)=if n.toNat+256*o.toNat≤333 then some (j,(a.take (7+(n.toNat+256*o.toNat))).drop 7) else none):=by
   rw[Hd,s.ou]
   by_cases c:n.toNat+256*o.toNat≤333
   ·rw[ab ⟨rfl,U,c⟩,ab c]
   ·rw[aa fun h=>c h.2.2,aa c]
  have V:(decide (j=111)=true)∨(decide (j=111)=false∧decide (j=99)=true):=by
   by_cases A:j=111
   ·exact .inl (aM A)
   ·rcases U with h|h
    ·exact absurd h A
    ·exact .inr ⟨aG A,aM h⟩
  clear s U
  rcases V with L|⟨L,W⟩
  ·rw[L] at f;simp only[eF,eS] at f
   clear q
   refine bK ?_
   refine ar ?_
   go_upto_region 4 with fail
   (refine aV [] 100 (Cl (t) (No)) (by kernel_rfl) (by kernel_rfl) (Cl.eU (X.here t No)) ?_;(repeat' (first|refine fZ ?_|(refine gd ?_;intro hq)|(refine gg ?_ ?_<;>intro hq))))
   all_goals (refine ar ?_)
   have M:Hd (bf w t.drew):=(D.ou.ae J.ou).drew
   by_cases c:n.toNat+256*o.toNat≤333
   ·have u:decide ((333:Int)<(n.toNat:Int)+256*(o.toNat:Int))=false:=by rw[aA];omega
    have m:=aj (k.ou.trans (ab c))
    go_upto_region 7 with fail
    (refine aV [] 100 (Cl (t.drew) (No)) (by kernel_rfl) (by kernel_rfl) (Cl.eU (X.here t.drew No)) ?_;(repeat' (first|refine fZ ?_|(refine gd ?_;intro hq)|(refine gg ?_ ?_<;>intro hq))))
    all_goals (refine ar ?_)
    go_wp2_with (first|((first|refine aZ rfl ?_|refine bV (by kernel_rfl) (by kernel_rfl) ?_);(repeat' (first|refine fZ ?_|(refine gd ?_;intro hq)|(refine gg ?_ ?_<;>intro hq)));all_goals (refine ar ?_)))
    go_ret3
    refine⟨?_,M.ou.drew⟩
    rw[m.ou]
    try rfl
   ·have u:decide ((333:Int)<(n.toNat:Int)+256*(o.toNat:Int))=true:=by rw[aW];omega
    have m:=aj (k.ou.trans (aa c))
    go_wp2_with (first|((first|refine aZ rfl ?_|refine bV (by kernel_rfl) (by kernel_rfl) ?_);(repeat' (first|refine fZ ?_|(refine gd ?_;intro hq)|(refine gg ?_ ?_<;>intro hq)));all_goals (refine ar ?_)))
    go_ret3
    exact⟨by rw[m.ou];rfl,M.ou⟩
  ·rw[L] at f;simp only[eF,eS] at f
   rw[W] at q;simp only[eF,eS] at q
   refine bK ?_
   refine ar ?_
   go_upto_region 4 with fail
   (refine aV [] 100 (Cl (t) (No)) (by kernel_rfl) (by kernel_rfl) (Cl.eU (X.here t No)) ?_;(repeat' (first|refine fZ ?_|(refine gd ?_;intro hq)|(refine gg ?_ ?_<;>intro hq))))
   all_goals (refine ar ?_)
   have M:Hd (bf w t.drew):=(D.ou.ae J.ou).drew
   by_cases c:n.toNat+256*o.toNat≤333
   ·have u:decide ((333:Int)<(n.toNat:Int)+256*(o.toNat:Int))=false:=by rw[aA];omega
    have m:=aj (k.ou.trans (ab c))
    go_upto_region 7 with fail
    (refine aV [] 100 (Cl (t.drew) (No)) (by kernel_rfl) (by kernel_rfl) (Cl.eU (X.here t.drew No)) ?_;(repeat' (first|refine fZ ?_|(refine gd ?_;intro hq)|(refine gg ?_ ?_<;>intro hq))))
    all_goals (refine ar ?_)
    go_wp2_with (first|((first|refine aZ rfl ?_|refine bV (by kernel_rfl) (by kernel_rfl) ?_);(repeat' (first|refine fZ ?_|(refine gd ?_;intro hq)|(refine gg ?_ ?_<;>intro hq)));all_goals (refine ar ?_)))
    go_ret3
    refine⟨?_,M.ou.drew⟩
    rw[m.ou]
    try rfl
   ·have u:decide ((333:Int)<(n.toNat:Int)+256*(o.toNat:Int))=true:=by rw[aW];omega
    have m:=aj (k.ou.trans (aa c))
    go_wp2_with (first|((first|refine aZ rfl ?_|refine bV (by kernel_rfl) (by kernel_rfl) ?_);(repeat' (first|refine fZ ?_|(refine gd ?_;intro hq)|(refine gg ?_ ?_<;>intro hq)));all_goals (refine ar ?_)))
    go_ret3
    exact⟨by rw[m.ou];rfl,M.ou⟩
 ·have k:Hd (je a (l.first+i)=none):=by
   rw[Hd,s.ou,aa fun h=>p ⟨h.1,h.2.1⟩]
  cases P with
  | false=>
   clear s p
   refine bK ?_
   refine ar ?_
   refine cS ?_
   go_ret3
   exact⟨by rw[k.ou];rfl,D.ou.ae J.ou⟩
  | true=>
   have L:decide (j=111)=false:=aG fun h=>p ⟨rfl,.inl h⟩
   have W:decide (j=99)=false:=aG fun h=>p ⟨rfl,.inr h⟩
   rw[L] at f;simp only[eF,eS] at f
   rw[W] at q;simp only[eF,eS] at q
   clear s p
   refine bK ?_
   refine ar ?_
   refine cS ?_
   go_ret3
   exact⟨by rw[k.ou];rfl,D.ou.ae J.ou⟩
abbrev sD:TypeId:=107
abbrev sh:TypeId:=81
abbrev Ac:=(Option Addr×Nat)×List Ch
def IH:kJ Ac:=⟨1,fun x=>[.slice x.1.1 x.2.length x.1.2],fun _=>rfl⟩
def ee(first:Nat):List aK→Nat→List Ch→List (List Ch)→Nat→List (List Ch)×Nat
 | [],_,_,out,nx=>(out,nx)
 | s::r,i,deed,out,nx=>match je s (first+i) with
  | none=>(out,nx)
  | some (k,t)=>
   if k=99 then (if t=dU deed.length then ee first r (i+1) [] (out++[deed]) (i+1) else (out,nx))
   else match lu t with
    | none=>(out,nx)
    | some c=>ee first r (i+1) (deed++[c]) out nx
structure wE (w wB:World) (A:Option Addr) (c:Nat) (ys:List Ac):Prop where
 row:bR IH sh w wB A c ys
 own:∀y∈ys,wB.ownsRow 0 sD 3 (.slice y.1.1 y.2.length y.1.2) y.2.length (y.2.flatMap fA.enc)
section
variable {w wB wr u:World} {A:Option Addr} {c:Nat} {ys:List Ac}
theorem wE.nil(h:bf w u):wE w u none 0 []:=⟨bR.nil _ _ _ _ h,fun y hy=>by cases hy⟩
theorem wE.ext(h:wE w wB A c ys)(a:bf wB u):wE w u A c ys:=⟨h.row.on a,fun y hy=>oH (h.own y hy) a⟩
theorem wE.aP(h:wE w wB A c ys){g:Nat}{t:TypeId}{cs:Array Value}(d:Cs wB g t cs)(f:sh≠t)(i:sD≠t)(a:al (fun b=>b=g) wB u)(j:w.heap.size≤g):wE w u A c ys:=
 ⟨h.row.aP a (h.row.ext.trans a fun b hb e=>by have e:b=g:=e;omega) (aO h.row.own d f),fun y hy=>cl (h.own y hy) a (aO (h.own y hy) d i)⟩
theorem wE.grow {f:Option Addr} {i:Nat} {a:List Ch} (h:wE w wB A c ys) (m:wB.ownsRow 0 sD 3 (.slice f a.length i) a.length (a.flatMap fA.enc)) {j:Option Addr} {k:Nat} {l:World}
  (d:l.ownsRow 0 sh 1 (.slice j (ys.length+1:Nat) k) (ys.length+1) (ys.flatMap IH.enc++[((f,i),a)].flatMap IH.enc)) (n:wB.grownBy l (Value.slice A ys.length c).ownBlock)
  (p:(Value.slice j (ys.length+1:Nat) k).ownBlock=(Value.slice A ys.length c).ownBlock∨(Value.slice j (ys.length+1:Nat) k).ownBlock=some wB.heap.size) :
  wE w l j k (ys++[((f,i),a)]):=by
 have o:al (fun b=>(Value.slice A ys.length c).ownBlock=some b) wB l:=(al.refl _ _).grown n fun g e=>.inr e
 have q:=h.row.grow (ys:=[((f,i),a)]) rfl d n p
 refine⟨q,fun y hy=>?_⟩
 rcases az.1 hy with hy|hy
 ·exact cl (h.own y hy) o fun g h1 h2=>fG (h.own y hy) h.row.own (by decide) g h1 h2
 ·obtain rfl:=aC.1 hy
  exact cl m o fun g h1 h2=>fG m h.row.own (by decide) g h1 h2
end
def Uy(w:World)(A:Option Addr)(n:Nat)(ys:List Ac):Prop:=di IH w A n ys∧∀y∈ys,di fA w y.1.1 y.2.length y.2
theorem QV:(Tryz.prog.info? sh).map (fun i=>(i.zero,i.size,i.bytes))=some (some (.slice none 0 0),1,24):=by kernel_rfl
theorem Vg:tf Tryz.prog 160 sh 1:=tf.mk' Tryz.underlying160 QV rfl (by omega) (by omega)
theorem Ql:(Tryz.prog.info? sD).map (fun i=>(i.zero,i.size,i.bytes))=some (some (.agg #[.string ⟨#[]⟩,.string ⟨#[]⟩,.bool false]),3,40):=by kernel_rfl
theorem N9:tf Tryz.prog 81 sD 3:=tf.mk' Tryz.underlying81 Ql rfl (by omega) (by omega)
theorem Vu{w:World}{g:Nat}{t:TypeId}{cs:List Value}(h:Cs w g t cs.toArray):Rd w (some ⟨g,0,none⟩) 1 cs.length cs:=by
 refine⟨by simp,fun _=>⟨g,0,rfl,fun j u hu=>?_⟩⟩
 rw[bX,h.cell]
 simpa using hu
theorem jt(first:Nat)(s:aK)(r:List aK)(i:Nat)(a:List Ch)(out:List (List Ch))(b:Nat):ee first (s::r) i a out b=match je s (first+i) with
 | none=>(out,b)
 | some (k,t)=>
  if k=99 then (if t=dU a.length then ee first r (i+1) [] (out++[a]) (i+1) else (out,b))
  else match lu t with
   | none=>(out,b)
   | some c=>ee first r (i+1) (a++[c]) out b:=rfl
theorem I3    (h:je s n=some (k,t)):k=111∨k=99:=by
 unfold je at h
 split at h
 ·rename_i hh
  injection h with h
  injection h with h1 h2
  rw[←h1];exact hh.2.1
 ·cases h
theorem LY    (h:je s n=some (k,t)):t.length≤s.length:=by
 unfold je at h
 split at h
 ·injection h with h
  injection h with h1 h2
  rw[←h2,be,aH]
  omega
 ·cases h
theorem Nb{w:World}{l:eX} (h:lh w l dg)(a:l.many≤1000)(b:l.next≤l.many):Calls Tryz.prog 130 #[pt l.g] w fun e w'=>e=.returned (.int .i64 ((l.many-l.next:Nat):Int))∧bf w w':=by
 have c:w.cell? ⟨l.g,2,none⟩=some (.int .i64 (l.many:Nat)):=Cs.cell h 2
 have d:w.cell? ⟨l.g,4,none⟩=some (.int .i64 (l.next:Nat)):=Cs.cell h 4
 obtain⟨-,-,f,-,i⟩:=h.x
 have e:((l.many-l.next:Nat):Int)=(l.many:Int)-(l.next:Int):=by omega
 clear h
 go_enter Tryz.func130,Tryz.ntmps130
 go_upto_region 1 with fail
 (refine aV [] 100 (Cl (w) (No)) (by kernel_rfl) (by kernel_rfl) (Cl.eU (X.here w No)) ?_;refine bK ?_)
 all_goals (refine ar ?_)
 go_wp2_with fail
 go_ret
 exact⟨by rw[e];rfl,(al.refl _ _).drew⟩
theorem Sw{w:World}{l:eX} (h:lh w l dg)(a:l.many≤1000)(b:l.first≤1000000000000):Calls Tryz.prog 164 #[pt l.g] w fun e w'=>e=.returned (.int .i64 ((l.first+l.many:Nat):Int))∧bf w w':=by
 have c:w.cell? ⟨l.g,2,none⟩=some (.int .i64 (l.many:Nat)):=Cs.cell h 2
 have d:w.cell? ⟨l.g,3,none⟩=some (.int .i64 (l.first:Nat)):=Cs.cell h 3
 obtain⟨-,-,f,i,-⟩:=h.x
 have e:((l.first+l.many:Nat):Int)=(l.first:Int)+(l.many:Int):=by omega
 clear h
 go_enter Tryz.func164,Tryz.ntmps164
 go_upto_region 1 with fail
 (refine aV [] 100 (Cl (w) (No)) (by kernel_rfl) (by kernel_rfl) (Cl.eU (X.here w No)) ?_;refine bK ?_)
 all_goals (refine ar ?_)
 go_wp2_with fail
 go_ret
 exact⟨by rw[e];rfl,(al.refl _ _).drew⟩
def Nd(w:World)(dg from_ many first:Nat)(R:List (List Ch)×Nat)(e:Ending)(w':World):Prop:=∃g oA oc ys,e=.returned (.tuple #[pt g,.slice oA (ys:List Ac).length oc,.nilIface])∧w.heap.size≤g∧lh w' ⟨g,from_,many,first,R.2⟩ dg∧wE w w' oA oc ys∧ys.map (·.2)=R.1∧bf w w'
@[go_sem] theorem Uk (dg:Nat) (a b c:Int) (w:World):(Instr.build DQ #[(0,pt dg),(1,.int .i64 a),(2,.int .i64 b),(3,.int .i64 c)]).run Tryz.prog w=.ok (.agg #[pt dg,.int .i64 a,.int .i64 b,.int .i64 c,.int .i64 0]) w:=run_build w DQ _ _ (by kernel_rfl)
theorem Kf{w:World}(a3:Ml w) {d:Dk}(h:ef w r d)(av:d.down=false)(hw:∀s∈d.now,s.length=340)(f l first:Nat)(h1:1≤l)(h2:f+l≤d.now.length)(h3:1≤first)(h4:first≤1000000000000) :
  Calls Tryz.prog 86 #[pt r.g,.int .i64 f,.int .i64 l,.int .i64 first] w (Nd w r.g f l first (ee first ((d.now.drop f).take l) 0 [] [] 0)):=by
 have HS:=aj (fun(v:World) (hv:bf w v)=>qX (h.ext hv))
 have aD:=aj (fun(v:World) (hv:bf w v)=>Nl (h.ext hv))
 rw[av] at aD
 have hn:=h.vf.eA
 have g1:decide ((f:Int)<0)=false:=aG (by omega)
 have g2:decide ((l:Int)<1)=false:=aG (by omega)
 have g3:decide ((d.now.length:Int)<(l:Int))=false:=aG (by omega)
 have g4:decide ((d.now.length:Int)-(l:Int)<(f:Int))=false:=aG (by omega)
 have g5:decide ((first:Int)<1)=false:=aG (by omega)
 have H:=aj h
 have HM:=aj a3
 have HW:=aj hw
 have bc:=aj av
 obtain⟨L,hL⟩:∃L,L=(d.now.drop f).take l:=⟨_,rfl⟩
 rw[←hL]
 have bn:L.length=l:=by rw[hL,aH,be];omega
 have HG:Hd (∀j s,L[j]?=some s→d.now[f+j]?=some s∧s.length=340):=fun j s hj=>by
  have a4:d.now[f+j]?=some s:=by
   rw[hL,List.getElem?_take] at hj
   split at hj
   ·rwa [cQ] at hj
   ·cases hj
  exact⟨a4,hw s (ah a4)⟩
 clear h a3 hw av hL
 go_enter Tryz.func86,Tryz.ntmps86
 go_wp2_with (refine dN ?_)
 refine(HS.ou _ (al.refl _ _)).mono ?_
 rintro e u1 ⟨rfl,p⟩
 have U1:=aj p
 clear p
 go_wp2_with (refine dN ?_)
 refine(HS.ou _ U1.ou).mono ?_
 rintro e W ⟨rfl,p⟩
 have G:=aj (U1.ou.ae p)
 clear p U1
 go_wp2_with (refine dN ?_)
 refine(aD.ou _ G.ou).mono ?_
 rintro e u3 ⟨rfl,p⟩
 have U3:=aj (G.ou.ae p)
 clear p G HS aD
 obtain⟨g,I⟩:∃g,g=u3.heap.size:=⟨_,rfl⟩
 obtain⟨w1,Z⟩:∃u,u=u3.alloc (.cells #[pt r.g,.int .i64 f,.int .i64 l,.int .i64 first,.int .i64 0] DQ):=⟨_,rfl⟩
 have x1:bf u3 w1:=by rw[Z];exact(al.refl No u3).alloc _
 have A1:Hd (lh w1 ⟨g,f,l,first,0⟩ r.g):=by rw[Z,I];exact Cs.new _ _ _
 have X1:=aj (U3.ou.ae x1)
 have O:w.heap.size≤g:=by rw[I];exact U3.ou.size
 clear x1 U3
 go_upto_region 6 with fail
 rw[←Z,←I]
 clear Z I
 go_wp2_with (refine lM ?_ ?_<;>intro hq)
 go_loopw [12,13,55] (fun o dd i wr=>∃j:Nat,j≤l∧i=.int .i64 j∧∃X Y ys dA dc a C wB,o=.slice X (ys:List Ac).length Y∧dd=.slice dA (a:List Ch).length dc∧wE w wB X Y ys∧lh wB ⟨g,f,l,first,C⟩ r.g∧bR fA sD wB wr dA dc a∧ys.length≤j∧a.length≤j∧ee first L 0 [] [] 0=ee first (L.drop j) j a (ys.map (·.2)) C) (fun _ _ i _=>l-(intOf i).toNat)
 case atStart=>exact⟨0,au _,rfl,none,0,[],none,0,[],0,w1,rfl,rfl,wE.nil X1.ou,A1.ou,bR.nil _ _ _ _ (al.refl _ _),aq _,aq _,rfl⟩
 case round=>
  obtain⟨j,hj,rfl,X,Y,ys,dA,dc,a,C,wB,rfl,rfl,hD,hA,hF,bo,bp,a5⟩:=hrel
  have DD:=aj hD
  have LA:=aj hA
  have J:=aj hF
  have SC:=aj a5
  have XB:=aj (hD.row.ext)
  have XR:=aj (hD.row.ext.ae hF.ext)
  clear hD hA hF a5
  by_cases bs:j<l
  ·obtain⟨ac,P⟩:∃s,L[j]?=some s:=⟨L[j]'(by omega),aF (by omega)⟩
   obtain⟨ao,ap⟩:=HG.ou j ac P
   have ag:=aj (SA (i:=j) (LA.ou.ext J.ou.ext) (H.ou.ext XR.ou) bc.ou ac ao ap h4 (by omega))
   have D:Hd (ee first L 0 [] [] 0=ee first (ac::L.drop (j+1)) j a (ys.map (·.2)) C):=by
    rw[Hd,SC.ou,List.drop_eq_getElem?_toList_append,P]
    try rfl
   clear SC ao P
   cases hlk:je ac (first+j) with
   | none=>
    have F:Hd (ee first L 0 [] [] 0=(ys.map (·.2),C)):=by
     rw[Hd,D.ou,jt,hlk]
    have q:Hd (Calls Tryz.prog 134 #[pt g,.int .i64 j] wr fun e w'=>e=.returned (.tuple #[.int .u8 0,S [],.bool false])∧bf wr w'):=by
     have:=ag.ou
     dsimp only at this
     rw[hlk] at this
     exact this
    clear ag hlk D
    go_wp2_with fail
    refine q.ou.mono ?_
    rintro e u ⟨rfl,p⟩
    go_wp2_with fail
    go_ret3
    refine⟨g,X,Y,ys,rfl,O,?_,DD.ou.ext (J.ou.ext.ae p),?_,XR.ou.ae p⟩
    ·rw[F.ou];exact LA.ou.ext (J.ou.ext.ae p)
    ·rw[F.ou]
   | some kt=>
    obtain⟨k,t⟩:=kt
    have hk:=I3 hlk
    have bd:=LY hlk
    rw[ap] at bd
    have q:Hd (Calls Tryz.prog 134 #[pt g,.int .i64 j] wr fun e w'=>e=.returned (.tuple #[.int .u8 k.toNat,S t,.bool true])∧bf wr w'):=by
     have:=ag.ou
     dsimp only at this
     rw[hlk] at this
     exact this
    have F:Hd (ee first L 0 [] [] 0=if k=99 then (if t=dU a.length then ee first (L.drop (j+1)) (j+1) [] (ys.map (·.2)++[a]) (j+1) else (ys.map (·.2),C))
      else match lu t with
       | none=>(ys.map (·.2),C)
       | some c=>ee first (L.drop (j+1)) (j+1) (a++[c]) (ys.map (·.2)) C):=by
     rw[Hd,D.ou,jt,hlk]
     try rfl
    clear ag hlk D
    by_cases M:k=99
    ·have bg:(((k.toNat:Int))==99)=true:=(BH k 99).trans (aM M)
     have z:=aj (F.ou.trans (ab M))
     have N:=aj (fun v=>DE a.length v)
     clear F hk M
     by_cases ht:t=dU a.length
     ·have A:=aj (z.ou.trans (ab ht))
      rw[←ht] at N
      have gt:(t !=t)=false:=by simp
      clear z ht
      go_wp2_with fail
      refine q.ou.mono ?_
      rintro e u ⟨rfl,p⟩
      have U:=aj p
      clear p q
      go_wp2_with fail
      refine(N.ou _).mono ?_
      rintro e W ⟨rfl,p⟩
      have G:=aj (U.ou.ae p)
      clear p U N
      go_upto_region 14 with fail
      refine cj [3,4,11] (fun _=>True) trivial ?_
      refine dH ?_
      (refine bQ ?_;intro K hK)
      obtain⟨w5,ai⟩:∃v,v=W.alloc (.cells #[.slice dA a.length dc] sh):=⟨_,rfl⟩
      obtain⟨g5,a0⟩:∃x,x=W.heap.size:=⟨_,rfl⟩
      have a6:Cs w5 g5 sh #[.slice dA a.length dc]:=by rw[ai,a0];exact Cs.new _ _ _
      have x5:bf W w5:=by rw[ai];exact(al.refl No _).alloc _
      have X5:bf wr w5:=G.ou.ae x5
      rw[←ai,←a0]
      refine hK _ _ (fun _=>trivial) ?_
      clear hK K ai a0
      refine bj ?_
      refine cH rfl rfl ?_
      intro K hK
      have D5:=DD.ou.ext (J.ou.ext.ae X5)
      have a7:=oH J.ou.own X5
      refine eO (v:=.slice X ys.length Y) (n:=ys.length) (xs:=ys.flatMap IH.enc) Vg rfl rfl rfl D5.row.own (Vu (cs:=[.slice dA a.length dc]) a6) (by simp[Value.oneCell']) (by omega) ?_
      intro A7 c7 w7 Q a1 a8
      have D7:=D5.grow a7 Q a1 a8
      have L5:lh w5 ⟨g,f,l,first,C⟩ r.g:=LA.ou.ext (J.ou.ext.ae X5)
      have O7:al (fun b=>(Value.slice X ys.length Y).ownBlock=some b) w5 w7:=(al.refl _ _).grown a1 fun g e=>.inr e
      have L7:lh w7 ⟨g,f,l,first,C⟩ r.g:=L5.aP O7 fun e=>aO D5.row.own L5 (by decide) _ e rfl
      refine hK _ _ (fun _=>trivial) ?_
      clear hK K Q a1 a8 D5 a7 L5 O7 x5 X5 a6
      refine bj ?_
      have l4:w7.cell? ⟨g,4,none⟩=some (.int .i64 C):=Cs.cell L7 4
      have z4:=Cs.frozen L7 4
      refine dH ?_
      (refine bQ ?_;intro K hK)
      obtain⟨w8,ak⟩:∃v,v=w7.setCell ⟨g,4,none⟩ (.int .i64 ((j:Int)+1)):=⟨_,rfl⟩
      rw[←ak]
      have L8:lh w8 ⟨g,f,l,first,j+1⟩ r.g:=by
       have:=Cs.cM L7 4 (.int .i64 ((j:Int)+1))
       rw[←ak] at this
       exact this
      have O8:al (fun b=>b=g) w7 w8:=by rw[ak];exact(al.refl _ _).at_ _ _
      have D8:=D7.aP L7 (by decide) (by decide) O8 O
      refine hK _ _ (fun _=>trivial) ?_
      clear hK K ak l4 z4 D7 O8 L7
      refine bj ?_
      refine ar ?_
      have bi:=aj L8
      have bk:=aj D8
      clear L8 D8
      go_wp2_with fail
      go_roundw
      case rel=>exact⟨j+1,by omega,by go_num,A7,c7,ys++[((dA,dc),a)],none,0,[],j+1,w8,(by rw[af];rfl),rfl,bk.ou,bi.ou,bR.nil _ _ _ _ (al.refl _ _),by rw[af,bE];omega,au _,by rw[A.ou,cU];rfl⟩
      case measure=>simp[intOf];omega
     ·have A:=aj (z.ou.trans (aa ht))
      have gt:(t==dU a.length)=false:=by simp[ht]
      generalize dU a.length=f4 at N gt
      clear z ht
      go_wp2_with fail
      refine q.ou.mono ?_
      rintro e u ⟨rfl,p⟩
      have U:=aj p
      clear p q
      go_wp2_with fail
      refine(N.ou _).mono ?_
      rintro e W ⟨rfl,p⟩
      have G:=aj (U.ou.ae p)
      clear p U N
      go_wp2_with fail
      go_ret3
      refine⟨g,X,Y,ys,rfl,O,?_,DD.ou.ext (J.ou.ext.ae G.ou),?_,XR.ou.ae G.ou⟩
      ·rw[A.ou];exact LA.ou.ext (J.ou.ext.ae G.ou)
      ·rw[A.ou]
    ·have bg:(((k.toNat:Int))==99)=false:=(BH k 99).trans (aG M)
     have z:=aj (F.ou.trans (aa M))
     have HP:=aj (fun(v:World) (hv:bf w v)=>LD t (by omega) (HM.ou.ext hv))
     clear F hk M
     cases I:lu t with
     | none=>
      have A:Hd (ee first L 0 [] [] 0=(ys.map (·.2),C)):=by rw[Hd,z.ou,I]
      have R:Hd (∀v,bf w v→Calls Tryz.prog 136 #[S t] v fun e w'=>e=.returned (.tuple #[.agg #[S [],S [],.bool false],E 4])∧bf v w'):=fun v hv=>by
       have:=HP.ou v hv
       rw[(qq I).1,(qq I).2] at this
       exact this
      clear HP z I
      go_wp2_with fail
      refine q.ou.mono ?_
      rintro e u ⟨rfl,p⟩
      have U:=aj p
      clear p q
      go_wp2_with fail
      refine(R.ou _ (XR.ou.ae U.ou)).mono ?_
      rintro e W ⟨rfl,p⟩
      have G:=aj (U.ou.ae p)
      clear p U R
      go_wp2_with fail
      go_ret3
      have U3:=G.ou.alloc (.cells #[S [],S [],.bool false] sD)
      refine⟨g,X,Y,ys,rfl,O,?_,DD.ou.ext (J.ou.ext.ae U3),?_,XR.ou.ae U3⟩
      ·rw[A.ou];exact LA.ou.ext (J.ou.ext.ae U3)
      ·rw[A.ou]
     | some ch=>
      have A:Hd (ee first L 0 [] [] 0=ee first (L.drop (j+1)) (j+1) (a++[ch]) (ys.map (·.2)) C):=by rw[Hd,z.ou,I]
      obtain⟨key,B,y⟩:=ch
      have R:Hd (∀v,bf w v→Calls Tryz.prog 136 #[S t] v fun e w'=>e=.returned (.tuple #[.agg #[S key,S B,.bool y],.nilIface])∧bf v w'):=fun v hv=>by
       have:=HP.ou v hv
       rw[(xc I).1,(xc I).2] at this
       exact this
      clear HP z I
      go_wp2_with fail
      refine q.ou.mono ?_
      rintro e u ⟨rfl,p⟩
      have U:=aj p
      clear p q
      go_wp2_with fail
      refine(R.ou _ (XR.ou.ae U.ou)).mono ?_
      rintro e W ⟨rfl,p⟩
      have G:=aj (U.ou.ae p)
      clear p U R
      obtain⟨g6,a2⟩:∃x,x=W.heap.size:=⟨_,rfl⟩
      obtain⟨w6,am⟩:∃v,v=W.alloc (.cells #[S key,S B,.bool y] sD):=⟨_,rfl⟩
      have T:Cs w6 g6 sD #[S key,S B,.bool y]:=by rw[am,a2];exact Cs.new _ _ _
      have x6:bf W w6:=by rw[am];exact(al.refl No _).alloc _
      have C6:=aj T
      have X6:=aj (G.ou.ae x6)
      have q0:w6.cell? ⟨g6,0,none⟩=some (S key):=T.cell 0
      have q1:w6.cell? ⟨g6,1,none⟩=some (S B):=T.cell 1
      have q2:w6.cell? ⟨g6,2,none⟩=some (.bool y):=T.cell 2
      go_upto_region 16 with fail
      rw[←am,←a2]
      clear am a2 x6 T
      have F7:=aj ((J.ou.on X6.ou).on ((al.refl No w6).alloc (.cells #[S key,S B,.bool y] sD)))
      go_wp2_with (first|(at_builtin;go_must (refine dy (v:=.slice dA a.length dc) (n:=a.length) (xs:=a.flatMap fA.enc) rfl N9 rfl rfl rfl F7.ou.own (iQ w6 _ [S key,S B,.bool y]) (by simp[Value.oneCell']) (by omega) ?_);intro A8 c8 w8 V a9 bb;have F8:=aj (F7.ou.grow (m:=1) (ys:=[(key,B,y)]) rfl V a9 bb);clear V a9 bb)|refine dN ?_)
      go_roundw
      case rel=>exact⟨j+1,by omega,by go_num,X,Y,ys,A8,c8,a++[(key,B,y)],C,wB,rfl,(by rw[af];rfl),DD.ou,LA.ou,F8.ou,by omega,by rw[af,bE];omega,A.ou⟩
      case measure=>simp[intOf];omega
  ·obtain rfl:j=l:=by omega
   have D:Hd (ee first L 0 [] [] 0=(ys.map (·.2),C)):=by
    rw[Hd,SC.ou,cr (by omega)]
    try rfl
   clear SC
   go_wp2_with fail
   go_ret3
   refine⟨g,X,Y,ys,rfl,O,?_,DD.ou.ext J.ou.ext,?_,XR.ou⟩
   ·rw[D.ou];exact LA.ou.ext J.ou.ext
   ·rw[D.ou]
end Go.Proofs.YtpgmcijdcnnjpaaGreatDoor
