/- Lemmas for it. -/
import Derived.Test.YtpgmcijdcnnjpaaGreatDoorPk19
set_option linter.all false
set_option maxRecDepth 100000
set_option maxHeartbeats 2000000
namespace Go.Proofs.YtpgmcijdcnnjpaaGreatDoor
open Go Go.RowKit
variable {v w:World} {c g i n:Nat} {a:Int} {s:aK} {A:Option Addr} {L xs:List Ch} {α:Type}
theorem xX(c:UInt8):∀s:aK,(dB c s).1.length+(dB c s).2.1.length≤s.length
 | []=>by simp[dB]
 | x::s=>by
  have ih:=xX c s
  unfold dB
  split
  ·simp
  ·simp;omega
theorem Cw(key a:aK)(b:Bool):dQ (key,a,b)=if (dB 47 key).2.2&&((dB 47 key).1==[102]||(dB 47 key).1==[100])&&i7 (dB 47 key).2.1&&!(b&&!(a==[])) then
  (if ((dB 47 key).1==[102]&&decide (20<a.length))||decide (300<a.length) then 2 else 0) else 3:=by
 obtain⟨g,i⟩:=Ks key
 by_cases c:∃k n,(k=102∨k=100)∧key=k::47::n
 ·obtain⟨k,n,c,rfl⟩:=c
  rw[i k n c rfl]
  unfold dQ rD DH
  rcases c with rfl|rfl<;>simp[Or.comm]
 ·have j:rD (key,a,b)=false:=by
   unfold rD
   match key with
   | []=>rfl
   | [_]=>rfl
   | x::y::n=>
    simp only[eD]
    left;left
    by_cases f:y=47
    ·subst f
     left
     have:¬(x=102∨x=100):=fun h=>c ⟨x,n,h,rfl⟩
     simpa using this
    ·right;simpa using f
  have l:((dB 47 key).2.2&&((dB 47 key).1==[102]||(dB 47 key).1==[100]))=false:=by
   rw[Bool.eq_false_iff]
   intro h
   simp only[aI,cd,bY] at h
   obtain⟨k,d,_,e⟩:=g h.1 h.2
   exact c ⟨k,_,d,e⟩
  unfold dQ
  rw[j,l]
  try rfl
theorem qP(c:Ch)(H:c.1.length≤10000)(N:c.2.1.length≤1000000) (I:Ml w) :
  Calls Tryz.prog 128 #[VB c] w fun e w'=>e=.returned (eT (dQ c))∧bf w w':=by
 obtain⟨key,f,d⟩:=c
 obtain⟨w0,l⟩:∃w0,w0=w.alloc (.cells #[S key,S f,.bool d] 107):=⟨_,rfl⟩
 have n:bf w w0:=by rw[l];exact(al.refl No w).alloc _
 have A:Cs w0 w.heap.size 107 #[S key,S f,.bool d]:=by rw[l];exact Cs.new _ _ _
 have P:w0.cell? ⟨w.heap.size,0,none⟩=some (S key):=A.cell 0
 have Q:∀ξ:X w0 No,ξ.v.cell? ⟨w.heap.size,1,none⟩=some (S f):=A.x id 1
 have R:∀ξ:X w0 No,ξ.v.cell? ⟨w.heap.size,2,none⟩=some (.bool d):=A.x id 2
 have t:=aj (Ur key [47] (by simp at H;omega) (I.ext n))
 rw[uU] at t
 have g:=Cw key f d
 have j:=xX 47 key
 generalize dB 47 key=q at t g j
 obtain⟨J,L,b⟩:=q
 simp only at H N j t g
 have u:=aj (fun v=>wS L v (by omega))
 have i:=aj n
 have a:=aj g
 generalize i7 L=nb at u a
 clear g j A I n
 show Calls Tryz.prog 128 #[.agg #[S key,S f,.bool d]] w _
 go_enter Tryz.func128,Tryz.ntmps128
 go_upto_region 1 with fail
 rw[←l]
 clear l
 go_wp2_with (refine lM ?_ ?_<;>intro hq)
 refine lL (X.here w0 No) (t.ou) fun ξ1 Hξ1=>?_
 clear t
 go_upto_region 2 with fail
 cases b with
 | false=>
  go_wp2_with fail
  go_ret
  exact⟨by rw[a.ou];rfl,i.ou.ae ξ1.h⟩
 | true=>
 obtain⟨o,B⟩:∃k,(J==([102]:aK))=k:=⟨_,rfl⟩
 obtain⟨s,y⟩:∃k,(J==([100]:aK))=k:=⟨_,rfl⟩
 obtain⟨v,O⟩:∃v,(f==([]:aK))=v:=⟨_,rfl⟩
 rw[B,y,O] at a
 have C:∀k:Bool,o=k→o||s=true→Calls Tryz.prog 128 #[.agg #[S key,S f,.bool d]] w (fun e w'=>True)→True:=fun _ _ _ _=>trivial
 clear C
 by_cases D:(o||s)=false
 ·obtain⟨rfl,rfl⟩:o=false∧s=false:=by simpa using D
  go_wp2_with fail
  go_ret
  exact⟨by rw[a.ou];rfl,i.ou.ae ξ1.h⟩
 have E:Hd ((o||s)=true):=by unfold Hd;revert D;cases o<;>cases s<;>simp
 clear D
 refine cj [12] (Cl w0 No) (Cl.of ξ1.h) ?_
 cases o with
 | true=>
  clear E y
  (repeat' (first|(refine dO rfl rfl rfl ?_;intro K hK;go_big_quiet_op;go_big_quiet_on)|(refine dP rfl rfl rfl (by with_reducible rfl) rfl rfl ?_;intro K hK;go_big_quiet_op;go_big_quiet_on)|((first|refine el rfl rfl rfl (by with_reducible rfl) ?_|refine eh rfl rfl rfl (by with_reducible rfl) ?_|refine eo rfl rfl rfl (by with_reducible rfl) ?_);simp only[Act.put,gL,gK,gJ])|(refine eK rfl rfl rfl rfl (fun hq=>?_) (fun hq=>?_)<;>(fail_if_success (guard_hyp hq :ₛ true=true))<;>(fail_if_success (guard_hyp hq :ₛ false=false))<;>first|(exfalso;cases hq;done)|(exfalso;simp only[mu,mh,mj,mm,ne_eq,da,cZ] at hq;omega)|simp only[Act.put,gL,gK,gJ])))
  cases nb with
  | false=>
   (refine bQ ?_;intro K hK);refine kF ξ1 (u.ou _) hK fun m p=>?_;clear hK K;refine bj ?_;(repeat' (first|refine fZ ?_|(refine gd ?_;intro hq)|(refine gg ?_ ?_<;>intro hq)))
   refine ar ?_
   go_wp2_with fail
   go_ret
   exact⟨by rw[a.ou];rfl,i.ou.ae m.h⟩
  | true=>
   cases d<;>cases v <;>
   ·((first|refine cH rfl rfl ?_|refine lI rfl rfl rfl (by with_reducible rfl) rfl ?_);intro K hK;go_simp);refine(u.ou _).mono ?_;rintro e M ⟨rfl,F⟩;obtain⟨m,z⟩:∃ξ:X w0 No,ξ.v=M:=⟨⟨M,ξ1.h.ae F⟩,rfl⟩;subst z;have p:=aj F;refine⟨_,rfl,hK _ _ (fun _=>⟨m,rfl⟩) ?_⟩;clear hK K F;simp only[Act.put,gL,gK,gJ];(repeat' (first|(refine dO rfl rfl rfl ?_;intro K hK;go_big_quiet_op;go_big_quiet_on)|(refine dP rfl rfl rfl (by with_reducible rfl) rfl rfl ?_;intro K hK;go_big_quiet_op;go_big_quiet_on)|((first|refine el rfl rfl rfl (by with_reducible rfl) ?_|refine eh rfl rfl rfl (by with_reducible rfl) ?_|refine eo rfl rfl rfl (by with_reducible rfl) ?_);simp only[Act.put,gL,gK,gJ])|(refine eK rfl rfl rfl rfl (fun hq=>?_) (fun hq=>?_)<;>(fail_if_success (guard_hyp hq :ₛ true=true))<;>(fail_if_success (guard_hyp hq :ₛ false=false))<;>first|(exfalso;cases hq;done)|(exfalso;simp only[mu,mh,mj,mm,ne_eq,da,cZ] at hq;omega)|simp only[Act.put,gL,gK,gJ])))
    refine ar ?_
    go_wp2_with (first|((first|refine aZ rfl ?_|refine bV (by kernel_rfl) (by kernel_rfl) ?_);(repeat' (first|(refine dO rfl rfl rfl ?_;intro K hK;go_big_quiet_op;go_big_quiet_on)|(refine dP rfl rfl rfl (by with_reducible rfl) rfl rfl ?_;intro K hK;go_big_quiet_op;go_big_quiet_on)|((first|refine el rfl rfl rfl (by with_reducible rfl) ?_|refine eh rfl rfl rfl (by with_reducible rfl) ?_|refine eo rfl rfl rfl (by with_reducible rfl) ?_);simp only[Act.put,gL,gK,gJ])|(refine eK rfl rfl rfl rfl (fun hq=>?_) (fun hq=>?_)<;>(fail_if_success (guard_hyp hq :ₛ true=true))<;>(fail_if_success (guard_hyp hq :ₛ false=false))<;>first|(exfalso;cases hq;done)|(exfalso;simp only[mu,mh,mj,mm,ne_eq,da,cZ] at hq;omega)|simp only[Act.put,gL,gK,gJ])));all_goals (refine ar ?_)))
    all_goals
     go_ret
     refine⟨?_,i.ou.ae m.h⟩
     rw[a.ou]
     clear a
     by_cases G:20<f.length<;>by_cases r:300<f.length<;>first|(simp[G,r,eT];done)|exact si
 | false=>
  obtain rfl:s=true:=by simpa [Hd] using E.ou
  clear E
  (repeat' (first|refine fZ ?_|(refine gd ?_;intro hq)|(refine gg ?_ ?_<;>intro hq)))
  cases nb with
  | false=>
   (refine bQ ?_;intro K hK);refine kF ξ1 (u.ou _) hK fun m p=>?_;clear hK K;refine bj ?_;(repeat' (first|refine fZ ?_|(refine gd ?_;intro hq)|(refine gg ?_ ?_<;>intro hq)))
   refine ar ?_
   go_wp2_with fail
   go_ret
   exact⟨by rw[a.ou];rfl,i.ou.ae m.h⟩
  | true=>
   cases d<;>cases v <;>
   ·(refine bQ ?_;intro K hK);refine kF ξ1 (u.ou _) hK fun m p=>?_;clear hK K;refine bj ?_;(repeat' (first|refine fZ ?_|(refine gd ?_;intro hq)|(refine gg ?_ ?_<;>intro hq)))
    refine ar ?_
    go_wp2_with (first|((first|refine aZ rfl ?_|refine bV (by kernel_rfl) (by kernel_rfl) ?_);(repeat' (first|refine fZ ?_|(refine gd ?_;intro hq)|(refine gg ?_ ?_<;>intro hq)));all_goals (refine ar ?_)))
    all_goals
     go_ret
     refine⟨?_,i.ou.ae m.h⟩
     rw[a.ou]
     clear a
     by_cases r:300<f.length<;>first|(simp[r,eT];done)|exact si
def bt(z:Int):UInt8:=UInt8.ofNat z.toNat
@[go_sem] theorem Vn (a:Int) (w:World):(convert 233 9 (.slice (some ⟨w.heap.size,0,none⟩) 1 1)).run Tryz.prog (w.alloc (.cells #[.int .u8 a] 5))=.ok (S [bt a]) (w.alloc (.cells #[.int .u8 a] 5)):=by
 rw[run_convert_bytes_arg _ 233 5 Tryz.underlying233 Tryz.underlying5 w.heap.size 0 1 1 [a] rfl (fun i hi=>?_) 9 Tryz.underlying9]
 ·rfl
 ·rw[(Cs.new w 5 #[.int .u8 a]).cell]
  match i,hi with
  | 0,_=>rfl
@[go_sem] theorem UR (a b:Int) (w:World):(convert 233 9 (.slice (some ⟨w.heap.size,0,none⟩) 2 2)).run Tryz.prog (w.alloc (.cells #[.int .u8 a,.int .u8 b] 5))=.ok (S [bt a,bt b]) (w.alloc (.cells #[.int .u8 a,.int .u8 b] 5)):=by
 rw[run_convert_bytes_arg _ 233 5 Tryz.underlying233 Tryz.underlying5 w.heap.size 0 2 2 [a,b] rfl (fun i hi=>?_) 9 Tryz.underlying9]
 ·rfl
 ·rw[(Cs.new w 5 #[.int .u8 a,.int .u8 b]).cell]
  match i,hi with
  | 0,_=>rfl
  | 1,_=>rfl
@[go_sem] theorem Vx (a b c d:Int) (w:World):(convert 233 9 (.slice (some ⟨w.heap.size,0,none⟩) 4 4)).run Tryz.prog (w.alloc (.cells #[.int .u8 a,.int .u8 b,.int .u8 c,.int .u8 d] 5))=.ok (S [bt a,bt b,bt c,bt d]) (w.alloc (.cells #[.int .u8 a,.int .u8 b,.int .u8 c,.int .u8 d] 5)):=by
 rw[run_convert_bytes_arg _ 233 5 Tryz.underlying233 Tryz.underlying5 w.heap.size 0 4 4 [a,b,c,d] rfl (fun i hi=>?_) 9 Tryz.underlying9]
 ·rfl
 ·rw[(Cs.new w 5 #[.int .u8 a,.int .u8 b,.int .u8 c,.int .u8 d]).cell]
  match i,hi with
  | 0,_=>rfl
  | 1,_=>rfl
  | 2,_=>rfl
  | 3,_=>rfl
theorem QE   (h:Cs w g 5 #[.int .u8 a]):(convert 233 9 (.slice (some ⟨g,0,none⟩) 1 1)).run Tryz.prog w=.ok (S [bt a]) w:=by
 rw[run_convert_bytes_arg _ 233 5 Tryz.underlying233 Tryz.underlying5 g 0 1 1 [a] rfl (fun i hi=>?_) 9 Tryz.underlying9]
 ·rfl
 ·rw[h.cell]
  match i,hi with
  | 0,_=>rfl
theorem Rt  {b:Int}(h:Cs w g 5 #[.int .u8 a,.int .u8 b]):(convert 233 9 (.slice (some ⟨g,0,none⟩) 2 2)).run Tryz.prog w=.ok (S [bt a,bt b]) w:=by
 rw[run_convert_bytes_arg _ 233 5 Tryz.underlying233 Tryz.underlying5 g 0 2 2 [a,b] rfl (fun i hi=>?_) 9 Tryz.underlying9]
 ·rfl
 ·rw[h.cell]
  match i,hi with
  | 0,_=>rfl
  | 1,_=>rfl
def gE(c:Ch):aK:=bt (if c.2.2 then 1 else 0)::bt (c.1.length%256:Int)::(c.1++c.2.1)
def EX(c:Ch):aK:=if dQ c=0 then gE c else []
theorem Lr(c:Ch)(t:c.1.length≤10000)(u:c.2.1.length≤1000000) (x:Ml w) :
  Calls Tryz.prog 223 #[VB c] w fun e w'=>e=.returned (.tuple #[S (EX c),eT (dQ c)])∧bf w w':=by
 obtain⟨key,b,a⟩:=c
 obtain⟨w0,f⟩:∃w0,w0=w.alloc (.cells #[S key,S b,.bool a] 107):=⟨_,rfl⟩
 have j:bf w w0:=by rw[f];exact(al.refl No w).alloc _
 have m:Cs w0 w.heap.size 107 #[S key,S b,.bool a]:=by rw[f];exact Cs.new _ _ _
 have C:w0.cell? ⟨w.heap.size,0,none⟩=some (S key):=m.cell 0
 have D:w0.cell? ⟨w.heap.size,1,none⟩=some (S b):=m.cell 1
 have F:w0.cell? ⟨w.heap.size,2,none⟩=some (.bool a):=m.cell 2
 have g:=aj m
 have r:=aj (qP (key,b,a) t u (x.ext j))
 have n:Hd (EX (key,b,a)=if dQ (key,b,a)=0 then gE (key,b,a) else []):=rfl
 have p:=oL (key,b,a)
 generalize dQ (key,b,a)=bad at r n p
 simp only at t u
 show Calls Tryz.prog 223 #[.agg #[S key,S b,.bool a]] w _
 have k:=aj j
 clear m j x
 go_enter Tryz.func223,Tryz.ntmps223
 go_upto_region 1 with fail
 rw[←f]
 clear f
 go_wp2_with (first|((first|refine aZ rfl ?_|refine bV (by kernel_rfl) (by kernel_rfl) ?_);(repeat' (first|refine fZ ?_|(refine gd ?_;intro hq)|(refine gg ?_ ?_<;>intro hq)));all_goals (refine ar ?_)))
 refine(r.ou).mono ?_;rintro e y ⟨rfl,s⟩;obtain⟨d,q⟩:∃ξ:X w0 No,ξ.v=y:=⟨⟨y,(X.here w0 No).h.ae s⟩,rfl⟩;subst q;have z:=aj s;clear s
 clear r
 have G:d.v.cell? ⟨w.heap.size,2,none⟩=some (.bool a):=(g.ou.aP d.h id).cell 2
 have H:d.v.cell? ⟨w.heap.size,0,none⟩=some (S key):=(g.ou.aP d.h id).cell 0
 have I:∀o,(d.v.alloc o).cell? ⟨w.heap.size,0,none⟩=some (S key):=fun o=>(g.ou.aP (d.h.alloc o) id).cell 0
 have J:∀o,(d.v.alloc o).cell? ⟨w.heap.size,1,none⟩=some (S b):=fun o=>(g.ou.aP (d.h.alloc o) id).cell 1
 by_cases l:bad=0
 ·have i:Hd (EX (key,b,a)=gE (key,b,a)):=by rw[Hd,n.ou,ab l]
  subst l
  clear n
  try rw[cO]
  cases a <;>
  ·go_wp2_with (first|((first|refine aZ rfl ?_|refine bV (by kernel_rfl) (by kernel_rfl) ?_);(repeat' (first|refine fZ ?_|(refine gd ?_;intro hq)|(refine gg ?_ ?_<;>intro hq)));all_goals (refine ar ?_)))
   go_ret2
   exact⟨by rw[i.ou];simp[gE,eT],k.ou.ae (d.h.alloc _)⟩
 ·have i:Hd (EX (key,b,a)=[]):=by rw[Hd,n.ou,aa l]
  clear n
  try rw[bS l]
  have A:Hd (eT bad=E bad):=bS l
  have B:0<bad:=by omega
  clear l p
  go_wp2_with (first|((first|refine aZ rfl ?_|refine bV (by kernel_rfl) (by kernel_rfl) ?_);(repeat' (first|refine fZ ?_|(refine gd ?_;intro hq)|(refine gg ?_ ?_<;>intro hq)));all_goals (refine ar ?_)))
  go_ret2
  first
   | exact⟨by rw[i.ou,A.ou];rfl,k.ou.ae d.h⟩
   | exact⟨by rw[i.ou];rfl,k.ou.ae d.h⟩
def EF(s:aK):Option Ch:=
 match s with
 | g::n::r=>if g.toNat≤1∧n.toNat≤r.length then some (r.take n.toNat,r.drop n.toNat,g==1) else none
 | _=>none
def lu(s:aK):Option Ch:=(EF s).filter fun c=>dQ c==0
def M9(s:aK):Ch:=(lu s).getD ([],[],false)
def Gz(s:aK):Int:=if (lu s).isSome then 0 else 4
theorem qq (h:lu s=none):VB (M9 s)=.agg #[S [],S [],.bool false]∧Gz s=4:=by
 unfold M9 Gz;rw[h];exact⟨rfl,rfl⟩
theorem xc {c:Ch}(h:lu s=some c):M9 s=c∧Gz s=0:=by
 unfold M9 Gz;rw[h];exact⟨rfl,rfl⟩
theorem yJ{a b c d:Value}(h:a=c)(k:b=d):Ending.returned (.tuple #[a,b])=.returned (.tuple #[c,d]):=by rw[h,k]
theorem yO {b:Nat}{x y z:Value}(h:Cs w b 107 #[x,y,z]):(loadVar 107 ⟨b,0,none⟩).run Tryz.prog w=.ok (.agg #[x,y,z]) w:=by
 have a:=h.cell 0
 have c1:=h.cell 1
 have c:=h.cell 2
 simp only[aB,aQ,aX] at a c1 c
 go_simp
theorem LD(s:aK)(h1:s.length≤10000) (hm:Ml w) :
  Calls Tryz.prog 136 #[S s] w fun e w'=>e=.returned (.tuple #[VB (M9 s),eT (Gz s)])∧bf w w':=by
 have i:bf w (w.alloc (.cells #[S [],S [],.bool false] 107)):=(al.refl No w).alloc _
 by_cases j:s.length<2
 ·have d:=aj (qq (s:=s) (by
   match s,j with
   | [],_=>rfl
   | [_],_=>rfl
   | _::_::_,j=>simp at j;omega))
  have c:=aj i
  clear i
  go_enter Tryz.func136,Tryz.ntmps136
  go_wp2_with (first|((first|refine aZ rfl ?_|refine bV (by kernel_rfl) (by kernel_rfl) ?_);(repeat' (first|(refine dO rfl rfl rfl ?_;intro K hK;go_big_quiet_op;go_big_quiet_on)|(refine dP rfl rfl rfl (by with_reducible rfl) rfl rfl ?_;intro K hK;go_big_quiet_op;go_big_quiet_on)|((first|refine el rfl rfl rfl (by with_reducible rfl) ?_|refine eh rfl rfl rfl (by with_reducible rfl) ?_|refine eo rfl rfl rfl (by with_reducible rfl) ?_);simp only[Act.put,gL,gK,gJ])|(refine eK rfl rfl rfl rfl (fun hq=>?_) (fun hq=>?_)<;>(fail_if_success (guard_hyp hq :ₛ true=true))<;>(fail_if_success (guard_hyp hq :ₛ false=false))<;>first|(exfalso;cases hq;done)|(exfalso;simp only[mu,mh,mj,mm,ne_eq,da,cZ] at hq;omega)|simp only[Act.put,gL,gK,gJ])));all_goals (refine ar ?_)))
  refine eP rfl rfl rfl (yO (Cs.new w _ _)) ?_
  exact⟨yJ d.ou.1.symm (by rw[d.ou.2];rfl),c.ou⟩
 ·obtain⟨g,n,r,rfl⟩:∃g n r,s=g::n::r:=by
   match s,j with
   | g::n::r,_=>exact⟨g,n,r,rfl⟩
   | [],j=>simp at j
   | [_],j=>simp at j
  simp only[an] at h1 j
  have c:=aj i
  have hn:=n.toNat_lt
  have ag:=g.toNat_lt
  clear i
  by_cases l:g.toNat≤1∧n.toNat≤r.length
  ·have f:Hd (EF (g::n::r)=some (r.take n.toNat,r.drop n.toNat,g==1)):=ab l
   obtain⟨P,Q⟩:=l
   have E:((g.toNat:Int)==1)=(g==1):=by
    rw[eu,bY,bY]
    constructor
    ·intro h;exact im.1 (show g.toNat=(1:UInt8).toNat by simp;omega)
    ·rintro rfl;rfl
   obtain⟨k,hk⟩:∃k,n.toNat=k:=⟨_,rfl⟩
   rw[hk] at f hn Q
   have R:List.drop 2 (List.take (2+k) (g::n::r))=r.take k:=by rw[fL];rfl
   have T:List.drop (2+k) (g::n::r)=r.drop k:=by rw[fL];rfl
   obtain⟨a,m⟩:∃a,a=w.alloc (.cells #[S [],S [],.bool false] 107):=⟨_,rfl⟩
   rw[←m] at c
   have u:Hd (Cs a w.heap.size 107 #[S [],S [],.bool false]):=by rw[m];exact Cs.new _ _ _
   have U:=aj (hm.ext c.ou)
   clear hm
   obtain⟨p,H⟩:∃p,p=w.heap.size:=⟨_,rfl⟩
   rw[←H] at u
   have I:Hd (∀v,bf a v→Calls Tryz.prog 128 #[.agg #[S (r.take k),S (r.drop k),.bool (g==1)]] v fun e w'=>e=.returned (eT (dQ (r.take k,r.drop k,g==1)))∧bf v w'):=fun v hv=>qP (w:=v) (r.take k,r.drop k,g==1) (by simp;omega) (by simp;omega) (U.ou.ext hv)
   have F:=oL (r.take k,r.drop k,g==1)
   have C:Hd (lu (g::n::r)=if dQ (r.take k,r.drop k,g==1)=0 then some (r.take k,r.drop k,g==1) else none):=by
    unfold Hd lu
    rw[f.ou]
    by_cases h:dQ (r.take k,r.drop k,g==1)=0<;>simp[h,Option.filter]
   generalize dQ (r.take k,r.drop k,g==1)=bad at I C F
   obtain⟨J,t⟩:∃J,J=(g==1):=⟨_,rfl⟩
   rw[←t] at I C E
   clear t f
   have V:Hd (w.heap.size≤p):=by rw[Hd,H];exact aq _
   go_enter Tryz.func136,Tryz.ntmps136
   go_upto_region 1 with fail
   rw[show w.alloc (Obj.cells #[Value.string ⟨#[]⟩,Value.string ⟨#[]⟩,Value.bool false] 107)=a from m.symm,←H]
   clear m H
   go_wp2_with (first|((first|refine aZ rfl ?_|refine bV (by kernel_rfl) (by kernel_rfl) ?_);(repeat' (first|(refine dO rfl rfl rfl ?_;intro K hK;go_big_quiet_op;go_big_quiet_on)|(refine dP rfl rfl rfl (by with_reducible rfl) rfl rfl ?_;intro K hK;go_big_quiet_op;go_big_quiet_on)|((first|refine el rfl rfl rfl (by with_reducible rfl) ?_|refine eh rfl rfl rfl (by with_reducible rfl) ?_|refine eo rfl rfl rfl (by with_reducible rfl) ?_);simp only[Act.put,gL,gK,gJ])|(refine eK rfl rfl rfl rfl (fun hq=>?_) (fun hq=>?_)<;>(fail_if_success (guard_hyp hq :ₛ true=true))<;>(fail_if_success (guard_hyp hq :ₛ false=false))<;>first|(exfalso;cases hq;done)|(exfalso;simp only[mu,mh,mj,mm,ne_eq,da,cZ] at hq;omega)|simp only[Act.put,gL,gK,gJ])));all_goals (refine ar ?_)))
   refine aV [10,11] 11 (Cl a No) (by kernel_rfl) (by kernel_rfl) (Cl.of (al.refl _ _).drew) ?_
   (repeat' (first|(refine dO rfl rfl rfl ?_;intro K hK;go_big_quiet_op;go_big_quiet_on)|(refine dP rfl rfl rfl (by with_reducible rfl) rfl rfl ?_;intro K hK;go_big_quiet_op;go_big_quiet_on)|((first|refine el rfl rfl rfl (by with_reducible rfl) ?_|refine eh rfl rfl rfl (by with_reducible rfl) ?_|refine eo rfl rfl rfl (by with_reducible rfl) ?_);simp only[Act.put,gL,gK,gJ])|(refine eK rfl rfl rfl rfl (fun hq=>?_) (fun hq=>?_)<;>(fail_if_success (guard_hyp hq :ₛ true=true))<;>(fail_if_success (guard_hyp hq :ₛ false=false))<;>first|(exfalso;cases hq;done)|(exfalso;simp only[mu,mh,mj,mm,ne_eq,da,cZ] at hq;omega)|simp only[Act.put,gL,gK,gJ])))
   ((first|refine cH rfl rfl ?_|refine lI rfl rfl rfl (by with_reducible rfl) rfl ?_);intro K hK;go_simp)
   refine hK _ _ (fun _=>Cl.of ((al.refl No a).drew.alloc _)) ?_
   clear hK K
   simp only[Act.put,gL,gK,gJ]
   ((first|refine cH rfl rfl ?_|refine lI rfl rfl rfl (by with_reducible rfl) rfl ?_);intro K hK;go_simp)
   refine hK _ _ (fun A=>absurd rfl A) ?_
   clear hK K
   simp only[Act.put,gL,gK,gJ]
   refine ar ?_
   obtain⟨D,o⟩:∃D,D=(a.alloc (.cells #[S (r.take k),S (r.drop k),.bool J] 107)).drew:=⟨_,rfl⟩
   have q:Hd (Cs D a.heap.size 107 #[S (r.take k),S (r.drop k),.bool J]):=by rw[o];exact Cs.new _ _ _
   have X2:Hd (bf a D):=by rw[o];exact((al.refl No a).alloc _).drew
   have W:Hd (a.heap.size≠p):=by have:=u.ou.lt;unfold Hd;omega
   rw[←o]
   clear o
   have L:=q.ou.cell 0
   have M:=q.ou.cell 1
   have N:=q.ou.cell 2
   simp only[aB,aQ,aX] at L M N
   clear R T E
   go_wp2_with (first|((first|refine aZ rfl ?_|refine bV (by kernel_rfl) (by kernel_rfl) ?_);(repeat' (first|(refine dO rfl rfl rfl ?_;intro K hK;go_big_quiet_op;go_big_quiet_on)|(refine dP rfl rfl rfl (by with_reducible rfl) rfl rfl ?_;intro K hK;go_big_quiet_op;go_big_quiet_on)|((first|refine el rfl rfl rfl (by with_reducible rfl) ?_|refine eh rfl rfl rfl (by with_reducible rfl) ?_|refine eo rfl rfl rfl (by with_reducible rfl) ?_);simp only[Act.put,gL,gK,gJ])|(refine eK rfl rfl rfl rfl (fun hq=>?_) (fun hq=>?_)<;>(fail_if_success (guard_hyp hq :ₛ true=true))<;>(fail_if_success (guard_hyp hq :ₛ false=false))<;>first|(exfalso;cases hq;done)|(exfalso;simp only[mu,mh,mj,mm,ne_eq,da,cZ] at hq;omega)|simp only[Act.put,gL,gK,gJ])));all_goals (refine ar ?_)))
   obtain⟨ξ0,rfl⟩:∃ξ:X a No,D=ξ.v:=⟨⟨D,X2.ou⟩,rfl⟩
   refine(I.ou _ X2.ou).mono ?_;rintro e uu ⟨rfl,Y⟩;obtain⟨O,G⟩:∃ξ:X a No,ξ.v=uu:=⟨⟨uu,ξ0.h.ae Y⟩,rfl⟩;subst G;have Z:=aj Y;clear Y
   clear I L M N
   have b:=aj (u.ou.aP O.h id)
   have B:=aj (q.ou.aP Z.ou id)
   have L:=B.ou.cell 0
   have M:=B.ou.cell 1
   have N:=B.ou.cell 2
   have b0:=b.ou.cell 0
   have b1:=b.ou.cell 1
   have b2:=b.ou.cell 2
   have z0:=b.ou.frozen 0
   have z1:=b.ou.frozen 1
   have z2:=b.ou.frozen 2
   simp only[aB,aQ,aX] at L M N b0 b1 b2
   have HS:Hd (∀x y z,Cs (((O.v.setCell ⟨p,0,none⟩ x).setCell ⟨p,1,none⟩ y).setCell ⟨p,2,none⟩ z) p 107 #[x,y,z]):=fun x y z=>((b.ou.cM 0 x).cM 1 y).cM 2 z
   have HO:Hd (∀x y z,bf w (((O.v.setCell ⟨p,0,none⟩ x).setCell ⟨p,1,none⟩ y).setCell ⟨p,2,none⟩ z)):=fun x y z=>(((c.ou.ae O.h).setCell (p:=⟨p,0,none⟩) (.inl V.ou) x).setCell (p:=⟨p,1,none⟩) (.inl V.ou) y).setCell (p:=⟨p,2,none⟩) (.inl V.ou) z
   have A:=W.ou
   have ac:(p≠a.heap.size):=Ne.symm A
   by_cases l:bad=0
   ·have d:=aj (xc (C.ou.trans (ab l)))
    subst l
    try rw[cO]
    clear C
    go_wp2_with (first|((first|refine aZ rfl ?_|refine bV (by kernel_rfl) (by kernel_rfl) ?_);(repeat' (first|(refine dO rfl rfl rfl ?_;intro K hK;go_big_quiet_op;go_big_quiet_on)|(refine dP rfl rfl rfl (by with_reducible rfl) rfl rfl ?_;intro K hK;go_big_quiet_op;go_big_quiet_on)|((first|refine el rfl rfl rfl (by with_reducible rfl) ?_|refine eh rfl rfl rfl (by with_reducible rfl) ?_|refine eo rfl rfl rfl (by with_reducible rfl) ?_);simp only[Act.put,gL,gK,gJ])|(refine eK rfl rfl rfl rfl (fun hq=>?_) (fun hq=>?_)<;>(fail_if_success (guard_hyp hq :ₛ true=true))<;>(fail_if_success (guard_hyp hq :ₛ false=false))<;>first|(exfalso;cases hq;done)|(exfalso;simp only[mu,mh,mj,mm,ne_eq,da,cZ] at hq;omega)|simp only[Act.put,gL,gK,gJ])));all_goals (refine ar ?_)))
    refine eP rfl rfl rfl (yO (HS.ou _ _ _)) ?_
    exact⟨yJ (by rw[d.ou.1]) (by rw[d.ou.2];rfl),HO.ou _ _ _⟩
   ·have d:=aj (qq (C.ou.trans (aa l)))
    try rw[bS l]
    have P:0<bad:=by omega
    clear C l F
    go_wp2_with (first|((first|refine aZ rfl ?_|refine bV (by kernel_rfl) (by kernel_rfl) ?_);(repeat' (first|(refine dO rfl rfl rfl ?_;intro K hK;go_big_quiet_op;go_big_quiet_on)|(refine dP rfl rfl rfl (by with_reducible rfl) rfl rfl ?_;intro K hK;go_big_quiet_op;go_big_quiet_on)|((first|refine el rfl rfl rfl (by with_reducible rfl) ?_|refine eh rfl rfl rfl (by with_reducible rfl) ?_|refine eo rfl rfl rfl (by with_reducible rfl) ?_);simp only[Act.put,gL,gK,gJ])|(refine eK rfl rfl rfl rfl (fun hq=>?_) (fun hq=>?_)<;>(fail_if_success (guard_hyp hq :ₛ true=true))<;>(fail_if_success (guard_hyp hq :ₛ false=false))<;>first|(exfalso;cases hq;done)|(exfalso;simp only[mu,mh,mj,mm,ne_eq,da,cZ] at hq;omega)|simp only[Act.put,gL,gK,gJ])));all_goals (refine ar ?_)))
    refine eP rfl rfl rfl (yO (HS.ou _ _ _)) ?_
    exact⟨yJ d.ou.1.symm (by rw[d.ou.2];rfl),HO.ou _ _ _⟩
  ·have d:=aj (qq (s:=g::n::r) (by
    have:EF (g::n::r)=none:=aa l
    unfold lu;rw[this];rfl))
   go_enter Tryz.func136,Tryz.ntmps136
   go_wp2_with (first|((first|refine aZ rfl ?_|refine bV (by kernel_rfl) (by kernel_rfl) ?_);(repeat' (first|(refine dO rfl rfl rfl ?_;intro K hK;go_big_quiet_op;go_big_quiet_on)|(refine dP rfl rfl rfl (by with_reducible rfl) rfl rfl ?_;intro K hK;go_big_quiet_op;go_big_quiet_on)|((first|refine el rfl rfl rfl (by with_reducible rfl) ?_|refine eh rfl rfl rfl (by with_reducible rfl) ?_|refine eo rfl rfl rfl (by with_reducible rfl) ?_);simp only[Act.put,gL,gK,gJ])|(refine eK rfl rfl rfl rfl (fun hq=>?_) (fun hq=>?_)<;>(fail_if_success (guard_hyp hq :ₛ true=true))<;>(fail_if_success (guard_hyp hq :ₛ false=false))<;>first|(exfalso;cases hq;done)|(exfalso;simp only[mu,mh,mj,mm,ne_eq,da,cZ] at hq;omega)|simp only[Act.put,gL,gK,gJ])));all_goals (refine ar ?_)))
   all_goals first
    | (exfalso;simp only[bh,aA,bY,bl,ne_eq,da,cZ,fT,gy,cd,dM,aI,eD,fS,eF,eS] at *;omega)
    | (
     refine eP rfl rfl rfl (yO (Cs.new w _ _)) ?_
     exact⟨yJ d.ou.1.symm (by rw[d.ou.2];rfl),c.ou⟩)
abbrev ck:Ch→aK:=fun c=>c.1
theorem Fs(c:Ch)(k:aK)(w:World):Calls Tryz.prog 139 #[.agg #[S c.1,S c.2.1,.bool c.2.2],S k] w fun e w'=>e=.returned (.int .i64 (zo c.1 k))∧bf w w':=by
 go_enter Tryz.func139,Tryz.ntmps139
 go_wp2_with (refine dN ?_)
 refine(CO c.1 k _).mono ?_
 rintro e u ⟨rfl,a⟩
 refine cS ?_
 go_ret
 exact⟨rfl,((al.refl No w).alloc _).ae a⟩
theorem TZ    (h:di fA w A n xs)(W:n≤1000000)(k:aK)(I:eQ (·.1) xs) :
  Calls Tryz.prog 138 #[.slice A n c,S k,.func (.func 139) #[] #[]] w fun e w'=>e=.returned (.tuple #[.int .i64 (j9 (·.1) xs k:Nat),.bool (jU (·.1) xs k)])∧bf w w':=by
 have J:=aj I
 clear I
 go_enter Tryz.func138,Tryz.ntmps138
 go_wp2_with (first|((first|refine aZ rfl ?_|refine bV (by kernel_rfl) (by kernel_rfl) ?_);(repeat' (first|refine fZ ?_|(refine gd ?_;intro hq)|(refine gg ?_ ?_<;>intro hq)));all_goals (refine ar ?_)))
 go_loopw [9,10] (fun i j wr=>∃a b:Nat,a≤b∧b≤n∧i=.int .i64 a∧j=.int .i64 b∧(∀p x,p<a→xs[p]?=some x→x.1<k)∧(∀p x,b≤p→xs[p]?=some x→¬x.1<k)∧∃ξ:X w No,wr=ξ.v) (fun i j _=>(intOf j-intOf i).toNat)
 case atStart=>exact⟨0,n,au _,aq _,rfl,rfl,fun p x hp=>by omega,fun p x hp f=>(by have:=(aw.1 f).1;have:=h.1;omega),X.here _ _,rfl⟩
 case round=>
  obtain⟨a,b,O,s,rfl,rfl,L,M,ξ,rfl⟩:=hrel
  have E:=aj L
  have F:=aj M
  clear L M
  by_cases P:a<b
  ·obtain⟨Q,o,x,rfl,f,R,c1,T⟩:=nK h (k:=(a+b)/2) (by omega)
   have C:=aj f
   clear f
   have q:=Jl x.1 k
   have r:=aj (fun w=>Fs x k w)
   obtain⟨m,t⟩:∃m,m=zo x.1 k:=⟨_,rfl⟩
   rw[←t] at q r
   clear t
   by_cases d:x.1<k
   ·rw[aM d] at q
    have z:=aj d
    clear d
    go_wp2_with (first|((first|refine aZ rfl ?_|refine bV (by kernel_rfl) (by kernel_rfl) ?_);(repeat' (first|refine fZ ?_|(refine gd ?_;intro hq)|(refine gg ?_ ?_<;>intro hq)));all_goals (refine ar ?_)))
    refine(r.ou _).mono ?_
    rintro e u ⟨rfl,l⟩
    have U:=aj (ξ.h.ae l)
    clear l
    go_wp2_with (first|((first|refine aZ rfl ?_|refine bV (by kernel_rfl) (by kernel_rfl) ?_);(repeat' (first|refine fZ ?_|(refine gd ?_;intro hq)|(refine gg ?_ ?_<;>intro hq)));all_goals (refine ar ?_)))
    go_roundw
    case rel=>
     refine⟨(a+b)/2+1,b,by omega,s,by go_num,rfl,fun p y hp hy=>?_,F.ou,⟨_,U.ou⟩,rfl⟩
     by_cases e:p=(a+b)/2
     ·subst e
      rw[C.ou] at hy
      injection hy with hy
      exact hy▸z.ou
     ·exact lH (J.ou.Jv (show p<(a+b)/2 by omega) hy C.ou) z.ou
    case measure=>simp[intOf];omega
   ·rw[aG d] at q
    have z:=aj d
    clear d
    go_wp2_with (first|((first|refine aZ rfl ?_|refine bV (by kernel_rfl) (by kernel_rfl) ?_);(repeat' (first|refine fZ ?_|(refine gd ?_;intro hq)|(refine gg ?_ ?_<;>intro hq)));all_goals (refine ar ?_)))
    refine(r.ou _).mono ?_
    rintro e u ⟨rfl,l⟩
    have U:=aj (ξ.h.ae l)
    clear l
    go_wp2_with (first|((first|refine aZ rfl ?_|refine bV (by kernel_rfl) (by kernel_rfl) ?_);(repeat' (first|refine fZ ?_|(refine gd ?_;intro hq)|(refine gg ?_ ?_<;>intro hq)));all_goals (refine ar ?_)))
    go_roundw
    case rel=>
     refine⟨a,(a+b)/2,by omega,by omega,rfl,by go_num,E.ou,fun p y hp hy=>?_,⟨_,U.ou⟩,rfl⟩
     by_cases e:p=(a+b)/2
     ·subst e
      rw[C.ou] at hy
      injection hy with hy
      exact hy▸z.ou
     ·exact fun hl=>z.ou (lH (J.ou.Jv (show(a+b)/2<p by omega) C.ou hy) hl)
    case measure=>simp[intOf];omega
  ·obtain rfl:a=b:=by omega
   have G:Hd (j9 (·.1) xs k=a):=FQ (by rw[h.1];exact s) E.ou (fun x f=>F.ou a x (aq _) f)
   have D:Hd (jU (·.1) xs k=match xs[a]? with|some x=>decide (x.1=k)|none=>false):=by unfold Hd jU;rw[G.ou];cases xs[a]?<;>rfl
   clear E F
   by_cases H:a<n
   ·obtain⟨Q,o,x,rfl,f,R,c1,T⟩:=nK h H
    have g:Hd (jU (·.1) xs k=decide (x.1=k)):=by unfold Hd;rw[D.ou,f]
    clear f D
    have q:=JL x.1 k
    have r:=aj (fun w=>Fs x k w)
    obtain⟨m,t⟩:∃m,m=zo x.1 k:=⟨_,rfl⟩
    rw[←t] at q r
    obtain⟨N,B⟩:∃N,N=decide (x.1=k):=⟨_,rfl⟩
    rw[←B] at q g
    clear t B
    have V:decide ((a:Int)<(n:Int))=true:=by simp;omega
    go_upto_region 8 with fail
    refine cj [11] (Cl w No) (Cl.of ξ.h) ?_
    (repeat' (first|refine fZ ?_|(refine gd ?_;intro hq)|(refine gg ?_ ?_<;>intro hq)))
    ((first|refine cH rfl rfl ?_|refine lI rfl rfl rfl (by with_reducible rfl) rfl ?_);intro K hK;go_simp)
    refine(r.ou _).mono ?_
    rintro e u ⟨rfl,l⟩
    have U:=aj (ξ.h.ae l)
    refine⟨_,rfl,hK _ _ (fun _=>Cl.of U.ou) ?_⟩
    clear hK K l
    simp only[Act.put,gL,gK,gJ]
    (repeat' (first|refine fZ ?_|(refine gd ?_;intro hq)|(refine gg ?_ ?_<;>intro hq)))
    refine ar ?_
    go_wp2_with (first|((first|refine aZ rfl ?_|refine bV (by kernel_rfl) (by kernel_rfl) ?_);(repeat' (first|refine fZ ?_|(refine gd ?_;intro hq)|(refine gg ?_ ?_<;>intro hq)));all_goals (refine ar ?_)))
    go_ret2
    exact⟨(by rw[G.ou,g.ou];try rfl),U.ou⟩
   ·have V:decide ((a:Int)<(n:Int))=false:=by simp;omega
    have g:Hd (jU (·.1) xs k=false):=by
     have:xs[a]?=none:=cg (by rw[h.1];omega)
     unfold Hd
     rw[D.ou,this]
    clear D
    go_wp2_with (first|((first|refine aZ rfl ?_|refine bV (by kernel_rfl) (by kernel_rfl) ?_);(repeat' (first|refine fZ ?_|(refine gd ?_;intro hq)|(refine gg ?_ ?_<;>intro hq)));all_goals (refine ar ?_)))
    all_goals (go_ret2;exact⟨(by rw[G.ou,g.ou];try rfl),ξ.h⟩)
theorem IN   {cs:List Value}(h:Rd w A n 3 cs)(j:∀u∈cs,u.oneCell'=true)(k:A=none→n=0)(o:n≤1000000) :
  Calls Tryz.prog 137 #[.slice A n c] w fun e w'=>∃b d,e=.returned (.slice b n d)∧w'.ownsRow 0 107 3 (.slice b n d) n cs∧bf w w'∧∀g,(Value.slice b n d).ownBlock=some g→w.heap.size≤g:=by
 have p:=fun(W:World)=>Lib.run_eql_slice_nil (P:=Tryz.prog) W 81 107 A n c 0 0 Tryz.underlying81
 rcases A with _|ad
 ·obtain rfl:=k rfl
  obtain rfl:cs=[]:=bM (by simpa using h.1)
  go_enter Tryz.func137,Tryz.ntmps137
  go_wp2
  go_ret
  exact⟨none,0,rfl,World.ownsRow_nil _ _ _ _,al.refl _ _,fun g hg=>by simp[Value.ownBlock] at hg⟩
 ·have H:=aj h
  clear h
  go_enter Tryz.func137,Tryz.ntmps137
  go_wp2_with (at_builtin;go_must (refine dy (v:=.slice (some ⟨w.heap.size,0,none⟩) 0 0) (n:=0) (xs:=[]) rfl RZ rfl rfl rfl (tH w _ _) (H.ou.alloc _) j (by omega) ?_);intro b d l a i f)
  go_ret
  rw[bX] at a f
  have m:bf w l:=((al.refl _ _).alloc (.cells #[] 107)).grown i (fun g hg=>by simp[Value.ownBlock] at hg;left;omega)
  refine⟨b,d,?_,by simpa using a,m,fun g hg=>?_⟩
  ·simp[bX]
  ·rcases f with h|h<;>rw[h] at hg<;>simp[Value.ownBlock] at hg<;>omega
theorem Aw    (h:di fA w A n xs)(d:A=none→n=0)(f:n≤1000000) :
  Calls Tryz.prog 137 #[.slice A n c] w fun e w'=>∃a b,e=.returned (.slice a xs.length b)∧bR fA 107 w w' a b xs:=by
 have g:=h.1
 refine(IN (h.rd (by decide)) (tl xs) d f).mono ?_
 rintro e w' ⟨a,b,rfl,i,j,k⟩
 subst g
 exact⟨a,b,rfl,i,j,k⟩
theorem OK:∀(xs:List Ch) (p:Nat) (f:Ch),p<xs.length→(xs.set p f).flatMap fA.enc=(((xs.flatMap fA.enc).set (p*3) (S f.1)).set (p*3+1) (S f.2.1)).set (p*3+2) (.bool f.2.2)
 | [],p,f,h=>by simp at h
 | x::xs,0,f,h=>by simp[fA]
 | x::xs,p+1,f,h=>by
  have ih:=OK xs p f (by simpa using h)
  rw[aR,bN,ih,bN]
  simp only[fA,dV,cW,ey,aR]
theorem Ow{l:List Ch}(h:eQ ck l)(k:aK):kD ck k l=if jU ck l k then pO (j9 ck l k) l else l:=by
 induction l with
 | nil=>simp[kD,jU]
 | cons x l ih=>
  by_cases a:ck x<k
  ·have ih:=ih h.tail
   rw[qb a,nJ a]
   unfold kD at ih ⊢
   rw[dC,ab (by simpa using pa a),ih]
   split<;>rfl
  ·rw[qd a,nM a]
   by_cases e:ck x=k
   ·rw[ab (by simpa using e)]
    unfold kD
    rw[dC,aa (by simpa using e)]
    rw[oO (fun y hy=>e▸h.head y hy)]
    try rfl
   ·rw[aa (by simpa using e)]
    have b:k<ck x:=by
     by_cases c:k<ck x
     ·exact c
     ·exact absurd (DO a c) e
    exact oO fun y hy=>by
     rcases aY.1 hy with rfl|hy
     ·exact b
     ·exact lH b (h.head y hy)
def jq(rows:List Ch)(c:Ch):List Ch:=if c.2.2 then kD ck c.1 rows else jY ck c rows
def dw(rows l:List Ch):List Ch:=l.foldl jq rows
theorem xW{rows:List Ch}(h:eQ ck rows)(c:Ch):eQ ck (jq rows c):=by
 unfold jq;split
 ·exact nU h _
 ·exact ny h _
theorem zS(rows:List Ch)(c:Ch):(jq rows c).length≤rows.length+1:=by
 unfold jq;split
 ·exact iq (dK _ _)
 ·exact mq _ _
theorem Gq(rows l:List Ch){k:Nat}{c:Ch}(h:l[k]?=some c):dw rows (l.take (k+1))=jq (dw rows (l.take k)) c:=by
 unfold dw
 rw[aU,h,eW]
 try rfl
theorem uI:∀(rows l:List Ch),(dw rows l).length≤rows.length+l.length
 | _,[]=>aq _
 | rows,c::l=>by
  have a:=uI (jq rows c) l
  have b:=zS rows c
  show(dw (jq rows c) l).length≤_
  rw[an];omega
theorem sI:∀{rows:List Ch} (_:eQ ck rows) (l:List Ch),eQ ck (dw rows l)
 | _,h,[]=>h
 | _,h,c::l=>sI (xW h c) l
theorem vy  {xs:List α}(h:i<xs.length):(pO i xs).length=xs.length-1:=by
 simp only[pO,af,aH,be];omega
theorem Eo  {x:α}{xs:List α}(h:i≤xs.length):(gT i x xs).length=xs.length+1:=by
 simp only[gT,af,aH,an,be];omega
theorem Re    (F:bR fA 107 w v A c L)(a:i<L.length)(j:L.length≤1000000) :
  Calls Tryz.prog 140 #[.slice A L.length c,.int .i64 i,.int .i64 ((i:Int)+1)] v fun e u=>
   ∃A' c',e=.returned (.slice A' (pO i L).length c')∧bR fA 107 w u A' c' (pO i L):=by
 obtain⟨g,rest,rfl,k,q,l,d,h⟩:=kU F.own (by omega) (by decide)
 refine(Qc k rfl l a d h j).mono ?_
 rintro e u ⟨f,rfl,m,n,o⟩
 have p:=F.new g rfl
 refine⟨some ⟨g,0,none⟩,c,by rw[vy a],?_,F.ext.trans o fun b hb e=>by omega,fun g' hg'=>?_⟩
 ·exact iM m (au _) (bC _ _) n (by rw[vy a];omega) h
 ·simp[Value.ownBlock] at hg'
  omega
theorem QY    (F:bR fA 107 w v A c L)(k:i≤L.length)(m:L.length≤1000000)(x:Ch){f:Nat}(n:Cs v f 107 #[S x.1,S x.2.1,.bool x.2.2])(g:(Value.slice A L.length c).ownBlock≠some f) :
  Calls Tryz.prog 141 #[.slice A L.length c,.int .i64 i,.slice (some ⟨f,0,none⟩) 1 1] v fun e u=>
   ∃a d,e=.returned (.slice a (gT i x L).length d)∧bR fA 107 w u a d (gT i x L):=by
 refine(QO F.own k x n g m).mono ?_
 rintro e u ⟨a,d,rfl,p,l⟩
 have j:=Eo (x:=x) k
 have q:=F.ext.size
 refine⟨a,d,by rw[j],by rw[j];exact p,F.ext.trans l.o fun b hb e=>?_,fun g' hg'=>?_⟩
 ·have:=F.new b e;omega
 ·rw[j] at hg'
  rcases l.b g' hg' with h|h
  ·exact F.new g' h
  ·omega
theorem Ls (h:eQ ck L)(y:Ch):jq L y=if y.2.2 then (if jU ck L y.1 then pO (j9 ck L y.1) L else L) else (if jU ck L y.1 then L.set (j9 ck L y.1) y else gT (j9 ck L y.1) y L):=by
 unfold jq
 rw[Ow h,JQ h]
 try rfl
theorem NZ {k:aK}(h:jU ck L k=true):j9 ck L k<L.length:=by
 unfold jU at h
 rcases dm (j9 ck L k) L.length with hl|hl
 ·exact hl
 ·rw[cg hl] at h;cases h
theorem Da {B:Option Addr}{m d:Nat}{ys:List Ch}(h1:di fA w A n xs)(h2:di fA w B m ys)(hn:n≤10000)(hm:m≤10000)(hr:eQ ck xs) :
  Calls Tryz.prog 87 #[.slice A n c,.slice B m d] w fun e w'=>∃A' c',e=.returned (.slice A' (dw xs ys).length c')∧bR fA 107 w w' A' c' (dw xs ys):=by
 have HC:=aj (Aw (c:=c) h1 h1.kR (by omega))
 have hl:=h1.1
 have HR:=aj hr
 clear h1 hr
 go_enter Tryz.func87,Tryz.ntmps87
 go_wp2_with (refine dN ?_)
 refine(HC.ou).mono ?_;rintro e uu ⟨A0,c0,rfl,f⟩;obtain⟨ξ0,P⟩:∃ξ:X w No,ξ.v=uu:=⟨⟨uu,(X.here w No).h.ae f.ext⟩,rfl⟩;subst P;have ak:=aj f.ext;have F0:=aj f;clear f
 clear HC
 go_wp2_with (refine lM ?_ ?_<;>intro hq)
 go_loopw [0,13] (fun r i wr=>∃j:Nat,j≤m∧i=.int .i64 j∧∃L A' c',L=dw xs (ys.take j)∧r=.slice A' L.length c'∧L.length≤n+j∧eQ ck L∧bR fA 107 w wr A' c' L) (fun _ i _=>m-(intOf i).toNat)
 case atStart=>exact⟨0,au _,rfl,xs,A0,c0,rfl,by rw[hl],by omega,HR.ou,F0.ou⟩
 case round=>
  clear F0 ak ξ0
  obtain⟨j,hj,rfl,L,O,c1,Q,rfl,a3,R,f⟩:=hrel
  have F1:=aj f
  have HL:=aj Q
  have F:=aj R
  obtain⟨ξ,rfl⟩:∃ξ:X w No,wr=ξ.v:=⟨⟨wr,f.ext⟩,rfl⟩
  clear f Q R
  by_cases am:j<m
  ·obtain⟨b,o,y,rfl,hy,d0,d1,d2⟩:=nK h2 am
   have T:Hd (dw xs (ys.take (j+1))=jq L y):=by rw[Hd,Gq _ _ hy,HL.ou]
   have z:=aj (Ls F.ou y)
   have U:=zS L y
   have G:=aj (xW F.ou y)
   obtain⟨C,V⟩:∃C,C=jq L y:=⟨_,rfl⟩
   rw[←V] at T z G U
   have HP:=aj (Ao (key:=ck) L y.1)
   have K:=aj (NZ (L:=L) (k:=y.1))
   clear V hy
   have HB:=aj (fun v (hF:bR fA 107 w v O c1 L)=>TZ (c:=c1) (hF.row (by decide)) (by omega) y.1 F.ou)
   generalize jU (fun x=>x.1) L y.1=is at HB z K
   generalize j9 (fun x=>x.1) L y.1=p at HB z K HP
   go_upto_region 5 with fail
   obtain⟨v0,H⟩:∃v0,v0=ξ.v.alloc (.cells #[S y.1,S y.2.1,.bool y.2.2] 107):=⟨_,rfl⟩
   obtain⟨q,hq⟩:∃q,q=ξ.v.heap.size:=⟨_,rfl⟩
   have hB:Cs v0 q 107 #[S y.1,S y.2.1,.bool y.2.2]:=by rw[H,hq];exact Cs.new _ _ _
   have F2:Hd (bR fA 107 w v0 O c1 L):=F1.ou.on (by rw[H];exact(al.refl No ξ.v).alloc _)
   have HQ:Hd ((Value.slice O L.length c1).ownBlock≠some q):=fun e=>by
    have:=(F1.ou.own.lt _ e).2
    omega
   rw[←H,←hq]
   clear H hq F1 d0 d1 d2
   have q0:=hB.cell 0
   simp only[aB,aQ,aX] at q0
   have W:=aj hB
   obtain⟨ζ0,rfl⟩:∃ξ:X w No,v0=ξ.v:=⟨⟨v0,F2.ou.ext⟩,rfl⟩
   clear hB
   go_wp2_with fail
   refine lL ζ0 (HB.ou _ F2.ou) fun ζ1 Hζ1=>?_
   have D:=aj (F2.ou.on Hζ1.ou)
   have l:=aj (W.ou.aP Hζ1.ou id)
   clear HB F2 W q0 Hζ1 ζ0
   have q0:=l.ou.cell 0
   have Y:=l.ou.cell 1
   have q2:=l.ou.cell 2
   simp only[aB,aQ,aX] at q0 Y q2
   have HG:=aj (show ∃s,s=y.2.2 from⟨_,rfl⟩)
   obtain⟨s,t⟩:=HG.ou
   have Z:Hd (y.2.2=s):=t.symm
   rw[←t] at z q2 l
   clear t HG
   cases is with
   | true=>
    have hp:=K.ou rfl
    cases s with
    | true=>
     have HD:=aj (Re D.ou hp (by omega))
     have E:Hd (C=pO p L):=z.ou
     clear z l
     go_wp2_with fail
     refine HD.ou.mono ?_
     rintro e u ⟨A2,c2,rfl,f⟩
     rw[←E.ou] at f ⊢
     have F4:=aj f
     obtain⟨ζ2,rfl⟩:∃ξ:X w No,u=ξ.v:=⟨⟨u,f.ext⟩,rfl⟩
     clear f E HD D
     go_wp2_with fail
     go_roundw
     case rel=>exact⟨j+1,by omega,by go_num,C,A2,c2,T.ou.symm,rfl,by omega,G.ou,F4.ou⟩
     case measure=>simp[intOf];omega
    | false=>
     have E:Hd (C=L.set p y):=z.ou
     have M:C.length=L.length:=by rw[E.ou,bT]
     obtain⟨g,rest,rfl,hg,hX,hR,ao,ap⟩:=kU D.ou.own (by omega) (by decide)
     have ac:L[p]?=some L[p]:=aF hp
     have a:∀k,k<3→(ζ1.v.cell? ⟨g,p*3+k,none⟩)=some (((fA.enc L[p]))[k]?.getD undef):=fun k hk=>by
      obtain⟨b',o',x',he,_,I,av⟩:=(D.ou.row (by decide)).get hp
      injection he with he
      injection he with he1 he2
      subst he1;subst he2
      rw[ac] at I
      injection I with I
      subst I
      have:=av k ((fA.enc L[p])[k]'(by rw[fA.len];exact hk)) (aF _)
      rw[bX] at this
      rw[aF (by rw[fA.len];exact hk)]
      exact this
     have g0:ζ1.v.cell? ⟨g,p*3,none⟩=some (S (L[p]).1):=a 0 (by omega)
     have g1:ζ1.v.cell? ⟨g,p*3+1,none⟩=some (S (L[p]).2.1):=a 1 (by omega)
     have g2:ζ1.v.cell? ⟨g,p*3+2,none⟩=some (.bool (L[p]).2.2):=a 2 (by omega)
     have z0:=hg.frozen (p*3)
     have z1:=hg.frozen (p*3+1)
     have z2:=hg.frozen (p*3+2)
     have a4:w.heap.size≤g:=D.ou.new g rfl
     have aD:=aj hg
     have a0:=aj hR
     have a1:=aj hX
     have a5:g≠q:=fun e=>HQ.ou (by rw[e];rfl)
     clear hg hR hX a ac z l
     go_wp2_with fail
     go_roundw
     case rel=>
      have hS:=((aD.ou.cM (p*3) (S y.1)).cM (p*3+1) (S y.2.1)).cM (p*3+2) (.bool false)
      have hX:=a1.ou
      rw[show fA.size=3 from rfl] at hX
      have e3:(((L.flatMap fA.enc++rest).toArray.setIfInBounds (p*3) (S y.1)).setIfInBounds (p*3+1) (S y.2.1)).setIfInBounds (p*3+2) (.bool false)=(C.flatMap fA.enc++rest).toArray:=by
       rw[E.ou,OK L p y hp,Z.ou,ax,ax,ax,eJ _ _ (by omega),eJ _ _ (by rw[bT];omega),eJ _ _ (by rw[bT,bT];omega)]
      rw[e3] at hS
      have hR:=a0.ou
      have hO:al (fun b=>b=g) ζ1.v (((ζ1.v.setCell ⟨g,p*3,none⟩ (S y.1)).setCell ⟨g,p*3+1,none⟩ (S y.2.1)).setCell ⟨g,p*3+2,none⟩ (.bool false)):=(((al.refl _ _).at_ _ _).at_ _ _).at_ _ _
      refine⟨j+1,by omega,by go_num,C,some ⟨g,0,none⟩,c1,T.ou.symm,by rw[M],by omega,G.ou,?_,D.ou.ext.trans hO fun b hb e=>by omega,fun g' hg'=>?_⟩
      ·refine iM hS (au _) (bC _ _) ?_ (by rw[M];exact ao) ap
       simp only[af,bC,M] at hR ⊢
       exact hR
      ·simp[Value.ownBlock] at hg'
       omega
     case measure=>simp[intOf];omega
   | false=>
    cases s with
    | true=>
     have E:Hd (C=L):=z.ou
     clear z l
     go_wp2_with fail
     go_roundw
     case rel=>exact⟨j+1,by omega,by go_num,L,O,c1,by rw[T.ou,E.ou],rfl,by omega,F.ou,D.ou⟩
     case measure=>simp[intOf];omega
    | false=>
     have E:Hd (C=gT p y L):=z.ou
     have a2:=HP.ou
     clear z l
     obtain⟨v1,J⟩:∃v1,v1=ζ1.v.alloc (.cells #[S y.1,S y.2.1,.bool false] 107):=⟨_,rfl⟩
     obtain⟨Y,N⟩:∃Y,Y=ζ1.v.heap.size:=⟨_,rfl⟩
     have hV:Cs v1 Y 107 #[S y.1,S y.2.1,.bool y.2.2]:=by rw[J,N,Z.ou];exact Cs.new _ _ _
     have F4:Hd (bR fA 107 w v1 O c1 L):=D.ou.on (by rw[J];exact(al.refl No ζ1.v).alloc _)
     have HI:=aj (QY F4.ou a2 (by omega) y hV (fun e=>by
      have:=(D.ou.own.lt _ e).2
      omega))
     have ag:=aj J
     have ai:=aj N
     clear hV J N
     go_wp2_with fail
     rw[←ag.ou,←ai.ou]
     refine HI.ou.mono ?_
     rintro e u ⟨A2,c2,rfl,f⟩
     rw[←E.ou] at f ⊢
     have F5:=aj f
     obtain⟨ζ2,rfl⟩:∃ξ:X w No,u=ξ.v:=⟨⟨u,f.ext⟩,rfl⟩
     clear f E HI D F4 ag ai
     go_wp2_with fail
     go_roundw
     case rel=>exact⟨j+1,by omega,by go_num,C,A2,c2,T.ou.symm,rfl,by omega,G.ou,F5.ou⟩
     case measure=>simp[intOf];omega
  ·go_wp2_with fail
   go_ret
   have Q:=HL.ou
   rw[ay (by rw[h2.1];omega)] at Q
   rw[←Q]
   exact⟨O,c1,rfl,F1.ou⟩
end Go.Proofs.YtpgmcijdcnnjpaaGreatDoor
