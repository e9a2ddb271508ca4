/- Lemmas for it. -/
import Derived.Test.YtpgmcijdcnnjpaaGreatDoorPk02
import Derived.Lib.AppendZerosOnto
import Derived.Lib.Overlaps
set_option linter.all false
set_option maxRecDepth 100000
set_option maxHeartbeats 2000000
namespace Go.Proofs.YtpgmcijdcnnjpaaGreatDoor
open Go Go.RowKit
variable {k:aK} {A:Option Addr} {B b c j m n sLen size so:Nat} {xs:List bm} {d s:Operand} {a:Act} {K:Value→World→Prop} {dT e sT:TypeId} {cs cur:List Value} {ops:Array Oper} {rest:List Oper} {Q:Exit→Act→World→Prop} {z:Value}
def jU{α:Type}(key:α→aK)(l:List α)(k:aK):Bool:=match l[j9 key l k]? with|some x=>decide (key x=k)|none=>false
section
variable {α:Type} (key:α→aK)
def jY(f:α):List α→List α
 | []=>[f]
 | x::l=>if Mn (key f) (key x) then f::(x::l).filter (fun y=>decide (key y≠key f)) else x::jY f l
def kD(k:aK)(l:List α):List α:=l.filter fun y=>decide (key y≠k)
def dY(k:aK)(l:List α):Option α:=l.find? fun y=>decide (key y=k)
variable {key}
theorem nJ{x:α}{l:List α} (h:key x<k):j9 key (x::l) k=j9 key l k+1:=by
 unfold j9
 rw[jz,ab (show Pj (key x) k=true from aM h)]
 try rfl
theorem nM{x:α}{l:List α} (h:¬key x<k):j9 key (x::l) k=0:=by
 unfold j9
 rw[jz,aa (by show ¬Pj (key x) k=true;rw[show Pj (key x) k=false from aG h];simp)]
 try rfl
theorem qb{x:α}{l:List α} (h:key x<k):jU key (x::l) k=jU key l k:=by
 unfold jU;rw[nJ h,aQ]
theorem qd{x:α}{l:List α} (h:¬key x<k):jU key (x::l) k=decide (key x=k):=by
 unfold jU;rw[nM h];rfl
theorem eQ.tail{x:α}{l:List α}(h:eQ key (x::l)):eQ key l:=(dp.1 h).2
theorem eQ.head{x:α}{l:List α}(h:eQ key (x::l)):∀y∈l,key x<key y:=(dp.1 h).1
theorem oO{l:List α} (h:∀y∈l,k<key y):l.filter (fun y=>decide (key y≠k))=l:=by
 rw[List.filter_eq_self]
 exact fun y hy=>aM (pa (h y hy)).symm
theorem Rh{l:List α}(h:eQ key l)(k:aK):dY key k l=if jU key l k then l[j9 key l k]? else none:=by
 induction l with
 | nil=>simp[dY,jU]
 | cons x l ih=>
  by_cases a:key x<k
  ·rw[qb a,nJ a,aQ,←ih h.tail]
   unfold dY
   rw[List.find?_cons_of_neg (by simpa using pa a)]
  ·rw[qd a,nM a]
   by_cases e:key x=k
   ·simp[dY,e]
   ·have d:k<key x:=by
     by_cases c:k<key x
     ·exact c
     ·exact absurd (DO a c) e
    have:dY key k (x::l)=none:=by
     unfold dY
     rw[eI]
     intro y b
     rcases aY.1 b with rfl|b
     ·simpa using e
     ·have:=pa (lH d (h.head y b))
      simp[Ne.symm this]
    rw[this]
    simp[e]
theorem JQ{l:List α}(h:eQ key l)(f:α):jY key f l=if jU key l (key f) then l.set (j9 key l (key f)) f else l.take (j9 key l (key f))++f::l.drop (j9 key l (key f)):=by
 induction l with
 | nil=>simp[jY,jU,j9]
 | cons x l ih=>
  unfold jY
  by_cases a:key x<key f
  ·have:Mn (key f) (key x)=false:=aG (by rw[tJ];exact fun h=>h a)
   rw[this,qb a,nJ a,ih h.tail]
   simp
   split<;>rfl
  ·have:Mn (key f) (key x)=true:=aM (tJ.2 a)
   rw[this,qd a,nM a]
   by_cases e:key x=key f
   ·simp only[e,decide_true,if_true,aS,dC,ne_eq,not_true,decide_false,cV,if_false]
    rw[oO (fun y hy=>e▸h.head y hy)]
   ·have b:key f<key x:=by
     by_cases c:key f<key x
     ·exact c
     ·exact absurd (DO a c) e
    simp only[e,decide_false,cV,if_false,if_true,j5,jm,cW]
    rw[oO fun y hy=>?_]
    rcases aY.1 hy with rfl|hy
    ·exact b
    ·exact lH b (h.head y hy)
theorem sO{l:List α}{f x:α}(h:x∈jY key f l):x=f∨x∈l:=by
 induction l with
 | nil=>simpa [jY] using h
 | cons y l ih=>
  unfold jY at h
  split at h
  ·rcases aY.1 h with h|h
   ·exact .inl h
   ·exact .inr (fF.1 h).1
  ·rcases aY.1 h with h|h
   ·exact .inr (h▸bO)
   ·rcases ih h with h|h
    ·exact .inl h
    ·exact .inr (aE _ h)
theorem nU{l:List α}(h:eQ key l)(p:α→Bool):eQ key (l.filter p):=List.Pairwise.filter p h
theorem ny{l:List α}(h:eQ key l)(f:α):eQ key (jY key f l):=by
 induction l with
 | nil=>simp[jY,eQ]
 | cons x l ih=>
  unfold jY
  split
  ·rename_i a
   refine dp.2 ⟨fun y hy=>?_,nU h _⟩
   have b:=fF.1 hy
   have d:key y≠key f:=by simpa using b.2
   have c:key f≤key x:=Mw a
   rcases aY.1 b.1 with rfl|hy
   ·exact rC c d.symm
   ·exact Du c (h.head y hy)
  ·rename_i a
   have a:key x<key f:=BK (by simpa using a)
   refine dp.2 ⟨fun y hy=>?_,ih h.tail⟩
   rcases sO hy with rfl|hy
   ·exact a
   ·exact h.head y hy
def ui(key:α→aK):List α→Bool
 | []=>true
 | [_]=>true
 | x::y::l=>Pj (key x) (key y)&&ui key (y::l)
theorem Py{l:List α}(h:ui key l=true):eQ key l:=by
 induction l with
 | nil=>simp[eQ]
 | cons x l ih=>
  cases l with
  | nil=>simp[eQ]
  | cons y l=>
   simp only[ui,aI] at h
   have b:=ih h.2
   refine dp.2 ⟨fun z hz=>?_,b⟩
   have a:=ET h.1
   rcases aY.1 hz with rfl|hz
   ·exact a
   ·exact lH a (b.head z hz)
theorem KN{l:List α}:ui key l=true↔∀i x y,l[i]?=some x→l[i+1]?=some y→key x<key y:=by
 induction l with
 | nil=>simp[ui]
 | cons a l ih=>
  cases l with
  | nil=>simp[ui]
  | cons b l=>
   simp only[ui,aI]
   constructor
   ·rintro⟨h1,h2⟩ i x y hx hy
    cases i with
    | zero=>
     simp at hx hy
     subst hx;subst hy
     exact ET h1
    | succ i=>exact ih.1 h2 i x y (by simpa using hx) (by simpa using hy)
   ·intro h
    exact⟨aM (h 0 a b rfl rfl),ih.2 fun i x y hx hy=>h (i+1) x y (by simpa using hx) (by simpa using hy)⟩
theorem mq(f:α)(l:List α):(jY key f l).length≤l.length+1:=by
 induction l with
 | nil=>simp[jY]
 | cons x l ih=>
  unfold jY
  split
  ·simp only[an]
   have:=dK (fun y=>decide (key y≠key f)) (x::l)
   simp only[an] at this
   omega
  ·simp only[an];omega
end
theorem CO(a b:aK)(w:World):Calls Tryz.prog 80 #[S a,S b] w fun e w'=>e=.returned (.int .i64 (zo a b))∧bf w w':=by
 refine(Tryz.strings_Compare _ _ w).mono ?_
 rintro e w' ⟨rfl,rfl⟩
 exact⟨rfl,al.refl _ _⟩
theorem JY(f:bm)(k:aK)(w:World):Calls Tryz.prog 79 #[.agg #[S f.1,S f.2],S k] w fun e w'=>e=.returned (.int .i64 (zo f.1 k))∧bf w w':=by
 go_enter Tryz.func79,Tryz.ntmps79
 go_wp2_with fail
 refine(CO f.1 k _).mono ?_
 rintro e u ⟨rfl,a⟩
 go_wp2_with fail
 go_ret
 exact⟨rfl,((al.refl No w).alloc _).ae a⟩
theorem Og{w:World}   (h:di br w A n xs)(V:n≤1000000)(k:aK)(I:eQ (·.1) xs) :
  Calls Tryz.prog 78 #[.slice A n c,S k,.func (.func 79) #[] #[]] w fun e w'=>e=.returned (.tuple #[.int .i64 (j9 (·.1) xs k:Nat),.bool (jU (·.1) xs k)])∧bf w w':=by
 have J:=aj I
 clear I
 go_enter Tryz.func78,Tryz.ntmps78
 go_wp2_with (first|((first|refine aZ rfl ?_|refine bV (by kernel_rfl) (by kernel_rfl) ?_);(repeat' (first|refine fZ ?_|(refine gd ?_;intro hq)|(refine gg ?_ ?_<;>intro hq)));all_goals (refine ar ?_)))
 go_loopw [9,10] (fun i j wr=>∃a b:Nat,a≤b∧b≤n∧i=.int .i64 a∧j=.int .i64 b∧(∀p x,p<a→xs[p]?=some x→x.1<k)∧(∀p x,b≤p→xs[p]?=some x→¬x.1<k)∧∃ξ:X w No,wr=ξ.v) (fun i j _=>(intOf j-intOf i).toNat)
 case atStart=>exact⟨0,n,au _,aq _,rfl,rfl,fun p x hp=>by omega,fun p x hp f=>(by have:=(aw.1 f).1;have:=h.1;omega),X.here _ _,rfl⟩
 case round=>
  obtain⟨a,b,O,s,rfl,rfl,L,M,ξ,rfl⟩:=hrel
  have E:=aj L
  have F:=aj M
  clear L M
  by_cases P:a<b
  ·obtain⟨Q,o,x,rfl,f,R,c1⟩:=jI h (k:=(a+b)/2) (by omega)
   have C:=aj f
   clear f
   have q:=Jl x.1 k
   have r:=aj (fun w=>JY x k w)
   obtain⟨m,t⟩:∃m,m=zo x.1 k:=⟨_,rfl⟩
   rw[←t] at q r
   clear t
   by_cases d:x.1<k
   ·rw[aM d] at q
    have z:=aj d
    clear d
    go_wp2_with (first|((first|refine aZ rfl ?_|refine bV (by kernel_rfl) (by kernel_rfl) ?_);(repeat' (first|refine fZ ?_|(refine gd ?_;intro hq)|(refine gg ?_ ?_<;>intro hq)));all_goals (refine ar ?_)))
    refine(r.ou _).mono ?_
    rintro e u ⟨rfl,l⟩
    have U:=aj (ξ.h.ae l)
    clear l
    go_wp2_with (first|((first|refine aZ rfl ?_|refine bV (by kernel_rfl) (by kernel_rfl) ?_);(repeat' (first|refine fZ ?_|(refine gd ?_;intro hq)|(refine gg ?_ ?_<;>intro hq)));all_goals (refine ar ?_)))
    go_roundw
    case rel=>
     refine⟨(a+b)/2+1,b,by omega,s,by go_num,rfl,fun p y hp hy=>?_,F.ou,⟨_,U.ou⟩,rfl⟩
     by_cases e:p=(a+b)/2
     ·subst e
      rw[C.ou] at hy
      injection hy with hy
      exact hy▸z.ou
     ·exact lH (J.ou.Jv (show p<(a+b)/2 by omega) hy C.ou) z.ou
    case measure=>simp[intOf];omega
   ·rw[aG d] at q
    have z:=aj d
    clear d
    go_wp2_with (first|((first|refine aZ rfl ?_|refine bV (by kernel_rfl) (by kernel_rfl) ?_);(repeat' (first|refine fZ ?_|(refine gd ?_;intro hq)|(refine gg ?_ ?_<;>intro hq)));all_goals (refine ar ?_)))
    refine(r.ou _).mono ?_
    rintro e u ⟨rfl,l⟩
    have U:=aj (ξ.h.ae l)
    clear l
    go_wp2_with (first|((first|refine aZ rfl ?_|refine bV (by kernel_rfl) (by kernel_rfl) ?_);(repeat' (first|refine fZ ?_|(refine gd ?_;intro hq)|(refine gg ?_ ?_<;>intro hq)));all_goals (refine ar ?_)))
    go_roundw
    case rel=>
     refine⟨a,(a+b)/2,by omega,by omega,rfl,by go_num,E.ou,fun p y hp hy=>?_,⟨_,U.ou⟩,rfl⟩
     by_cases e:p=(a+b)/2
     ·subst e
      rw[C.ou] at hy
      injection hy with hy
      exact hy▸z.ou
     ·exact fun hl=>z.ou (lH (J.ou.Jv (show(a+b)/2<p by omega) C.ou hy) hl)
    case measure=>simp[intOf];omega
  ·obtain rfl:a=b:=by omega
   have G:Hd (j9 (·.1) xs k=a):=FQ (by rw[h.1];exact s) E.ou (fun x f=>F.ou a x (aq _) f)
   have D:Hd (jU (·.1) xs k=match xs[a]? with|some x=>decide (x.1=k)|none=>false):=by unfold Hd jU;rw[G.ou];cases xs[a]?<;>rfl
   clear E F
   by_cases H:a<n
   ·obtain⟨Q,o,x,rfl,f,R,c1⟩:=jI h H
    have g:Hd (jU (·.1) xs k=decide (x.1=k)):=by unfold Hd;rw[D.ou,f]
    clear f D
    have q:=JL x.1 k
    have r:=aj (fun w=>JY x k w)
    obtain⟨m,t⟩:∃m,m=zo x.1 k:=⟨_,rfl⟩
    rw[←t] at q r
    obtain⟨N,B⟩:∃N,N=decide (x.1=k):=⟨_,rfl⟩
    rw[←B] at q g
    clear t B
    have T:decide ((a:Int)<(n:Int))=true:=by simp;omega
    go_upto_region 8 with fail
    refine cj [11] (Cl w No) (Cl.of ξ.h) ?_
    (repeat' (first|refine fZ ?_|(refine gd ?_;intro hq)|(refine gg ?_ ?_<;>intro hq)))
    ((first|refine cH rfl rfl ?_|refine lI rfl rfl rfl (by with_reducible rfl) rfl ?_);intro K hK;go_simp)
    refine(r.ou _).mono ?_
    rintro e u ⟨rfl,l⟩
    have U:=aj (ξ.h.ae l)
    refine⟨_,rfl,hK _ _ (fun _=>Cl.of U.ou) ?_⟩
    clear hK K l
    simp only[Act.put,gL,gK,gJ]
    (repeat' (first|refine fZ ?_|(refine gd ?_;intro hq)|(refine gg ?_ ?_<;>intro hq)))
    refine ar ?_
    go_wp2_with (first|((first|refine aZ rfl ?_|refine bV (by kernel_rfl) (by kernel_rfl) ?_);(repeat' (first|refine fZ ?_|(refine gd ?_;intro hq)|(refine gg ?_ ?_<;>intro hq)));all_goals (refine ar ?_)))
    go_ret2
    exact⟨(by rw[G.ou,g.ou];try rfl),U.ou⟩
   ·have T:decide ((a:Int)<(n:Int))=false:=by simp;omega
    have g:Hd (jU (·.1) xs k=false):=by
     have:xs[a]?=none:=cg (by rw[h.1];omega)
     unfold Hd
     rw[D.ou,this]
    clear D
    go_wp2_with (first|((first|refine aZ rfl ?_|refine bV (by kernel_rfl) (by kernel_rfl) ?_);(repeat' (first|refine fZ ?_|(refine gd ?_;intro hq)|(refine gg ?_ ?_<;>intro hq)));all_goals (refine ar ?_)))
    all_goals (go_ret2;exact⟨(by rw[G.ou,g.ou];try rfl),ξ.h⟩)
theorem OL{w:World}   (h:di br w A n xs)(a:n≤1000000)(k:aK)(b:eQ (·.1) xs) :
  Calls Tryz.prog 52 #[.slice A n c,S k] w fun e w'=>e=.returned (.tuple #[.int .i64 (j9 (·.1) xs k:Nat),.bool (jU (·.1) xs k)])∧bf w w':=by
 go_enter Tryz.func52,Tryz.ntmps52
 go_wp2_with fail
 refine(Og h a k b).mono ?_
 rintro e u ⟨rfl,d⟩
 go_wp2_with fail
 go_ret2
 exact⟨rfl,d⟩
def xQ(c:UInt8)(first:Bool):Bool:=(decide (97≤c.toNat)&&decide (c.toNat≤122))||(!first&&((decide (48≤c.toNat)&&decide (c.toNat≤57))||c.toNat==46))
def lx:aK→Nat→Bool
 | [],_=>true
 | c::r,i=>xQ c (i==0)&&lx r (i+1)
def i7(s:aK):Bool:=decide (1≤s.length)&&decide (s.length≤8)&&lx s 0
theorem Fb(l:aK)(k:Nat)(h:k<l.length):lx (l.drop k) k=(xQ l[k] (k==0)&&lx (l.drop (k+1)) (k+1)):=by
 rw[cB h];rfl
theorem wS(s:aK)(w:World)(o:s.length≤10000) :
  Calls Tryz.prog 69 #[S s] w fun e w'=>e=.returned (.bool (i7 s))∧bf w w':=by
 go_enter Tryz.func69,Tryz.ntmps69
 go_wp2_with fail
 go_loop [7] (fun i=>∃k:Nat,k≤s.length∧i=.int .i64 k∧lx s 0=lx (s.drop k) k) (fun i=>s.length-(intOf i).toNat)
 case atStart=>exact⟨0,au _,rfl,rfl⟩
 case round=>
  obtain⟨k,n,rfl,j⟩:=hrel
  have b:=aj j
  clear j
  by_cases d:k<s.length
  ·have g:=aj (Fb s k d)
   have m:Hd (xQ s[k] (k==0)=true→lx s 0=lx (s.drop (k+1)) (k+1)):=fun h=>by rw[b.ou,g.ou,h,Bool.true_and]
   have f:Hd (xQ s[k] (k==0)=false→i7 s=false):=fun h=>by unfold i7;rw[b.ou,g.ou,h,Bool.false_and,iJ]
   clear b g
   go_upto_region 5 with fail
   go_cut [34] from 13 to 34 (fun c wx=>c=.bool (!xQ s[k] (k==0))∧wx=w)
   case first=>
    refine cj [] (fun w'=>w'=_) rfl ?_
    (repeat' (first|(refine dO rfl rfl rfl ?_;intro K hK;go_big_quiet_op;go_big_quiet_on)|(refine dP rfl rfl rfl (by with_reducible rfl) rfl rfl ?_;intro K hK;go_big_quiet_op;go_big_quiet_on)|((first|refine el rfl rfl rfl (by with_reducible rfl) ?_|refine eh rfl rfl rfl (by with_reducible rfl) ?_|refine eo rfl rfl rfl (by with_reducible rfl) ?_);simp only[Act.put,gL,gK,gJ])|(refine eK rfl rfl rfl rfl (fun hq=>?_) (fun hq=>?_)<;>(fail_if_success (guard_hyp hq :ₛ true=true))<;>(fail_if_success (guard_hyp hq :ₛ false=false))<;>first|(exfalso;cases hq;done)|(exfalso;simp only[mu,mh,mj,mm,ne_eq,da,cZ] at hq;omega)|simp only[Act.put,gL,gK,gJ])))
    all_goals refine ar ?_
    all_goals (go_wp2_with fail;go_meet;refine⟨congrArg Value.bool ?_,rfl⟩)
    all_goals (clear m f;simp only[bh,aA,bY,bl,ne_eq] at *;unfold xQ;rw[eu];simp;omega)
   case rest=>
    obtain⟨rfl,rfl⟩:=hcut
    cases hc:xQ s[k] (k==0)
    ·go_wp2
     go_ret
     exact⟨fE (f.ou hc).symm,al.refl _ _⟩
    ·go_wp2
     go_round
     case rel=>exact⟨k+1,by omega,by go_num,m.ou hc⟩
     case measure=>simp[intOf];omega
  ·have a:k=s.length:=by omega
   have f:Hd (lx s 0=true):=by rw[Hd,b.ou,a,ju];rfl
   clear b
   clear a
   go_wp2_with (refine aZ rfl ?_;(repeat' (first|(refine dO rfl rfl rfl ?_;intro K hK;go_big_quiet_op;go_big_quiet_on)|(refine dP rfl rfl rfl (by with_reducible rfl) rfl rfl ?_;intro K hK;go_big_quiet_op;go_big_quiet_on)|((first|refine el rfl rfl rfl (by with_reducible rfl) ?_|refine eh rfl rfl rfl (by with_reducible rfl) ?_|refine eo rfl rfl rfl (by with_reducible rfl) ?_);simp only[Act.put,gL,gK,gJ])|(refine eK rfl rfl rfl rfl (fun hq=>?_) (fun hq=>?_)<;>(fail_if_success (guard_hyp hq :ₛ true=true))<;>(fail_if_success (guard_hyp hq :ₛ false=false))<;>first|(exfalso;cases hq;done)|(exfalso;simp only[mu,mh,mj,mm,ne_eq,da,cZ] at hq;omega)|simp only[Act.put,gL,gK,gJ])));all_goals (refine ar ?_))
   all_goals
    go_ret
    refine⟨fE ?_,al.refl _ _⟩
    unfold i7
    rw[f.ou,Bool.and_true]
    clear f d n
    revert hq
    cases s with
    | nil=>simp
    | cons x l=>intro hq;first|(simp at hq;done)|(rw[eu];simp;omega)
abbrev fk:bm→aK:=fun f=>f.1
def ki(k:aK)(xs:List bm):aK:=((dY fk k xs).map (·.2)).getD []
def ji(k:aK)(xs:List bm):Bool:=(dY fk k xs).isSome
theorem um{w:World}   (h:di br w A n xs)(t:n≤1000000)(k:aK)(q:eQ fk xs) :
  Calls Tryz.prog 26 #[.slice A n c,S k] w fun e w'=>e=.returned (.tuple #[S (ki k xs),.bool (ji k xs)])∧bf w w':=by
 have d:=OL (c:=c) h t k q
 have a:=Rh q k
 have r:=Ao (key:=fk) xs k
 obtain⟨b,j⟩:∃b,b=jU fk xs k:=⟨_,rfl⟩
 rw[←j] at d a
 have v:=aj j
 clear j
 cases b with
 | false=>
  have l:Hd (dY fk k xs=none):=by simpa [Hd] using a
  clear a
  go_enter Tryz.func26,Tryz.ntmps26
  go_wp2_with fail
  refine d.mono ?_
  rintro e u ⟨rfl,f⟩
  go_wp2_with fail
  go_ret2
  exact⟨by rw[ki,ji,l.ou];rfl,f⟩
 | true=>
  obtain⟨p,g⟩:∃p,p=j9 fk xs k:=⟨_,rfl⟩
  rw[←g] at d a r
  have m:p<n:=by
   have i:=v.ou
   unfold jU at i
   rw[←g] at i
   rw[←h.1]
   by_cases y:p<xs.length
   ·exact y
   ·rw[cg (by omega)] at i;cases i
  obtain⟨z,o,x,rfl,s,B,c1⟩:=jI h m
  have l:Hd (dY fk k xs=some x):=by rw[Hd,a,s];rfl
  have D:=aj g
  clear a g s r
  go_enter Tryz.func26,Tryz.ntmps26
  go_wp2_with fail
  refine d.mono ?_
  rintro e u ⟨rfl,f⟩
  have C:u.cell? ⟨z,o+p*2+1,none⟩=some (S x.2):=c1 ⟨u,f⟩
  have U:=aj f
  clear d f B c1
  go_wp2_with fail
  go_ret2
  exact⟨by rw[ki,ji,l.ou];rfl,U.ou⟩
theorem nP{w:World}{B:Option Addr}{d:Nat}{ys:List bm}(l:di br w A n xs)(p:di br w B m ys)(u:n≤10000)(x:m≤10000) :
  Calls Tryz.prog 19 #[.slice A n c,.slice B m d] w fun e w'=>e=.returned (.bool (decide (xs=ys)))∧bf w w':=by
 by_cases a:n=m
 ·subst a
  go_enter Tryz.func19,Tryz.ntmps19
  go_wp2
  go_loopw [5] (fun i wr=>∃k:Nat,k≤n∧i=.int .i64 k∧xs.take k=ys.take k∧∃ξ:X w No,wr=ξ.v) (fun i _=>n-(intOf i).toNat)
  case atStart=>exact⟨0,au _,rfl,rfl,X.here _ _,rfl⟩
  case round=>
   obtain⟨k,y,rfl,q,ξ,rfl⟩:=hrel
   have r:=aj q
   clear q
   by_cases g:k<n
   ·obtain⟨b,o,f,rfl,s,z,c1⟩:=jI l g
    obtain⟨C,D,t,rfl,j,E,F⟩:=jI p g
    go_upto_region 6 with fail
    (refine aV [] 100 (Cl (w) (No)) (by kernel_rfl) (by kernel_rfl) (Cl.eU ξ) ?_;refine bK ?_)
    all_goals (refine ar ?_)
    cases hB:tU f.1 f.2 t.1 t.2
    ·go_wp2
     go_ret
     exact⟨fE (aG (GJ s j (yo hB))).symm,ξ.h.drew⟩
    ·go_wp2
     go_roundw
     case rel=>exact⟨k+1,by omega,by go_num,qR r.ou s j (Ar hB),⟨_,ξ.h.drew⟩,rfl⟩
     case measure=>simp[intOf];omega
   ·go_wp2
    go_ret
    exact⟨fE (aM (rW r.ou l.1 p.1 (by omega))).symm,ξ.h⟩
 ·go_enter Tryz.func19,Tryz.ntmps19
  go_wp2
  ·go_ret
   exact⟨fE (aG (fun e=>a (by rw[←l.1,←p.1,e]))).symm,al.refl _ _⟩
abbrev E(n:Int):Value:=.iface 50 (.int .i64 n)
abbrev pt(g:Nat):Value:=.pointer (some ⟨g,0,none⟩)
def eT(n:Int):Value:=if n=0 then .nilIface else E n
theorem cO:eT 0=.nilIface:=rfl
theorem bS{n:Int}(h:n≠0):eT n=E n:=aa h
def qi(f:bm):Int:=if i7 f.1 then (if 20<f.2.length then 2 else 0) else 3
theorem PP(f:bm)(w:World)(k:f.1.length≤10000)(l:f.2.length≤1000000) :
  Calls Tryz.prog 48 #[.agg #[S f.1,S f.2]] w fun e w'=>e=.returned (eT (qi f))∧bf w w':=by
 have c:=fun w=>wS f.1 w k
 obtain⟨b,d⟩:∃b,b=i7 f.1:=⟨_,rfl⟩
 rw[←d] at c
 have i:=aj d
 clear d
 by_cases j:20<f.2.length
 ·have g:Hd (eT (qi f)=if b then E 2 else E 3):=by
   unfold Hd qi
   rw[←i.ou,ab j]
   cases b<;>rfl
  go_enter Tryz.func48,Tryz.ntmps48
  go_wp2_with fail
  refine(c _).mono ?_
  rintro e u ⟨rfl,a⟩
  have h:Hd (bf w u):=((al.refl No w).alloc _).ae a
  have c1:u.cell? ⟨w.heap.size,1,none⟩=some (S f.2):=((Cs.new w 54 #[S f.1,S f.2]).aP a id).cell 1
  clear a
  cases b <;>
  ·go_wp2_with fail
   go_ret
   exact⟨by rw[g.ou];rfl,h.ou⟩
 ·have g:Hd (eT (qi f)=if b then .nilIface else E 3):=by
   unfold Hd qi
   rw[←i.ou,aa j]
   cases b<;>rfl
  go_enter Tryz.func48,Tryz.ntmps48
  go_wp2_with fail
  refine(c _).mono ?_
  rintro e u ⟨rfl,a⟩
  have h:Hd (bf w u):=((al.refl No w).alloc _).ae a
  have c1:u.cell? ⟨w.heap.size,1,none⟩=some (S f.2):=((Cs.new w 54 #[S f.1,S f.2]).aP a id).cell 1
  clear a
  cases b <;>
  ·go_wp2_with fail
   go_ret
   exact⟨by rw[g.ou];rfl,h.ou⟩
def Ew(f:bm):Bool:=decide (f.1.length≤20)&&decide (f.2.length≤60)
def qg(l:List bm):Bool:=decide (l.length≤24)&&l.all Ew&&ui fk l
theorem oM (h:qg xs=true):xs.length≤24∧(∀x∈xs,x.1.length≤20∧x.2.length≤60)∧eQ fk xs:=by
 simp only[qg,aI,bh,bJ,Ew] at h
 exact⟨h.1.1,fun x hx=>h.1.2 x hx,Py h.2⟩
section
variable {P:Program}
theorem pG(b o j:Nat):(⟨b,o,none⟩:Addr).add j=⟨b,o+j,none⟩:=by
 unfold Addr.add
 split
 ·rename_i h;subst h;rfl
 ·rfl
theorem Ho (w:World) (q s ty a:TypeId) (g o c e b n d f k:Nat) (cur:List Value) (t:TypeId) (cs:List Value)
  (u:P.underlying q=some (.slice a)) (r:(P.info? a).map (·.size)=some k)
  (x:Cs w g t cur.toArray) (y:cs.length=Nat.min d c*k)
  (l:∀j v,cs[j]?=some v→w.cell? ⟨b,n+j,none⟩=some v) (m:o+cs.length≤cur.length) (z:∀v∈cs,v.oneCell'=true) :
  (Builtin.copy_ #[q,s] ty #[.slice (some ⟨g,o,none⟩) c e,.slice (some ⟨b,n,none⟩) d f]).run P w =
   .ok (goInt (Nat.min d c:Nat)) (w.setRow g (cur.take o++cs++cur.drop (o+cs.length)).toArray):=by
 have A:=run_loadCells_list (P:=P) w ⟨b,n,none⟩ cs (fun j v h=>by rw[pG];exact l j v h)
 have p:=run_storeCells_at P g o t cs 0 cur.toArray w x (by simpa using m) z
 cases hq:P.info? a with
 | none=>simp[hq] at r
 | some i=>
  have B:i.size=k:=by simpa [hq] using r
  simp[Builtin.copy_,run_underlying u,Builtin.lenOf,Builtin.firstCells,sizeOf,typeInfo,hq,B,←y,A,p]
theorem nZ {w:World} {o:Oper}    {k:Nat} (r:P.underlying dT=some (.slice e)) (v:(P.info? e).map (·.size)=some k) 
  (y:o.op=.call { callee:=.builtin .copy,args:=#[d,s],argTypes:=#[dT,sT] }) {g i f l:Nat} (z:a.eval d=.slice (some ⟨g,i,none⟩) f l)  (A:a.eval s=.slice (some ⟨b,so,none⟩) sLen c)
  {t:TypeId}  (q:Cs w g t cur.toArray) (B:cs.length=Nat.min sLen f*k) (m:∀j u,cs[j]?=some u→w.cell? ⟨b,so+j,none⟩=some u) (n:i+cs.length≤cur.length) (C:∀u∈cs,u.oneCell'=true)
  (h:∀w',Cs w' g t (cur.take i++cs++cur.drop (i+cs.length)).toArray→al (fun x=>x=g) w w'→K (.int .i64 (Nat.min sLen f:Nat)) w'):cT P o a w K:=by
 have p:=Ho (P:=P) w dT sT o.type e g i f l b so sLen c k cur t cs r v q B m n C
 unfold cT fe execOp
 simp only[y,resolve,invoke,builtin,Sem.run_bind,Sem.run_pure,Result.andThen_ok,fi,du,eG,z,A,p]
 exact h _ (setRow_heap w g _ _ t _ q) ⟨rfl,rfl,rfl,by simp[World.setRow],fun k _ hne=>setRow_other w g k _ hne⟩
theorem nN    {w:World} {o:Oper}  (p:o.guard=none)  {k:Nat} (q:P.underlying dT=some (.slice e)) (r:(P.info? e).map (·.size)=some k) 
  (v:o.op=.call { callee:=.builtin .copy,args:=#[d,s],argTypes:=#[dT,sT] }) {g i f l:Nat} (y:a.eval d=.slice (some ⟨g,i,none⟩) f l)  (z:a.eval s=.slice (some ⟨b,so,none⟩) sLen c)
  {t:TypeId}  (A:Cs w g t cur.toArray) (B:cs.length=Nat.min sLen f*k) (m:∀j u,cs[j]?=some u→w.cell? ⟨b,so+j,none⟩=some u) (n:i+cs.length≤cur.length) (C:∀u∈cs,u.oneCell'=true)
  (h:∀w',Cs w' g t (cur.take i++cs++cur.drop (i+cs.length)).toArray→al (fun x=>x=g) w w'→wpList P ops Q rest (a.put o.dst (.int .i64 (Nat.min sLen f:Nat))) w'):wpList P ops Q (o::rest) a w:=
 wpList_plain p fun _ hK=>kk (N:=fun v' w'=>wpList P ops Q rest (a.put o.dst v') w') (fun _ _ h=>hK _ _ h) (nZ q r v y z A B m n C h)
theorem uX {w:World} {o:Oper}   {t e:TypeId}  (u:P.underlying t=some (.slice e)) (C:∀w,(zeroValue e).run P w=.ok z w) 
  (y:o.op=.call { callee:=.builtin .clear,args:=#[d],argTypes:=#[t] }) {g b n c:Nat} (A:a.eval d=.slice (some ⟨g,b,none⟩) n c)
  {p:TypeId}  (q:Cs w g p cur.toArray) (l:b+n*z.cells.size≤cur.length) (D:∀v∈z.cells.toList,v.oneCell'=true)
  (h:∀w',Cs w' g p (cur.take b++(Builtin.zeroCells z.cells n).toList++cur.drop (b+n*z.cells.size)).toArray→al (fun x=>x=g) w w'→K (.tuple #[]) w'):cT P o a w K:=by
 have r:(Builtin.zeroCells z.cells n).toList.length=n*z.cells.size:=by simp[Builtin.zeroCells]
 have m:∀v∈(Builtin.zeroCells z.cells n).toList,v.oneCell'=true:=fun v hv=>by
  simp only[Builtin.zeroCells,Array.toList_map,cw] at hv
  obtain⟨i,s,rfl⟩:=hv
  have s:i<n*z.cells.size:=by simpa using s
  have E:0<z.cells.size:=by
   rcases fY z.cells.size with h0|h0
   ·rw[h0] at s;omega
   ·exact h0
  rw[getElem!_pos z.cells _ (Nat.mod_lt _ E)]
  exact D _ (by simp)
 by_cases B:n=0
 ·subst B
  have f:(Builtin.clear_ #[t] o.type #[.slice (some ⟨g,b,none⟩) 0 c]).run P w=.ok (.tuple #[]) w:=by
   simp[Builtin.clear_,run_underlying u]
  unfold cT fe execOp
  simp only[y,resolve,invoke,builtin,Sem.run_bind,Sem.run_pure,Result.andThen_ok,fi,du,eG,A,f]
  refine h w ?_ (al.refl _ _)
  have F:(Builtin.zeroCells z.cells 0).toList=[]:=bM (by rw[r];simp)
  rw[F]
  simpa using q
 ·have j:=run_storeCells_at P g b p (Builtin.zeroCells z.cells n).toList 0 cur.toArray w q (by rw[r];simpa using l) m
  have f:(Builtin.clear_ #[t] o.type #[.slice (some ⟨g,b,none⟩) n c]).run P w=.ok (.tuple #[]) (w.setRow g (cur.take b++(Builtin.zeroCells z.cells n).toList++cur.drop (b+n*z.cells.size)).toArray):=by
   rw[r] at j
   simp only[fK] at j
   unfold Builtin.clear_
   simp[run_underlying u,C,B,j]
  unfold cT fe execOp
  simp only[y,resolve,invoke,builtin,Sem.run_bind,Sem.run_pure,Result.andThen_ok,fi,du,eG,A,f]
  exact h _ (setRow_heap w g _ _ p _ q) ⟨rfl,rfl,rfl,by simp[World.setRow],fun k _ hne=>setRow_other w g k _ hne⟩
theorem zP    {w:World} {o:Oper}  (i:o.guard=none) {t e:TypeId}  (k:P.underlying t=some (.slice e)) (l:∀w,(zeroValue e).run P w=.ok z w) 
  (m:o.op=.call { callee:=.builtin .clear,args:=#[d],argTypes:=#[t] }) {g b n c:Nat} (p:a.eval d=.slice (some ⟨g,b,none⟩) n c)
  {j:TypeId}  (q:Cs w g j cur.toArray) (f:b+n*z.cells.size≤cur.length) (r:∀v∈z.cells.toList,v.oneCell'=true)
  (h:∀w',Cs w' g j (cur.take b++(Builtin.zeroCells z.cells n).toList++cur.drop (b+n*z.cells.size)).toArray→al (fun x=>x=g) w w'→wpList P ops Q rest (a.put o.dst (.tuple #[])) w'):wpList P ops Q (o::rest) a w:=
 wpList_plain i fun _ hK=>kk (N:=fun v' w'=>wpList P ops Q rest (a.put o.dst v') w') (fun _ _ h=>hK _ _ h) (uX k l m p q f r h)
theorem vE    {w:World} {o:Oper}  (k:o.guard=none) {t l e:TypeId} {i:TypeInfo}  {y:IntKind} (B:P.underlying t=some (.slice e)) (n:P.underlying l=some (.int y))
  (C:P.info? e=some i) (D:i.zero=some z) {x:Operand} (E:o.op=.call { callee:=.builtin .append,args:=#[s,x],argTypes:=#[t,l] })
  {d c:Nat} (F:a.eval s=.slice (some ⟨b,d,none⟩) sLen c) (G:a.eval x=.int .i64 (m:Int)) {olds:List Value} (p:olds.length=sLen*i.size) (f:∀j v,olds[j]?=some v→w.cell? ⟨b,d+j,none⟩=some v)
  (H:0<m) (q:0<i.size) (A:c<sLen+m) (r:i.bytes≤256) (u:sLen+m≤100000000)
  (h:∀cap,sLen+m≤cap→cap≤maxLen→wpList P ops Q rest (a.put o.dst (.slice (some ⟨w.heap.size,0,none⟩) (sLen+m:Nat) cap)) (w.drew.alloc (.cells (olds++(Builtin.zeroCells z.cells m).toList++(Builtin.zeroCells z.cells (cap-(sLen+m))).toList).toArray e))) :
  wpList P ops Q (o::rest) a w:=by
 have I:(sLen+m)*i.bytes≤100000000*256:=kb u r
 have J:m*i.bytes≤(sLen+m)*i.bytes:=kb (by omega) (aq _)
 have g:=Lib.run_append_grow_zeros (P:=P) w t l o.type e i z .i64 y B n C D (some ⟨b,d,none⟩) sLen c olds
  (run_firstCells_some w.drew i.size sLen ⟨b,d,none⟩ sLen c olds p (fun j v hj=>by rw[pG];exact f j v hj)) m H q A (by omega) (by omega) (growslice_fits A (by omega))
 refine wpList_plain k fun K hK=>kk (N:=fun v' w'=>wpList P ops Q rest (a.put o.dst v') w') (fun _ _ h=>hK _ _ h) ?_
 unfold cT fe execOp
 simp only[E,resolve,invoke,builtin,Sem.run_bind,Sem.run_pure,Result.andThen_ok,fi,du,eG,F,G,g]
 have:=h (grownCap w (sLen+m) c e) (grownCap_ge w _ _ _) (grownCap_le_maxLen w _ _ e (by unfold maxLen;omega))
 have L:(olds++(Builtin.zeroCells z.cells m).toList++(Builtin.zeroCells z.cells (grownCap w (sLen+m) c e-(sLen+m))).toList).toArray=olds.toArray++Builtin.zeroCells z.cells m++Builtin.zeroCells z.cells (grownCap w (sLen+m) c e-(sLen+m)):=by
  apply Array.ext'
  simp
 rw[L] at this
 exact this
end
theorem lF{α:Type}(T:kJ α)(xs:List α)(i:Nat):(xs.take i).flatMap T.enc=(xs.flatMap T.enc).take (i*T.size):=by
 induction xs generalizing i with
 | nil=>simp
 | cons x xs ih=>
  cases i with
  | zero=>simp
  | succ i=>
   have h:=T.len x
   have a:(T.enc x).take (i*T.size+T.size)=T.enc x:=ay (by omega)
   rw[gO,bN,bN,ih,List.take_append,h,ey,Nat.add_sub_cancel,a]
theorem mO{α:Type}(T:kJ α)(xs:List α)(i:Nat):(xs.drop i).flatMap T.enc=(xs.flatMap T.enc).drop (i*T.size):=by
 induction xs generalizing i with
 | nil=>simp
 | cons x xs ih=>
  cases i with
  | zero=>simp
  | succ i=>
   have h:=T.len x
   have a:(T.enc x).drop (i*T.size+T.size)=[]:=dR (by omega)
   rw[iK,bN,ih,List.drop_append,h,ey,Nat.add_sub_cancel,a]
   try rfl
theorem kU{w:World}    {xs:List Value}(h:w.ownsRow B e size (.slice A n c) n xs)(a:0<n)(b:0<size) :
  ∃g rest,A=some ⟨g,0,none⟩∧Cs w g e (xs++rest).toArray∧xs.length=n*size∧(xs++rest).length=c*size∧n≤c∧c≤maxLen:=by
 rcases h.2 with⟨hv,h0⟩|⟨g,cap,cur,hv,hb,hh,hnc,hc,hsz,ht⟩
 ·omega
 ·injection hv with hv1 hv2 hv3
  subst hv1;subst hv3
  refine⟨g,cur.toList.drop (n*size),rfl,?_,h.1,?_,hnc,hc⟩
  ·unfold Cs
   rw[hh,←ht,dX]
  ·rw[←ht,dX];simpa using hsz
theorem iM{w:World}  {a n c g:Nat}{xs rest:List Value}(h:Cs w g e (xs++rest).toArray)(f:B≤g)(d:xs.length=n*a)(i:(xs++rest).length=c*a)(b:n≤c)(j:c≤maxLen) :
  w.ownsRow B e a (.slice (some ⟨g,0,none⟩) n c) n xs:=
 ⟨d,.inr ⟨g,c,(xs++rest).toArray,rfl,f,h,b,j,by simpa using i,by rw[←d];simp⟩⟩
theorem Ck (X rest E:List Value) (i n k:Nat) (b:X.length=n*k) (c:E.length=k) (d:i<n) {c1:List Value}
  (a:c1=(X++rest).take ((i+1)*k)++X.drop (i*k)++(X++rest).drop ((i+1)*k+(X.drop (i*k)).length)) :
  c1.take (i*k)++E++c1.drop (i*k+E.length)=X.take (i*k)++E++X.drop (i*k)++(X++rest).drop ((n+1)*k):=by
 have l:(i+1)*k≤n*k:=fy _ d
 have e:(i+1)*k=i*k+k:=ey _ _
 have f:((X++rest).take ((i+1)*k)).length=(i+1)*k:=by rw[aH,af];omega
 have g:(i+1)*k+(X.drop (i*k)).length=(n+1)*k:=by rw[be,b,ey n k];omega
 have h:c1.take (i*k)=X.take (i*k):=by
  rw[a,aT,gh (by omega),List.take_take,gH (by omega),gh (by omega)]
 have j:c1.drop (i*k+E.length)=X.drop (i*k)++(X++rest).drop ((n+1)*k):=by
  rw[a,c,←e,aT,List.drop_left' f,g]
 rw[h,j,aT,aT,aT]
theorem xF(O Z R E:List Value)(i k:Nat)(a:O.length=i*k)(b:E.length=k)(c:k≤Z.length):(O++Z++R).take (i*k)++E++(O++Z++R).drop (i*k+E.length)=O++E++Z.drop k++R:=by
 have d:(O++Z++R).take (i*k)=O:=by rw[aT,fJ a]
 have e:(O++Z++R).drop (i*k+E.length)=Z.drop k++R:=by
  rw[aT,b,←a,←cX,fB,List.drop_append_of_le_length c]
 rw[d,e,←aT]
theorem yn(O Z R E D:List Value)(i k:Nat)(b:O.length=i*k)(c:E.length=k)(g:Z.length=k+D.length):(O++E++Z.drop k++R).take ((i+1)*k)++D++(O++E++Z.drop k++R).drop ((i+1)*k+D.length)=O++E++D++R:=by
 have a:(O++E).length=(i+1)*k:=by rw[af,b,c,ey]
 have d:(Z.drop k).length=D.length:=by rw[be];omega
 have e:(O++E++Z.drop k++R).take ((i+1)*k)=O++E:=by rw[aT (O++E),fJ a]
 have f:(O++E++Z.drop k++R).drop ((i+1)*k+D.length)=R:=by
  rw[aT (O++E),←a,←cX,fB,←d,fB]
 rw[e,f]
theorem ir(cs:Array Value)(n:Nat):(Builtin.zeroCells cs n).toList.length=n*cs.size:=by
 simp[Builtin.zeroCells]
theorem Cs.shape{w:World}{g:Nat}{t:TypeId}{cs:Array Value}(h:Cs w g t cs):w.shape? g=some (t,cs.size):=by
 unfold Cs at h;simp[World.shape?,h]
structure bR {α:Type} (T:kJ α) (t:TypeId) (w w':World) (A:Option Addr) (c:Nat) (xs:List α):Prop where
 own:w'.ownsRow 0 t T.size (.slice A xs.length c) xs.length (xs.flatMap T.enc)
 ext:bf w w'
 new:∀g,(Value.slice A xs.length c).ownBlock=some g→w.heap.size≤g
theorem bR.row{α:Type}{T:kJ α}(a:0<T.size){t:TypeId}{w w':World}  {xs:List α}(h:bR T t w w' A c xs):di T w' A xs.length xs:=di.jk a h.own
theorem oH{w v:World}   {x:Value}{xs:List Value}(h:w.ownsRow B e size x n xs)(a:bf w v):v.ownsRow B e size x n xs:=cl h a fun _ _ h=>h
theorem bR.on{α:Type}{T:kJ α}{t:TypeId}{w w' u:World}  {xs:List α}(h:bR T t w w' A c xs)(a:bf w' u):bR T t w u A c xs:=⟨oH h.own a,h.ext.ae a,h.new⟩
theorem bR.from{α:Type}{T:kJ α}{t:TypeId}{w0 w w':World}  {xs:List α}(h:bR T t w w' A c xs)(a:bf w0 w):bR T t w0 w' A c xs:=⟨h.own,a.ae h.ext,fun g hg=>aJ a.size (h.new g hg)⟩
theorem bR.nil{α:Type}(T:kJ α)(t:TypeId)(w w':World)(a:bf w w'):bR T t w w' none 0 ([]:List α):=⟨World.ownsRow_nil _ _ _ _,a,fun g hg=>by simp[Value.ownBlock] at hg⟩
theorem bR.grow {α:Type} {T:kJ α} {t:TypeId} {w i j:World} {e:Option Addr} {f:Nat} {xs ys:List α} (h:bR T t w i A c xs) (k:ys.length=m) (b:j.ownsRow 0 t T.size (.slice e (xs.length+m:Nat) f) (xs.length+m) (xs.flatMap T.enc++ys.flatMap T.enc)) (a:i.grownBy j (Value.slice A xs.length c).ownBlock)
  (d:(Value.slice e (xs.length+m:Nat) f).ownBlock=(Value.slice A xs.length c).ownBlock∨(Value.slice e (xs.length+m:Nat) f).ownBlock=some i.heap.size):bR T t w j e f (xs++ys):=by
 subst k
 refine⟨by rw[af,bF];exact b,h.ext.grown a fun g a=>.inl (h.new g a),fun g a=>?_⟩
 rw[af] at a
 rcases d with d|d
 ·exact h.new g (d.symm.trans a)
 ·rw[d] at a
  injection a with a
  have:=h.ext.size
  omega
theorem qE:∀(xs:List aK),∀u∈xs.flatMap cI.enc,u.oneCell'=true:=by
 intro xs u b
 obtain⟨x,_,a⟩:=cG.1 b
 rcases aY.1 a with rfl|a
 ·rfl
 ·cases a
def iH(xs:List aK)(k:aK):Bool:=decide (k∈xs)
theorem ML{xs:List aK} (h:∀y∈xs,(y==k)=false):iH xs k=false:=by
 unfold iH
 refine aG fun hk=>?_
 have:=h k hk
 simp at this
theorem Tt{xs:List aK}{x:aK} (a:xs[j]?=some x)(h:(x==k)=true):iH xs k=true:=by
 unfold iH
 have:x=k:=by simpa using h
 exact aM (this▸ah a)
theorem Lp{α:Type}{p:α→Bool}{xs:List α} {x:α}(h:∀y∈xs.take j,p y=false)(a:xs[j]?=some x)(b:p x=false):∀y∈xs.take (j+1),p y=false:=fun y hy=>by
 rw[aU,a] at hy
 rcases az.1 hy with hy|hy
 ·exact h y hy
 ·simp at hy;exact hy▸b
theorem Tl{w:World}  {xs:List aK}(h:di cI w A n xs)(r:n≤1000000)(k:aK) :
  Calls Tryz.prog 23 #[.slice A n c,S k] w fun e w'=>e=.returned (.bool (iH xs k))∧bf w w':=by
 go_enter Tryz.func23,Tryz.ntmps23
 go_wp2_with fail
 go_loopw [5] (fun i wr=>∃j:Nat,j≤n∧i=.int .i64 j∧(∀y∈xs.take j,(y==k)=false)∧∃ξ:X w No,wr=ξ.v) (fun i _=>n-(intOf i).toNat)
 case atStart=>exact⟨0,au _,rfl,by simp,X.here _ _,rfl⟩
 case round=>
  obtain⟨j,s,rfl,f,ξ,rfl⟩:=hrel
  have g:=aj f
  clear f
  by_cases a:j<n
  ·obtain⟨b,o,x,rfl,l,t⟩:=dq h a
   have m:=aj l
   clear l
   obtain⟨p,q⟩:∃p,(x==k)=p:=⟨_,rfl⟩
   cases p with
   | true=>
    have d:=aj q
    go_wp2_with fail
    go_ret
    exact⟨by rw[Tt m.ou d.ou];rfl,ξ.h⟩
   | false=>
    have d:=aj q
    go_wp2_with fail
    go_roundw
    case rel=>exact⟨j+1,by omega,by go_num,Lp g.ou m.ou d.ou,ξ,rfl⟩
    case measure=>simp[intOf];omega
  ·go_wp2_with fail
   go_ret
   exact⟨by rw[ML (fun y hy=>g.ou y (by rw[ay (by rw[h.1];omega)];exact hy))];rfl,ξ.h⟩
theorem Dx(xs:List aK)(k:aK):Lib.containsS (xs.map fun s=>(⟨s.toArray⟩:ByteArray)) ⟨k.toArray⟩=iH xs k:=by
 unfold iH
 rw[eu,Lib.containsS_iff]
 simp
theorem jr{w:World}  {xs:List aK}(h:di cI w A n xs)(i:n≤1000000)(k:aK) :
  Calls Tryz.prog 114 #[.slice A n c,S k] w fun e w'=>e=.returned (.bool (iH xs k))∧bf w w':=by
 by_cases f:n=0
 ·subst f
  refine(Tryz.slices_Contains_string_empty A c ⟨k.toArray⟩ w).mono ?_
  rintro e w' ⟨rfl,rfl⟩
  exact⟨by rw[h.Sq];rfl,al.refl _ _⟩
 ·obtain⟨b,o,x,rfl,l,m,p⟩:=h.get (k:=0) (by omega)
  refine(Tryz.slices_Contains_string b o n c (xs.map fun s=>(⟨s.toArray⟩:ByteArray)) ⟨k.toArray⟩ w (by rw[bH,h.1];exact aq _) (by omega) (fun j hj=>?_)).mono ?_
  ·rw[bH,h.1] at hj
   obtain⟨q,r,y,d,g,a⟩:=dq h hj
   injection d with d
   injection d with he1 he2
   subst he1;subst he2
   have:=a (X.here w No)
   rw[aL,bP,g]
   exact this
  ·rintro e w' ⟨rfl,rfl⟩
   refine⟨?_,al.refl _ _⟩
   rw[ay (by rw[bH,h.1];exact aq _),Dx]
theorem nO{w:World}  {xs:List aK}(h:di cI w A n xs)(d:A=none→n=0)(f:n≤1000000) :
  Calls Tryz.prog 95 #[.slice A n c] w fun e w'=>∃a b,e=.returned (.slice a xs.length b)∧bR cI 9 w w' a b xs:=by
 have g:=h.1
 refine(ye (h.rd (by decide)) (qE xs) d f).mono ?_
 rintro e w' ⟨a,b,rfl,i,j,k⟩
 subst g
 exact⟨a,b,rfl,i,j,k⟩
structure Ov where
 base:List bm
 own:List bm
 aN:List aK
 targets:List aK
structure Mi where
 bA:Option Addr
 bc:Nat
 oA:Option Addr
 oc:Nat
 nA:Option Addr
 nc:Nat
 tA:Option Addr
 tc:Nat
structure qN (t:TypeId) (w:World) (g:Nat) (r:Mi) (o:Ov):Prop where
 cs:Cs w g t #[.slice r.bA o.base.length r.bc,.slice r.oA o.own.length r.oc,.slice r.nA o.aN.length r.nc,.slice r.tA o.targets.length r.tc]
 base:di br w r.bA o.base.length o.base
 own:di br w r.oA o.own.length o.own
 aN:di cI w r.nA o.aN.length o.aN
 targets:di cI w r.tA o.targets.length o.targets
 nw:∀b o',r.oA=some ⟨b,o',none⟩→0<o.own.length→g<b
theorem di.far{α:Type}{T:kJ α}(d:∀x:α,∃s l,T.enc x=S s::l){w:World} {n g:Nat}{t:TypeId}{xs:List α}(h:di T w A n xs){e f i j:Option Addr}{k m p q c1 r u v:Nat}(y:Cs w g t #[.slice e k c1,.slice f m r,.slice i p u,.slice j q v]) :
  ∀b o,A=some ⟨b,o,none⟩→0<n→b≠g:=by
 rintro b o rfl hn rfl
 obtain⟨B,C,x,c,_,D,a⟩:=h.get hn
 injection c with c
 injection c with he1 he2
 subst he1;subst he2
 obtain⟨s,l,z⟩:=d x
 have:=a 0 (S s) (by rw[z];rfl)
 rw[y.cell] at this
 match o,this with
 | 0,this=>simp at this
 | 1,this=>simp at this
 | 2,this=>simp at this
 | 3,this=>simp at this
 | o+4,this=>simp at this
section
variable {t t':TypeId} {w v:World} {g g':Nat} {r:Mi} {o:Ov}
theorem qN.ext(h:qN t w g r o)(a:bf w v):qN t v g r o:=⟨h.cs.aP a id,h.base.ext a,h.own.ext a,h.aN.ext a,h.targets.ext a,h.nw⟩
theorem qN.store(h:qN t w g r o)  {l:List bm}(d:di br w A l.length l)(i:∀b o',A=some ⟨b,o',none⟩→0<l.length→g<b):qN t (w.setCell ⟨g,1,none⟩ (.slice A l.length c)) g { r with oA:=A,oc:=c } { o with own:=l }:=by
 have a:al (fun b=>b=g) w (w.setCell ⟨g,1,none⟩ (.slice A l.length c)):=(al.refl _ _).at_ _ _
 have f:=h.cs.cM 1 (.slice A l.length c)
 simp only[ax,aR,aS] at f
 exact⟨f,h.base.nW a fun b o e hp=>h.base.far me h.cs b o e hp,d.nW a fun b o e hp=>d.far me h.cs b o e hp,
  h.aN.nW a fun b o e hp=>h.aN.far tN h.cs b o e hp,h.targets.nW a fun b o e hp=>h.targets.far tN h.cs b o e hp,i⟩
end
def Ov.rd(o:Ov)(k:aK):aK:=if ji k o.own then ki k o.own else if iH o.aN k then (if ji k o.base then ki k o.base else []) else []
def Ov.rq(o:Ov)(k:aK):Int:=if ji k o.own then 0 else if iH o.aN k then (if ji k o.base then 0 else 5) else 6
def Ov.jJ(o:Ov)(k s:aK):Int:=if iH o.targets k then (if 20<s.length then 2 else 0) else 6
def Ov.wr(o:Ov)(k s:aK):Ov:=if o.jJ k s=0 then { o with own:=jY fk (k,s) o.own } else o
theorem Ov.ze(o:Ov)(k:aK):0≤o.rq k:=by unfold Ov.rq;split<;>(try split)<;>(try split)<;>omega
theorem Ov.uF(o:Ov)(k s:aK):0≤o.jJ k s:=by unfold Ov.jJ;split<;>(try split)<;>omega
structure Ov.Small (o:Ov):Prop where
 base:o.base.length≤10000
 own:o.own.length≤10000
 aN:o.aN.length≤10000
 targets:o.targets.length≤10000
 pj:eQ fk o.own
 ui:eQ fk o.base
theorem Ov.QG(o:Ov)(n s:aK):(o.wr n s).base=o.base:=by unfold Ov.wr;split<;>rfl
theorem Ov.NX(o:Ov)(n s:aK):(o.wr n s).aN=o.aN:=by unfold Ov.wr;split<;>rfl
theorem Ov.AC(o:Ov)(n s:aK):(o.wr n s).targets=o.targets:=by unfold Ov.wr;split<;>rfl
theorem Ov.Qp{o:Ov}(h:eQ fk o.own)(n s:aK):eQ fk (o.wr n s).own:=by
 unfold Ov.wr;split
 ·exact ny h _
 ·exact h
theorem Ov.To(o:Ov)(n s:aK):(o.wr n s).own.length≤o.own.length+1:=by
 unfold Ov.wr;split
 ·exact mq _ _
 ·omega
def iG(c:UInt8):aK→List aK
 | []=>[[]]
 | x::s=>if x=c then []::iG c s else match iG c s with
  | h::t=>(x::h)::t
  | []=>[[x]]
theorem rH(c:UInt8):∀s:aK,iG c s≠[]
 | []=>by simp[iG]
 | x::s=>by
  unfold iG
  split
  ·simp
  ·split<;>simp
theorem Bp(c x:UInt8)(s:aK):iG c (x::s)=if x=c then []::iG c s else match iG c s with
 | h::t=>(x::h)::t
 | []=>[[x]]:=rfl
theorem tO(c x:UInt8)(s:aK):dB c (x::s)=if x=c then ([],s,true) else (x::(dB c s).1,(dB c s).2.1,(dB c s).2.2):=rfl
theorem vM(c:UInt8):∀s:aK,iG c s=if (dB c s).2.2 then (dB c s).1::iG c (dB c s).2.1 else [s]
 | []=>by simp[iG,dB]
 | x::s=>by
  have ih:=vM c s
  rw[Bp,tO]
  by_cases h:x=c
  ·simp[h]
  ·rw[aa h,aa h,ih]
   cases (dB c s).2.2<;>simp
theorem mg(c:UInt8):∀s:aK,(dB c s).2.2=true→s=(dB c s).1++c::(dB c s).2.1
 | [],h=>by simp[dB] at h
 | x::s,h=>by
  unfold dB at h ⊢
  by_cases a:x=c
  ·simp[a]
  ·rw[aa a] at h ⊢
   rw[dV,←mg c s h]
theorem qs(c:UInt8)(s:aK):Lib.index s [c]=if (dB c s).2.2 then ((dB c s).1.length:Int) else -1:=by
 have h:=uU c s
 have b:=Lib.index_ge s [c]
 unfold Lib.cut at h
 by_cases a:0≤Lib.index s [c]
 ·rw[ab a] at h
  rw[←h]
  have:=Lib.index_room s [c] a
  simp only[aH,if_true,an,bI] at this ⊢
  omega
 ·rw[aa a] at h
  rw[←h]
  simp;omega
theorem n9(c:UInt8):∀(n:Nat) (s:aK),s.length≤n→Lib.splitK [c] 0 (Lib.count s [c]) s=iG c s∧Lib.count s [c]+1=(iG c s).length
 | n,s,hn=>by
  have f:=qs c s
  rw[vM]
  by_cases d:(dB c s).2.2=true
  ·rw[ab d] at f
   rw[ab d]
   have i:=mg c s d
   have j:∀a b:aK,s=a++c::b→s.length=a.length+b.length+1∧s.drop (a.length+1)=b∧s.take a.length=a:=by
    rintro a b rfl
    refine⟨by simp;omega,?_,gX⟩
    rw[←cX,fB];rfl
   obtain⟨g,h,k⟩:=j _ _ i
   match n,hn with
   | 0,hn=>omega
   | n+1,hn=>
    have l:Lib.count s [c]=Lib.count (dB c s).2.1 [c]+1:=by
     rw[Lib.count_hit (by simp) f,bE,h,fL]
    have ih:=n9 c n (dB c s).2.1 (by omega)
    rw[l]
    refine⟨?_,by rw[an,←ih.2]⟩
    have m:¬(Lib.index s [c]==-1)=true:=fun e=>by have:=bY.1 e;omega
    have o:(Lib.index s [c]).toNat=(dB c s).1.length:=by omega
    rw[Lib.splitK,aa m,o,fK,bE,k,h,ih.1]
  ·rw[aa d] at f
   rw[aa d,Lib.count_miss f]
   exact⟨rfl,rfl⟩
theorem BU(l:aK)(i j:Nat):(⟨l.toArray⟩:ByteArray).extract i j=⟨((l.take j).drop i).toArray⟩:=by
 apply ByteArray.ext
 rw[ByteArray.data_extract]
 simp
 rw[List.drop_take]
theorem PQ(l:aK)(k:List UInt8):((⟨l.toArray⟩:ByteArray).toList==k)=(l==k):=by rw[y8]
attribute [go_sem] BU PQ gO iK jm j5 List.take_length
end Go.Proofs.YtpgmcijdcnnjpaaGreatDoor
