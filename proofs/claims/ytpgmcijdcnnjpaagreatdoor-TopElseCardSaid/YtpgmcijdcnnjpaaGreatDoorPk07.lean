/- Lemmas for it. -/
import Derived.RangeFuncNested
import Derived.RangeFuncBound
import Derived.Test.YtpgmcijdcnnjpaaGreatDoorPk04
set_option linter.all false
set_option maxRecDepth 100000
set_option maxHeartbeats 4000000
namespace Go.Proofs.YtpgmcijdcnnjpaaGreatDoor
open Go Go.RowKit Go.Shelf
variable {i k:Nat} {xs:List bm} {w:World} {s t:aK}
attribute [local go_sem] Oper.semAt_some
def rU(xs:List bm)(k:Nat):List (Nat×bm):=(List.range k).map fun j=>(xs.length-1-j,xs.getD (xs.length-1-j) ([],[]))
theorem tv(xs:List bm)(k:Nat):rU xs (k+1)=rU xs k++[(xs.length-1-k,xs.getD (xs.length-1-k) ([],[]))]:=by simp[rU,jT]
theorem Ge(xs:List bm)(k:Nat):(rU xs k).length=k:=by simp[rU]
theorem Fl(xs:List bm) (a:k≤xs.length):(rU xs k).map (·.2)=xs.reverse.take k:=by
 apply List.ext_getElem
 ·simp[rU,a]
 ·intro i b c
  have d:i<k:=by simpa [rU] using b
  simp only[rU,List.getElem_map,List.getElem_range,jh,List.getElem_reverse]
  rw[aL,aF (by omega)]
  try rfl
def yw(k:aK)(xs:List bm):Option bm:=xs.reverse.find? fun y=>decide (y.1=k)
theorem Oe{k:aK} (h:∀p∈rU xs xs.length,p.2.1≠k):yw k xs=none:=by
 unfold yw
 rw[eI]
 intro y a
 have b:=Fl xs (aq _)
 rw[ay (by simp)] at b
 rw[←b] at a
 obtain⟨p,c,rfl⟩:=cw.1 a
 simpa using h p c
theorem Mz{k:aK} {m:Nat}(b:m+1≤xs.length)(h:∀p∈rU xs m,p.2.1≠k)(c:(xs.getD (xs.length-1-m) ([],[])).1=k):yw k xs=some (xs.getD (xs.length-1-m) ([],[])):=by
 unfold yw
 have a:=Fl xs b
 rw[tv,cU] at a
 have d:xs.reverse=(rU xs m).map (·.2)++(xs.getD (xs.length-1-m) ([],[])::xs.reverse.drop (m+1)):=
  (dX (m+1) xs.reverse).symm.trans ((congrArg (·++xs.reverse.drop (m+1)) a.symm).trans (by simp))
 rw[d,List.find?_append]
 have e:((rU xs m).map (·.2)).find? (fun y=>decide (y.1=k))=none:=by
  rw[eI]
  intro y f
  obtain⟨p,g,rfl⟩:=cw.1 f
  simpa using h p g
 rw[e,kM]
 simp only[aM c,Option.none_or]
theorem ug{β:Type}(B:Nat)(p:β→Prop):OwnFrom B (fun s _=>p s):=fun _ _ _ _ hs _ _=>hs
abbrev V2:TypeId:=187
theorem Oa (F:Fence) (n:Nat) (K:F.fn 264) (y:F.round=none) (Q:1≤n) (l r s b c a cap:Nat) (xs:List bm) (g:xs.length=a) (R:a≤1000000) (C:b<s) (z:r<s) (J D:List (Nat×bm)→World→Prop)
  (L:∀pre x W,J pre W→pre.length<a→YieldAt F (n-1) Tryz.prog l #[.int .i64 (x.1:Int),.agg #[S x.2.1,S x.2.2]] W fun e W'=>
   (e=.returned (.bool true)∧J (pre++[x]) W'∧Below s W W')∨(e=.returned (.bool false)∧D (pre++[x]) W'))
  (W:World) (A:W.cell? ⟨r,0,none⟩=some (.slice (some ⟨b,c,none⟩) a cap)) (t:∀j,j<a→W.cell? ⟨b,c+j*2,none⟩=some (S (xs.getD j ([],[])).1)∧W.cell? ⟨b,c+j*2+1,none⟩=some (S (xs.getD j ([],[])).2)) (M:J [] W) :
  CallsIn F n Tryz.prog 264 #[.func (.yield l) #[] #[],.pointer (some ⟨r,0,none⟩)] W fun e W'=>(∃v,e=.returned v) ∧
   ((∃ys,ys=rU xs a∧J ys W')∨(∃pre,(∃k,k≤a∧pre=rU xs k)∧D pre W')):=by
 refine callsIn_of_wp Tryz.func264 rfl K ?_ y
 simp only[Tryz.ntmps264,eE,an,bI,Nat.reduceAdd,Nat.reduceSub,fq,fx,gr,fH,cW,dV]
 gi_wp2
 gi_loopw [3] (fun i wr=>∃k:Nat,k≤a∧i=.int .i64 ((a:Int)-1-k)∧J (rU xs k) wr∧Below s W wr)
  (fun i _=>(intOf i+1).toNat)
 case atStart=>exact⟨0,au _,by simp,M,Below.refl _ _⟩
 case round=>
  obtain⟨k,T,rfl,h,d⟩:=hrel
  have N:=(d.cell (p:=⟨r,0,none⟩) z).trans A
  by_cases B:k<a
  ·obtain⟨j,E⟩:∃j:Nat,j=a-1-k:=⟨_,rfl⟩
   have f:(a:Int)-1-k=(j:Int):=by omega
   have m:j<a:=by omega
   have o:=(d.cell (p:=⟨b,c+j*2,none⟩) C).trans (t j m).1
   have q:=(d.cell (p:=⟨b,c+j*2+1,none⟩) C).trans (t j m).2
   have u:=tv xs k
   rw[g,←E] at u
   obtain⟨x,G⟩:∃x,x=xs.getD j ([],[]):=⟨_,rfl⟩
   rw[←G] at o q u
   obtain⟨U,tmps,w,H,O,P⟩:=L _ (j,x) wr h (by rw[Ge];exact B)
   dsimp only at O
   rw[f]
   have I:=aj u
   have V:=aj t
   clear u G E t
   gi_wp2
   refine P.mono ?_
   rintro e W3 (⟨rfl,hJ3,hk3⟩|⟨rfl,hJx3⟩)
   ·gi_wp2
    go_roundw
    case rel=>exact⟨k+1,by omega,(by first|go_num|(congr 1;omega)|simp),(by rw[I.ou];exact hJ3),d.trans hk3⟩
    case measure=>simp[intOf]<;>omega
   ·gi_wp2
    refine bodyPost_ret (results_none rfl _ _ _) rfl ?_
    exact⟨⟨_,rfl⟩,.inr ⟨_,⟨k+1,by omega,I.ou.symm⟩,hJx3⟩⟩
  ·obtain rfl:k=a:=by omega
   have f:(k:Int)-1-k=-1:=by omega
   rw[f]
   gi_wp2
   go_end0
   exact⟨⟨_,rfl⟩,.inl ⟨_,rfl,h⟩⟩
theorem Ee(F:Fence)(n:Nat)(d:F.fn 264)(a:F.round=none)(l c cap:Nat)(A:Option Addr)(J:List (Nat×bm)→World→Prop)(W:World)(f:W.cell? ⟨c,0,none⟩=some (.slice A 0 cap))(g:J [] W) :
  CallsIn F n Tryz.prog 264 #[.func (.yield l) #[] #[],.pointer (some ⟨c,0,none⟩)] W fun e W'=>(∃v,e=.returned v)∧J [] W':=by
 refine callsIn_of_wp Tryz.func264 rfl d ?_ a
 simp only[Tryz.ntmps264,eE,an,bI,Nat.reduceAdd,Nat.reduceSub,fq,fx,gr,fH,cW,dV]
 gi_wp2
 gi_loopw [3] (fun i wr=>i=.int .i64 (-1)∧J [] wr) (fun _ _=>0)
 case atStart=>exact⟨by simp,g⟩
 case round=>
  obtain⟨rfl,b⟩:=hrel
  gi_wp2
  go_end0
  exact⟨⟨_,rfl⟩,b⟩
theorem Pv(F:Fence)(n:Nat)(d:F.fn 254)(c:F.round=none)(a:Option Addr)(b cap:Nat)(w:World) :
  CallsIn F n Tryz.prog 254 #[.slice a b cap] w fun e w'=>e=.returned (.func (.func 264) #[] #[.pointer (some ⟨w.heap.size,0,none⟩)])∧w'=w.alloc (.cells #[.slice a b cap] 84):=by
 refine callsIn_of_wp Tryz.func254 rfl d ?_ c
 simp only[Tryz.ntmps254,eE,an,bI,Nat.reduceAdd,Nat.reduceSub,fq,fx,gr,fH,cW,dV]
 gi_wp2
 go_ret
 exact⟨rfl,rfl⟩
theorem Ir (F:Fence) (n:Nat) (s:F.fn 264) (f:F.round=none) (u:1≤n) (d i:Nat) (A:Option Addr) (a cap:Nat) (xs:List bm) (v:a≤1000000) (w:World) (g:d<i) (m:i=w.heap.size)
  (y:w.cell? ⟨d,0,none⟩=some (.slice A a cap)) (q:di br w A a xs) :
  SeqStopsK F n Tryz.prog 264 #[.pointer (some ⟨d,0,none⟩)] (fun x:Nat×bm=>#[Value.int .i64 (x.1:Int),Value.agg #[S x.2.1,S x.2.2]]) (Below i) (fun ys=>ys=rU xs a)
   (fun pre=>∃k,k≤a∧pre=rU xs k) a w:=fun l J Jx W hW _ _ hY h0=>by
 subst m
 have h:=(hW.cell (p:=⟨d,0,none⟩) g).trans y
 by_cases z:a=0
 ·subst z
  exact(Ee F n s f l d cap A J W h h0).mono fun e W' ⟨he,hj⟩=>⟨he,.inl ⟨_,rfl,hj⟩⟩
 ·obtain⟨b,o,rfl,r,c⟩:=q.2 (by omega)
  refine Oa F n s f u l d _ b o a cap xs q.1 v r g J Jx hY W h (fun j hj=>?_) h0
  have t:xs[j]?=some (xs.getD j ([],[])):=by
   rw[aL,aF (by rw[q.1];exact hj)];rfl
  exact⟨(hW.cell (p:=⟨b,_,none⟩) r).trans (c j _ t 0 _ rfl),(hW.cell (p:=⟨b,_,none⟩) r).trans (c j _ t 1 _ rfl)⟩
theorem PC(F:Fence)(n:Nat)(H:F.fn 235)(I:F.fn 254)(E:F.fn 264)(g:F.round=none)(hn:3≤n)(A:Option Addr)(b cap:Nat)(xs:List bm)(U:b≤1000000)(a:aK)(w:World)(J:di br w A b xs) :
  CallsIn F n Tryz.prog 235 #[.slice A b cap,S a] w fun e W'=>e=.returned (.tuple #[S (((yw a xs).map (·.2)).getD []),.bool (yw a xs).isSome])∧Below w.heap.size w W':=by
 have L:1≤n:=by omega
 refine callsIn_of_wp_marks Tryz.func235 rfl H ?_ g
 simp only[Tryz.ntmps235,eE,an,bI,Nat.reduceAdd,Nat.reduceSub,fq,fx,gr,fH,cW,dV]
 gi_wp2_with (gi_at_call 254;refine(Pv F (n-1) I g _ _ _ _).mono ?_;rintro e w' ⟨rfl,rfl⟩)
 have b0:=Boxed.new w 9 (S a)
 have b1:=Boxed.new (w.alloc (.cells #[S a] 9)) 9 (S [])
 have b2:=Boxed.new ((w.alloc (.cells #[S a] 9)).alloc (.cells #[S []] 9)) 4 (.bool false)
 have b3:=Boxed.new (((w.alloc (.cells #[S a] 9)).alloc (.cells #[S []] 9)).alloc (.cells #[.bool false] 4)) 84 (.slice A b cap)
 have o:bf w ((((w.alloc (.cells #[S a] 9)).alloc (.cells #[S []] 9)).alloc (.cells #[.bool false] 4)).alloc (.cells #[.slice A b cap] 84)):=((((al.refl No w).alloc _).alloc _).alloc _).alloc _
 have M:((((w.alloc (.cells #[S a] 9)).alloc (.cells #[S []] 9)).alloc (.cells #[.bool false] 4)).alloc (.cells #[.slice A b cap] 84)).heap.size=w.heap.size+4:=by simp
 have v:=((b0.alloc (.cells #[S []] 9)).alloc (.cells #[.bool false] 4)).alloc (.cells #[.slice A b cap] 84)
 have q:=(b1.alloc (.cells #[.bool false] 4)).alloc (.cells #[.slice A b cap] 84)
 have s:=b2.alloc (.cells #[.slice A b cap] 84)
 simp only[World.size_alloc] at q s b3
 clear b0 b1 b2
 change Code.wpIn _ _ _ _ _ _ (World.alloc (((w.alloc (.cells #[S a] 9)).alloc (.cells #[S []] 9)).alloc (.cells #[.bool false] 4)) (.cells #[.slice A b cap] 84))
 obtain⟨h,y⟩:∃h,((((w.alloc (.cells #[S a] 9)).alloc (.cells #[S []] 9)).alloc (.cells #[.bool false] 4)).alloc (.cells #[.slice A b cap] 84))=h:=⟨_,rfl⟩
 rw[y] at v q s b3 o M ⊢
 clear y
 have z:Below w.heap.size w h:=o.toBelow
 refine wpIn_rangeFunc_ownH g L (gf:=264) (lb:=#[.pointer (some ⟨w.heap.size+1+1+1,0,none⟩)]) rfl E (enters_of Tryz.func264 (by kernel_rfl) rfl)
  (Ir F (n-1) E g (by omega) (w.heap.size+1+1+1) h.heap.size A b cap xs U h (by omega) rfl b3.cell (J.ext o)) belowK_t (belowK_b (aq _)) (Below.refl _ _) (fun _=>rfl)
  (fun d W=>((Boxed W w.heap.size 9 (S a)∧Boxed W (w.heap.size+1) 9 (S []))∧Boxed W (w.heap.size+1+1) 4 (.bool false))∧(∀p∈d,p.2.1≠a)∧Below w.heap.size h W)
  (fun c d W=>(Boxed W (w.heap.size+1) 9 (S ((d.getLast?.map (·.2.2)).getD []))∧Boxed W (w.heap.size+1+1) 4 (.bool true))∧(c=.ret∧∃ini last,d=ini++[last]∧(∀p∈ini,p.2.1≠a)∧last.2.1=a)∧Below w.heap.size h W)
  (OwnFrom.and (OwnFrom.and (OwnFrom.and (Own.from (boxed_own _ _ _) _) (Own.from (boxed_own _ _ _) _)) (Own.from (boxed_own _ _ _) _)) (OwnFrom.and (ug _ (fun d:List (Nat×bm)=>∀p∈d,p.2.1≠a)) (ownFrom_below (w₀:=h) (by omega) (by omega))))
  (fun c=>OwnFrom.and (OwnFrom.and (Own.from (boxed_own _ _ _) _) (Own.from (boxed_own _ _ _) _)) (OwnFrom.and (ug _ (fun d:List (Nat×bm)=>c=.ret∧∃ini last,d=ini++[last]∧(∀p∈ini,p.2.1≠a)∧last.2.1=a)) (ownFrom_below (w₀:=h) (by omega) (by omega))))
  ⟨⟨⟨v,q⟩,s⟩,by simp,Below.refl _ _⟩
  (fun x N W=>∃t,(W.cell? ⟨t,0,none⟩=some (S x.2.1)∧W.cell? ⟨t,1,none⟩=some (S x.2.2))∧N={ tmps:=#[.slice A b cap,S a,undef,.pointer (some ⟨w.heap.size,0,none⟩),.pointer (some ⟨w.heap.size+1,0,none⟩),.pointer (some ⟨w.heap.size+1+1,0,none⟩),undef,.pointer (some ⟨t,0,none⟩),.slice A b cap,.func (.func 264) #[] #[.pointer (some ⟨w.heap.size+1+1+1,0,none⟩)],.int .i64 (x.1:Int),.agg #[S x.2.1,S x.2.2],undef,undef,undef,undef,undef,undef],defers:=[] })
  (fun x N _ X Y row hs hg O=>by obtain⟨t,⟨H,I⟩,E⟩:=hs;exact⟨t,⟨cell_kept H hg (fun r e=>(O r e).2),cell_kept I hg (fun r e=>(O r e).2)⟩,E⟩)
  ?assign ?body ?done ?stop
 case assign=>
  rintro l d x W K ⟨⟨⟨B,c1⟩,f⟩,u,i⟩ hK
  have P:=i.size
  have C:Cs (W.alloc (.cells #[S x.2.1,S x.2.2] V2)) W.heap.size V2 #[S x.2.1,S x.2.2]:=Cs.new W V2 #[S x.2.1,S x.2.2]
  gi_wp2
  exact hK _ _ ((KeepsOthers.alloc _ _).from _) ((Below.refl _ W).alloc P _)
   ⟨⟨⟨B.alloc _,c1.alloc _⟩,f.alloc _⟩,u,i.alloc (by omega) _⟩ ⟨W.heap.size,⟨C.cell 0,C.cell 1⟩,rfl⟩
 case body=>
  rintro l d x N W V ⟨r,O⟩ ⟨⟨⟨B,c1⟩,f⟩,u,i⟩ ⟨t,⟨e1,e2⟩,rfl⟩ hlt
  have d0:=B.cell
  have Z:=c1.cell
  have d2:=f.cell
  have f1:=c1.frozen
  have f2:=f.frozen
  by_cases G:x.2.1=a
  ·have hq:(x.2.1==a)=true:=by simpa using G
   gi_wp2
   exact⟨((KeepsOthers.setCell _ _ _).trans (KeepsOthers.setCell _ _ _)).from _,⟨(by simpa using ((c1.set (S x.2.2)).other (by omega) (.bool true))),(f.other (by omega) _).set _⟩,⟨rfl,d,x,rfl,u,G⟩,(i.setCell (p:=⟨w.heap.size+1,0,none⟩) (by show w.heap.size≤w.heap.size+1;omega) _).setCell (p:=⟨w.heap.size+1+1,0,none⟩) (by show w.heap.size≤w.heap.size+1+1;omega) _⟩
  ·have hq:(x.2.1==a)=false:=by simpa using G
   gi_wp2
   exact⟨KeepsFrom.refl _ _,Below.refl _ _,⟨⟨B,c1⟩,f⟩,fun p hp'=>(az.1 hp').elim (u p) (fun e=>by simp at e;subst e;exact G),i⟩
 case done=>
  rintro D ys W hD rfl ⟨⟨⟨B,c1⟩,f⟩,u,i⟩ hK
  have Q:=aj (Oe (k:=a) (xs:=xs) (by have:=J.1;rw[this];exact u))
  have Z:=c1.cell
  have d2:=f.cell
  have f1:=c1.frozen
  have f2:=f.frozen
  gi_wp2
  have j:=((KeepsOthers.setCell W ⟨w.heap.size+1,0,none⟩ (S [])).trans (KeepsOthers.setCell _ ⟨w.heap.size+1+1,0,none⟩ (.bool false))).same D _ hK rfl
  refine⟨by simp,.inl ⟨_,_,rfl,run_takeDeferred j,?_⟩⟩
  have R:=cell_kept (((c1.set (S [])).other (by omega) (.bool false)).cell:((W.setCell ⟨w.heap.size+1,0,none⟩ (S [])).setCell ⟨w.heap.size+1+1,0,none⟩ (.bool false)).cell? ⟨w.heap.size+1,0,none⟩=some (S [])) (grownBy_putObj' _ D (.deferred none)) (fun r e=>by cases e;exact⟨_,j,rfl⟩)
  have T:=cell_kept (((f.other (by omega) (S [])).set (.bool false)).cell:((W.setCell ⟨w.heap.size+1,0,none⟩ (S [])).setCell ⟨w.heap.size+1+1,0,none⟩ (.bool false)).cell? ⟨w.heap.size+1+1,0,none⟩=some (.bool false)) (grownBy_putObj' _ D (.deferred none)) (fun r e=>by cases e;exact⟨_,j,rfl⟩)
  refine⟨.tuple #[S [],.bool false],?_,⟨by rw[Q.ou];rfl,z.trans (((i.setCell (p:=⟨w.heap.size+1,0,none⟩) (by show w.heap.size≤w.heap.size+1;omega) _).setCell (p:=⟨w.heap.size+1+1,0,none⟩) (by show w.heap.size≤w.heap.size+1+1;omega) _).trans (belowK_b (w:=w) (aq _) _ D _ _ (by omega) j rfl rfl))⟩⟩
  simp[results,Tryz.f235,go_sem,R,T]
 case stop=>
  rintro D c d W hD ⟨k,hk,rfl⟩ ⟨⟨c1,f⟩,⟨rfl,ini,last,e1,e2,e3⟩,i⟩ hK
  obtain⟨m,rfl⟩:∃m,k=m+1:=by
   cases k with
   | zero=>simp[rU] at e1
   | succ m=>exact⟨m,rfl⟩
  rw[tv] at e1
  obtain⟨rfl,e5⟩:=List.append_inj' e1 rfl
  obtain rfl:=by simpa using e5
  have Q:=aj (Mz (by rw[J.1];exact hk) e2 e3)
  rw[tv,List.getLast?_append] at c1
  gi_wp2
  refine⟨by simp,.inl ⟨_,_,rfl,run_takeDeferred hK,?_⟩⟩
  have R:=cell_kept c1.cell (grownBy_putObj' _ D (.deferred none)) (fun r e=>by cases e;exact⟨_,hK,rfl⟩)
  have T:=cell_kept f.cell (grownBy_putObj' _ D (.deferred none)) (fun r e=>by cases e;exact⟨_,hK,rfl⟩)
  refine⟨.tuple #[S (xs.getD (xs.length-1-m) ([],[])).2,.bool true],?_,⟨by rw[Q.ou];rfl,z.trans (i.trans (belowK_b (w:=w) (aq _) _ D _ _ (by omega) hK rfl rfl))⟩⟩
  simp[results,Tryz.f235,go_sem,R,T]
theorem QS{A:Option Addr}{b cap:Nat} (c:b≤1000000)(a:aK) (d:di br w A b xs) :
  Calls Tryz.prog 235 #[.slice A b cap,S a] w fun e w'=>e=.returned (.tuple #[S (((yw a xs).map (·.2)).getD []),.bool (yw a xs).isSome])∧bf w w':=by
 refine(callsIn_wide (n:=3)).1 ((PC Fence.wide 3 trivial trivial trivial rfl (by omega) A b cap xs c a w d).mono ?_)
 rintro e w' ⟨rfl,h⟩
 exact⟨rfl,al.below h⟩
def zq(s:aK):Bool:=(s.all fun c=>decide (65≤c.toNat)&&decide (c.toNat≤90))&&!(s==[])&&decide (s.length≤4)
abbrev yZ:aK:=[36,40]
def wo(l:List bm)(rec:aK→aK×Int):Nat→aK→aK→aK×Int
 | 0,_,_=>([],0)
 | f+1,s,out=>
  if (Lib.cut s yZ).2.2=false then (if 600<(out++(Lib.cut s yZ).1).length then ([],2) else (out++(Lib.cut s yZ).1,0))
  else if (dB 41 (Lib.cut s yZ).2.1).2.2=false∨zq (dB 41 (Lib.cut s yZ).2.1).1=false then ([],4)
  else match yw (dB 41 (Lib.cut s yZ).2.1).1 l with
   | none=>([],5)
   | some v=>if (rec v.2).2≠0 then ([],(rec v.2).2) else if 600<(out++(Lib.cut s yZ).1++(rec v.2).1).length then ([],2) else wo l rec f (dB 41 (Lib.cut s yZ).2.1).2.1 (out++(Lib.cut s yZ).1++(rec v.2).1)
def oR(l:List bm):Nat→aK→aK×Int
 | 0,_=>([],9)
 | d+1,s=>wo l (oR l d) (s.length+1) s []
theorem Dy(s sep:aK):(Lib.cut s sep).1.length+(Lib.cut s sep).2.1.length≤s.length:=by
 unfold Lib.cut
 split
 ·rename_i h
  simp only[aH,be]
  have:(Lib.index s sep).toNat≤s.length∨s.length<(Lib.index s sep).toNat:=by omega
  rcases this with h1|h1
  ·omega
  ·omega
 ·simp
theorem Sv{sep:aK}(a:sep≠[])(h:(Lib.cut s sep).2.2=true):(Lib.cut s sep).2.1.length<s.length:=by
 have b:0<sep.length:=List.length_pos_iff.2 a
 unfold Lib.cut at h ⊢
 split
 ·rename_i hi
  simp only[be]
  have c:0<s.length:=by
   cases s with
   | nil=>
    exfalso
    unfold Lib.index at hi
    rw[aa (by simpa using a)] at hi
    omega
   | cons _ _=>simp
  omega
 ·rename_i hi
  rw[aa hi] at h
  cases h
theorem zB{l:List bm}{rec:aK→aK×Int}:∀(f:Nat) (s out:aK),(wo l rec f s out).1.length≤600
 | 0,_,_=>by simp[wo]
 | f+1,s,out=>by
  unfold wo
  split
  ·split
   ·simp
   ·rename_i h;show(out++(Lib.cut s yZ).1).length≤600;omega
  ·split
   ·simp
   ·split
    ·simp
    ·split
     ·simp
     ·split
      ·simp
      ·exact zB f _ _
theorem wW(l:List bm):∀(d:Nat) (s:aK),(oR l d s).1.length≤600
 | 0,_=>by simp[oR]
 | d+1,s=>zB _ _ _
theorem xV{l:List bm}{rec:aK→aK×Int}(a:∀s,0≤(rec s).2):∀(f:Nat) (s out:aK),0≤(wo l rec f s out).2
 | 0,_,_=>by simp[wo]
 | f+1,s,out=>by
  unfold wo
  split
  ·split<;>simp
  ·split
   ·simp
   ·split
    ·simp
    ·split
     ·exact a _
     ·split
      ·simp
      ·exact xV a f _ _
theorem r9(l:List bm):∀(d:Nat) (s:aK),0≤(oR l d s).2
 | 0,_=>by simp[oR]
 | d+1,s=>xV (r9 l d) _ _ _
def Rz(w:aK):Bool:=!(w==[])
def fP(s:aK):List aK:=(iG 32 s).filter Rz
theorem zf(c:UInt8):∀(a r:aK),c∉a→iG c (a++r)=ko a (iG c r)
 | [],r,_=>by
  cases h:iG c r with
  | nil=>exact absurd h (rH c r)
  | cons x l=>simp[ko,h]
 | x::a,r,h=>by
  have b:x≠c:=fun e=>h (by simp[e])
  rw[dV,td,aa b,zf c a r (fun hm=>h (aE _ hm)),xI]
  try rfl
theorem Ly{n b0 b1 b2 b3:Nat}:(Lib.decodeN n b0 b1 b2 b3).1=32↔b0=32:=by
 unfold Lib.decodeN
 repeat' split
 all_goals (try dsimp only)
 all_goals omega
theorem Mf{n b0 b1 b2 b3:Nat}(a:1≤n):1≤(Lib.decodeN n b0 b1 b2 b3).2∧(Lib.decodeN n b0 b1 b2 b3).2≤n∧(2≤(Lib.decodeN n b0 b1 b2 b3).2→b1≠32)∧(3≤(Lib.decodeN n b0 b1 b2 b3).2→b2≠32)∧(4≤(Lib.decodeN n b0 b1 b2 b3).2→b3≠32)∧(Lib.decodeN n b0 b1 b2 b3).2≤4∧(b0=32→(Lib.decodeN n b0 b1 b2 b3).2=1):=by
 unfold Lib.decodeN
 repeat' split
 all_goals (try dsimp only)
 all_goals (refine⟨?_,?_,?_,?_,?_,?_,?_⟩<;>omega)
theorem ND(l:aK) (h:i<l.length):(⟨l.toArray⟩:ByteArray).get! i=l[i]:=by
 show l.toArray[i]! = l[i]
 simp[h]
theorem IA(l:aK){a:Nat}(h:a<l.length):∃r w,Utf8.decode ⟨l.toArray⟩ a=(r,w)∧1≤w∧a+w≤l.length ∧
  ((r=32∧w=1∧l.drop a=32::l.drop (a+1))∨(r≠32∧(32:UInt8)∉(l.drop a).take w∧l.drop a=(l.drop a).take w++l.drop (a+w))):=by
 have k:(⟨l.toArray⟩:ByteArray).size=l.length:=by simp[ByteArray.size]
 have m:=Lib.decode_at ⟨l.toArray⟩ a
 rw[k] at m
 obtain⟨p,x,s,t,u,y,v⟩:=Mf (n:=l.length-a) (b0:=((⟨l.toArray⟩:ByteArray).get! a).toNat) (b1:=((⟨l.toArray⟩:ByteArray).get! (a+1)).toNat) (b2:=((⟨l.toArray⟩:ByteArray).get! (a+2)).toNat) (b3:=((⟨l.toArray⟩:ByteArray).get! (a+3)).toNat) (by omega)
 have o:=@Ly (l.length-a) ((⟨l.toArray⟩:ByteArray).get! a).toNat ((⟨l.toArray⟩:ByteArray).get! (a+1)).toNat ((⟨l.toArray⟩:ByteArray).get! (a+2)).toNat ((⟨l.toArray⟩:ByteArray).get! (a+3)).toNat
 rw[←m] at p x s t u y v o
 clear m
 generalize Utf8.decode ⟨l.toArray⟩ a=q at *
 obtain⟨r,w⟩:=q
 dsimp only at *
 refine⟨r,w,rfl,p,by omega,?_⟩
 have z:=ND l h
 by_cases i:r=32
 ·left
  have c:=o.1 i
  have A:=v c
  have e:l[a]=32:=by
   rw[z] at c
   apply im.1
   exact c
  exact⟨i,A,by rw[cB h,e]⟩
 ·right
  refine⟨i,fun hm=>?_,?_⟩
  ·obtain⟨j,f,d⟩:=iL hm
   rw[jh,List.getElem_drop] at d
   rw[aH,be] at f
   have g:a+j<l.length:=by omega
   have b:((⟨l.toArray⟩:ByteArray).get! (a+j)).toNat=32:=by rw[ND l g,d];rfl
   clear d g
   match j,f,b with
   | 0,_,b=>exact i (o.2 b)
   | 1,f,b=>exact s (by omega) b
   | 2,f,b=>exact t (by omega) b
   | 3,f,b=>exact u (by omega) b
   | j+4,f,_=>omega
  ·conv=>lhs;rw[←dX w (l.drop a)]
   rw[cX]
def Kg(l:aK)(x:Nat×Nat):aK:=Lib.pieceU l x.1 x.2
theorem AN(l:aK)(a b:Nat):((⟨l.toArray⟩:ByteArray).extract a b)=⟨(Lib.pieceU l a b).toArray⟩:=by
 rw[BU]
 congr 2
 unfold Lib.pieceU
 rw[List.drop_take]
theorem DU(p:aK)(L:List aK):ko p ([]::L)=p::L:=by simp[ko]
theorem QZ(p:Nat→Bool)(s:ByteArray)(f b:Nat)(st:Option Nat)(c:List (Nat×Nat)):Lib.spansFromP p s (f+1) b st c =
 if b<s.size then
  (if p (Utf8.decode s b).1 then
    (match st with
     | some a=>Lib.spansFromP p s f (b+(Utf8.decode s b).2) none (c++[(a,b)])
     | none=>Lib.spansFromP p s f (b+(Utf8.decode s b).2) none c)
   else
    (match st with
     | some a=>Lib.spansFromP p s f (b+(Utf8.decode s b).2) (some a) c
     | none=>Lib.spansFromP p s f (b+(Utf8.decode s b).2) (some b) c))
 else (c,st):=rfl
theorem mQ(l:aK):∀(f pos:Nat) (st:Option Nat) (acc:List (Nat×Nat)),l.length-pos≤f→pos≤l.length→(∀a,st=some a→a<pos) →
  (Lib.closeSpans ⟨l.toArray⟩ (Lib.spansFromP (fun r=>r==32) ⟨l.toArray⟩ f pos st acc)).map (Kg l)=acc.map (Kg l)++(ko (Lib.openPiece l st pos) (iG 32 (l.drop pos))).filter Rz
 | f,pos,st,acc,hf,hp,ha=>by
  have c:(⟨l.toArray⟩:ByteArray).size=l.length:=by simp[ByteArray.size]
  by_cases d:pos<l.length
  ·obtain⟨f,rfl⟩:∃g,f=g+1:=⟨f-1,by omega⟩
   obtain⟨r,w,k,p,j,o⟩:=IA l d
   rw[QZ,ab (by rw[c];exact d),k]
   dsimp only
   rcases o with⟨rfl,rfl,e⟩|⟨hr,hn,e⟩
   ·rw[ab (show((32:Nat)==32)=true from rfl),e,td,ab rfl]
    cases st with
    | none=>
     dsimp only
     rw[mQ l f (pos+1) none acc (by omega) (by omega) (fun a h=>by cases h)]
     simp only[Lib.openPiece,sN (rH 32 _)]
     rfl
    | some a=>
     dsimp only
     rw[mQ l f (pos+1) none (acc++[(a,pos)]) (by omega) (by omega) (fun a h=>by cases h)]
     have i:Rz (Lib.pieceU l a pos)=true:=by
      have:=Lib.pieceU_ne l a pos (ha a rfl) hp
      simpa [Rz] using this
     simp only[Lib.openPiece,sN (rH 32 _),DU,dC,i,if_true,cU,du,eG,aT,List.singleton_append]
     rfl
   ·rw[aa (by simpa using hr),e,zf 32 _ _ hn,xI]
    cases st with
    | none=>
     dsimp only
     rw[mQ l f (pos+w) (some pos) acc (by omega) j (fun a h=>by injection h;omega)]
     have m:Lib.openPiece l (some pos) (pos+w)=(l.drop pos).take w:=by
      show Lib.pieceU l pos (pos+w)=_
      unfold Lib.pieceU
      rw[Nat.add_sub_cancel_left]
     rw[m]
     simp only[Lib.openPiece,cW]
    | some a=>
     dsimp only
     rw[mQ l f (pos+w) (some a) acc (by omega) j (fun b h=>by injection h with h;have:=ha a rfl;omega)]
     have m:Lib.openPiece l (some a) (pos+w)=Lib.openPiece l (some a) pos++(l.drop pos).take w:=(Lib.pieceU_grow l a pos w (by have:=ha a rfl;omega)).symm
     rw[m]
  ·rw[Lib.spansFromP_end _ _ _ _ _ _ (by rw[c];exact d)]
   have k:l.drop pos=[]:=cr (by omega)
   rw[k]
   unfold Lib.closeSpans
   cases st with
   | none=>simp[Lib.openPiece,iG,ko,Rz]
   | some a=>
    have n:pos=l.length:=by omega
    have i:Rz (Lib.pieceU l a pos)=true:=by
     have:=Lib.pieceU_ne l a pos (ha a rfl) hp
     simpa [Rz] using this
    simp only[Lib.openPiece,iG,ko,cv,dC,i,if_true,List.filter_nil,cU,du,eG,c]
    rw[←n]
    try rfl
termination_by f pos=>(l.length-pos,f)
decreasing_by all_goals (simp_wf;omega)
theorem zp(l:aK):Lib.goFieldsP (fun r=>r==32) ⟨l.toArray⟩=(fP l).map fun w=>(⟨w.toArray⟩:ByteArray):=by
 have b:(⟨l.toArray⟩:ByteArray).size=l.length:=by simp[ByteArray.size]
 unfold Lib.goFieldsP Lib.spansOfP
 have h:=mQ l l.length 0 none [] (by omega) (au _) (fun a h=>by cases h)
 rw[eG,cW] at h
 simp only[Lib.openPiece,sN (rH 32 _),jm] at h
 have e:fP l=(iG 32 l).filter Rz:=rfl
 rw[e,←h,b,List.map_map]
 apply iP
 intro x _
 exact AN l x.1 x.2
open Go.Lib in
theorem IP(w:World):PredAt Tryz.prog 214 #[] encR (fun r=>r==32) w:=fun W r _=>by
 have e:((r:Int)==32)=(r==32):=by
  rw[eu,bY,bY]
  omega
 unfold FnGives
 go_enter Tryz.func214,Tryz.ntmps214
 go_wp2
 go_ret
 exact⟨by rw[←e];rfl,0,rfl⟩
theorem JN(s:aK)(h:s.length≤100000)(w:World) :
  Calls Tryz.prog 173 #[S s] w fun e w'=>∃A' c',e=.returned (.slice A' (fP s).length c')∧bR cI 9 w w' A' c' (fP s):=by
 have b:(⟨s.toArray⟩:ByteArray).size=s.length:=by simp[ByteArray.size]
 have c:=aj (Tryz.strings_FieldsFunc 214 #[] (enters_of Tryz.func214 (by kernel_rfl) rfl) _ ⟨s.toArray⟩ w (by rw[b];omega) (IP w))
 go_enter Tryz.func173,Tryz.ntmps173
 go_wp2_with fail
 refine c.ou.mono ?_
 rintro e u ⟨A,rfl,i,a,d⟩
 clear c
 rw[zp] at a ⊢
 rw[bH] at a ⊢
 rw[List.map_map,show(Value.string∘fun w:aK=>(⟨w.toArray⟩:ByteArray))=(fun w=>Value.string ⟨w.toArray⟩) from rfl,RU] at a
 have f:Hd (bR cI 9 w u (some ⟨A,0,none⟩) (fP s).length (fP s)):=by
  refine⟨?_,al.below d,fun g hg=>by simp[Value.ownBlock] at hg;omega⟩
  rcases a with⟨h1,h2⟩
  refine⟨h1,?_⟩
  rcases h2 with h2|⟨g,cap,cur,e,_,h3⟩
  ·exact .inl h2
  ·exact .inr ⟨g,cap,cur,e,au _,h3⟩
 clear a d
 go_wp2_with fail
 go_ret
 exact⟨_,_,rfl,f.ou⟩
def tP(s:aK):Bool:=(dB 37 s).2.2
theorem ur(c:UInt8):∀s:aK,decide (0≤Lib.indexByte s c)=(dB c s).2.2
 | []=>rfl
 | x::s=>by
  have ih:=ur c s
  have b:=Lib.indexByte_ge s c
  rw[tO,Lib.indexByte]
  by_cases h:x=c
  ·simp[h]
  ·rw[aa h,aa (by simpa using h),←ih]
   by_cases a:Lib.indexByte s c=-1
   ·simp[a]
   ·rw[aa (by simpa using a)]
    have:0≤Lib.indexByte s c:=by omega
    rw[aM this,aM (by omega)]
def oz(s t:aK):aK:=if (dB 37 s).2.2=true then (dB 37 s).1++t++(dB 37 s).2.1 else s
theorem tM(s t:aK):(oz s t).length≤s.length+t.length:=by
 have:=qw 37 s
 unfold oz
 split
 ·simp only[af];omega
 ·omega
theorem Ig{a b:aK}{c:UInt8}(h:s=a++c::b):s.take a.length=a∧s.drop (a.length+1)=b:=by
 subst h
 refine⟨gX,?_⟩
 rw[←cX,fB]
 try rfl
theorem vL(s t:aK)(h:([37]==t)=false):Lib.replace s [37] t 1=oz s t:=by
 have a:=qs 37 s
 unfold Lib.replace oz
 rw[aa (by rw[h];exact dI)]
 by_cases b:(dB 37 s).2.2=true
 ·rw[ab b] at a ⊢
  have d:=mg 37 s b
  have g:Lib.count s [37]=1+Lib.count (s.drop ((dB 37 s).1.length+1)) [37]:=Lib.count_hit (by simp) a
  have c:Lib.replaceNum s [37] 1=1:=by
   unfold Lib.replaceNum
   rw[aa (by omega)]
   try rfl
  rw[c,Lib.replaceK_hit _ _ 0 s _ a,Lib.replaceK]
  obtain⟨e,f⟩:=Ig d
  rw[bE,e,f]
 ·rw[aa b] at a ⊢
  have c:Lib.replaceNum s [37] 1=0:=by
   unfold Lib.replaceNum
   rw[Lib.count_miss a]
   try rfl
  rw[c,Lib.replaceK]
def xy(s:aK):Bool:=i7 (oz s [97])
theorem Co(s:aK)(w:World):Calls Tryz.prog 175 #[S s] w fun e w'=>e=.returned (.bool (tP s))∧bf w w':=by
 have a:=aj (Tryz.strings_Contains_one ⟨s.toArray⟩ 37 w)
 go_enter Tryz.func175,Tryz.ntmps175
 go_wp2_with fail
 refine a.ou.mono ?_
 rintro e u ⟨rfl,rfl⟩
 clear a
 go_wp2_with fail
 go_ret
 exact⟨by rw[tP,←ur];rfl,al.refl _ _⟩
theorem TL(s:aK)(k:s.length≤5000) (d:Ml w):Calls Tryz.prog 176 #[S s] w fun e w'=>e=.returned (.bool (xy s))∧bf w w':=by
 obtain⟨m,d⟩:=d
 have a:(⟨s.toArray⟩:ByteArray).size=s.length:=by simp[ByteArray.size]
 have c:Lib.countB ⟨s.toArray⟩ ⟨#[37]⟩≤s.length:=by
  have l:Lib.countB ⟨s.toArray⟩ ⟨#[37]⟩=Lib.count s [37]:=rfl
  have n:=(n9 37 _ s (aq _)).2
  have o:=oG 37 s
  omega
 have g:Hd (Calls Tryz.prog 159 #[S s,S [37],S [97],.int .i64 1] w fun e w'=>e=.returned (S (oz s [97]))∧bf w w'):=by
  refine(Tryz.strings_Replace ⟨s.toArray⟩ ⟨#[37]⟩ ⟨#[97]⟩ 1 m w (by rw[a];omega) d (by show 1≤1;omega) (by rw[a];show s.length+_*1≤_;omega)).mono ?_
  rintro e w' ⟨rfl,i⟩
  refine⟨?_,al.below i⟩
  have:=vL s [97] rfl
  rw[←this]
 have j:=tM s [97]
 rw[bE] at j
 have f:=aj (fun w=>wS (oz s [97]) w (by omega))
 unfold xy
 generalize oz s [97]=t at g f ⊢
 generalize i7 t=b at f ⊢
 clear d c
 go_enter Tryz.func176,Tryz.ntmps176
 go_wp2_with fail
 refine lL (X.here w No) (g.ou) fun ξ1 Hξ1=>?_
 go_wp2_with fail
 refine lL ξ1 (f.ou _) fun ξ2 Hξ2=>?_
 go_wp2_with fail
 go_ret
 exact⟨rfl,ξ2.h⟩
structure lR where
 targets:List aK
 aN:List aK
 bD:List aK
 deriving DecidableEq
structure Mk where
 vars:List bm
 rules:List lR
 ba:List aK
 deriving DecidableEq
def qf:Mk:=⟨[],[],[]⟩
def oe(p:Bool):List aK→List aK→Bool
 | _,[]=>true
 | seen,w::r=>xy w&&!iH seen w&&(p||!tP w)&&oe p (seen++[w]) r
def Jj(t n:List aK):Bool:=oe (t.any tP) [] (t++n)&&!(t.any tP&&decide (1<t.length))
def mH(m:Mk)(s:aK):Mk×Int:=
 if (oR m.vars 6 s).2≠0 then (m,(oR m.vars 6 s).2)
 else if (dB 58 (oR m.vars 6 s).1).2.2=false∨fP (dB 58 (oR m.vars 6 s).1).1=[] then (m,4)
 else if 2<(fP (dB 58 (oR m.vars 6 s).1).1).length∨3<(fP (dB 58 (oR m.vars 6 s).1).2.1).length∨m.rules.length=10 then (m,2)
 else if Jj (fP (dB 58 (oR m.vars 6 s).1).1) (fP (dB 58 (oR m.vars 6 s).1).2.1)=true then (⟨m.vars,m.rules++[⟨fP (dB 58 (oR m.vars 6 s).1).1,fP (dB 58 (oR m.vars 6 s).1).2.1,[]⟩],m.ba⟩,0)
 else (m,3)
def tT(m:Mk)(s:aK):Mk×Int:=
 match m.rules.getLast? with
 | none=>(m,4)
 | some r=>
  if (oR m.vars 6 s).2≠0 then (m,(oR m.vars 6 s).2)
  else if r.bD.length=3∨28<(oR m.vars 6 s).1.length then (m,2)
  else (⟨m.vars,m.rules.dropLast++[⟨r.targets,r.aN,r.bD++[(oR m.vars 6 s).1]⟩],m.ba⟩,0)
abbrev uG:aK:=[112,104,111,110,121,32]
abbrev Mo:aK:=[32,61,32]
def OE(m:Mk)(n:aK):Mk×Int:=if i7 n=false∨iH m.ba n=true then (m,3) else (⟨m.vars,m.rules,m.ba++[n]⟩,0)
def OI(m:Mk)(a b:aK):Mk×Int:=if zq a=false then (m,3) else if m.vars.length=6 then (m,2) else (⟨m.vars++[(a,b)],m.rules,m.ba⟩,0)
def nX(m:Mk):aK→Mk×Int
 | []=>(m,0)
 | x::r=>
  if x=35 then (m,0)
  else if x=9 then tT m r
  else if Lib.hasPrefix (x::r) uG=true then OE m ((x::r).drop 6)
  else if (Lib.cut (x::r) Mo).2.2=true then OI m (Lib.cut (x::r) Mo).1 (Lib.cut (x::r) Mo).2.1
  else mH m (x::r)
theorem rJ(m:Mk)(x:UInt8)(r:aK):nX m (x::r) =
 if x=35 then (m,0)
 else if x=9 then tT m r
 else if Lib.hasPrefix (x::r) uG=true then OE m ((x::r).drop 6)
 else if (Lib.cut (x::r) Mo).2.2=true then OI m (Lib.cut (x::r) Mo).1 (Lib.cut (x::r) Mo).2.1
 else mH m (x::r):=rfl
def jV:List aK→Mk→Mk×Int
 | [],m=>(m,0)
 | l::ls,m=>if (nX m l).2=0 then jV ls (nX m l).1 else (qf,(nX m l).2)
def yE:List aK→List aK→Bool
 | _,[]=>false
 | made,t::ts=>iH made t||yE (made++[t]) ts
def px(ph:List aK)(r:lR):Bool:=(iH ph (r.targets.headD [])==decide (r.bD.length=0))&&!(decide (1<r.targets.length)&&iH ph (r.targets.getD 1 []))
def vD(ph:List aK):List lR→List aK→Option (List aK)
 | [],made=>some made
 | r::rs,made=>if yE made r.targets=true then none else if px ph r=true then vD ph rs (made++r.targets) else none
def pH(m:Mk):Int:=
 match vD m.ba m.rules [] with
 | none=>3
 | some made=>if m.ba.all (iH made)=true then 0 else 3
def fj(s:aK):Mk×Int:=
 if 600<s.length then (qf,2)
 else if (jV (iG 10 s) qf).2≠0 then (qf,(jV (iG 10 s) qf).2)
 else if pH (jV (iG 10 s) qf).1=0 then ((jV (iG 10 s) qf).1,0)
 else (qf,pH (jV (iG 10 s) qf).1)
structure Mk.Fit (m:Mk) (k:Nat):Prop where
 v:m.vars.length≤6
 vt:∀x∈m.vars,x.1.length≤600∧x.2.length≤600
 r:m.rules.length≤10
 rt:∀x∈m.rules,1≤x.targets.length∧x.targets.length≤2∧x.aN.length≤3∧x.bD.length≤3
 p:m.ba.length≤k
theorem nL:qf.Fit 0:=⟨au _,(fun x hx=>by cases hx),au _,(fun x hx=>by cases hx),aq _⟩
theorem Mk.Fit.more{m:Mk} (h:m.Fit k):m.Fit (k+1):=⟨h.v,h.vt,h.r,h.rt,iq h.p⟩
theorem L9{m:Mk} (h:m.Fit k)(s:aK):(mH m s).1.Fit (k+1):=by
 unfold mH
 split
 ·exact h.more
 ·split
  ·exact h.more
  ·rename_i h2
   split
   ·exact h.more
   ·rename_i h3
    split
    ·refine⟨h.v,h.vt,?_,?_,iq h.p⟩
     ·have:=h.r
      show(m.rules++[_]).length≤10
      rw[af,bE]
      omega
     ·intro x b
      rcases az.1 b with b|b
      ·exact h.rt x b
      ·obtain rfl:=aC.1 b
       refine⟨?_,by show(fP _).length≤2;omega,by show(fP _).length≤3;omega,au _⟩
       show 1≤(fP (dB 58 (oR m.vars 6 s).1).1).length
       cases hf:fP (dB 58 (oR m.vars 6 s).1).1 with
       | nil=>exact absurd (.inr hf) h2
       | cons a l=>simp
    ·exact h.more
theorem Nw{m:Mk} (h:m.Fit k)(s:aK):(tT m s).1.Fit (k+1):=by
 unfold tT
 split
 ·exact h.more
 ·rename_i r hr
  split
  ·exact h.more
  ·split
   ·exact h.more
   ·rename_i h3
    have b:=List.mem_of_getLast? hr
    obtain⟨d,e,f,g⟩:=h.rt r b
    refine⟨h.v,h.vt,?_,?_,iq h.p⟩
    ·have:=h.r
     have c:0<m.rules.length:=iV b
     show(m.rules.dropLast++[_]).length≤10
     rw[af,bE,List.length_dropLast]
     omega
    ·intro x a
     rcases az.1 a with a|a
     ·exact h.rt x (List.dropLast_subset _ a)
     ·obtain rfl:=aC.1 a
      refine⟨d,e,f,?_⟩
      show(r.bD++[_]).length≤3
      rw[af,bE]
      omega
theorem Cr{m:Mk} (h:m.Fit k) (b:s.length≤600):(nX m s).1.Fit (k+1):=by
 cases s with
 | nil=>exact h.more
 | cons x r=>
  rw[rJ]
  split
  ·exact h.more
  ·split
   ·exact Nw h r
   ·split
    ·unfold OE
     split
     ·exact h.more
     ·refine⟨h.v,h.vt,h.r,h.rt,?_⟩
      have:=h.p
      show(m.ba++[_]).length≤k+1
      rw[af,bE]
      omega
    ·split
     ·unfold OI
      split
      ·exact h.more
      ·split
       ·exact h.more
       ·rename_i h6
        have c:=Dy (x::r) Mo
        refine⟨?_,?_,h.r,h.rt,iq h.p⟩
        ·have:=h.v
         show(m.vars++[_]).length≤6
         rw[af,bE]
         omega
        ·intro y a
         rcases az.1 a with a|a
         ·exact h.vt y a
         ·obtain rfl:=aC.1 a
          exact⟨by show(Lib.cut (x::r) Mo).1.length≤600;omega,by show(Lib.cut (x::r) Mo).2.1.length≤600;omega⟩
     ·exact L9 h _
theorem Dq(m:Mk)(s:aK):0≤(mH m s).2:=by
 have:=r9 m.vars 6 s
 unfold mH
 repeat' split
 all_goals first|exact this|simp
theorem Fi(m:Mk)(s:aK):0≤(tT m s).2:=by
 have:=r9 m.vars 6 s
 unfold tT
 repeat' split
 all_goals first|exact this|simp
theorem Dh(m:Mk)(s:aK):0≤(nX m s).2:=by
 cases s with
 | nil=>exact fO _
 | cons x r=>
  rw[rJ]
  split
  ·simp
  ·split
   ·exact Fi m r
   ·split
    ·unfold OE;split<;>simp
    ·split
     ·unfold OI;repeat' split
      all_goals simp
     ·exact Dq m _
theorem vq:∀(ls:List aK) (m:Mk),0≤(jV ls m).2
 | [],m=>fO _
 | l::ls,m=>by
  unfold jV
  split
  ·exact vq ls _
  ·exact Dh m l
theorem Il(m:Mk):pH m=0∨pH m=3:=by
 unfold pH
 split
 ·exact .inr rfl
 ·split
  ·exact .inl rfl
  ·exact .inr rfl
theorem Bf(s:aK):0≤(fj s).2:=by
 have a:=vq (iG 10 s) qf
 have b:=Il (jV (iG 10 s) qf).1
 unfold fj
 split
 ·simp
 ·split
  ·exact a
  ·split
   ·simp
   ·show 0≤pH _;omega
theorem Ci:∀(ls:List aK) (m:Mk) (k:Nat),m.Fit k→(∀l∈ls,l.length≤600)→(jV ls m).1.Fit (k+ls.length)
 | [],m,k,h,_=>h
 | l::ls,m,k,h,hl=>by
  unfold jV
  split
  ·have:=Ci ls _ (k+1) (Cr h (hl l (by simp))) (fun x hx=>hl x (aE _ hx))
   rw[an,show k+(ls.length+1)=k+1+ls.length by omega]
   exact this
  ·exact⟨nL.v,nL.vt,nL.r,nL.rt,au _⟩
abbrev vw:=UInt8→Option aK
def qS(t f n k:aK):vw:=fun c=>if c=64 then some t else if c=60 then some f else if c=94 then some n else if c=42 then some k else none
def iS(v:vw):aK→aK
 | []=>[]
 | [x]=>[x]
 | x::y::r=>if x=36 then (match v y with|some t=>t++iS v r|none=>x::iS v (y::r)) else x::iS v (y::r)
def lN(v:vw):aK→Option aK
 | x::y::_=>if x=36 then v y else none
 | _=>none
def js:List aK→aK
 | []=>[]
 | [x]=>x
 | x::y::r=>x++32::js (y::r)
theorem sa(v:vw)(x:UInt8)(r:aK):iS v (x::r)=match lN v (x::r) with|some t=>t++iS v (r.drop 1)|none=>x::iS v r:=by
 cases r with
 | nil=>rfl
 | cons y r=>
  by_cases a:x=36
  ·cases h:v y<;>simp[iS,lN,a,h]
  ·simp[iS,lN,a]
theorem zO{v:vw}  (h:lN v (s.drop i)=some t):iS v (s.drop i)=t++iS v (s.drop (i+2))∧i+2≤s.length:=by
 cases hs:s.drop i with
 | nil=>rw[hs] at h;cases h
 | cons x r=>
  rw[hs] at h
  have a:r≠[]:=by
   rintro rfl
   cases h
  have b:s.drop (i+2)=r.drop 1:=by
   rw[fL i 2,←cX,cX,fL 2 i,←cX,hs]
   try rfl
  rw[sa,h,b]
  refine⟨rfl,?_⟩
  have:=congrArg List.length hs
  have c:=List.length_pos_iff.2 a
  simp only[be,an] at this
  omega
theorem yG{v:vw}  (h:lN v (s.drop i)=none)(a:i<s.length):iS v (s.drop i)=s[i]::iS v (s.drop (i+1)):=by
 rw[cB a] at h ⊢
 rw[sa,h]
theorem xe{v:vw}{K:Nat}(a:∀c t,v c=some t→t.length≤K):∀s:aK,(iS v s).length≤s.length*(K+1)
 | []=>by simp[iS]
 | [x]=>by simp[iS]
 | x::y::r=>by
  have d:=xe a (y::r)
  have g:=xe a r
  rw[sa]
  have e:(x::y::r).length*(K+1)=r.length*(K+1)+(K+1)+(K+1):=by simp only[an,ey]
  have f:(y::r).length*(K+1)=r.length*(K+1)+(K+1):=by simp only[an,ey]
  rw[f] at d
  rw[e]
  cases h:lN v (x::y::r) with
  | none=>simp only[an];omega
  | some t=>
   have:t.length≤K:=by
    by_cases b:x=36
    ·simp only[lN,b,if_true] at h
     exact a _ _ h
    ·simp[lN,b] at h
   simp only[af,iK,jm]
   omega
theorem ER{f n k:aK}{K:Nat}(a:t.length≤K)(b:f.length≤K)(d:n.length≤K)(e:k.length≤K):∀c u,qS t f n k c=some u→u.length≤K:=by
 intro c u h
 unfold qS at h
 split at h
 ·cases h;exact a
 ·split at h
  ·cases h;exact b
  ·split at h
   ·cases h;exact d
   ·split at h
    ·cases h;exact e
    ·cases h
theorem rG{K:Nat}:∀{l:List aK},(∀x∈l,x.length≤K)→(js l).length≤l.length*(K+1)
 | [],_=>by simp[js]
 | [x],h=>by have:=h x (by simp);simp[js];omega
 | x::y::r,h=>by
  have a:=rG (l:=y::r) (fun z hz=>h z (aE _ hz))
  have c:=h x (by simp)
  have b:(x::y::r).length*(K+1)=(y::r).length*(K+1)+(K+1):=by rw[an,ey]
  rw[b]
  simp only[js,af,an] at a ⊢
  omega
theorem xz:∀(l:List aK) (x:aK),l≠[]→js (l++[x])=js l++32::x
 | [],_,h=>absurd rfl h
 | [y],x,_=>rfl
 | y::z::r,x,_=>by
  have:=xz (z::r) x (by simp)
  show y++32::js (z::r++[x])=(y++32::js (z::r))++32::x
  rw[this]
  simp
def Er(s p:aK):Bool:=decide (p.length≤s.length)&&(s.take p.length==p)
def Dw(s p:aK):Bool:=decide (p.length≤s.length)&&(s.drop (s.length-p.length)==p)
def mi(pat name:aK):aK×Bool:=
 if (dB 37 pat).2.2=true∧(dB 37 pat).1.length+(dB 37 pat).2.1.length<name.length∧Er name (dB 37 pat).1=true∧Dw name (dB 37 pat).2.1=true
 then ((name.take (name.length-(dB 37 pat).2.1.length)).drop (dB 37 pat).1.length,true) else ([],false)
theorem AO(s p:aK)(f:s.length≤maxLen)(g:p.length≤maxLen)(w:World) :
  Calls Tryz.prog 212 #[S s,S p] w fun e w'=>e=.returned (.bool (Er s p))∧bf w w':=by
 unfold maxLen at f g
 have a:Hd (Er s p=(decide (p.length≤s.length)&&(s.take p.length==p))):=rfl
 by_cases d:p.length≤s.length
 ·rw[aM d] at a
  have c:Hd ((s.take p.length==p)=Er s p):=by rw[Hd,a.ou];rfl
  have h:decide ((p.length:Int)≤(s.length:Int))=true:=by rw[aW];omega
  generalize Er s p=b at c ⊢
  clear a
  go_enter Tryz.func212,Tryz.ntmps212
  go_wp2_with fail
  all_goals (go_ret;exact⟨by rw[←c.ou];try rfl,al.refl _ _⟩)
 ·have c:Hd (Er s p=false):=by rw[Hd,a.ou,aG d];rfl
  have h:decide ((p.length:Int)≤(s.length:Int))=false:=by rw[aA];omega
  rw[c.ou]
  go_enter Tryz.func212,Tryz.ntmps212
  go_wp2_with fail
  all_goals (go_ret;exact⟨rfl,al.refl _ _⟩)
theorem FM(s p:aK)(a:s.length≤maxLen)(b:p.length≤maxLen)(w:World) :
  Calls Tryz.prog 220 #[S s,S p] w fun e w'=>e=.returned (.bool (Er s p))∧bf w w':=by
 have c:=aj (AO s p a b w)
 go_enter Tryz.func220,Tryz.ntmps220
 go_wp2_with fail
 refine lL (X.here w No) (c.ou) fun ξ1 Hξ1=>?_
 go_wp2_with fail
 go_ret
 exact⟨rfl,ξ1.h⟩
theorem Bg(s p:aK)(f:s.length≤maxLen)(g:p.length≤maxLen)(w:World) :
  Calls Tryz.prog 239 #[S s,S p] w fun e w'=>e=.returned (.bool (Dw s p))∧bf w w':=by
 unfold maxLen at f g
 have a:Hd (Dw s p=(decide (p.length≤s.length)&&(s.drop (s.length-p.length)==p))):=rfl
 by_cases d:p.length≤s.length
 ·rw[aM d] at a
  have c:Hd ((s.drop (s.length-p.length)==p)=Dw s p):=by rw[Hd,a.ou];rfl
  have h:decide ((p.length:Int)≤(s.length:Int))=true:=by rw[aW];omega
  generalize Dw s p=b at c ⊢
  clear a
  go_enter Tryz.func239,Tryz.ntmps239
  go_wp2_with fail
  all_goals (go_ret;exact⟨by rw[←c.ou];try rfl,al.refl _ _⟩)
 ·have c:Hd (Dw s p=false):=by rw[Hd,a.ou,aG d];rfl
  have h:decide ((p.length:Int)≤(s.length:Int))=false:=by rw[aA];omega
  rw[c.ou]
  go_enter Tryz.func239,Tryz.ntmps239
  go_wp2_with fail
  all_goals (go_ret;exact⟨rfl,al.refl _ _⟩)
theorem EZ(s p:aK)(a:s.length≤maxLen)(b:p.length≤maxLen)(w:World) :
  Calls Tryz.prog 221 #[S s,S p] w fun e w'=>e=.returned (.bool (Dw s p))∧bf w w':=by
 have c:=aj (Bg s p a b w)
 go_enter Tryz.func221,Tryz.ntmps221
 go_wp2_with fail
 refine lL (X.here w No) (c.ou) fun ξ1 Hξ1=>?_
 go_wp2_with fail
 go_ret
 exact⟨rfl,ξ1.h⟩
theorem TW(d c:aK)(p:d.length≤100000)(r:c.length≤100000) (m:Ml w) :
  Calls Tryz.prog 179 #[S d,S c] w fun e w'=>e=.returned (.tuple #[S (mi d c).1,.bool (mi d c).2])∧bf w w':=by
 have j:=aj (Dz d 37 (by omega) m)
 have n:=qw 37 d
 have f:Hd (mi d c=if (dB 37 d).2.2=true∧(dB 37 d).1.length+(dB 37 d).2.1.length<c.length∧Er c (dB 37 d).1=true∧Dw c (dB 37 d).2.1=true then ((c.take (c.length-(dB 37 d).2.1.length)).drop (dB 37 d).1.length,true) else ([],false)):=rfl
 generalize mi d c=R at f ⊢
 generalize dB 37 d=q at j n f
 obtain⟨a,b,is⟩:=q
 dsimp only at j n f
 have k:=aj (fun v=>FM c a (by unfold maxLen;omega) (by unfold maxLen;omega) v)
 have l:=aj (fun v=>EZ c b (by unfold maxLen;omega) (by unfold maxLen;omega) v)
 generalize Er c a=pb at k f
 generalize Dw c b=sb at l f
 clear m
 go_enter Tryz.func179,Tryz.ntmps179
 go_wp2_with fail
 refine lL (X.here w No) (j.ou) fun ξ1 Hξ1=>?_
 clear j
 cases is with
 | false=>
  have g:Hd (R=([],false)):=by rw[Hd,f.ou];exact aa (fun h=>by simp at h)
  go_wp2_with fail
  go_ret2
  rw[g.ou]
  exact⟨rfl,ξ1.h⟩
 | true=>
 by_cases i:a.length+b.length<c.length
 ·have o:decide ((c.length:Int)≤(a.length:Int)+(b.length:Int))=false:=by rw[aA];omega
  cases pb with
  | false=>
   have g:Hd (R=([],false)):=by rw[Hd,f.ou];exact aa (fun h=>by simp at h)
   go_upto_region 2 with fail
   refine cj [15] (Cl w No) (Cl.of ξ1.h) ?_
   refine bK ?_
   (refine bQ ?_;intro K hK);refine kF ξ1 (k.ou _) hK fun ξ2 Hξ2=>?_;clear hK K;refine bj ?_;refine bK ?_
   refine ar ?_
   go_wp2_with fail
   go_ret2
   rw[g.ou]
   exact⟨rfl,ξ2.h⟩
  | true=>
   cases sb with
   | false=>
    have g:Hd (R=([],false)):=by rw[Hd,f.ou];exact aa (fun h=>by simp at h)
    go_upto_region 2 with fail
    refine cj [15,21] (Cl w No) (Cl.of ξ1.h) ?_
    refine bK ?_
    (refine bQ ?_;intro K hK);refine kF ξ1 (k.ou _) hK fun ξ2 Hξ2=>?_;clear hK K;refine bj ?_;refine bK ?_
    (refine bQ ?_;intro K hK);refine kF ξ2 (l.ou _) hK fun ξ3 Hξ3=>?_;clear hK K;refine bj ?_;refine bK ?_
    refine ar ?_
    go_wp2_with fail
    go_ret2
    rw[g.ou]
    exact⟨rfl,ξ3.h⟩
   | true=>
    have g:Hd (R=((c.take (c.length-b.length)).drop a.length,true)):=by rw[Hd,f.ou];exact ab ⟨rfl,i,rfl,rfl⟩
    go_upto_region 2 with fail
    refine cj [15,21] (Cl w No) (Cl.of ξ1.h) ?_
    refine bK ?_
    (refine bQ ?_;intro K hK);refine kF ξ1 (k.ou _) hK fun ξ2 Hξ2=>?_;clear hK K;refine bj ?_;refine bK ?_
    (refine bQ ?_;intro K hK);refine kF ξ2 (l.ou _) hK fun ξ3 Hξ3=>?_;clear hK K;refine bj ?_;refine bK ?_
    refine ar ?_
    go_wp2_with fail
    go_ret2
    rw[g.ou]
    exact⟨rfl,ξ3.h⟩
 ·have g:Hd (R=([],false)):=by rw[Hd,f.ou];exact aa (fun h=>i h.2.1)
  have o:decide ((c.length:Int)≤(a.length:Int)+(b.length:Int))=true:=by rw[aW];omega
  go_wp2_with fail
  go_ret2
  rw[g.ou]
  exact⟨rfl,ξ1.h⟩
end Go.Proofs.YtpgmcijdcnnjpaaGreatDoor
