/- Put together: Fnd, CutB, Cut. -/
import Derived.RangeFuncNested
import Derived.RangeFuncBound
import Derived.RangeFuncCalls
import Derived.RangeFuncLeaves
import Derived.RangeFuncBox
import Derived.Shelf.Abstract
import Derived.WalkKit
import Derived.OwnWalkIn
import Derived.TacticsInMore
import Derived.LoopNIn
import Derived.LoopIn
import Derived.Test.YtnhaekifcieeoaaGreatDoorMa03
import Derived.Test.YtnhaekifcieeoaaGreatDoorMa04
import Derived.Test.YtnhaekifcieeoaaGreatDoorProg
import Derived.Test.YtnhaekifcieeoaaGreatDoorMa01
import Derived.Lib.IndexMore
import Derived.Test.YtnhaekifcieeoaaGreatDoorShelf
/- expand.find: a range over slices.Backward. -/
namespace Go.Proofs.YtnhaekifcieeoaaGreatDoor
open Go Go.RowKit Go.Shelf
attribute [local go_sem] Oper.semAt_some
/-- What has come when k rounds are over. -/
def bseq (xs : List File) (k : Nat) : List (Nat × File) := (List.range k).map fun j => (xs.length - 1 - j, xs.getD (xs.length - 1 - j) ([], []))
theorem bseq_succ (xs : List File) (k : Nat) : bseq xs (k + 1) = bseq xs k ++ [(xs.length - 1 - k, xs.getD (xs.length - 1 - k) ([], []))] := by simp [bseq, List.range_succ]
theorem bseq_length (xs : List File) (k : Nat) : (bseq xs k).length = k := by simp [bseq]
theorem bseq_snd (xs : List File) {k : Nat} (hk : k ≤ xs.length) : (bseq xs k).map (·.2) = xs.reverse.take k := by
  apply List.ext_getElem
  · simp [bseq, hk]
  · intro i h1 h2
    have hi : i < k := by simpa [bseq] using h1
    simp only [bseq, List.getElem_map, List.getElem_range, List.getElem_take, List.getElem_reverse]
    rw [List.getD_eq_getElem?_getD, List.getElem?_eq_getElem (by omega)]
    rfl
def fndL (k : Str) (xs : List File) : Option File := xs.reverse.find? fun y => decide (y.1 = k)
theorem fnd_none {k : Str} {xs : List File} (h : ∀ p ∈ bseq xs xs.length, p.2.1 ≠ k) : fndL k xs = none := by
  unfold fndL
  rw [List.find?_eq_none]
  intro y hy
  have h2 := bseq_snd xs (Nat.le_refl _)
  rw [List.take_of_length_le (by simp)] at h2
  rw [← h2] at hy
  obtain ⟨p, hp, rfl⟩ := List.mem_map.1 hy
  simpa using h p hp
theorem fnd_some {k : Str} {xs : List File} {m : Nat} (hm : m + 1 ≤ xs.length) (h : ∀ p ∈ bseq xs m, p.2.1 ≠ k) (h1 : (xs.getD (xs.length - 1 - m) ([], [])).1 = k) : fndL k xs = some (xs.getD (xs.length - 1 - m) ([], [])) := by
  unfold fndL
  have h2 := bseq_snd xs hm
  rw [bseq_succ, List.map_append] at h2
  have h3 : xs.reverse = (bseq xs m).map (·.2) ++ (xs.getD (xs.length - 1 - m) ([], []) :: xs.reverse.drop (m + 1)) :=
    (List.take_append_drop (m + 1) xs.reverse).symm.trans ((congrArg (· ++ xs.reverse.drop (m + 1)) h2.symm).trans (by simp))
  rw [h3, List.find?_append]
  have h4 : ((bseq xs m).map (·.2)).find? (fun y => decide (y.1 = k)) = none := by
    rw [List.find?_eq_none]
    intro y hy
    obtain ⟨p, hp, rfl⟩ := List.mem_map.1 hy
    simpa using h p hp
  rw [h4, List.find?_cons]
  simp only [decide_eq_true h1, Option.none_or]
theorem ownFrom_const {β : Type} (B : Nat) (p : β → Prop) : OwnFrom B (fun s _ => p s) := fun _ _ _ _ hs _ _ => hs
theorem grownBy_setCell_at (W : World) (p : Addr) (u : Value) : W.grownBy (W.setCell p u) (some p.block) :=
  ⟨rfl, rfl, rfl, by simp [World.setCell], fun k _ hk => Below.heap_setCell _ _ _ _ (fun e => hk (by rw [e]))⟩
abbrev kvT : TypeId := 110
set_option maxRecDepth 100000 in
set_option maxHeartbeats 2000000 in
theorem back1_in (F : Fence) (n : Nat) (hf : F.fn 177) (hro : F.round = none) (hn : 1 ≤ n) (l Bs n₀ b off len cap : Nat) (xs : List File) (hlen : xs.length = len) (hl : len ≤ 1000000) (hb : b < n₀) (hBl : Bs < n₀) (J Jx : List (Nat × File) → World → Prop)
    (hY : ∀ pre x W, J pre W → pre.length < len → YieldAt F (n - 1) Tryz.prog l #[.int .i64 (x.1 : Int), .agg #[S x.2.1, S x.2.2]] W fun e W' =>
      (e = .returned (.bool true) ∧ J (pre ++ [x]) W' ∧ Below n₀ W W') ∨ (e = .returned (.bool false) ∧ Jx (pre ++ [x]) W'))
    (W : World) (hBs : W.cell? ⟨Bs, 0, none⟩ = some (.slice (some ⟨b, off, none⟩) len cap)) (hc : ∀ j, j < len → W.cell? ⟨b, off + j * 2, none⟩ = some (S (xs.getD j ([], [])).1) ∧ W.cell? ⟨b, off + j * 2 + 1, none⟩ = some (S (xs.getD j ([], [])).2)) (h0 : J [] W) :
    CallsIn F n Tryz.prog 177 #[.func (.yield l) #[] #[], .pointer (some ⟨Bs, 0, none⟩)] W fun e W' => (∃ v, e = .returned v) ∧
      ((∃ ys, ys = bseq xs len ∧ J ys W') ∨ (∃ pre, (∃ k, k ≤ len ∧ pre = bseq xs k) ∧ Jx pre W')) := by
  refine callsIn_of_wp Tryz.func177 rfl hf ?_ hro
  simp only [Tryz.ntmps177, List.size_toArray, List.length_cons, List.length_nil, Nat.reduceAdd, Nat.reduceSub, Array.replicate_succ, Array.replicate_zero, List.push_toArray, List.append_toArray, List.nil_append, List.cons_append]
  gi_wp2
  gi_loopw [3] (fun i wr => ∃ k : Nat, k ≤ len ∧ i = .int .i64 ((len : Int) - 1 - k) ∧ J (bseq xs k) wr ∧ Below n₀ W wr)
    (fun i _ => (intOf i + 1).toNat)
  case atStart => exact ⟨0, Nat.zero_le _, by simp, h0, Below.refl _ _⟩
  case round =>
    obtain ⟨k, hk, rfl, hJs, hnx⟩ := hrel
    have hBx := (hnx.cell (p := ⟨Bs, 0, none⟩) hBl).trans hBs
    by_cases hlt : k < len
    · obtain ⟨j, hj⟩ : ∃ j : Nat, j = len - 1 - k := ⟨_, rfl⟩
      have hji : (len : Int) - 1 - k = (j : Int) := by omega
      have hjl : j < len := by omega
      have hcx1 := (hnx.cell (p := ⟨b, off + j * 2, none⟩) hb).trans (hc j hjl).1
      have hcx2 := (hnx.cell (p := ⟨b, off + j * 2 + 1, none⟩) hb).trans (hc j hjl).2
      have hs := bseq_succ xs k
      rw [hlen, ← hj] at hs
      obtain ⟨x, hx⟩ : ∃ x, x = xs.getD j ([], []) := ⟨_, rfl⟩
      rw [← hx] at hcx1 hcx2 hs
      obtain ⟨fn, tmps, assign, body, hy, hR⟩ := hY _ (j, x) wr hJs (by rw [bseq_length]; exact hlt)
      dsimp only at hy
      rw [hji]
      have HS := Lib.hid hs
      have HC := Lib.hid hc
      clear hs hx hj hc
      gi_wp2
      refine hR.mono ?_
      rintro e W3 (⟨rfl, hJ3, hk3⟩ | ⟨rfl, hJx3⟩)
      · gi_wp2
        go_roundw
        case rel => exact ⟨k + 1, by omega, (by first | go_num | (congr 1; omega) | simp), (by rw [HS.out]; exact hJ3), hnx.trans hk3⟩
        case measure => simp [intOf] <;> omega
      · gi_wp2
        refine bodyPost_ret (results_none rfl _ _ _) rfl ?_
        exact ⟨⟨_, rfl⟩, .inr ⟨_, ⟨k + 1, by omega, HS.out.symm⟩, hJx3⟩⟩
    · obtain rfl : k = len := by omega
      have hji : (k : Int) - 1 - k = -1 := by omega
      rw [hji]
      gi_wp2
      go_end0
      exact ⟨⟨_, rfl⟩, .inl ⟨_, rfl, hJs⟩⟩
set_option maxRecDepth 100000 in
set_option maxHeartbeats 1000000 in
theorem back1_nil_in (F : Fence) (n : Nat) (hf : F.fn 177) (hro : F.round = none) (l Bs cap : Nat) (A : Option Addr) (J : List (Nat × File) → World → Prop) (W : World) (hBs : W.cell? ⟨Bs, 0, none⟩ = some (.slice A 0 cap)) (h0 : J [] W) :
    CallsIn F n Tryz.prog 177 #[.func (.yield l) #[] #[], .pointer (some ⟨Bs, 0, none⟩)] W fun e W' => (∃ v, e = .returned v) ∧ J [] W' := by
  refine callsIn_of_wp Tryz.func177 rfl hf ?_ hro
  simp only [Tryz.ntmps177, List.size_toArray, List.length_cons, List.length_nil, Nat.reduceAdd, Nat.reduceSub, Array.replicate_succ, Array.replicate_zero, List.push_toArray, List.append_toArray, List.nil_append, List.cons_append]
  gi_wp2
  gi_loopw [3] (fun i wr => i = .int .i64 (-1) ∧ J [] wr) (fun _ _ => 0)
  case atStart => exact ⟨by simp, h0⟩
  case round =>
    obtain ⟨rfl, hJs⟩ := hrel
    gi_wp2
    go_end0
    exact ⟨⟨_, rfl⟩, hJs⟩
set_option maxHeartbeats 1000000 in
theorem back_in (F : Fence) (n : Nat) (hf : F.fn 167) (hro : F.round = none) (a : Option Addr) (len cap : Nat) (w : World) :
    CallsIn F n Tryz.prog 167 #[.slice a len cap] w fun e w' => e = .returned (.func (.func 177) #[] #[.pointer (some ⟨w.heap.size, 0, none⟩)]) ∧ w' = w.alloc (.cells #[.slice a len cap] 25) := by
  refine callsIn_of_wp Tryz.func167 rfl hf ?_ hro
  simp only [Tryz.ntmps167, List.size_toArray, List.length_cons, List.length_nil, Nat.reduceAdd, Nat.reduceSub, Array.replicate_succ, Array.replicate_zero, List.push_toArray, List.append_toArray, List.nil_append, List.cons_append]
  gi_wp2
  go_ret
  exact ⟨rfl, rfl⟩
theorem back_stops (F : Fence) (n : Nat) (hf : F.fn 177) (hro : F.round = none) (hn : 1 ≤ n) (Bs n₀ : Nat) (A : Option Addr) (len cap : Nat) (xs : List File) (hl : len ≤ 1000000) (w : World) (hBl : Bs < n₀) (hn₀ : n₀ = w.heap.size)
    (hc : w.cell? ⟨Bs, 0, none⟩ = some (.slice A len cap)) (hI : SlR fileF w A len xs) :
    SeqStopsK F n Tryz.prog 177 #[.pointer (some ⟨Bs, 0, none⟩)] (fun x : Nat × File => #[Value.int .i64 (x.1 : Int), Value.agg #[S x.2.1, S x.2.2]]) (Below n₀) (fun ys => ys = bseq xs len)
      (fun pre => ∃ k, k ≤ len ∧ pre = bseq xs k) len w := fun l J Jx W hW _ _ hY h0 => by
  subst hn₀
  have hc' := (hW.cell (p := ⟨Bs, 0, none⟩) hBl).trans hc
  by_cases h1 : len = 0
  · subst h1
    exact (back1_nil_in F n hf hro l Bs cap A J W hc' h0).mono fun e W' ⟨he, hj⟩ => ⟨he, .inl ⟨_, rfl, hj⟩⟩
  · obtain ⟨b, o, rfl, hb, hcells⟩ := hI.2 (by omega)
    refine back1_in F n hf hro hn l Bs _ b o len cap xs hI.1 hl hb hBl J Jx hY W hc' (fun j hj => ?_) h0
    have hx : xs[j]? = some (xs.getD j ([], [])) := by
      rw [List.getD_eq_getElem?_getD, List.getElem?_eq_getElem (by rw [hI.1]; exact hj)]; rfl
    exact ⟨(hW.cell (p := ⟨b, _, none⟩) hb).trans (hcells j _ hx 0 _ rfl), (hW.cell (p := ⟨b, _, none⟩) hb).trans (hcells j _ hx 1 _ rfl)⟩
set_option maxRecDepth 100000 in
set_option maxHeartbeats 4000000 in
theorem find_in (F : Fence) (n : Nat) (h1 : F.fn 157) (h2 : F.fn 167) (h3 : F.fn 177) (hro : F.round = none) (hn : 3 ≤ n) (A : Option Addr) (len cap : Nat) (xs : List File) (hl : len ≤ 1000000) (name : Str) (w : World) (hI : SlR fileF w A len xs) :
    CallsIn F n Tryz.prog 157 #[.slice A len cap, S name] w fun e W' => e = .returned (.tuple #[S (((fndL name xs).map (·.2)).getD []), .bool (fndL name xs).isSome]) ∧ Below w.heap.size w W' := by
  have hn1 : 1 ≤ n := by omega
  refine callsIn_of_wp_marks Tryz.func157 rfl h1 ?_ hro
  simp only [Tryz.ntmps157, List.size_toArray, List.length_cons, List.length_nil, Nat.reduceAdd, Nat.reduceSub, Array.replicate_succ, Array.replicate_zero, List.push_toArray, List.append_toArray, List.nil_append, List.cons_append]
  gi_wp2_with (gi_at_call 167; refine (back_in F (n - 1) h2 hro _ _ _ _).mono ?_; rintro e w' ⟨rfl, rfl⟩)
  have b0 := Boxed.new w 9 (S name)
  have b1 := Boxed.new (w.alloc (.cells #[S name] 9)) 9 (S [])
  have b2 := Boxed.new ((w.alloc (.cells #[S name] 9)).alloc (.cells #[S []] 9)) 4 (.bool false)
  have b3 := Boxed.new (((w.alloc (.cells #[S name] 9)).alloc (.cells #[S []] 9)).alloc (.cells #[.bool false] 4)) 25 (.slice A len cap)
  have hX0 : Ext w ((((w.alloc (.cells #[S name] 9)).alloc (.cells #[S []] 9)).alloc (.cells #[.bool false] 4)).alloc (.cells #[.slice A len cap] 25)) := ((((Only.refl No w).alloc _).alloc _).alloc _).alloc _
  have hsz : ((((w.alloc (.cells #[S name] 9)).alloc (.cells #[S []] 9)).alloc (.cells #[.bool false] 4)).alloc (.cells #[.slice A len cap] 25)).heap.size = w.heap.size + 4 := by simp
  have b0' := ((b0.alloc (.cells #[S []] 9)).alloc (.cells #[.bool false] 4)).alloc (.cells #[.slice A len cap] 25)
  have b1' := (b1.alloc (.cells #[.bool false] 4)).alloc (.cells #[.slice A len cap] 25)
  have b2' := b2.alloc (.cells #[.slice A len cap] 25)
  simp only [World.size_alloc] at b1' b2' b3
  clear b0 b1 b2
  change Code.wpIn _ _ _ _ _ _ (World.alloc (((w.alloc (.cells #[S name] 9)).alloc (.cells #[S []] 9)).alloc (.cells #[.bool false] 4)) (.cells #[.slice A len cap] 25))
  obtain ⟨W0, hW0⟩ : ∃ W0, ((((w.alloc (.cells #[S name] 9)).alloc (.cells #[S []] 9)).alloc (.cells #[.bool false] 4)).alloc (.cells #[.slice A len cap] 25)) = W0 := ⟨_, rfl⟩
  rw [hW0] at b0' b1' b2' b3 hX0 hsz ⊢
  clear hW0
  have hB0 : Below w.heap.size w W0 := hX0.toBelow
  refine wpIn_rangeFunc_ownH hro hn1 (gf := 177) (lb := #[.pointer (some ⟨w.heap.size + 1 + 1 + 1, 0, none⟩)]) rfl h3 (enters_of Tryz.func177 (by kernel_rfl) rfl)
    (back_stops F (n - 1) h3 hro (by omega) (w.heap.size + 1 + 1 + 1) W0.heap.size A len cap xs hl W0 (by omega) rfl b3.cell (hI.ext hX0)) belowK_t (belowK_b (Nat.le_refl _)) (Below.refl _ _) (fun _ => rfl)
    (fun pre W => ((Boxed W w.heap.size 9 (S name) ∧ Boxed W (w.heap.size + 1) 9 (S [])) ∧ Boxed W (w.heap.size + 1 + 1) 4 (.bool false)) ∧ (∀ p ∈ pre, p.2.1 ≠ name) ∧ Below w.heap.size W0 W)
    (fun c pre W => (Boxed W (w.heap.size + 1) 9 (S ((pre.getLast?.map (·.2.2)).getD [])) ∧ Boxed W (w.heap.size + 1 + 1) 4 (.bool true)) ∧ (c = .ret ∧ ∃ ini last, pre = ini ++ [last] ∧ (∀ p ∈ ini, p.2.1 ≠ name) ∧ last.2.1 = name) ∧ Below w.heap.size W0 W)
    (OwnFrom.and (OwnFrom.and (OwnFrom.and (Own.from (boxed_own _ _ _) _) (Own.from (boxed_own _ _ _) _)) (Own.from (boxed_own _ _ _) _)) (OwnFrom.and (ownFrom_const _ (fun pre : List (Nat × File) => ∀ p ∈ pre, p.2.1 ≠ name)) (ownFrom_below (w₀ := W0) (by omega) (by omega))))
    (fun c => OwnFrom.and (OwnFrom.and (Own.from (boxed_own _ _ _) _) (Own.from (boxed_own _ _ _) _)) (OwnFrom.and (ownFrom_const _ (fun pre : List (Nat × File) => c = .ret ∧ ∃ ini last, pre = ini ++ [last] ∧ (∀ p ∈ ini, p.2.1 ≠ name) ∧ last.2.1 = name)) (ownFrom_below (w₀ := W0) (by omega) (by omega))))
    ⟨⟨⟨b0', b1'⟩, b2'⟩, by simp, Below.refl _ _⟩
    (fun x a' W => ∃ Bx, (W.cell? ⟨Bx, 0, none⟩ = some (S x.2.1) ∧ W.cell? ⟨Bx, 1, none⟩ = some (S x.2.2)) ∧ a' = { tmps := #[.slice A len cap, S name, undef, .pointer (some ⟨w.heap.size, 0, none⟩), .pointer (some ⟨w.heap.size + 1, 0, none⟩), .pointer (some ⟨w.heap.size + 1 + 1, 0, none⟩), undef, .pointer (some ⟨Bx, 0, none⟩), .slice A len cap, .func (.func 177) #[] #[.pointer (some ⟨w.heap.size + 1 + 1 + 1, 0, none⟩)], .int .i64 (x.1 : Int), .agg #[S x.2.1, S x.2.2], undef, undef, undef, undef, undef, undef], defers := [] })
    (fun x a' _ X Y row hs hg hr => by obtain ⟨Bx, ⟨h1, h2⟩, h3⟩ := hs; exact ⟨Bx, ⟨cell_kept h1 hg (fun r e => (hr r e).2), cell_kept h2 hg (fun r e => (hr r e).2)⟩, h3⟩)
    ?assign ?body ?done ?stop
  case assign =>
    rintro l pre x W K ⟨⟨⟨c0, c1⟩, c2⟩, hp, hB⟩ hK
    have hsW := hB.size
    have hcs : Cs (W.alloc (.cells #[S x.2.1, S x.2.2] kvT)) W.heap.size kvT #[S x.2.1, S x.2.2] := Cs.new W kvT #[S x.2.1, S x.2.2]
    gi_wp2
    exact hK _ _ ((KeepsOthers.alloc _ _).from _) ((Below.refl _ W).alloc hsW _)
      ⟨⟨⟨c0.alloc _, c1.alloc _⟩, c2.alloc _⟩, hp, hB.alloc (by omega) _⟩ ⟨W.heap.size, ⟨hcs.cell 0, hcs.cell 1⟩, rfl⟩
  case body =>
    rintro l pre x a' W hl2 ⟨r, hr⟩ ⟨⟨⟨c0, c1⟩, c2⟩, hp, hB⟩ ⟨Bx, ⟨e1, e2⟩, rfl⟩ hlt
    have d0 := c0.cell
    have d1 := c1.cell
    have d2 := c2.cell
    have f1 := c1.frozen
    have f2 := c2.frozen
    by_cases hx : x.2.1 = name
    · have hq : (x.2.1 == name) = true := by simpa using hx
      gi_wp2
      exact ⟨((KeepsOthers.setCell _ _ _).trans (KeepsOthers.setCell _ _ _)).from _, ⟨(by simpa using ((c1.set (S x.2.2)).other (by omega) (.bool true))), (c2.other (by omega) _).set _⟩, ⟨rfl, pre, x, rfl, hp, hx⟩, (hB.setCell (p := ⟨w.heap.size + 1, 0, none⟩) (by show w.heap.size ≤ w.heap.size + 1; omega) _).setCell (p := ⟨w.heap.size + 1 + 1, 0, none⟩) (by show w.heap.size ≤ w.heap.size + 1 + 1; omega) _⟩
    · have hq : (x.2.1 == name) = false := by simpa using hx
      gi_wp2
      exact ⟨KeepsFrom.refl _ _, Below.refl _ _, ⟨⟨c0, c1⟩, c2⟩, fun p hp' => (List.mem_append.1 hp').elim (hp p) (fun e => by simp at e; subst e; exact hx), hB⟩
  case done =>
    rintro D ys W hD rfl ⟨⟨⟨c0, c1⟩, c2⟩, hp, hB⟩ hK
    have HN := Lib.hid (fnd_none (k := name) (xs := xs) (by have := hI.1; rw [this]; exact hp))
    have d1 := c1.cell
    have d2 := c2.cell
    have f1 := c1.frozen
    have f2 := c2.frozen
    gi_wp2
    have hK' := ((KeepsOthers.setCell W ⟨w.heap.size + 1, 0, none⟩ (S [])).trans (KeepsOthers.setCell _ ⟨w.heap.size + 1 + 1, 0, none⟩ (.bool false))).same D _ hK rfl
    refine ⟨by simp, .inl ⟨_, _, rfl, run_takeDeferred hK', ?_⟩⟩
    have r1 := cell_kept (((c1.set (S [])).other (by omega) (.bool false)).cell : ((W.setCell ⟨w.heap.size + 1, 0, none⟩ (S [])).setCell ⟨w.heap.size + 1 + 1, 0, none⟩ (.bool false)).cell? ⟨w.heap.size + 1, 0, none⟩ = some (S [])) (grownBy_putObj' _ D (.deferred none)) (fun r e => by cases e; exact ⟨_, hK', rfl⟩)
    have r2 := cell_kept (((c2.other (by omega) (S [])).set (.bool false)).cell : ((W.setCell ⟨w.heap.size + 1, 0, none⟩ (S [])).setCell ⟨w.heap.size + 1 + 1, 0, none⟩ (.bool false)).cell? ⟨w.heap.size + 1 + 1, 0, none⟩ = some (.bool false)) (grownBy_putObj' _ D (.deferred none)) (fun r e => by cases e; exact ⟨_, hK', rfl⟩)
    refine ⟨.tuple #[S [], .bool false], ?_, ⟨by rw [HN.out]; rfl, hB0.trans (((hB.setCell (p := ⟨w.heap.size + 1, 0, none⟩) (by show w.heap.size ≤ w.heap.size + 1; omega) _).setCell (p := ⟨w.heap.size + 1 + 1, 0, none⟩) (by show w.heap.size ≤ w.heap.size + 1 + 1; omega) _).trans (belowK_b (w := w) (Nat.le_refl _) _ D _ _ (by omega) hK' rfl rfl))⟩⟩
    simp [results, Tryz.f157, go_sem, r1, r2]
  case stop =>
    rintro D c pre W hD ⟨k, hk, rfl⟩ ⟨⟨c1, c2⟩, ⟨rfl, ini, last, e1, e2, e3⟩, hB⟩ hK
    obtain ⟨m, rfl⟩ : ∃ m, k = m + 1 := by
      cases k with
      | zero => simp [bseq] at e1
      | succ m => exact ⟨m, rfl⟩
    rw [bseq_succ] at e1
    obtain ⟨rfl, e5⟩ := List.append_inj' e1 rfl
    obtain rfl := by simpa using e5
    have HN := Lib.hid (fnd_some (by rw [hI.1]; exact hk) e2 e3)
    rw [bseq_succ, List.getLast?_append] at c1
    gi_wp2
    refine ⟨by simp, .inl ⟨_, _, rfl, run_takeDeferred hK, ?_⟩⟩
    have r1 := cell_kept c1.cell (grownBy_putObj' _ D (.deferred none)) (fun r e => by cases e; exact ⟨_, hK, rfl⟩)
    have r2 := cell_kept c2.cell (grownBy_putObj' _ D (.deferred none)) (fun r e => by cases e; exact ⟨_, hK, rfl⟩)
    refine ⟨.tuple #[S (xs.getD (xs.length - 1 - m) ([], [])).2, .bool true], ?_, ⟨by rw [HN.out]; rfl, hB0.trans (hB.trans (belowK_b (w := w) (Nat.le_refl _) _ D _ _ (by omega) hK rfl rfl))⟩⟩
    simp [results, Tryz.f157, go_sem, r1, r2]
theorem vfind_c {A : Option Addr} {len cap : Nat} {xs : List File} (hl : len ≤ 1000000) (name : Str) {w : World} (hI : SlR fileF w A len xs) :
    Calls Tryz.prog 157 #[.slice A len cap, S name] w fun e w' => e = .returned (.tuple #[S (((fndL name xs).map (·.2)).getD []), .bool (fndL name xs).isSome]) ∧ Ext w w' := by
  refine (callsIn_wide (n := 3)).1 ((find_in Fence.wide 3 trivial trivial trivial rfl (by omega) A len cap xs hl name w hI).mono ?_)
  rintro e w' ⟨rfl, h⟩
  exact ⟨rfl, Only.below h⟩
end Go.Proofs.YtnhaekifcieeoaaGreatDoor

/- A text cut at a byte: plain lists. -/
namespace Go.Proofs.YtnhaekifcieeoaaGreatDoor
open Go Go.RowKit
/-- A text cut at a byte. -/
def cutB (c : UInt8) : Str → Str × Str × Bool
  | [] => ([], [], false)
  | x :: s => if x = c then ([], s, true) else (x :: (cutB c s).1, (cutB c s).2.1, (cutB c s).2.2)
theorem index_byte_cons (c x : UInt8) (s : Str) : Lib.index (x :: s) [c] = if x = c then 0 else if Lib.index s [c] = -1 then -1 else Lib.index s [c] + 1 := by
  have e : List.isPrefixOf [c] (x :: s) = decide (x = c) := by
    simp only [List.isPrefixOf, Bool.and_true]
    by_cases h : x = c
    · simp [h]
    · simp [h, Ne.symm h]
  rw [Lib.index, e]
  simp
theorem cut_byte (c : UInt8) : ∀ s : Str, Lib.cut s [c] = cutB c s
  | [] => by simp [Lib.cut, Lib.index, cutB]
  | x :: s => by
    have ih := cut_byte c s
    have hg := Lib.index_ge s [c]
    unfold Lib.cut at ih ⊢
    rw [index_byte_cons]
    unfold cutB
    by_cases h : x = c
    · simp [h]
    · rw [if_neg h, if_neg h, ← ih]
      by_cases h1 : Lib.index s [c] = -1
      · rw [h1]; simp
      · rw [if_neg h1]
        obtain ⟨i, hi⟩ : ∃ i : Nat, Lib.index s [c] = i := ⟨(Lib.index s [c]).toNat, by omega⟩
        rw [hi]
        have e1 : (0 : Int) ≤ (i : Int) + 1 := by omega
        have e2 : (0 : Int) ≤ (i : Int) := by omega
        have e3 : ((i : Int) + 1).toNat = i + 1 := by omega
        simp [e1, e2, e3]
end Go.Proofs.YtnhaekifcieeoaaGreatDoor

/- strings.Cut. -/
namespace Go.Proofs.YtnhaekifcieeoaaGreatDoor
open Go Go.RowKit
theorem SCut_c (s sep : Str) (hs : s.length < 4294967281) {w : World} (hm : Ml w) :
    Calls Tryz.prog 67 #[S s, S sep] w fun e w' => e = .returned (.tuple #[S (Lib.cut s sep).1, S (Lib.cut s sep).2.1, .bool (Lib.cut s sep).2.2]) ∧ Ext w w' := by
  obtain ⟨m, hm⟩ := hm
  refine (Tryz.strings_Cut ⟨s.toArray⟩ ⟨sep.toArray⟩ m w hs hm).mono ?_
  rintro e w' ⟨rfl, n, rfl⟩
  exact ⟨rfl, (Only.refl No w).drewN n⟩
theorem BCut_c (s : Str) (c : UInt8) (hs : s.length < 4294967281) {w : World} (hm : Ml w) :
    Calls Tryz.prog 67 #[S s, S [c]] w fun e w' => e = .returned (.tuple #[S (cutB c s).1, S (cutB c s).2.1, .bool (cutB c s).2.2]) ∧ Ext w w' := by
  have := SCut_c s [c] hs hm
  rwa [cut_byte] at this
theorem cutB_len (c : UInt8) : ∀ s : Str, (cutB c s).1.length + (cutB c s).2.1.length ≤ s.length
  | [] => by simp [cutB]
  | x :: s => by
    have := cutB_len c s
    unfold cutB
    split
    · simp
    · simp only [List.length_cons]; omega
end Go.Proofs.YtnhaekifcieeoaaGreatDoor
