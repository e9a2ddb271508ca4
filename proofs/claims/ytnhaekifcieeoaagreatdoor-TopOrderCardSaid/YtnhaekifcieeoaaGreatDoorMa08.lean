/- Put together: Own2, Clone, Strs. -/
import Derived.Test.YtnhaekifcieeoaaGreatDoorMa07
import Derived.Lib.AppendZerosOnto
import Derived.Lib.Overlaps
import Derived.Test.YtnhaekifcieeoaaGreatDoorProg
import Derived.Test.YtnhaekifcieeoaaGreatDoorShelf
/- Rows of elements of several cells: copy, append of noughts, an element set, taken out, put in. -/
namespace Go.Proofs.YtnhaekifcieeoaaGreatDoor
open Go Go.RowKit
section
variable {P : Program}
theorem add_plain_ (b o j : Nat) : (⟨b, o, none⟩ : Addr).add j = ⟨b, o + j, none⟩ := by
  unfold Addr.add
  split
  · rename_i h; subst h; rfl
  · rfl
theorem run_copy_k (w : World) (dT sT ty elem : TypeId) (g o dLen dCap b so sLen sCap k : Nat) (cur : List Value) (t : TypeId) (cs : List Value)
    (hu : P.underlying dT = some (.slice elem)) (hs : (P.info? elem).map (·.size) = some k)
    (hg : Cs w g t cur.toArray) (hn : cs.length = Nat.min sLen dLen * k)
    (hsrc : ∀ j v, cs[j]? = some v → w.cell? ⟨b, so + j, none⟩ = some v) (hfit : o + cs.length ≤ cur.length) (h1 : ∀ v ∈ cs, v.oneCell' = true) :
    (Builtin.copy_ #[dT, sT] ty #[.slice (some ⟨g, o, none⟩) dLen dCap, .slice (some ⟨b, so, none⟩) sLen sCap]).run P w =
      .ok (goInt (Nat.min sLen dLen : Nat)) (w.setRow g (cur.take o ++ cs ++ cur.drop (o + cs.length)).toArray) := by
  have hl := run_loadCells_list (P := P) w ⟨b, so, none⟩ cs (fun j v h => by rw [add_plain_]; exact hsrc j v h)
  have hst := run_storeCells_at P g o t cs 0 cur.toArray w hg (by simpa using hfit) h1
  cases hq : P.info? elem with
  | none => simp [hq] at hs
  | some i =>
    have hi : i.size = k := by simpa [hq] using hs
    simp [Builtin.copy_, run_underlying hu, Builtin.lenOf, Builtin.firstCells, sizeOf, typeInfo, hq, hi, ← hn, hl, hst]
theorem goes_copy_k {w : World} {o : Oper} {a : Act} {K : Value → World → Prop} {dT sT e : TypeId} {k : Nat} (hu : P.underlying dT = some (.slice e)) (hz : (P.info? e).map (·.size) = some k) {d s : Operand}
    (ho : o.op = .call { callee := .builtin .copy, args := #[d, s], argTypes := #[dT, sT] }) {g off dLen dCap : Nat} (hd : a.eval d = .slice (some ⟨g, off, none⟩) dLen dCap) {b so sLen c : Nat} (hs : a.eval s = .slice (some ⟨b, so, none⟩) sLen c)
    {t : TypeId} {cur cs : List Value} (hg : Cs w g t cur.toArray) (hn : cs.length = Nat.min sLen dLen * k) (hsrc : ∀ j u, cs[j]? = some u → w.cell? ⟨b, so + j, none⟩ = some u) (hfit : off + cs.length ≤ cur.length) (h1 : ∀ u ∈ cs, u.oneCell' = true)
    (h : ∀ w', Cs w' g t (cur.take off ++ cs ++ cur.drop (off + cs.length)).toArray → Only (fun x => x = g) w w' → K (.int .i64 (Nat.min sLen dLen : Nat)) w') : Mix.goes P o a w K := by
  have hrun := run_copy_k (P := P) w dT sT o.type e g off dLen dCap b so sLen c k cur t cs hu hz hg hn hsrc hfit h1
  unfold Mix.goes Mix.goesUpon execOp
  simp only [ho, resolve, invoke, builtin, Sem.run_bind, Sem.run_pure, Result.andThen_ok, List.map_toArray, List.map_cons, List.map_nil, hd, hs, hrun]
  exact h _ (setRow_heap w g _ _ t _ hg) ⟨rfl, rfl, rfl, by simp [World.setRow], fun k _ hne => setRow_other w g k _ hne⟩
theorem wpList_copy_k {ops : Array Oper} {rest : List Oper} {Q : Exit → Act → World → Prop} {w : World} {o : Oper} {a : Act} (hgd : o.guard = none) {dT sT e : TypeId} {k : Nat} (hu : P.underlying dT = some (.slice e)) (hz : (P.info? e).map (·.size) = some k) {d s : Operand}
    (ho : o.op = .call { callee := .builtin .copy, args := #[d, s], argTypes := #[dT, sT] }) {g off dLen dCap : Nat} (hd : a.eval d = .slice (some ⟨g, off, none⟩) dLen dCap) {b so sLen c : Nat} (hs : a.eval s = .slice (some ⟨b, so, none⟩) sLen c)
    {t : TypeId} {cur cs : List Value} (hg : Cs w g t cur.toArray) (hn : cs.length = Nat.min sLen dLen * k) (hsrc : ∀ j u, cs[j]? = some u → w.cell? ⟨b, so + j, none⟩ = some u) (hfit : off + cs.length ≤ cur.length) (h1 : ∀ u ∈ cs, u.oneCell' = true)
    (h : ∀ w', Cs w' g t (cur.take off ++ cs ++ cur.drop (off + cs.length)).toArray → Only (fun x => x = g) w w' → wpList P ops Q rest (a.put o.dst (.int .i64 (Nat.min sLen dLen : Nat))) w') : wpList P ops Q (o :: rest) a w :=
  wpList_plain hgd fun _ hK => Mix.wp_of_goes (N := fun v' w' => wpList P ops Q rest (a.put o.dst v') w') (fun _ _ h => hK _ _ h) (goes_copy_k hu hz ho hd hs hg hn hsrc hfit h1 h)
theorem goes_clear_k {w : World} {o : Oper} {a : Act} {K : Value → World → Prop} {t e : TypeId} {z : Value} (hu : P.underlying t = some (.slice e)) (hz : ∀ w, (zeroValue e).run P w = .ok z w) {d : Operand}
    (ho : o.op = .call { callee := .builtin .clear, args := #[d], argTypes := #[t] }) {g off n c : Nat} (hd : a.eval d = .slice (some ⟨g, off, none⟩) n c)
    {t' : TypeId} {cur : List Value} (hg : Cs w g t' cur.toArray) (hfit : off + n * z.cells.size ≤ cur.length) (h1 : ∀ v ∈ z.cells.toList, v.oneCell' = true)
    (h : ∀ w', Cs w' g t' (cur.take off ++ (Builtin.zeroCells z.cells n).toList ++ cur.drop (off + n * z.cells.size)).toArray → Only (fun x => x = g) w w' → K (.tuple #[]) w') : Mix.goes P o a w K := by
  have hl : (Builtin.zeroCells z.cells n).toList.length = n * z.cells.size := by simp [Builtin.zeroCells]
  have hone : ∀ v ∈ (Builtin.zeroCells z.cells n).toList, v.oneCell' = true := fun v hv => by
    simp only [Builtin.zeroCells, Array.toList_map, List.mem_map] at hv
    obtain ⟨i, hi, rfl⟩ := hv
    have hi : i < n * z.cells.size := by simpa using hi
    have hp : 0 < z.cells.size := by
      rcases Nat.eq_zero_or_pos z.cells.size with h0 | h0
      · rw [h0] at hi; omega
      · exact h0
    rw [getElem!_pos z.cells _ (Nat.mod_lt _ hp)]
    exact h1 _ (by simp)
  by_cases hn : n = 0
  · subst hn
    have hrun : (Builtin.clear_ #[t] o.type #[.slice (some ⟨g, off, none⟩) 0 c]).run P w = .ok (.tuple #[]) w := by
      simp [Builtin.clear_, run_underlying hu]
    unfold Mix.goes Mix.goesUpon execOp
    simp only [ho, resolve, invoke, builtin, Sem.run_bind, Sem.run_pure, Result.andThen_ok, List.map_toArray, List.map_cons, List.map_nil, hd, hrun]
    refine h w ?_ (Only.refl _ _)
    have e1 : (Builtin.zeroCells z.cells 0).toList = [] := List.eq_nil_of_length_eq_zero (by rw [hl]; simp)
    rw [e1]
    simpa using hg
  · have hst := run_storeCells_at P g off t' (Builtin.zeroCells z.cells n).toList 0 cur.toArray w hg (by rw [hl]; simpa using hfit) hone
    have hrun : (Builtin.clear_ #[t] o.type #[.slice (some ⟨g, off, none⟩) n c]).run P w = .ok (.tuple #[]) (w.setRow g (cur.take off ++ (Builtin.zeroCells z.cells n).toList ++ cur.drop (off + n * z.cells.size)).toArray) := by
      rw [hl] at hst
      simp only [Nat.add_zero] at hst
      unfold Builtin.clear_
      simp [run_underlying hu, hz, hn, hst]
    unfold Mix.goes Mix.goesUpon execOp
    simp only [ho, resolve, invoke, builtin, Sem.run_bind, Sem.run_pure, Result.andThen_ok, List.map_toArray, List.map_cons, List.map_nil, hd, hrun]
    exact h _ (setRow_heap w g _ _ t' _ hg) ⟨rfl, rfl, rfl, by simp [World.setRow], fun k _ hne => setRow_other w g k _ hne⟩
theorem wpList_clear_k {ops : Array Oper} {rest : List Oper} {Q : Exit → Act → World → Prop} {w : World} {o : Oper} {a : Act} (hgd : o.guard = none) {t e : TypeId} {z : Value} (hu : P.underlying t = some (.slice e)) (hz : ∀ w, (zeroValue e).run P w = .ok z w) {d : Operand}
    (ho : o.op = .call { callee := .builtin .clear, args := #[d], argTypes := #[t] }) {g off n c : Nat} (hd : a.eval d = .slice (some ⟨g, off, none⟩) n c)
    {t' : TypeId} {cur : List Value} (hg : Cs w g t' cur.toArray) (hfit : off + n * z.cells.size ≤ cur.length) (h1 : ∀ v ∈ z.cells.toList, v.oneCell' = true)
    (h : ∀ w', Cs w' g t' (cur.take off ++ (Builtin.zeroCells z.cells n).toList ++ cur.drop (off + n * z.cells.size)).toArray → Only (fun x => x = g) w w' → wpList P ops Q rest (a.put o.dst (.tuple #[])) w') : wpList P ops Q (o :: rest) a w :=
  wpList_plain hgd fun _ hK => Mix.wp_of_goes (N := fun v' w' => wpList P ops Q rest (a.put o.dst v') w') (fun _ _ h => hK _ _ h) (goes_clear_k hu hz ho hd hg hfit h1 h)
/-- append of noughts that needs a new row. -/
theorem wpList_zeros {ops : Array Oper} {rest : List Oper} {Q : Exit → Act → World → Prop} {w : World} {o : Oper} {a : Act} (hgd : o.guard = none) {t tn e : TypeId} {i : TypeInfo} {z : Value} {kn : IntKind} (ht : P.underlying t = some (.slice e)) (htn : P.underlying tn = some (.int kn))
    (hi : P.info? e = some i) (hz : i.zero = some z) {s x : Operand} (ho : o.op = .call { callee := .builtin .append, args := #[s, x], argTypes := #[t, tn] })
    {b off sLen sCap m : Nat} (hs : a.eval s = .slice (some ⟨b, off, none⟩) sLen sCap) (hx : a.eval x = .int .i64 (m : Int)) {olds : List Value} (hol : olds.length = sLen * i.size) (hold : ∀ j v, olds[j]? = some v → w.cell? ⟨b, off + j, none⟩ = some v)
    (h0 : 0 < m) (hsz : 0 < i.size) (hg : sCap < sLen + m) (hby : i.bytes ≤ 256) (hsm : sLen + m ≤ 100000000)
    (h : ∀ cap, sLen + m ≤ cap → cap ≤ maxLen → wpList P ops Q rest (a.put o.dst (.slice (some ⟨w.heap.size, 0, none⟩) (sLen + m : Nat) cap)) (w.drew.alloc (.cells (olds ++ (Builtin.zeroCells z.cells m).toList ++ (Builtin.zeroCells z.cells (cap - (sLen + m))).toList).toArray e))) :
    wpList P ops Q (o :: rest) a w := by
  have hm1 : (sLen + m) * i.bytes ≤ 100000000 * 256 := Nat.mul_le_mul hsm hby
  have hm2 : m * i.bytes ≤ (sLen + m) * i.bytes := Nat.mul_le_mul (by omega) (Nat.le_refl _)
  have hrun := Lib.run_append_grow_zeros (P := P) w t tn o.type e i z .i64 kn ht htn hi hz (some ⟨b, off, none⟩) sLen sCap olds
    (run_firstCells_some w.drew i.size sLen ⟨b, off, none⟩ sLen sCap olds hol (fun j v hj => by rw [add_plain_]; exact hold j v hj)) m h0 hsz hg (by omega) (by omega) (growslice_fits hg (by omega))
  refine wpList_plain hgd fun K hK => Mix.wp_of_goes (N := fun v' w' => wpList P ops Q rest (a.put o.dst v') w') (fun _ _ h => hK _ _ h) ?_
  unfold Mix.goes Mix.goesUpon execOp
  simp only [ho, resolve, invoke, builtin, Sem.run_bind, Sem.run_pure, Result.andThen_ok, List.map_toArray, List.map_cons, List.map_nil, hs, hx, hrun]
  have := h (grownCap w (sLen + m) sCap e) (grownCap_ge w _ _ _) (grownCap_le_maxLen w _ _ e (by unfold maxLen; omega))
  have e1 : (olds ++ (Builtin.zeroCells z.cells m).toList ++ (Builtin.zeroCells z.cells (grownCap w (sLen + m) sCap e - (sLen + m))).toList).toArray = olds.toArray ++ Builtin.zeroCells z.cells m ++ Builtin.zeroCells z.cells (grownCap w (sLen + m) sCap e - (sLen + m)) := by
    apply Array.ext'
    simp
  rw [e1] at this
  exact this
end
theorem take_flatMap {α : Type} (T : Flat α) (xs : List α) (i : Nat) : (xs.take i).flatMap T.enc = (xs.flatMap T.enc).take (i * T.size) := by
  induction xs generalizing i with
  | nil => simp
  | cons x xs ih =>
    cases i with
    | zero => simp
    | succ i =>
      have h := T.len x
      have e1 : (T.enc x).take (i * T.size + T.size) = T.enc x := List.take_of_length_le (by omega)
      rw [List.take_succ_cons, List.flatMap_cons, List.flatMap_cons, ih, List.take_append, h, Nat.succ_mul, Nat.add_sub_cancel, e1]
theorem drop_flatMap {α : Type} (T : Flat α) (xs : List α) (i : Nat) : (xs.drop i).flatMap T.enc = (xs.flatMap T.enc).drop (i * T.size) := by
  induction xs generalizing i with
  | nil => simp
  | cons x xs ih =>
    cases i with
    | zero => simp
    | succ i =>
      have h := T.len x
      have e1 : (T.enc x).drop (i * T.size + T.size) = [] := List.drop_eq_nil_of_le (by omega)
      rw [List.drop_succ_cons, List.flatMap_cons, ih, List.drop_append, h, Nat.succ_mul, Nat.add_sub_cancel, e1]
      rfl
/-- A row of the call's own is a block that is known whole. -/
theorem own_block {w : World} {B : Nat} {e : TypeId} {size n c : Nat} {A : Option Addr} {xs : List Value} (h : w.ownsRow B e size (.slice A n c) n xs) (hn : 0 < n) (hs : 0 < size) :
    ∃ g rest, A = some ⟨g, 0, none⟩ ∧ Cs w g e (xs ++ rest).toArray ∧ xs.length = n * size ∧ (xs ++ rest).length = c * size ∧ n ≤ c ∧ c ≤ maxLen := by
  rcases h.2 with ⟨hv, h0⟩ | ⟨g, cap, cur, hv, hb, hh, hnc, hc, hsz, ht⟩
  · omega
  · injection hv with hv1 hv2 hv3
    subst hv1; subst hv3
    refine ⟨g, cur.toList.drop (n * size), rfl, ?_, h.1, ?_, hnc, hc⟩
    · unfold Cs
      rw [hh, ← ht, List.take_append_drop]
    · rw [← ht, List.take_append_drop]; simpa using hsz
theorem own_of_block {w : World} {B : Nat} {e : TypeId} {size n c g : Nat} {xs rest : List Value} (h : Cs w g e (xs ++ rest).toArray) (hb : B ≤ g) (hl : xs.length = n * size) (hc : (xs ++ rest).length = c * size) (hnc : n ≤ c) (hm : c ≤ maxLen) :
    w.ownsRow B e size (.slice (some ⟨g, 0, none⟩) n c) n xs :=
  ⟨hl, .inr ⟨g, c, (xs ++ rest).toArray, rfl, hb, h, hnc, hm, by simpa using hc, by rw [← hl]; simp⟩⟩
theorem ins_cells (X rest E : List Value) (i n k : Nat) (hX : X.length = n * k) (hE : E.length = k) (hi : i < n) {c1 : List Value}
    (h1 : c1 = (X ++ rest).take ((i + 1) * k) ++ X.drop (i * k) ++ (X ++ rest).drop ((i + 1) * k + (X.drop (i * k)).length)) :
    c1.take (i * k) ++ E ++ c1.drop (i * k + E.length) = X.take (i * k) ++ E ++ X.drop (i * k) ++ (X ++ rest).drop ((n + 1) * k) := by
  have h2 : (i + 1) * k ≤ n * k := Nat.mul_le_mul_right _ hi
  have h3 : (i + 1) * k = i * k + k := Nat.succ_mul _ _
  have hA : ((X ++ rest).take ((i + 1) * k)).length = (i + 1) * k := by rw [List.length_take, List.length_append]; omega
  have hD : (i + 1) * k + (X.drop (i * k)).length = (n + 1) * k := by rw [List.length_drop, hX, Nat.succ_mul n k]; omega
  have e1 : c1.take (i * k) = X.take (i * k) := by
    rw [h1, List.append_assoc, List.take_append_of_le_length (by omega), List.take_take, Nat.min_eq_left (by omega), List.take_append_of_le_length (by omega)]
  have e2 : c1.drop (i * k + E.length) = X.drop (i * k) ++ (X ++ rest).drop ((n + 1) * k) := by
    rw [h1, hE, ← h3, List.append_assoc, List.drop_left' hA, hD]
  rw [e1, e2, List.append_assoc, List.append_assoc, List.append_assoc]
theorem grow_cells1 (O Z R E : List Value) (i k : Nat) (hO : O.length = i * k) (hE : E.length = k) (hZ : k ≤ Z.length) : (O ++ Z ++ R).take (i * k) ++ E ++ (O ++ Z ++ R).drop (i * k + E.length) = O ++ E ++ Z.drop k ++ R := by
  have e1 : (O ++ Z ++ R).take (i * k) = O := by rw [List.append_assoc, List.take_left' hO]
  have e2 : (O ++ Z ++ R).drop (i * k + E.length) = Z.drop k ++ R := by
    rw [List.append_assoc, hE, ← hO, ← List.drop_drop, List.drop_left, List.drop_append_of_le_length hZ]
  rw [e1, e2, ← List.append_assoc]
theorem grow_cells2 (O Z R E D : List Value) (i k : Nat) (hO : O.length = i * k) (hE : E.length = k) (hZ : Z.length = k + D.length) : (O ++ E ++ Z.drop k ++ R).take ((i + 1) * k) ++ D ++ (O ++ E ++ Z.drop k ++ R).drop ((i + 1) * k + D.length) = O ++ E ++ D ++ R := by
  have h1 : (O ++ E).length = (i + 1) * k := by rw [List.length_append, hO, hE, Nat.succ_mul]
  have h2 : (Z.drop k).length = D.length := by rw [List.length_drop]; omega
  have e1 : (O ++ E ++ Z.drop k ++ R).take ((i + 1) * k) = O ++ E := by rw [List.append_assoc (O ++ E), List.take_left' h1]
  have e2 : (O ++ E ++ Z.drop k ++ R).drop ((i + 1) * k + D.length) = R := by
    rw [List.append_assoc (O ++ E), ← h1, ← List.drop_drop, List.drop_left, ← h2, List.drop_left]
  rw [e1, e2]
theorem length_zeroCells (cs : Array Value) (n : Nat) : (Builtin.zeroCells cs n).toList.length = n * cs.size := by
  simp [Builtin.zeroCells]
theorem Cs.shape {w : World} {g : Nat} {t : TypeId} {cs : Array Value} (h : Cs w g t cs) : w.shape? g = some (t, cs.size) := by
  unfold Cs at h; simp [World.shape?, h]
/-- A slice of the call's own that lies in new memory. -/
structure Fresh {α : Type} (T : Flat α) (t : TypeId) (w w' : World) (A : Option Addr) (c : Nat) (xs : List α) : Prop where
  own : w'.ownsRow 0 t T.size (.slice A xs.length c) xs.length (xs.flatMap T.enc)
  ext : Ext w w'
  new : ∀ g, (Value.slice A xs.length c).ownBlock = some g → w.heap.size ≤ g
theorem Fresh.row {α : Type} {T : Flat α} (hp : 0 < T.size) {t : TypeId} {w w' : World} {A : Option Addr} {c : Nat} {xs : List α} (h : Fresh T t w w' A c xs) : SlR T w' A xs.length xs := SlR.of_own hp h.own
theorem own_ext {w v : World} {B : Nat} {e : TypeId} {size n : Nat} {x : Value} {xs : List Value} (h : w.ownsRow B e size x n xs) (hx : Ext w v) : v.ownsRow B e size x n xs := own_keep h hx fun _ _ h => h
theorem Fresh.on {α : Type} {T : Flat α} {t : TypeId} {w w' u : World} {A : Option Addr} {c : Nat} {xs : List α} (h : Fresh T t w w' A c xs) (hx : Ext w' u) : Fresh T t w u A c xs := ⟨own_ext h.own hx, h.ext.then_ext hx, h.new⟩
theorem Fresh.from {α : Type} {T : Flat α} {t : TypeId} {w0 w w' : World} {A : Option Addr} {c : Nat} {xs : List α} (h : Fresh T t w w' A c xs) (hx : Ext w0 w) : Fresh T t w0 w' A c xs := ⟨h.own, hx.then_ext h.ext, fun g hg => Nat.le_trans hx.size (h.new g hg)⟩
theorem Fresh.nil {α : Type} (T : Flat α) (t : TypeId) (w w' : World) (hx : Ext w w') : Fresh T t w w' none 0 ([] : List α) := ⟨World.ownsRow_nil _ _ _ _, hx, fun g hg => by simp [Value.ownBlock] at hg⟩
/-- What append leaves of such a slice. -/
theorem Fresh.grow {α : Type} {T : Flat α} {t : TypeId} {w w1 w2 : World} {A A' : Option Addr} {c c' m : Nat} {xs ys : List α} (h : Fresh T t w w1 A c xs) (hm : ys.length = m) (hown : w2.ownsRow 0 t T.size (.slice A' (xs.length + m : Nat) c') (xs.length + m) (xs.flatMap T.enc ++ ys.flatMap T.enc)) (hg : w1.grownBy w2 (Value.slice A xs.length c).ownBlock)
    (hb : (Value.slice A' (xs.length + m : Nat) c').ownBlock = (Value.slice A xs.length c).ownBlock ∨ (Value.slice A' (xs.length + m : Nat) c').ownBlock = some w1.heap.size) : Fresh T t w w2 A' c' (xs ++ ys) := by
  subst hm
  refine ⟨by rw [List.length_append, List.flatMap_append]; exact hown, h.ext.grown hg fun g hg => .inl (h.new g hg), fun g hg => ?_⟩
  rw [List.length_append] at hg
  rcases hb with hb | hb
  · exact h.new g (hb.symm.trans hg)
  · rw [hb] at hg
    injection hg with hg
    have := h.ext.size
    omega
end Go.Proofs.YtnhaekifcieeoaaGreatDoor

namespace Go.Proofs.YtnhaekifcieeoaaGreatDoor
open Go Go.RowKit
theorem string_info : (Tryz.prog.info? 9).map (fun i => (i.zero, i.size, i.bytes)) = some (some (S []), 1, 16) := by kernel_rfl
theorem string_ty : Ety Tryz.prog 27 9 1 := Ety.mk' Tryz.underlying27 string_info rfl (by omega) (by omega)
theorem CloneStrs_c {w : World} {A : Option Addr} {n c : Nat} {cs : List Value} (h : Rd w A n 1 cs) (h1 : ∀ u ∈ cs, u.oneCell' = true) (hA : A = none → n = 0) (hn : n ≤ 1000000) :
    Calls Tryz.prog 101 #[.slice A n c] w fun e w' => ∃ A' c', e = .returned (.slice A' n c') ∧ w'.ownsRow 0 9 1 (.slice A' n c') n cs ∧ Ext w w' ∧ ∀ g, (Value.slice A' n c').ownBlock = some g → w.heap.size ≤ g := by
  have h2 := fun (W : World) => Lib.run_eql_slice_nil (P := Tryz.prog) W 27 9 A n c 0 0 Tryz.underlying27
  rcases A with _ | ad
  · obtain rfl := hA rfl
    obtain rfl : cs = [] := List.eq_nil_of_length_eq_zero (by simpa using h.1)
    go_enter Tryz.func101, Tryz.ntmps101
    go_wp2
    go_ret
    exact ⟨none, 0, rfl, World.ownsRow_nil _ _ _ _, Only.refl _ _, fun g hg => by simp [Value.ownBlock] at hg⟩
  · have H := Lib.hid h
    clear h
    go_enter Tryz.func101, Tryz.ntmps101
    go_wp2_with (at_builtin; go_must (refine wpList_append (v := .slice (some ⟨w.heap.size, 0, none⟩) 0 0) (n := 0) (xs := []) rfl string_ty rfl rfl rfl (own_empty w _ _) (H.out.alloc _) h1 (by omega) ?_); intro A' c' w5 hown5 hg5 hb5)
    go_ret
    rw [Nat.zero_add] at hown5 hb5
    have hx : Ext w w5 := ((Only.refl _ _).alloc (.cells #[] 9)).grown hg5 (fun g hg => by simp [Value.ownBlock] at hg; left; omega)
    refine ⟨A', c', ?_, by simpa using hown5, hx, fun g hg => ?_⟩
    · simp [Nat.zero_add]
    · rcases hb5 with h | h <;> rw [h] at hg <;> simp [Value.ownBlock] at hg <;> omega
end Go.Proofs.YtnhaekifcieeoaaGreatDoor

/- Slices of texts: Contains, In, LightTexts, Clone. -/
namespace Go.Proofs.YtnhaekifcieeoaaGreatDoor
open Go Go.RowKit
theorem str_enc1 : ∀ (xs : List Str), ∀ u ∈ xs.flatMap strF.enc, u.oneCell' = true := by
  intro xs u hu
  obtain ⟨x, _, hx⟩ := List.mem_flatMap.1 hu
  rcases List.mem_cons.1 hx with rfl | hx
  · rfl
  · cases hx
def inS (xs : List Str) (k : Str) : Bool := decide (k ∈ xs)
theorem inS_none {xs : List Str} {k : Str} (h : ∀ y ∈ xs, (y == k) = false) : inS xs k = false := by
  unfold inS
  refine decide_eq_false fun hk => ?_
  have := h k hk
  simp at this
theorem inS_at {xs : List Str} {k x : Str} {j : Nat} (hx : xs[j]? = some x) (h : (x == k) = true) : inS xs k = true := by
  unfold inS
  have : x = k := by simpa using h
  exact decide_eq_true (this ▸ List.mem_of_getElem? hx)
theorem none_snoc {α : Type} {p : α → Bool} {xs : List α} {j : Nat} {x : α} (h : ∀ y ∈ xs.take j, p y = false) (hx : xs[j]? = some x) (hp : p x = false) : ∀ y ∈ xs.take (j + 1), p y = false := fun y hy => by
  rw [List.take_add_one, hx] at hy
  rcases List.mem_append.1 hy with hy | hy
  · exact h y hy
  · simp at hy; exact hy ▸ hp
theorem In_c {w : World} {A : Option Addr} {n c : Nat} {xs : List Str} (h : SlR strF w A n xs) (hn : n ≤ 1000000) (k : Str) :
    Calls Tryz.prog 20 #[.slice A n c, S k] w fun e w' => e = .returned (.bool (inS xs k)) ∧ Ext w w' := by
  go_enter Tryz.func20, Tryz.ntmps20
  go_wp2_with (first | ((first | refine Mix.wpList_guarded rfl ?_ | refine Mix.wp_still (by kernel_rfl) (by kernel_rfl) ?_); (repeat' (first | (refine Mix.lex_quiet0 rfl rfl rfl ?_; intro K hK; go_big_quiet_op; go_big_quiet_on) | (refine Mix.lex_quietG rfl rfl rfl (by with_reducible rfl) rfl rfl ?_; intro K hK; go_big_quiet_op; go_big_quiet_on) | ((first | refine Mix.lex_skipT rfl rfl rfl (by with_reducible rfl) ?_ | refine Mix.lex_skipF rfl rfl rfl (by with_reducible rfl) ?_ | refine Mix.lex_skipU rfl rfl rfl (by with_reducible rfl) ?_); simp only [Act.put, List.setIfInBounds_toArray, List.set_cons_succ, List.set_cons_zero]) | (refine Mix.lex_part rfl rfl rfl rfl (fun hq => ?_) (fun hq => ?_) <;> (fail_if_success (guard_hyp hq :ₛ true = true)) <;> (fail_if_success (guard_hyp hq :ₛ false = false)) <;> first | (exfalso; cases hq; done) | (exfalso; simp only [decide_eq_true_eq, decide_eq_false_iff_not, beq_iff_eq, beq_eq_false_iff_ne, ne_eq, Int.not_lt, Int.not_le] at hq; omega) | simp only [Act.put, List.setIfInBounds_toArray, List.set_cons_succ, List.set_cons_zero]))); all_goals (refine Mix.lex_nil ?_)))
  go_loopw [5] (fun i wr => ∃ j : Nat, j ≤ n ∧ i = .int .i64 j ∧ (∀ y ∈ xs.take j, (y == k) = false) ∧ ∃ ξ : X w No, wr = ξ.v) (fun i _ => n - (intOf i).toNat)
  case atStart => exact ⟨0, Nat.zero_le _, rfl, by simp, X.here _ _, rfl⟩
  case round =>
    obtain ⟨j, hj, rfl, hT, ξ, rfl⟩ := hrel
    have HT := Lib.hid hT
    clear hT
    by_cases hlt : j < n
    · obtain ⟨b, o, x, rfl, hx, c0⟩ := strs_get h hlt
      have HX := Lib.hid hx
      clear hx
      obtain ⟨p, hp⟩ : ∃ p, (x == k) = p := ⟨_, rfl⟩
      cases p with
      | true =>
        have HP := Lib.hid hp
        go_wp2_with (first | ((first | refine Mix.wpList_guarded rfl ?_ | refine Mix.wp_still (by kernel_rfl) (by kernel_rfl) ?_); (repeat' (first | (refine Mix.lex_quiet0 rfl rfl rfl ?_; intro K hK; go_big_quiet_op; go_big_quiet_on) | (refine Mix.lex_quietG rfl rfl rfl (by with_reducible rfl) rfl rfl ?_; intro K hK; go_big_quiet_op; go_big_quiet_on) | ((first | refine Mix.lex_skipT rfl rfl rfl (by with_reducible rfl) ?_ | refine Mix.lex_skipF rfl rfl rfl (by with_reducible rfl) ?_ | refine Mix.lex_skipU rfl rfl rfl (by with_reducible rfl) ?_); simp only [Act.put, List.setIfInBounds_toArray, List.set_cons_succ, List.set_cons_zero]) | (refine Mix.lex_part rfl rfl rfl rfl (fun hq => ?_) (fun hq => ?_) <;> (fail_if_success (guard_hyp hq :ₛ true = true)) <;> (fail_if_success (guard_hyp hq :ₛ false = false)) <;> first | (exfalso; cases hq; done) | (exfalso; simp only [decide_eq_true_eq, decide_eq_false_iff_not, beq_iff_eq, beq_eq_false_iff_ne, ne_eq, Int.not_lt, Int.not_le] at hq; omega) | simp only [Act.put, List.setIfInBounds_toArray, List.set_cons_succ, List.set_cons_zero]))); all_goals (refine Mix.lex_nil ?_)))
        go_ret
        exact ⟨by rw [inS_at HX.out HP.out]; rfl, ξ.h⟩
      | false =>
        have HP := Lib.hid hp
        go_wp2_with (first | ((first | refine Mix.wpList_guarded rfl ?_ | refine Mix.wp_still (by kernel_rfl) (by kernel_rfl) ?_); (repeat' (first | (refine Mix.lex_quiet0 rfl rfl rfl ?_; intro K hK; go_big_quiet_op; go_big_quiet_on) | (refine Mix.lex_quietG rfl rfl rfl (by with_reducible rfl) rfl rfl ?_; intro K hK; go_big_quiet_op; go_big_quiet_on) | ((first | refine Mix.lex_skipT rfl rfl rfl (by with_reducible rfl) ?_ | refine Mix.lex_skipF rfl rfl rfl (by with_reducible rfl) ?_ | refine Mix.lex_skipU rfl rfl rfl (by with_reducible rfl) ?_); simp only [Act.put, List.setIfInBounds_toArray, List.set_cons_succ, List.set_cons_zero]) | (refine Mix.lex_part rfl rfl rfl rfl (fun hq => ?_) (fun hq => ?_) <;> (fail_if_success (guard_hyp hq :ₛ true = true)) <;> (fail_if_success (guard_hyp hq :ₛ false = false)) <;> first | (exfalso; cases hq; done) | (exfalso; simp only [decide_eq_true_eq, decide_eq_false_iff_not, beq_iff_eq, beq_eq_false_iff_ne, ne_eq, Int.not_lt, Int.not_le] at hq; omega) | simp only [Act.put, List.setIfInBounds_toArray, List.set_cons_succ, List.set_cons_zero]))); all_goals (refine Mix.lex_nil ?_)))
        go_roundw
        case rel => exact ⟨j + 1, by omega, by go_num, none_snoc HT.out HX.out HP.out, ξ, rfl⟩
        case measure => simp [intOf]; omega
    · go_wp2_with (first | ((first | refine Mix.wpList_guarded rfl ?_ | refine Mix.wp_still (by kernel_rfl) (by kernel_rfl) ?_); (repeat' (first | (refine Mix.lex_quiet0 rfl rfl rfl ?_; intro K hK; go_big_quiet_op; go_big_quiet_on) | (refine Mix.lex_quietG rfl rfl rfl (by with_reducible rfl) rfl rfl ?_; intro K hK; go_big_quiet_op; go_big_quiet_on) | ((first | refine Mix.lex_skipT rfl rfl rfl (by with_reducible rfl) ?_ | refine Mix.lex_skipF rfl rfl rfl (by with_reducible rfl) ?_ | refine Mix.lex_skipU rfl rfl rfl (by with_reducible rfl) ?_); simp only [Act.put, List.setIfInBounds_toArray, List.set_cons_succ, List.set_cons_zero]) | (refine Mix.lex_part rfl rfl rfl rfl (fun hq => ?_) (fun hq => ?_) <;> (fail_if_success (guard_hyp hq :ₛ true = true)) <;> (fail_if_success (guard_hyp hq :ₛ false = false)) <;> first | (exfalso; cases hq; done) | (exfalso; simp only [decide_eq_true_eq, decide_eq_false_iff_not, beq_iff_eq, beq_eq_false_iff_ne, ne_eq, Int.not_lt, Int.not_le] at hq; omega) | simp only [Act.put, List.setIfInBounds_toArray, List.set_cons_succ, List.set_cons_zero]))); all_goals (refine Mix.lex_nil ?_)))
      go_ret
      exact ⟨by rw [inS_none (fun y hy => HT.out y (by rw [List.take_of_length_le (by rw [h.1]; omega)]; exact hy))]; rfl, ξ.h⟩
theorem containsS_eq (xs : List Str) (k : Str) : Lib.containsS (xs.map fun s => (⟨s.toArray⟩ : ByteArray)) ⟨k.toArray⟩ = inS xs k := by
  unfold inS
  rw [Bool.eq_iff_iff, Lib.containsS_iff]
  simp
theorem Contains_c {w : World} {A : Option Addr} {n c : Nat} {xs : List Str} (h : SlR strF w A n xs) (hn : n ≤ 1000000) (k : Str) :
    Calls Tryz.prog 42 #[.slice A n c, S k] w fun e w' => e = .returned (.bool (inS xs k)) ∧ Ext w w' := by
  by_cases h0 : n = 0
  · subst h0
    refine (Tryz.slices_Contains_string_empty A c ⟨k.toArray⟩ w).mono ?_
    rintro e w' ⟨rfl, rfl⟩
    exact ⟨by rw [h.nil_]; rfl, Only.refl _ _⟩
  · obtain ⟨b, o, x, rfl, hb, hx, hc⟩ := h.get (k := 0) (by omega)
    refine (Tryz.slices_Contains_string b o n c (xs.map fun s => (⟨s.toArray⟩ : ByteArray)) ⟨k.toArray⟩ w (by rw [List.length_map, h.1]; exact Nat.le_refl _) (by omega) (fun j hj => ?_)).mono ?_
    · rw [List.length_map, h.1] at hj
      obtain ⟨b', o', y, he, hy, hcell⟩ := strs_get h hj
      injection he with he
      injection he with he1 he2
      subst he1; subst he2
      have := hcell (X.here w No)
      rw [List.getD_eq_getElem?_getD, List.getElem?_map, hy]
      exact this
    · rintro e w' ⟨rfl, rfl⟩
      refine ⟨?_, Only.refl _ _⟩
      rw [List.take_of_length_le (by rw [List.length_map, h.1]; exact Nat.le_refl _), containsS_eq]
theorem CloneStrs_f {w : World} {A : Option Addr} {n c : Nat} {xs : List Str} (h : SlR strF w A n xs) (hA : A = none → n = 0) (hn : n ≤ 1000000) :
    Calls Tryz.prog 101 #[.slice A n c] w fun e w' => ∃ A' c', e = .returned (.slice A' xs.length c') ∧ Fresh strF 9 w w' A' c' xs := by
  have hl := h.1
  refine (CloneStrs_c (h.rd (by decide)) (str_enc1 xs) hA hn).mono ?_
  rintro e w' ⟨A', c', rfl, h1, h2, h3⟩
  subst hl
  exact ⟨A', c', rfl, h1, h2, h3⟩
def lightT (many long : Nat) (l : List Str) : Bool := decide (l.length ≤ many) && l.all fun s => decide (s.length ≤ long)
end Go.Proofs.YtnhaekifcieeoaaGreatDoor
