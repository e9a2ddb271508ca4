/- Put together: Own2, Ins, Files2, Files3, Errs, Said, Same, Files4, Strs. -/
import Derived.Test.YtnhaekifcieeoaaGreatDoorPk02
import Derived.Lib.AppendZerosOnto
import Derived.Lib.Overlaps
import Derived.Test.YtnhaekifcieeoaaGreatDoorProg
import Derived.Test.YtnhaekifcieeoaaGreatDoorPkS
namespace Go.Proofs.YtnhaekifcieeoaaGreatDoor
open Go Go.RowKit
section
variable {P : Program}
theorem add_plain_ (b o j : Nat) : (⟨b, o, none⟩ : Addr).add j = ⟨b, o + j, none⟩ := by
  unfold Addr.add
  split
  · rename_i h; subst h; rfl
  · rfl
theorem run_copy_k (w : World) (dT sT ty elem : TypeId) (g o dLen dCap b so sLen sCap k : Nat) (cur : List Value) (t : TypeId) (cs : List Value)
    (hu : P.underlying dT = some (.slice elem)) (hs : (P.info? elem).map (·.size) = some k)
    (hg : Cs w g t cur.toArray) (hn : cs.length = Nat.min sLen dLen * k)
    (hsrc : ∀ j v, cs[j]? = some v → w.cell? ⟨b, so + j, none⟩ = some v) (hfit : o + cs.length ≤ cur.length) (h1 : ∀ v ∈ cs, v.oneCell' = true) :
    (Builtin.copy_ #[dT, sT] ty #[.slice (some ⟨g, o, none⟩) dLen dCap, .slice (some ⟨b, so, none⟩) sLen sCap]).run P w =
      .ok (goInt (Nat.min sLen dLen : Nat)) (w.setRow g (cur.take o ++ cs ++ cur.drop (o + cs.length)).toArray) := by
  have hl := run_loadCells_list (P := P) w ⟨b, so, none⟩ cs (fun j v h => by rw [add_plain_]; exact hsrc j v h)
  have hst := run_storeCells_at P g o t cs 0 cur.toArray w hg (by simpa using hfit) h1
  cases hq : P.info? elem with
  | none => simp [hq] at hs
  | some i =>
    have hi : i.size = k := by simpa [hq] using hs
    simp [Builtin.copy_, run_underlying hu, Builtin.lenOf, Builtin.firstCells, sizeOf, typeInfo, hq, hi, ← hn, hl, hst]
theorem goes_copy_k {w : World} {o : Oper} {a : Act} {K : Value → World → Prop} {dT sT e : TypeId} {k : Nat} (hu : P.underlying dT = some (.slice e)) (hz : (P.info? e).map (·.size) = some k) {d s : Operand}
    (ho : o.op = .call { callee := .builtin .copy, args := #[d, s], argTypes := #[dT, sT] }) {g off dLen dCap : Nat} (hd : a.eval d = .slice (some ⟨g, off, none⟩) dLen dCap) {b so sLen c : Nat} (hs : a.eval s = .slice (some ⟨b, so, none⟩) sLen c)
    {t : TypeId} {cur cs : List Value} (hg : Cs w g t cur.toArray) (hn : cs.length = Nat.min sLen dLen * k) (hsrc : ∀ j u, cs[j]? = some u → w.cell? ⟨b, so + j, none⟩ = some u) (hfit : off + cs.length ≤ cur.length) (h1 : ∀ u ∈ cs, u.oneCell' = true)
    (h : ∀ w', Cs w' g t (cur.take off ++ cs ++ cur.drop (off + cs.length)).toArray → Only (fun x => x = g) w w' → K (.int .i64 (Nat.min sLen dLen : Nat)) w') : Mix.goes P o a w K := by
  have hrun := run_copy_k (P := P) w dT sT o.type e g off dLen dCap b so sLen c k cur t cs hu hz hg hn hsrc hfit h1
  unfold Mix.goes Mix.goesUpon execOp
  simp only [ho, resolve, invoke, builtin, Sem.run_bind, Sem.run_pure, Result.andThen_ok, List.map_toArray, List.map_cons, List.map_nil, hd, hs, hrun]
  exact h _ (setRow_heap w g _ _ t _ hg) ⟨rfl, rfl, rfl, by simp [World.setRow], fun k _ hne => setRow_other w g k _ hne⟩
theorem wpList_copy_k {ops : Array Oper} {rest : List Oper} {Q : Exit → Act → World → Prop} {w : World} {o : Oper} {a : Act} (hgd : o.guard = none) {dT sT e : TypeId} {k : Nat} (hu : P.underlying dT = some (.slice e)) (hz : (P.info? e).map (·.size) = some k) {d s : Operand}
    (ho : o.op = .call { callee := .builtin .copy, args := #[d, s], argTypes := #[dT, sT] }) {g off dLen dCap : Nat} (hd : a.eval d = .slice (some ⟨g, off, none⟩) dLen dCap) {b so sLen c : Nat} (hs : a.eval s = .slice (some ⟨b, so, none⟩) sLen c)
    {t : TypeId} {cur cs : List Value} (hg : Cs w g t cur.toArray) (hn : cs.length = Nat.min sLen dLen * k) (hsrc : ∀ j u, cs[j]? = some u → w.cell? ⟨b, so + j, none⟩ = some u) (hfit : off + cs.length ≤ cur.length) (h1 : ∀ u ∈ cs, u.oneCell' = true)
    (h : ∀ w', Cs w' g t (cur.take off ++ cs ++ cur.drop (off + cs.length)).toArray → Only (fun x => x = g) w w' → wpList P ops Q rest (a.put o.dst (.int .i64 (Nat.min sLen dLen : Nat))) w') : wpList P ops Q (o :: rest) a w :=
  wpList_plain hgd fun _ hK => Mix.wp_of_goes (N := fun v' w' => wpList P ops Q rest (a.put o.dst v') w') (fun _ _ h => hK _ _ h) (goes_copy_k hu hz ho hd hs hg hn hsrc hfit h1 h)
theorem wpList_zeros {ops : Array Oper} {rest : List Oper} {Q : Exit → Act → World → Prop} {w : World} {o : Oper} {a : Act} (hgd : o.guard = none) {t tn e : TypeId} {i : TypeInfo} {z : Value} {kn : IntKind} (ht : P.underlying t = some (.slice e)) (htn : P.underlying tn = some (.int kn))
    (hi : P.info? e = some i) (hz : i.zero = some z) {s x : Operand} (ho : o.op = .call { callee := .builtin .append, args := #[s, x], argTypes := #[t, tn] })
    {b off sLen sCap m : Nat} (hs : a.eval s = .slice (some ⟨b, off, none⟩) sLen sCap) (hx : a.eval x = .int .i64 (m : Int)) {olds : List Value} (hol : olds.length = sLen * i.size) (hold : ∀ j v, olds[j]? = some v → w.cell? ⟨b, off + j, none⟩ = some v)
    (h0 : 0 < m) (hsz : 0 < i.size) (hg : sCap < sLen + m) (hby : i.bytes ≤ 256) (hsm : sLen + m ≤ 100000000)
    (h : ∀ cap, sLen + m ≤ cap → cap ≤ maxLen → wpList P ops Q rest (a.put o.dst (.slice (some ⟨w.heap.size, 0, none⟩) (sLen + m : Nat) cap)) (w.drew.alloc (.cells (olds ++ (Builtin.zeroCells z.cells m).toList ++ (Builtin.zeroCells z.cells (cap - (sLen + m))).toList).toArray e))) :
    wpList P ops Q (o :: rest) a w := by
  have hm1 : (sLen + m) * i.bytes ≤ 100000000 * 256 := Nat.mul_le_mul hsm hby
  have hm2 : m * i.bytes ≤ (sLen + m) * i.bytes := Nat.mul_le_mul (by omega) (Nat.le_refl _)
  have hrun := Lib.run_append_grow_zeros (P := P) w t tn o.type e i z .i64 kn ht htn hi hz (some ⟨b, off, none⟩) sLen sCap olds
    (run_firstCells_some w.drew i.size sLen ⟨b, off, none⟩ sLen sCap olds hol (fun j v hj => by rw [add_plain_]; exact hold j v hj)) m h0 hsz hg (by omega) (by omega) (growslice_fits hg (by omega))
  refine wpList_plain hgd fun K hK => Mix.wp_of_goes (N := fun v' w' => wpList P ops Q rest (a.put o.dst v') w') (fun _ _ h => hK _ _ h) ?_
  unfold Mix.goes Mix.goesUpon execOp
  simp only [ho, resolve, invoke, builtin, Sem.run_bind, Sem.run_pure, Result.andThen_ok, List.map_toArray, List.map_cons, List.map_nil, hs, hx, hrun]
  have := h (grownCap w (sLen + m) sCap e) (grownCap_ge w _ _ _) (grownCap_le_maxLen w _ _ e (by unfold maxLen; omega))
  have e1 : (olds ++ (Builtin.zeroCells z.cells m).toList ++ (Builtin.zeroCells z.cells (grownCap w (sLen + m) sCap e - (sLen + m))).toList).toArray = olds.toArray ++ Builtin.zeroCells z.cells m ++ Builtin.zeroCells z.cells (grownCap w (sLen + m) sCap e - (sLen + m)) := by
    apply Array.ext'
    simp
  rw [e1] at this
  exact this
end
theorem take_flatMap {α : Type} (T : Flat α) (xs : List α) (i : Nat) : (xs.take i).flatMap T.enc = (xs.flatMap T.enc).take (i * T.size) := by
  induction xs generalizing i with
  | nil => simp
  | cons x xs ih =>
    cases i with
    | zero => simp
    | succ i =>
      have h := T.len x
      have e1 : (T.enc x).take (i * T.size + T.size) = T.enc x := List.take_of_length_le (by omega)
      rw [List.take_succ_cons, List.flatMap_cons, List.flatMap_cons, ih, List.take_append, h, Nat.succ_mul, Nat.add_sub_cancel, e1]
theorem drop_flatMap {α : Type} (T : Flat α) (xs : List α) (i : Nat) : (xs.drop i).flatMap T.enc = (xs.flatMap T.enc).drop (i * T.size) := by
  induction xs generalizing i with
  | nil => simp
  | cons x xs ih =>
    cases i with
    | zero => simp
    | succ i =>
      have h := T.len x
      have e1 : (T.enc x).drop (i * T.size + T.size) = [] := List.drop_eq_nil_of_le (by omega)
      rw [List.drop_succ_cons, List.flatMap_cons, ih, List.drop_append, h, Nat.succ_mul, Nat.add_sub_cancel, e1]
      rfl
theorem own_block {w : World} {B : Nat} {e : TypeId} {size n c : Nat} {A : Option Addr} {xs : List Value} (h : w.ownsRow B e size (.slice A n c) n xs) (hn : 0 < n) (hs : 0 < size) :
    ∃ g rest, A = some ⟨g, 0, none⟩ ∧ Cs w g e (xs ++ rest).toArray ∧ xs.length = n * size ∧ (xs ++ rest).length = c * size ∧ n ≤ c ∧ c ≤ maxLen := by
  rcases h.2 with ⟨hv, h0⟩ | ⟨g, cap, cur, hv, hb, hh, hnc, hc, hsz, ht⟩
  · omega
  · injection hv with hv1 hv2 hv3
    subst hv1; subst hv3
    refine ⟨g, cur.toList.drop (n * size), rfl, ?_, h.1, ?_, hnc, hc⟩
    · unfold Cs
      rw [hh, ← ht, List.take_append_drop]
    · rw [← ht, List.take_append_drop]; simpa using hsz
theorem own_of_block {w : World} {B : Nat} {e : TypeId} {size n c g : Nat} {xs rest : List Value} (h : Cs w g e (xs ++ rest).toArray) (hb : B ≤ g) (hl : xs.length = n * size) (hc : (xs ++ rest).length = c * size) (hnc : n ≤ c) (hm : c ≤ maxLen) :
    w.ownsRow B e size (.slice (some ⟨g, 0, none⟩) n c) n xs :=
  ⟨hl, .inr ⟨g, c, (xs ++ rest).toArray, rfl, hb, h, hnc, hm, by simpa using hc, by rw [← hl]; simp⟩⟩
theorem ins_cells (X rest E : List Value) (i n k : Nat) (hX : X.length = n * k) (hE : E.length = k) (hi : i < n) {c1 : List Value}
    (h1 : c1 = (X ++ rest).take ((i + 1) * k) ++ X.drop (i * k) ++ (X ++ rest).drop ((i + 1) * k + (X.drop (i * k)).length)) :
    c1.take (i * k) ++ E ++ c1.drop (i * k + E.length) = X.take (i * k) ++ E ++ X.drop (i * k) ++ (X ++ rest).drop ((n + 1) * k) := by
  have h2 : (i + 1) * k ≤ n * k := Nat.mul_le_mul_right _ hi
  have h3 : (i + 1) * k = i * k + k := Nat.succ_mul _ _
  have hA : ((X ++ rest).take ((i + 1) * k)).length = (i + 1) * k := by rw [List.length_take, List.length_append]; omega
  have hD : (i + 1) * k + (X.drop (i * k)).length = (n + 1) * k := by rw [List.length_drop, hX, Nat.succ_mul n k]; omega
  have e1 : c1.take (i * k) = X.take (i * k) := by
    rw [h1, List.append_assoc, List.take_append_of_le_length (by omega), List.take_take, Nat.min_eq_left (by omega), List.take_append_of_le_length (by omega)]
  have e2 : c1.drop (i * k + E.length) = X.drop (i * k) ++ (X ++ rest).drop ((n + 1) * k) := by
    rw [h1, hE, ← h3, List.append_assoc, List.drop_left' hA, hD]
  rw [e1, e2, List.append_assoc, List.append_assoc, List.append_assoc]
theorem grow_cells1 (O Z R E : List Value) (i k : Nat) (hO : O.length = i * k) (hE : E.length = k) (hZ : k ≤ Z.length) : (O ++ Z ++ R).take (i * k) ++ E ++ (O ++ Z ++ R).drop (i * k + E.length) = O ++ E ++ Z.drop k ++ R := by
  have e1 : (O ++ Z ++ R).take (i * k) = O := by rw [List.append_assoc, List.take_left' hO]
  have e2 : (O ++ Z ++ R).drop (i * k + E.length) = Z.drop k ++ R := by
    rw [List.append_assoc, hE, ← hO, ← List.drop_drop, List.drop_left, List.drop_append_of_le_length hZ]
  rw [e1, e2, ← List.append_assoc]
theorem grow_cells2 (O Z R E D : List Value) (i k : Nat) (hO : O.length = i * k) (hE : E.length = k) (hZ : Z.length = k + D.length) : (O ++ E ++ Z.drop k ++ R).take ((i + 1) * k) ++ D ++ (O ++ E ++ Z.drop k ++ R).drop ((i + 1) * k + D.length) = O ++ E ++ D ++ R := by
  have h1 : (O ++ E).length = (i + 1) * k := by rw [List.length_append, hO, hE, Nat.succ_mul]
  have h2 : (Z.drop k).length = D.length := by rw [List.length_drop]; omega
  have e1 : (O ++ E ++ Z.drop k ++ R).take ((i + 1) * k) = O ++ E := by rw [List.append_assoc (O ++ E), List.take_left' h1]
  have e2 : (O ++ E ++ Z.drop k ++ R).drop ((i + 1) * k + D.length) = R := by
    rw [List.append_assoc (O ++ E), ← h1, ← List.drop_drop, List.drop_left, ← h2, List.drop_left]
  rw [e1, e2]
theorem length_zeroCells (cs : Array Value) (n : Nat) : (Builtin.zeroCells cs n).toList.length = n * cs.size := by
  simp [Builtin.zeroCells]
theorem Cs.shape {w : World} {g : Nat} {t : TypeId} {cs : Array Value} (h : Cs w g t cs) : w.shape? g = some (t, cs.size) := by
  unfold Cs at h; simp [World.shape?, h]
structure Fresh {α : Type} (T : Flat α) (t : TypeId) (w w' : World) (A : Option Addr) (c : Nat) (xs : List α) : Prop where
  own : w'.ownsRow 0 t T.size (.slice A xs.length c) xs.length (xs.flatMap T.enc)
  ext : Ext w w'
  new : ∀ g, (Value.slice A xs.length c).ownBlock = some g → w.heap.size ≤ g
theorem Fresh.row {α : Type} {T : Flat α} (hp : 0 < T.size) {t : TypeId} {w w' : World} {A : Option Addr} {c : Nat} {xs : List α} (h : Fresh T t w w' A c xs) : SlR T w' A xs.length xs := SlR.of_own hp h.own
theorem own_ext {w v : World} {B : Nat} {e : TypeId} {size n : Nat} {x : Value} {xs : List Value} (h : w.ownsRow B e size x n xs) (hx : Ext w v) : v.ownsRow B e size x n xs := own_keep h hx fun _ _ h => h
theorem Fresh.on {α : Type} {T : Flat α} {t : TypeId} {w w' u : World} {A : Option Addr} {c : Nat} {xs : List α} (h : Fresh T t w w' A c xs) (hx : Ext w' u) : Fresh T t w u A c xs := ⟨own_ext h.own hx, h.ext.then_ext hx, h.new⟩
theorem Fresh.from {α : Type} {T : Flat α} {t : TypeId} {w0 w w' : World} {A : Option Addr} {c : Nat} {xs : List α} (h : Fresh T t w w' A c xs) (hx : Ext w0 w) : Fresh T t w0 w' A c xs := ⟨h.own, hx.then_ext h.ext, fun g hg => Nat.le_trans hx.size (h.new g hg)⟩
theorem Fresh.nil {α : Type} (T : Flat α) (t : TypeId) (w w' : World) (hx : Ext w w') : Fresh T t w w' none 0 ([] : List α) := ⟨World.ownsRow_nil _ _ _ _, hx, fun g hg => by simp [Value.ownBlock] at hg⟩
theorem Fresh.grow {α : Type} {T : Flat α} {t : TypeId} {w w1 w2 : World} {A A' : Option Addr} {c c' m : Nat} {xs ys : List α} (h : Fresh T t w w1 A c xs) (hm : ys.length = m) (hown : w2.ownsRow 0 t T.size (.slice A' (xs.length + m : Nat) c') (xs.length + m) (xs.flatMap T.enc ++ ys.flatMap T.enc)) (hg : w1.grownBy w2 (Value.slice A xs.length c).ownBlock)
    (hb : (Value.slice A' (xs.length + m : Nat) c').ownBlock = (Value.slice A xs.length c).ownBlock ∨ (Value.slice A' (xs.length + m : Nat) c').ownBlock = some w1.heap.size) : Fresh T t w w2 A' c' (xs ++ ys) := by
  subst hm
  refine ⟨by rw [List.length_append, List.flatMap_append]; exact hown, h.ext.grown hg fun g hg => .inl (h.new g hg), fun g hg => ?_⟩
  rw [List.length_append] at hg
  rcases hb with hb | hb
  · exact h.new g (hb.symm.trans hg)
  · rw [hb] at hg
    injection hg with hg
    have := h.ext.size
    omega
theorem file_info : (Tryz.prog.info? 75).map (fun i => (i.zero, i.size, i.bytes)) = some (some (.agg #[S [], S []]), 2, 32) := by kernel_rfl
theorem file_ty : Ety Tryz.prog 22 75 2 := Ety.mk' Tryz.underlying22 file_info rfl (by omega) (by omega)
structure Turned (w w' : World) (v v' : Value) : Prop where
  o : Only (fun b => v.ownBlock = some b) w w'
  b : ∀ g, v'.ownBlock = some g → v.ownBlock = some g ∨ w.heap.size ≤ g
def insAt {α : Type} (i : Nat) (x : α) (xs : List α) : List α := xs.take i ++ x :: xs.drop i
theorem file_enc1 : ∀ (xs : List File), ∀ u ∈ xs.flatMap fileF.enc, u.oneCell' = true := by
  intro xs u hu
  obtain ⟨x, _, hx⟩ := List.mem_flatMap.1 hu
  rcases List.mem_cons.1 hx with rfl | hx
  · rfl
  · rcases List.mem_cons.1 hx with rfl | hx
    · rfl
    · cases hx
set_option maxRecDepth 100000 in
set_option maxHeartbeats 1000000 in
theorem InsFile_end {w : World} {A : Option Addr} {n c : Nat} {xs : List File} (h : w.ownsRow 0 75 2 (.slice A n c) n (xs.flatMap fileF.enc)) (hcap : n ≤ c) (hc : c ≤ maxLen) (x : File) {vb : Nat} (hv : Cs w vb 75 #[S x.1, S x.2]) (hn : n ≤ 1000000) :
    Calls Tryz.prog 55 #[.slice A n c, .int .i64 n, .slice (some ⟨vb, 0, none⟩) 1 1] w fun e w' =>
      ∃ A' c', e = .returned (.slice A' (n + 1 : Nat) c') ∧ w'.ownsRow 0 75 2 (.slice A' (n + 1 : Nat) c') (n + 1) ((insAt n x xs).flatMap fileF.enc) ∧ Turned w w' (.slice A n c) (.slice A' (n + 1 : Nat) c') := by
  have hl := SlR.of_own (T := fileF) (by decide) h
  have hrd : Rd w (some ⟨vb, 0, none⟩) 1 2 [S x.1, S x.2] := ⟨rfl, fun _ => ⟨vb, 0, rfl, fun j u hu => by rw [hv.cell, Nat.zero_add]; simpa using hu⟩⟩
  unfold maxLen at hc
  have H := Lib.hid h
  have HL := Lib.hid hl.1
  have HRD := Lib.hid hrd
  clear h hv hl hrd
  go_enter Tryz.func55, Tryz.ntmps55
  go_wp2_with (at_builtin; go_must (refine wpList_append (v := .slice A n c) (n := n) (xs := xs.flatMap fileF.enc) rfl file_ty rfl rfl rfl H.out HRD.out (by simp [Value.oneCell']) (by omega) ?_); intro A' c' w5 hown5 hg5 hb5)
  all_goals
    go_ret
    have e1 : (insAt n x xs).flatMap fileF.enc = xs.flatMap fileF.enc ++ [S x.1, S x.2] := by
      unfold insAt
      rw [List.take_of_length_le (by rw [HL.out]; exact Nat.le_refl _), List.drop_eq_nil_of_le (by rw [HL.out]; exact Nat.le_refl _), List.flatMap_append]
      rfl
    exact ⟨A', c', rfl, by rw [e1]; exact hown5, (Only.refl _ _).grown hg5 (fun g hg => .inr (by cases A <;> exact hg)), fun g hg => hb5.elim (fun hb => .inl (by cases A <;> exact hb.symm.trans hg)) (fun hb => .inr (by rw [hb] at hg; injection hg with hg; omega))⟩
set_option maxRecDepth 100000 in
set_option maxHeartbeats 2000000 in
theorem InsFile_room {w : World} {g n c i : Nat} {xs : List File} {rest : List Value} (hg : Cs w g 75 (xs.flatMap fileF.enc ++ rest).toArray) (hl : xs.length = n) (hr : (xs.flatMap fileF.enc ++ rest).length = c * 2) (hi : i < n) (hcap : n + 1 ≤ c) (hc : c ≤ maxLen)
    (x : File) {vb : Nat} (hv : Cs w vb 75 #[S x.1, S x.2]) (hne : vb ≠ g) (hn : n ≤ 1000000) :
    Calls Tryz.prog 55 #[.slice (some ⟨g, 0, none⟩) n c, .int .i64 i, .slice (some ⟨vb, 0, none⟩) 1 1] w fun e w' =>
      ∃ rest', e = .returned (.slice (some ⟨g, 0, none⟩) (n + 1 : Nat) c) ∧ Cs w' g 75 ((insAt i x xs).flatMap fileF.enc ++ rest').toArray ∧ ((insAt i x xs).flatMap fileF.enc ++ rest').length = c * 2 ∧ Only (fun b => b = g) w w' := by
  have hov : ∀ (W : World) lb cb, W = w → (callFunc 81 #[.slice (some ⟨vb, 0, none⟩) 1 1, .slice (some ⟨g, (i + 1) * 2, none⟩) lb cb]).run Tryz.prog W = .ok (.value (.bool false)) W := fun W lb cb e => by
    subst e
    rw [run_callFunc_extern Tryz.func81 (by kernel_rfl) (by kernel_rfl) (by kernel_rfl) (e := Extern.SlicesOverlaps.overlaps #[22, 22] #[4]) (by kernel_rfl),
      Lib.run_overlaps_apart W 22 4 75 Tryz.underlying22 2 (fun _ => by kernel_rfl) ⟨vb, 0, none⟩ ⟨g, (i + 1) * 2, none⟩ 1 1 lb cb hne _ _ _ _ hv.shape hg.shape (by rw [List.size_toArray]; omega) (hv.frozen 0) (hv.frozen _)]
    rfl
  unfold maxLen at hc
  have hX : (xs.flatMap fileF.enc).length = n * 2 := by rw [length_flatMap_enc, hl]; rfl
  have HD : Hid (((xs.drop i).flatMap fileF.enc).length = (n - i) * 2) := by rw [Hid, length_flatMap_enc, List.length_drop, hl]; rfl
  have HDe : Hid ((xs.drop i).flatMap fileF.enc = (xs.flatMap fileF.enc).drop (i * 2)) := drop_flatMap fileF xs i
  have HC : Hid (∀ j u, ((xs.drop i).flatMap fileF.enc)[j]? = some u → w.cell? ⟨g, i * 2 + j, none⟩ = some u) := fun j u hu => by
    rw [HDe.out, List.getElem?_drop] at hu
    rw [hg.cell, List.getElem?_toArray, List.getElem?_append_left (by have := (List.getElem?_eq_some_iff.1 hu).1; omega)]
    exact hu
  have HF : Hid ((i + 1) * 2 + (n - i) * 2 ≤ (xs.flatMap fileF.enc ++ rest).length) := by rw [Hid, hr]; omega
  obtain ⟨C1, hC1⟩ : ∃ C1, C1 = (xs.flatMap fileF.enc ++ rest).take ((i + 1) * 2) ++ (xs.drop i).flatMap fileF.enc ++ (xs.flatMap fileF.enc ++ rest).drop ((i + 1) * 2 + ((xs.drop i).flatMap fileF.enc).length) := ⟨_, rfl⟩
  have HI := Lib.hid (ins_cells (xs.flatMap fileF.enc) rest [S x.1, S x.2] i n 2 hX rfl hi (c1 := C1) (by rw [hC1, HDe.out]))
  have HC1 := Lib.hid hC1
  have HC1l : Hid (C1.length = c * 2) := by
    rw [Hid, hC1]
    have h1 := HD.out
    have h2 := HF.out
    simp only [List.length_append, List.length_take, List.length_drop] at hr h1 h2 ⊢
    omega
  have HIe : Hid ((insAt i x xs).flatMap fileF.enc = (xs.flatMap fileF.enc).take (i * 2) ++ [S x.1, S x.2] ++ (xs.flatMap fileF.enc).drop (i * 2)) := by
    have := take_flatMap fileF xs i
    have h2 := HDe.out
    rw [Hid, insAt, List.flatMap_append, List.flatMap_cons, h2, this, ← List.append_assoc]
    rfl
  have HG := Lib.hid hg
  have HV := Lib.hid hv
  have HR := Lib.hid hr
  clear hg hv hl hr hX hC1
  go_enter Tryz.func55, Tryz.ntmps55
  go_wp2
  refine Mix.wp_draw [8] 100 (Cl w (fun b => b = g)) (by kernel_rfl) (by kernel_rfl) (Cl.of (Only.refl _ _).drew) ?_
  (repeat' (refine Mix.lex_quiet0 rfl rfl rfl ?_; intro K hK; go_big_quiet_op; go_big_quiet_on))
  refine Mix.lex_goes0 rfl rfl ?_
  intro K hK
  refine goes_copy_k Tryz.underlying22 (k := 2) (by kernel_rfl) rfl rfl rfl (cur := xs.flatMap fileF.enc ++ rest) (cs := (xs.drop i).flatMap fileF.enc) HG.out.drew ?_ ?_ ?_ ?_ ?_
  · rw [HD.out, show (n + 1 - i).min (n - i) = n - i by simp only [Nat.min_def]; split <;> omega]
  · exact HC.out
  · rw [HD.out]; exact HF.out
  · exact file_enc1 _
  rw [← HC1.out]
  intro u hu hx
  have HU := Lib.hid hu
  have HX := Lib.hid ((Only.refl (fun b => b = g) w).drew.trans hx fun _ _ h => h)
  have HV2 : Hid (Cs u vb 75 #[S x.1, S x.2]) := HV.out.keep HX.out hne
  refine hK _ _ (fun _ => Cl.of HX.out) ?_
  clear hK K hu hx
  simp only [Act.put, List.setIfInBounds_toArray, List.set_cons_succ, List.set_cons_zero]
  (repeat' (refine Mix.lex_quiet0 rfl rfl rfl ?_; intro K hK; go_big_quiet_op; go_big_quiet_on))
  refine Mix.lex_nil ?_
  go_wp2_with (with_reducible refine wpList_copy_k rfl Tryz.underlying22 (k := 2) (by kernel_rfl) rfl rfl rfl (cur := C1) (cs := [S x.1, S x.2]) HU.out ?_ ?_ ?_ ?_ ?_)
  · have : Nat.min 1 (n + 1 - i) = 1 := by simp only [Nat.min_def]; split <;> omega
    rw [this]; rfl
  · intro j y hy
    rw [HV2.out.cell, Nat.zero_add]; simpa using hy
  · rw [HC1l.out]; show i * 2 + 2 ≤ c * 2; omega
  · intro y hy
    exact file_enc1 [x] y (by simpa [fileF] using hy)
  intro v hv hx2
  have HI2 := HI.out
  have HIe2 := HIe.out
  have HC2 := HC1l.out
  have HX2 := Lib.hid (HX.out.trans hx2 fun _ _ h => h)
  have HV3 := Lib.hid hv
  clear HC1 HC1l HC HDe hv hx2 HU
  have fin : Hid (Cs v g 75 ((insAt i x xs).flatMap fileF.enc ++ ((xs.flatMap fileF.enc ++ rest).drop ((n + 1) * 2))).toArray ∧ ((insAt i x xs).flatMap fileF.enc ++ ((xs.flatMap fileF.enc ++ rest).drop ((n + 1) * 2))).length = c * 2) := by
    rw [HIe2]
    have e1 : C1.take (i * 2) ++ S x.1 :: S x.2 :: C1.drop (i * 2 + 2) = (xs.flatMap fileF.enc).take (i * 2) ++ [S x.1, S x.2] ++ (xs.flatMap fileF.enc).drop (i * 2) ++ (xs.flatMap fileF.enc ++ rest).drop ((n + 1) * 2) := by
      rw [← HI2]; simp
    refine ⟨by rw [← e1]; exact HV3.out, ?_⟩
    rw [← e1]
    simp only [List.length_append, List.length_take, List.length_cons, List.length_drop, HC2]
    omega
  clear HI2 HIe2 HC2 HI HIe HV3
  go_wp2
  go_ret
  exact ⟨_, rfl, fin.out.1, fin.out.2, HX2.out⟩
set_option maxRecDepth 100000 in
set_option maxHeartbeats 2000000 in
theorem InsFile_grow {w : World} {g n i : Nat} {xs : List File} {rest : List Value} (hg : Cs w g 75 (xs.flatMap fileF.enc ++ rest).toArray) (hl : xs.length = n) (hi : i < n)
    (x : File) {vb : Nat} (hv : Cs w vb 75 #[S x.1, S x.2]) (hn : n ≤ 1000000) :
    Calls Tryz.prog 55 #[.slice (some ⟨g, 0, none⟩) n n, .int .i64 i, .slice (some ⟨vb, 0, none⟩) 1 1] w fun e w' =>
      ∃ c rest', e = .returned (.slice (some ⟨w.heap.size, 0, none⟩) (n + 1 : Nat) c) ∧ Cs w' w.heap.size 75 ((insAt i x xs).flatMap fileF.enc ++ rest').toArray ∧ ((insAt i x xs).flatMap fileF.enc ++ rest').length = c * 2 ∧ n + 1 ≤ c ∧ c ≤ maxLen ∧ Ext w w' := by
  obtain ⟨i0, hi0, hz0, hz1, hz2⟩ := info_parts file_info
  have hX : (xs.flatMap fileF.enc).length = n * 2 := by rw [length_flatMap_enc, hl]; rfl
  have HD : Hid (((xs.drop i).flatMap fileF.enc).length = (n - i) * 2) := by rw [Hid, length_flatMap_enc, List.length_drop, hl]; rfl
  have HO : Hid (((xs.take i).flatMap fileF.enc).length = i * 2) := by rw [Hid, length_flatMap_enc, List.length_take, hl, Nat.min_eq_left (by omega)]; rfl
  have HDc : Hid (∀ j u, ((xs.drop i).flatMap fileF.enc)[j]? = some u → w.cell? ⟨g, i * 2 + j, none⟩ = some u) := fun j u hu => by
    have e1 : (xs.drop i).flatMap fileF.enc = (xs.flatMap fileF.enc).drop (i * 2) := drop_flatMap fileF xs i
    rw [e1, List.getElem?_drop] at hu
    rw [hg.cell, List.getElem?_toArray, List.getElem?_append_left (by have := (List.getElem?_eq_some_iff.1 hu).1; omega)]
    exact hu
  have HOc : Hid (∀ j u, ((xs.take i).flatMap fileF.enc)[j]? = some u → w.cell? ⟨g, 0 + j, none⟩ = some u) := fun j u hu => by
    have e1 : (xs.take i).flatMap fileF.enc = (xs.flatMap fileF.enc).take (i * 2) := take_flatMap fileF xs i
    have hj := (List.getElem?_eq_some_iff.1 hu).1
    rw [HO.out] at hj
    rw [e1, List.getElem?_take_of_lt hj] at hu
    rw [Nat.zero_add, hg.cell, List.getElem?_toArray, List.getElem?_append_left (by omega)]
    exact hu
  have HIe : Hid ((insAt i x xs).flatMap fileF.enc = (xs.take i).flatMap fileF.enc ++ [S x.1, S x.2] ++ (xs.drop i).flatMap fileF.enc) := by
    rw [Hid, insAt, List.flatMap_append, List.flatMap_cons, ← List.append_assoc]
    rfl
  have HG := Lib.hid hg
  have HV := Lib.hid hv
  have HS0 := Lib.hid hz1
  have hs0 : 0 < i0.size := by omega
  have hb0 : i0.bytes ≤ 256 := by omega
  have HI0 := Lib.hid hi0
  have HZ0 := Lib.hid hz0
  have hgw := hg.lt
  have hvw := hv.lt
  clear hg hv hl hX hi0 hz0 hz1 hz2
  go_enter Tryz.func55, Tryz.ntmps55
  go_upto_region 10 with (at_builtin; go_must (refine wpList_zeros (m := n + 1 - i) rfl Tryz.underlying22 Tryz.underlying3 HI0.out HZ0.out rfl rfl ?hx1 (olds := (xs.take i).flatMap fileF.enc) (by rw [HO.out, HS0.out]) HOc.out (by omega) hs0 (by omega) hb0 (by omega) ?hx2); case' hx2 => (intro cap hc1 hc2; generalize hW1 : w.drew.alloc _ = W1))
  case hx1 => (show Value.int .i64 ((n : Int) + 1 - i) = _; congr 1; omega)
  have hm : i + (n + 1 - i) = n + 1 := by omega
  have E1 : Hid (Ext w W1) := by rw [Hid, ← hW1]; exact (Only.refl No w).drew.alloc _
  obtain ⟨Z1, hZ1⟩ : ∃ Z1, Z1 = (Builtin.zeroCells (Value.agg #[S [], S []]).cells (n + 1 - i)).toList := ⟨_, rfl⟩
  obtain ⟨Z2, hZ2⟩ : ∃ Z2, Z2 = (Builtin.zeroCells (Value.agg #[S [], S []]).cells (cap - (i + (n + 1 - i)))).toList := ⟨_, rfl⟩
  obtain ⟨N, hN⟩ : ∃ N, N = w.heap.size := ⟨_, rfl⟩
  obtain ⟨O, hO⟩ : ∃ O, O = (xs.take i).flatMap fileF.enc := ⟨_, rfl⟩
  obtain ⟨D, hD⟩ : ∃ D, D = (xs.drop i).flatMap fileF.enc := ⟨_, rfl⟩
  have C1 : Hid (Cs W1 N 75 (O ++ Z1 ++ Z2).toArray) := by
    rw [Hid, ← hW1, hZ1, hZ2, hN, hO]
    exact Cs.new w.drew _ _
  have LZ1 : Hid (Z1.length = (n + 1 - i) * 2) := by rw [Hid, hZ1, length_zeroCells]; rfl
  have LZ2 : Hid (Z2.length = (cap - (n + 1)) * 2) := by rw [Hid, hZ2, length_zeroCells, hm]; rfl
  have V1 : Hid (Cs W1 vb 75 #[S x.1, S x.2]) := HV.out.keep E1.out id
  have D1 : Hid (∀ j u, D[j]? = some u → W1.cell? ⟨g, i * 2 + j, none⟩ = some u) := fun j u hu => by
    rw [E1.out.cell hgw id]; exact HDc.out j u (hD ▸ hu)
  have hDe := Lib.hid hD
  rw [← hO] at HO HIe
  rw [← hD] at HD HIe
  rw [hm] at hc1
  rw [hm, ← hN]
  have hgN : g ≠ N := by omega
  have hvN : vb ≠ N := by omega
  have HN := Lib.hid hN
  have HO' := Lib.hid HO.out
  have HD' := Lib.hid HD.out
  clear hZ1 hZ2 hO hD hN hm hW1 HDc HOc HG HV HI0 HZ0 HS0 hs0 hb0 HO HD
  obtain ⟨CC, hCC⟩ : ∃ CC, CC = O ++ Z1 ++ Z2 := ⟨_, rfl⟩
  rw [← hCC] at C1
  have HCC := Lib.hid hCC
  clear hCC
  go_wp2_with (with_reducible refine wpList_copy_k rfl Tryz.underlying22 (k := 2) (by kernel_rfl) rfl rfl rfl (cur := CC) (cs := [S x.1, S x.2]) C1.out ?_ ?_ ?_ ?_ ?_)
  · have : Nat.min 1 (n + 1 - i) = 1 := by simp only [Nat.min_def]; split <;> omega
    rw [this]; rfl
  · intro j y hy
    rw [V1.out.cell, Nat.zero_add]; simpa using hy
  · have h1 := HO'.out; have h2 := LZ1.out; have h3 := LZ2.out
    rw [HCC.out]
    simp only [List.length_append, h1, h2, h3, List.length_cons, List.length_nil]; omega
  · intro y hy
    exact file_enc1 [x] y (by simpa [fileF] using hy)
  intro u hu hx
  have hu : Cs u N 75 (O ++ [S x.1, S x.2] ++ Z1.drop 2 ++ Z2).toArray := by
    rw [← grow_cells1 O Z1 Z2 [S x.1, S x.2] i 2 HO'.out rfl (by rw [LZ1.out]; omega), ← HCC.out]
    simpa using hu
  have C2 := Lib.hid hu
  have E2 := Lib.hid hx
  have D2 : Hid (∀ j u', D[j]? = some u' → u.cell? ⟨g, i * 2 + j, none⟩ = some u') := fun j u' hu' => by
    rw [hx.cell (Nat.lt_of_lt_of_le hgw E1.out.size) hgN]; exact D1.out j u' hu'
  clear hu hx C1 V1 D1 HCC
  go_wp2_with fail
  refine Mix.wp_draw [8] 100 (Cl u (fun b => b = N)) (by kernel_rfl) (by kernel_rfl) (Cl.of (Only.refl _ _).drew) ?_
  (repeat' (refine Mix.lex_quiet0 rfl rfl rfl ?_; intro K hK; go_big_quiet_op; go_big_quiet_on))
  refine Mix.lex_goes0 rfl rfl ?_
  intro K hK
  refine goes_copy_k Tryz.underlying22 (k := 2) (by kernel_rfl) rfl rfl rfl (cur := O ++ [S x.1, S x.2] ++ Z1.drop 2 ++ Z2) (cs := D) C2.out.drew ?_ ?_ ?_ ?_ ?_
  · rw [HD'.out]; congr 1; simp only [Nat.min_def]; split <;> omega
  · exact D2.out
  · have h1 := HO'.out; have h2 := LZ1.out; have h3 := LZ2.out; have h4 := HD'.out
    simp only [List.length_append, List.length_drop, h1, h2, h3, h4, List.length_cons, List.length_nil]; omega
  · intro y hy
    rw [hDe.out] at hy
    exact file_enc1 _ y hy
  rw [grow_cells2 O Z1 Z2 [S x.1, S x.2] D i 2 HO'.out rfl (by rw [LZ1.out, HD'.out]; omega)]
  intro v hv hx
  have C3 : Hid (Cs v N 75 ((insAt i x xs).flatMap fileF.enc ++ Z2).toArray) := by rw [Hid, HIe.out]; exact hv
  have LC : Hid (((insAt i x xs).flatMap fileF.enc ++ Z2).length = cap * 2) := by
    have h1 := HO'.out; have h3 := LZ2.out; have h4 := HD'.out
    rw [Hid, HIe.out]
    simp only [List.length_append, h1, h3, h4, List.length_cons, List.length_nil]; omega
  have E3 : Hid (Ext w v) := by
    have := E1.out.trans (G := fun b => b = N) (E2.out.trans ((Only.refl _ u).drew.trans hx fun _ _ h => h) fun _ _ h => h) fun b hb e => by have := HN.out; omega
    exact this
  refine hK _ _ (fun _ => Cl.of ((Only.refl _ u).drew.trans hx fun _ _ h => h)) ?_
  clear hK K hv hx C2 D2 HIe HO' HD' LZ1 LZ2 E1 E2
  simp only [Act.put, List.setIfInBounds_toArray, List.set_cons_succ, List.set_cons_zero]
  (repeat' (refine Mix.lex_quiet0 rfl rfl rfl ?_; intro K hK; go_big_quiet_op; go_big_quiet_on))
  refine Mix.lex_nil ?_
  go_wp2
  go_ret
  have hNe := HN.out
  subst hNe
  exact ⟨cap, Z2, rfl, C3.out, LC.out, hc1, hc2, E3.out⟩
theorem InsFile_c {w : World} {A : Option Addr} {n c i : Nat} {xs : List File} (h : w.ownsRow 0 75 2 (.slice A n c) n (xs.flatMap fileF.enc)) (hi : i ≤ n) (x : File) {vb : Nat} (hv : Cs w vb 75 #[S x.1, S x.2]) (hne : (Value.slice A n c).ownBlock ≠ some vb) (hn : n ≤ 1000000) :
    Calls Tryz.prog 55 #[.slice A n c, .int .i64 i, .slice (some ⟨vb, 0, none⟩) 1 1] w fun e w' =>
      ∃ A' c', e = .returned (.slice A' (n + 1 : Nat) c') ∧ w'.ownsRow 0 75 2 (.slice A' (n + 1 : Nat) c') (n + 1) ((insAt i x xs).flatMap fileF.enc) ∧ Turned w w' (.slice A n c) (.slice A' (n + 1 : Nat) c') := by
  have hl := (SlR.of_own (T := fileF) (by decide) h).1
  by_cases e : i = n
  · subst e
    rcases h.2 with ⟨hv', h0⟩ | ⟨g, cap, cur, hv', hb, hh, hnc, hc, _⟩
    · injection hv' with h1 h2 h3
      exact InsFile_end h (by omega) (by rw [h3]; exact Nat.zero_le _) x hv hn
    · injection hv' with h1 h2 h3
      exact InsFile_end h (by omega) (by rw [h3]; exact hc) x hv hn
  · obtain ⟨g, rest, rfl, hg, hX, hr, hnc, hm⟩ := own_block h (by omega) (by decide)
    have hI : ((insAt i x xs).flatMap fileF.enc).length = (n + 1) * 2 := by
      rw [length_flatMap_enc]
      simp only [insAt, List.length_append, List.length_take, List.length_cons, List.length_drop, hl, fileF]
      omega
    by_cases hroom : n + 1 ≤ c
    · refine (InsFile_room hg hl hr (by omega) hroom hm x hv (fun e => hne (by rw [e]; rfl)) hn).mono ?_
      rintro e w' ⟨rest', rfl, h1, h2, h3⟩
      exact ⟨_, _, rfl, own_of_block h1 (Nat.zero_le _) hI h2 hroom hm, ⟨h3.weak fun b _ e => by subst e; rfl, fun g' hg' => .inl hg'⟩⟩
    · obtain rfl : c = n := by omega
      refine (InsFile_grow hg hl (by omega) x hv hn).mono ?_
      rintro e w' ⟨c', rest', rfl, h1, h2, h3, h4, h5⟩
      refine ⟨_, _, rfl, own_of_block h1 (Nat.zero_le _) hI h2 h3 h4, ⟨h5.any, fun g' hg' => .inr ?_⟩⟩
      simp [Value.ownBlock] at hg'
      omega
theorem CloneFiles_c {w : World} {A : Option Addr} {n c : Nat} {cs : List Value} (h : Rd w A n 2 cs) (h1 : ∀ u ∈ cs, u.oneCell' = true) (hA : A = none → n = 0) (hn : n ≤ 1000000) :
    Calls Tryz.prog 54 #[.slice A n c] w fun e w' => ∃ A' c', e = .returned (.slice A' n c') ∧ w'.ownsRow 0 75 2 (.slice A' n c') n cs ∧ Ext w w' ∧ ∀ g, (Value.slice A' n c').ownBlock = some g → w.heap.size ≤ g := by
  have h2 := fun (W : World) => Lib.run_eql_slice_nil (P := Tryz.prog) W 22 75 A n c 0 0 Tryz.underlying22
  rcases A with _ | ad
  · obtain rfl := hA rfl
    obtain rfl : cs = [] := List.eq_nil_of_length_eq_zero (by simpa using h.1)
    go_enter Tryz.func54, Tryz.ntmps54
    go_wp2
    go_ret
    exact ⟨none, 0, rfl, World.ownsRow_nil _ _ _ _, Only.refl _ _, fun g hg => by simp [Value.ownBlock] at hg⟩
  · have H := Lib.hid h
    clear h
    go_enter Tryz.func54, Tryz.ntmps54
    go_wp2_with (at_builtin; go_must (refine wpList_append (v := .slice (some ⟨w.heap.size, 0, none⟩) 0 0) (n := 0) (xs := []) rfl file_ty rfl rfl rfl (own_empty w _ _) (H.out.alloc _) h1 (by omega) ?_); intro A' c' w5 hown5 hg5 hb5)
    go_ret
    rw [Nat.zero_add] at hown5 hb5
    have hx : Ext w w5 := ((Only.refl _ _).alloc (.cells #[] 75)).grown hg5 (fun g hg => by simp [Value.ownBlock] at hg; left; omega)
    refine ⟨A', c', ?_, by simpa using hown5, hx, fun g hg => ?_⟩
    · simp [Nat.zero_add]
    · rcases hb5 with h | h <;> rw [h] at hg <;> simp [Value.ownBlock] at hg <;> omega
theorem CloneFiles_f {w : World} {A : Option Addr} {n c : Nat} {xs : List File} (h : SlR fileF w A n xs) (hA : A = none → n = 0) (hn : n ≤ 1000000) :
    Calls Tryz.prog 54 #[.slice A n c] w fun e w' => ∃ A' c', e = .returned (.slice A' xs.length c') ∧ Fresh fileF 75 w w' A' c' xs := by
  have hl := h.1
  refine (CloneFiles_c (h.rd (by decide)) (file_enc1 xs) hA hn).mono ?_
  rintro e w' ⟨A', c', rfl, h1, h2, h3⟩
  subst hl
  exact ⟨A', c', rfl, h1, h2, h3⟩
theorem file_set : ∀ (xs : List File) (p : Nat) (f : File), p < xs.length → (xs.set p f).flatMap fileF.enc = ((xs.flatMap fileF.enc).set (p * 2) (S f.1)).set (p * 2 + 1) (S f.2)
  | [], p, f, h => by simp at h
  | x :: xs, 0, f, h => by simp [fileF]
  | x :: xs, p + 1, f, h => by
    have ih := file_set xs p f (by simpa using h)
    rw [List.set_cons_succ, List.flatMap_cons, ih, List.flatMap_cons]
    simp only [fileF, List.cons_append, List.nil_append, Nat.succ_mul, List.set_cons_succ]
theorem SlR.none_len {α : Type} {T : Flat α} {w : World} {A : Option Addr} {n : Nat} {xs : List α} (h : SlR T w A n xs) (hA : A = none) : n = 0 := by
  rcases Nat.eq_zero_or_pos n with h0 | h0
  · exact h0
  · obtain ⟨b, o, e, _⟩ := h.2 h0
    rw [hA] at e; cases e
set_option maxRecDepth 100000 in
set_option maxHeartbeats 1000000 in
theorem Put_c {w : World} {A : Option Addr} {n c : Nat} {xs : List File} (h : SlR fileF w A n xs) (hn : n ≤ 100000) (f : File) (hr : Rise fk xs) :
    Calls Tryz.prog 32 #[.slice A n c, .agg #[S f.1, S f.2]] w fun e w' => ∃ A' c', e = .returned (.slice A' (putL fk f xs).length c') ∧ Fresh fileF 75 w w' A' c' (putL fk f xs) := by
  obtain ⟨w0, hw0⟩ : ∃ w0, w0 = w.alloc (.cells #[S f.1, S f.2] 75) := ⟨_, rfl⟩
  have hx0 : Ext w w0 := by rw [hw0]; exact (Only.refl No w).alloc _
  have hC := CloneFiles_f (c := c) (h.ext hx0) h.none_len (by omega)
  have hP := posOf_le (key := fk) xs f.1
  have hl := h.1
  have hPA := putL_at hr f
  have hB : Cs w0 w.heap.size 75 #[S f.1, S f.2] := by rw [hw0]; exact Cs.new _ _ _
  have hbs : w.heap.size < w0.heap.size := hB.lt
  obtain ⟨b, hb⟩ : ∃ b, b = hasAt fk xs f.1 := ⟨_, rfl⟩
  obtain ⟨p, hp⟩ : ∃ p, p = posOf fk xs f.1 := ⟨_, rfl⟩
  have hF : ∀ {v : World} {A' : Option Addr} {c' : Nat}, Fresh fileF 75 w0 v A' c' xs → Calls Tryz.prog 46 #[.slice A' xs.length c', S f.1] v fun e w' => e = .returned (.tuple #[.int .i64 (p : Nat), .bool b]) ∧ Ext v w' := fun hf => by
    rw [hp, hb]
    exact find_c (hf.row (by decide)) (by omega) f.1 hr
  rw [← hb, ← hp] at hPA
  rw [← hp] at hP
  have HPB : Hid (b = true → p < xs.length) := fun e => by
    rw [e] at hb
    unfold hasAt at hb
    rw [← hp] at hb
    by_cases hlt : p < xs.length
    · exact hlt
    · rw [List.getElem?_eq_none (by omega)] at hb; cases hb
  have HPA := Lib.hid hPA
  have HF : Hid (∀ {v : World} {A' : Option Addr} {c' : Nat}, Fresh fileF 75 w0 v A' c' xs → Calls Tryz.prog 46 #[.slice A' xs.length c', S f.1] v fun e w' => e = .returned (.tuple #[.int .i64 (p : Nat), .bool b]) ∧ Ext v w') := @hF
  have HB := Lib.hid hB
  have HX0 := Lib.hid hx0
  have HL := Lib.hid hl
  have c0 : ∀ ξ : X w0 No, ξ.v.cell? ⟨w.heap.size, 0, none⟩ = some (S f.1) := hB.x id 0
  have c1 : ∀ ξ : X w0 No, ξ.v.cell? ⟨w.heap.size, 1, none⟩ = some (S f.2) := hB.x id 1
  clear hPA hF hb hp hB hx0 hl
  go_enter Tryz.func32, Tryz.ntmps32
  go_upto_region 1 with fail
  rw [← hw0]
  clear hw0
  go_wp2_with fail
  refine hC.mono ?_
  clear hC
  rintro e u ⟨A', c', rfl, hf⟩
  have F1 := Lib.hid hf
  obtain ⟨ξ, rfl⟩ : ∃ ξ : X w0 No, u = ξ.v := ⟨⟨u, hf.ext⟩, rfl⟩
  clear hf
  go_wp2_with fail
  refine (HF.out F1.out).mono ?_
  rintro e u ⟨rfl, hu⟩
  have F2 := Lib.hid (F1.out.on hu)
  obtain ⟨ξ, rfl⟩ : ∃ ξ : X w0 No, u = ξ.v := ⟨⟨u, F2.out.ext⟩, rfl⟩
  clear hu F1 HF
  cases b with
  | true =>
    have hp := HPB.out rfl
    obtain ⟨g, rest, rfl, hg, hX, hR, hnc, hm⟩ := own_block F2.out.own (by omega) (by decide)
    have hy : xs[p]? = some xs[p] := List.getElem?_eq_getElem hp
    have hcell : ∀ j, j < 2 → (ξ.v.cell? ⟨g, p * 2 + j, none⟩) = some (((fileF.enc xs[p]))[j]?.getD undef) := fun j hj => by
      obtain ⟨b', o', x', he, _, hx', hc'⟩ := (F2.out.row (by decide)).get hp
      injection he with he
      injection he with he1 he2
      subst he1; subst he2
      rw [hy] at hx'
      injection hx' with hx'
      subst hx'
      have := hc' j ((fileF.enc xs[p])[j]'(by rw [fileF.len]; exact hj)) (List.getElem?_eq_getElem _)
      rw [Nat.zero_add] at this
      rw [List.getElem?_eq_getElem (by rw [fileF.len]; exact hj)]
      exact this
    have d0 : ξ.v.cell? ⟨g, p * 2, none⟩ = some (S (xs[p]).1) := hcell 0 (by omega)
    have d1 : ξ.v.cell? ⟨g, p * 2 + 1, none⟩ = some (S (xs[p]).2) := hcell 1 (by omega)
    have f0 := hg.frozen (p * 2)
    have f1 := hg.frozen (p * 2 + 1)
    have hgn : w0.heap.size ≤ g := F2.out.new g rfl
    have hbg : g ≠ w.heap.size := by omega
    have HG := Lib.hid hg
    have HR := Lib.hid hR
    have HX := Lib.hid hX
    clear hg hR hX hcell hy
    go_wp2_with fail
    go_ret
    have hS := (HG.out.set_ (p * 2) (S f.1)).set_ (p * 2 + 1) (S f.2)
    have e1 : putL fk f xs = xs.set p f := HPA.out
    have e2 : (xs.set p f).length = xs.length := List.length_set
    have e3 : (((xs.flatMap fileF.enc ++ rest).toArray.setIfInBounds (p * 2) (S f.1)).setIfInBounds (p * 2 + 1) (S f.2)) = ((xs.set p f).flatMap fileF.enc ++ rest).toArray := by
      have hX := HX.out
      rw [show fileF.size = 2 from rfl] at hX
      rw [List.setIfInBounds_toArray, List.setIfInBounds_toArray, file_set xs p f hp, List.set_append_left _ _ (by omega), List.set_append_left _ _ (by rw [List.length_set]; omega)]
    rw [e3] at hS
    have hR := HR.out
    have hO : Only (fun b => b = g) ξ.v ((ξ.v.setCell ⟨g, p * 2, none⟩ (S f.1)).setCell ⟨g, p * 2 + 1, none⟩ (S f.2)) := ((Only.refl _ _).at_ _ _).at_ _ _
    refine ⟨some ⟨g, 0, none⟩, c', by rw [e1, e2]; rfl, ?_⟩
    rw [e1]
    refine Fresh.from (w := w0) ⟨?_, F2.out.ext.trans hO fun b hb e => by omega, fun g' hg' => ?_⟩ HX0.out
    · refine own_of_block hS (Nat.zero_le _) (length_flatMap_enc _ _) ?_ (by rw [e2]; exact hnc) hm
      simp only [List.length_append, length_flatMap_enc, e2] at hR ⊢
      exact hR
    · simp [Value.ownBlock] at hg'
      omega
  | false =>
    obtain ⟨w1, hw1⟩ : ∃ w1, w1 = ξ.v.alloc (.cells #[S f.1, S f.2] 75) := ⟨_, rfl⟩
    have hv : Cs w1 ξ.v.heap.size 75 #[S f.1, S f.2] := by rw [hw1]; exact Cs.new _ _ _
    have hx1 : Ext ξ.v w1 := by rw [hw1]; exact (Only.refl No ξ.v).alloc _
    have F3 := Lib.hid (F2.out.on hx1)
    have hI := InsFile_c (i := p) F3.out.own hP f hv (fun e => by
      have h1 : ξ.v.heap.size < ξ.v.heap.size := (F2.out.own.lt _ e).2
      omega) (by have := HL.out; omega)
    have HI := Lib.hid hI
    clear hI hv hx1
    go_wp2_with fail
    rw [← hw1]
    refine HI.out.mono ?_
    clear hw1 HI
    rintro e u ⟨A2, c2, rfl, h1, h2⟩
    have H1 := Lib.hid h1
    have H2 := Lib.hid h2
    clear h1 h2
    go_wp2_with fail
    go_ret
    have e1 : putL fk f xs = insAt p f xs := HPA.out
    have e2 : (insAt p f xs).length = xs.length + 1 := by
      simp only [insAt, List.length_append, List.length_take, List.length_cons, List.length_drop]; omega
    refine ⟨A2, c2, by rw [e1, e2]; rfl, ?_⟩
    rw [e1]
    have hs := F3.out.ext.size
    refine Fresh.from (w := w0) ⟨by rw [e2]; exact H1.out, F3.out.ext.trans H2.out.o fun b hb e => ?_, fun g' hg' => ?_⟩ HX0.out
    · have := F3.out.new b e; omega
    · rw [e2] at hg'
      rcases H2.out.b g' hg' with h | h
      · exact F3.out.new g' h
      · omega
abbrev E (n : Int) : Value := .iface 80 (.int .i64 n)
abbrev pt (g : Nat) : Value := .pointer (some ⟨g, 0, none⟩)
def errV (n : Int) : Value := if n = 0 then .nilIface else E n
theorem errV_zero : errV 0 = .nilIface := rfl
theorem errV_pos {n : Int} (h : n ≠ 0) : errV n = E n := if_neg h
def lightF1 (f : File) : Bool := decide (f.1.length ≤ 20) && decide (f.2.length ≤ 60)
def lightF (l : List File) : Bool := decide (l.length ≤ 24) && l.all lightF1 && riseB fk l
theorem all_take_succ' {α : Type} {p : α → Bool} {l : List α} {k : Nat} {x : α} (h : (l.take k).all p = true) (hx : l[k]? = some x) (hp : p x = true) : (l.take (k + 1)).all p = true := by
  rw [List.take_add_one, hx]
  simp only [Option.toList, List.all_append, h, List.all_cons, hp, List.all_nil, Bool.and_self]
theorem all_false_at' {α : Type} {p : α → Bool} {l : List α} {k : Nat} {x : α} (hx : l[k]? = some x) (hp : p x = false) : l.all p = false := by
  rw [List.all_eq_false]
  exact ⟨x, List.mem_of_getElem? hx, by rw [hp]; exact Bool.false_ne_true⟩
set_option maxRecDepth 100000 in
set_option maxHeartbeats 1000000 in
theorem LightFiles_c {w : World} {A : Option Addr} {n c : Nat} {xs : List File} (h : SlR fileF w A n xs) (hn0 : n ≤ maxLen) :
    Calls Tryz.prog 9 #[.slice A n c] w fun e w' => e = .returned (.bool (lightF xs)) ∧ Ext w w' := by
  unfold maxLen at hn0
  by_cases hn : n ≤ 24
  · have HN : Hid (decide (xs.length ≤ 24) = true) := by rw [Hid, h.1]; simpa using hn
    go_enter Tryz.func9, Tryz.ntmps9
    go_wp2_with (first | ((first | refine Mix.wpList_guarded rfl ?_ | refine Mix.wp_still (by kernel_rfl) (by kernel_rfl) ?_); (repeat' (first | (refine Mix.lex_quiet0 rfl rfl rfl ?_; intro K hK; go_big_quiet_op; go_big_quiet_on) | (refine Mix.lex_quietG rfl rfl rfl (by with_reducible rfl) rfl rfl ?_; intro K hK; go_big_quiet_op; go_big_quiet_on) | ((first | refine Mix.lex_skipT rfl rfl rfl (by with_reducible rfl) ?_ | refine Mix.lex_skipF rfl rfl rfl (by with_reducible rfl) ?_ | refine Mix.lex_skipU rfl rfl rfl (by with_reducible rfl) ?_); simp only [Act.put, List.setIfInBounds_toArray, List.set_cons_succ, List.set_cons_zero]) | (refine Mix.lex_part rfl rfl rfl rfl (fun hq => ?_) (fun hq => ?_) <;> (fail_if_success (guard_hyp hq :ₛ true = true)) <;> (fail_if_success (guard_hyp hq :ₛ false = false)) <;> first | (exfalso; cases hq; done) | (exfalso; simp only [decide_eq_true_eq, decide_eq_false_iff_not, beq_iff_eq, beq_eq_false_iff_ne, ne_eq, Int.not_lt, Int.not_le] at hq; omega) | simp only [Act.put, List.setIfInBounds_toArray, List.set_cons_succ, List.set_cons_zero]))); all_goals (refine Mix.lex_nil ?_)))
    go_loopw [3] (fun i wr => ∃ k : Nat, k ≤ n ∧ i = .int .i64 k ∧ (xs.take k).all lightF1 = true ∧ (∀ i x y, i + 1 < k → xs[i]? = some x → xs[i + 1]? = some y → fk x < fk y) ∧ ∃ ξ : X w No, wr = ξ.v) (fun i _ => n - (intOf i).toNat)
    case atStart => exact ⟨0, Nat.zero_le _, rfl, rfl, fun i x y hi => by omega, X.here _ _, rfl⟩
    case round =>
      obtain ⟨k, hk, rfl, hT, hR, ξ, rfl⟩ := hrel
      have HT := Lib.hid hT
      have HR := Lib.hid hR
      clear hT hR
      by_cases hlt : k < n
      · obtain ⟨b, o, x, rfl, hx, c0, c1⟩ := files_get h hlt
        have HX := Lib.hid hx
        clear hx
        by_cases h1 : x.1.length ≤ 20
        · by_cases h2 : x.2.length ≤ 60
          · have hp : Hid (lightF1 x = true) := by unfold Hid lightF1; rw [decide_eq_true h1, decide_eq_true h2]; rfl
            have g1 : decide ((20 : Int) < (x.1.length : Int)) = false := by rw [decide_eq_false_iff_not]; omega
            have g2 : decide ((60 : Int) < (x.2.length : Int)) = false := by rw [decide_eq_false_iff_not]; omega
            by_cases h0 : k = 0
            · have hz : decide (0 < k) = false := by rw [decide_eq_false_iff_not]; omega
              have H0 := Lib.hid h0
              clear h0
              go_wp2_with (first | ((first | refine Mix.wpList_guarded rfl ?_ | refine Mix.wp_still (by kernel_rfl) (by kernel_rfl) ?_); (repeat' (first | (refine Mix.lex_quiet0 rfl rfl rfl ?_; intro K hK; go_big_quiet_op; go_big_quiet_on) | (refine Mix.lex_quietG rfl rfl rfl (by with_reducible rfl) rfl rfl ?_; intro K hK; go_big_quiet_op; go_big_quiet_on) | ((first | refine Mix.lex_skipT rfl rfl rfl (by with_reducible rfl) ?_ | refine Mix.lex_skipF rfl rfl rfl (by with_reducible rfl) ?_ | refine Mix.lex_skipU rfl rfl rfl (by with_reducible rfl) ?_); simp only [Act.put, List.setIfInBounds_toArray, List.set_cons_succ, List.set_cons_zero]) | (refine Mix.lex_part rfl rfl rfl rfl (fun hq => ?_) (fun hq => ?_) <;> (fail_if_success (guard_hyp hq :ₛ true = true)) <;> (fail_if_success (guard_hyp hq :ₛ false = false)) <;> first | (exfalso; cases hq; done) | (exfalso; simp only [decide_eq_true_eq, decide_eq_false_iff_not, beq_iff_eq, beq_eq_false_iff_ne, ne_eq, Int.not_lt, Int.not_le] at hq; omega) | simp only [Act.put, List.setIfInBounds_toArray, List.set_cons_succ, List.set_cons_zero]))); all_goals (refine Mix.lex_nil ?_)))
              go_roundw
              case rel => exact ⟨k + 1, by omega, by go_num, all_take_succ' HT.out HX.out hp.out, fun i x y hi => (by have := H0.out; omega), ⟨_, ξ.h.drew⟩, rfl⟩
              case measure => simp [intOf]; omega
            · obtain ⟨b', o', y, hA, hy, e0, _⟩ := files_get h (show k - 1 < n by omega)
              injection hA with hA
              injection hA with hA1 hA2
              subst hA1; subst hA2
              obtain ⟨m, rfl⟩ : ∃ m, k = m + 1 := ⟨k - 1, by omega⟩
              have hz : decide (0 < m + 1) = true := by rw [decide_eq_true_iff]; omega
              rw [Nat.add_sub_cancel] at e0 hy
              have HY := Lib.hid hy
              clear hy h0
              cases hq : leB x.1 y.1 with
              | true =>
                have HB : Hid (riseB fk xs = false) := by
                  cases hb : riseB fk xs with
                  | false => rfl
                  | true => exact absurd (riseB_iff.1 hb m y x HY.out HX.out) (sle_iff.1 (leB_true hq))
                go_wp2_with (first | ((first | refine Mix.wpList_guarded rfl ?_ | refine Mix.wp_still (by kernel_rfl) (by kernel_rfl) ?_); (repeat' (first | (refine Mix.lex_quiet0 rfl rfl rfl ?_; intro K hK; go_big_quiet_op; go_big_quiet_on) | (refine Mix.lex_quietG rfl rfl rfl (by with_reducible rfl) rfl rfl ?_; intro K hK; go_big_quiet_op; go_big_quiet_on) | ((first | refine Mix.lex_skipT rfl rfl rfl (by with_reducible rfl) ?_ | refine Mix.lex_skipF rfl rfl rfl (by with_reducible rfl) ?_ | refine Mix.lex_skipU rfl rfl rfl (by with_reducible rfl) ?_); simp only [Act.put, List.setIfInBounds_toArray, List.set_cons_succ, List.set_cons_zero]) | (refine Mix.lex_part rfl rfl rfl rfl (fun hq => ?_) (fun hq => ?_) <;> (fail_if_success (guard_hyp hq :ₛ true = true)) <;> (fail_if_success (guard_hyp hq :ₛ false = false)) <;> first | (exfalso; cases hq; done) | (exfalso; simp only [decide_eq_true_eq, decide_eq_false_iff_not, beq_iff_eq, beq_eq_false_iff_ne, ne_eq, Int.not_lt, Int.not_le] at hq; omega) | simp only [Act.put, List.setIfInBounds_toArray, List.set_cons_succ, List.set_cons_zero]))); all_goals (refine Mix.lex_nil ?_)))
                go_ret
                exact ⟨ret_bool (by unfold lightF; rw [HB.out, Bool.and_false]), ξ.h.drew⟩
              | false =>
                have hyx : Hid (fk y < fk x) := leB_false hq
                go_wp2_with (first | ((first | refine Mix.wpList_guarded rfl ?_ | refine Mix.wp_still (by kernel_rfl) (by kernel_rfl) ?_); (repeat' (first | (refine Mix.lex_quiet0 rfl rfl rfl ?_; intro K hK; go_big_quiet_op; go_big_quiet_on) | (refine Mix.lex_quietG rfl rfl rfl (by with_reducible rfl) rfl rfl ?_; intro K hK; go_big_quiet_op; go_big_quiet_on) | ((first | refine Mix.lex_skipT rfl rfl rfl (by with_reducible rfl) ?_ | refine Mix.lex_skipF rfl rfl rfl (by with_reducible rfl) ?_ | refine Mix.lex_skipU rfl rfl rfl (by with_reducible rfl) ?_); simp only [Act.put, List.setIfInBounds_toArray, List.set_cons_succ, List.set_cons_zero]) | (refine Mix.lex_part rfl rfl rfl rfl (fun hq => ?_) (fun hq => ?_) <;> (fail_if_success (guard_hyp hq :ₛ true = true)) <;> (fail_if_success (guard_hyp hq :ₛ false = false)) <;> first | (exfalso; cases hq; done) | (exfalso; simp only [decide_eq_true_eq, decide_eq_false_iff_not, beq_iff_eq, beq_eq_false_iff_ne, ne_eq, Int.not_lt, Int.not_le] at hq; omega) | simp only [Act.put, List.setIfInBounds_toArray, List.set_cons_succ, List.set_cons_zero]))); all_goals (refine Mix.lex_nil ?_)))
                go_roundw
                case rel =>
                  refine ⟨m + 2, by omega, by go_num, all_take_succ' HT.out HX.out hp.out, fun i x' y' hi hx' hy' => ?_, ⟨_, ξ.h.drew⟩, rfl⟩
                  by_cases e : i = m
                  · subst e
                    rw [HY.out] at hx'
                    rw [HX.out] at hy'
                    injection hx' with hx'
                    injection hy' with hy'
                    rw [← hx', ← hy']
                    exact hyx.out
                  · exact HR.out i x' y' (by omega) hx' hy'
                case measure => simp [intOf]; omega
          · have HB : Hid (xs.all lightF1 = false) := all_false_at' HX.out (by unfold lightF1; rw [decide_eq_false h2, Bool.and_false])
            go_wp2_with (first | ((first | refine Mix.wpList_guarded rfl ?_ | refine Mix.wp_still (by kernel_rfl) (by kernel_rfl) ?_); (repeat' (first | (refine Mix.lex_quiet0 rfl rfl rfl ?_; intro K hK; go_big_quiet_op; go_big_quiet_on) | (refine Mix.lex_quietG rfl rfl rfl (by with_reducible rfl) rfl rfl ?_; intro K hK; go_big_quiet_op; go_big_quiet_on) | ((first | refine Mix.lex_skipT rfl rfl rfl (by with_reducible rfl) ?_ | refine Mix.lex_skipF rfl rfl rfl (by with_reducible rfl) ?_ | refine Mix.lex_skipU rfl rfl rfl (by with_reducible rfl) ?_); simp only [Act.put, List.setIfInBounds_toArray, List.set_cons_succ, List.set_cons_zero]) | (refine Mix.lex_part rfl rfl rfl rfl (fun hq => ?_) (fun hq => ?_) <;> (fail_if_success (guard_hyp hq :ₛ true = true)) <;> (fail_if_success (guard_hyp hq :ₛ false = false)) <;> first | (exfalso; cases hq; done) | (exfalso; simp only [decide_eq_true_eq, decide_eq_false_iff_not, beq_iff_eq, beq_eq_false_iff_ne, ne_eq, Int.not_lt, Int.not_le] at hq; omega) | simp only [Act.put, List.setIfInBounds_toArray, List.set_cons_succ, List.set_cons_zero]))); all_goals (refine Mix.lex_nil ?_)))
            go_ret
            exact ⟨ret_bool (by unfold lightF; rw [HB.out, Bool.and_false, Bool.false_and]), ξ.h.drew⟩
        · have HB : Hid (xs.all lightF1 = false) := all_false_at' HX.out (by unfold lightF1; rw [decide_eq_false h1, Bool.false_and])
          go_wp2_with (first | ((first | refine Mix.wpList_guarded rfl ?_ | refine Mix.wp_still (by kernel_rfl) (by kernel_rfl) ?_); (repeat' (first | (refine Mix.lex_quiet0 rfl rfl rfl ?_; intro K hK; go_big_quiet_op; go_big_quiet_on) | (refine Mix.lex_quietG rfl rfl rfl (by with_reducible rfl) rfl rfl ?_; intro K hK; go_big_quiet_op; go_big_quiet_on) | ((first | refine Mix.lex_skipT rfl rfl rfl (by with_reducible rfl) ?_ | refine Mix.lex_skipF rfl rfl rfl (by with_reducible rfl) ?_ | refine Mix.lex_skipU rfl rfl rfl (by with_reducible rfl) ?_); simp only [Act.put, List.setIfInBounds_toArray, List.set_cons_succ, List.set_cons_zero]) | (refine Mix.lex_part rfl rfl rfl rfl (fun hq => ?_) (fun hq => ?_) <;> (fail_if_success (guard_hyp hq :ₛ true = true)) <;> (fail_if_success (guard_hyp hq :ₛ false = false)) <;> first | (exfalso; cases hq; done) | (exfalso; simp only [decide_eq_true_eq, decide_eq_false_iff_not, beq_iff_eq, beq_eq_false_iff_ne, ne_eq, Int.not_lt, Int.not_le] at hq; omega) | simp only [Act.put, List.setIfInBounds_toArray, List.set_cons_succ, List.set_cons_zero]))); all_goals (refine Mix.lex_nil ?_)))
          go_ret
          exact ⟨ret_bool (by unfold lightF; rw [HB.out, Bool.and_false, Bool.false_and]), ξ.h.drew⟩
      · have HB : Hid (lightF xs = true) := by
          have hT := HT.out
          rw [List.take_of_length_le (by rw [h.1]; omega)] at hT
          unfold Hid lightF
          rw [HN.out, hT, riseB_iff.2 fun i x y hx hy => HR.out i x y (by have := (List.getElem?_eq_some_iff.1 hy).1; rw [h.1] at this; omega) hx hy]
          rfl
        go_wp2_with (first | ((first | refine Mix.wpList_guarded rfl ?_ | refine Mix.wp_still (by kernel_rfl) (by kernel_rfl) ?_); (repeat' (first | (refine Mix.lex_quiet0 rfl rfl rfl ?_; intro K hK; go_big_quiet_op; go_big_quiet_on) | (refine Mix.lex_quietG rfl rfl rfl (by with_reducible rfl) rfl rfl ?_; intro K hK; go_big_quiet_op; go_big_quiet_on) | ((first | refine Mix.lex_skipT rfl rfl rfl (by with_reducible rfl) ?_ | refine Mix.lex_skipF rfl rfl rfl (by with_reducible rfl) ?_ | refine Mix.lex_skipU rfl rfl rfl (by with_reducible rfl) ?_); simp only [Act.put, List.setIfInBounds_toArray, List.set_cons_succ, List.set_cons_zero]) | (refine Mix.lex_part rfl rfl rfl rfl (fun hq => ?_) (fun hq => ?_) <;> (fail_if_success (guard_hyp hq :ₛ true = true)) <;> (fail_if_success (guard_hyp hq :ₛ false = false)) <;> first | (exfalso; cases hq; done) | (exfalso; simp only [decide_eq_true_eq, decide_eq_false_iff_not, beq_iff_eq, beq_eq_false_iff_ne, ne_eq, Int.not_lt, Int.not_le] at hq; omega) | simp only [Act.put, List.setIfInBounds_toArray, List.set_cons_succ, List.set_cons_zero]))); all_goals (refine Mix.lex_nil ?_)))
        go_ret
        exact ⟨ret_bool HB.out.symm, ξ.h⟩
  · have HN : Hid (lightF xs = false) := by
      have : decide (xs.length ≤ 24) = false := by rw [h.1]; simpa using hn
      rw [Hid, lightF, this]; rfl
    go_enter Tryz.func9, Tryz.ntmps9
    go_wp2_with (first | ((first | refine Mix.wpList_guarded rfl ?_ | refine Mix.wp_still (by kernel_rfl) (by kernel_rfl) ?_); (repeat' (first | (refine Mix.lex_quiet0 rfl rfl rfl ?_; intro K hK; go_big_quiet_op; go_big_quiet_on) | (refine Mix.lex_quietG rfl rfl rfl (by with_reducible rfl) rfl rfl ?_; intro K hK; go_big_quiet_op; go_big_quiet_on) | ((first | refine Mix.lex_skipT rfl rfl rfl (by with_reducible rfl) ?_ | refine Mix.lex_skipF rfl rfl rfl (by with_reducible rfl) ?_ | refine Mix.lex_skipU rfl rfl rfl (by with_reducible rfl) ?_); simp only [Act.put, List.setIfInBounds_toArray, List.set_cons_succ, List.set_cons_zero]) | (refine Mix.lex_part rfl rfl rfl rfl (fun hq => ?_) (fun hq => ?_) <;> (fail_if_success (guard_hyp hq :ₛ true = true)) <;> (fail_if_success (guard_hyp hq :ₛ false = false)) <;> first | (exfalso; cases hq; done) | (exfalso; simp only [decide_eq_true_eq, decide_eq_false_iff_not, beq_iff_eq, beq_eq_false_iff_ne, ne_eq, Int.not_lt, Int.not_le] at hq; omega) | simp only [Act.put, List.setIfInBounds_toArray, List.set_cons_succ, List.set_cons_zero]))); all_goals (refine Mix.lex_nil ?_)))
    go_ret
    exact ⟨ret_bool HN.out.symm, Only.refl _ _⟩
theorem lightF_facts {xs : List File} (h : lightF xs = true) : xs.length ≤ 24 ∧ (∀ x ∈ xs, x.1.length ≤ 20 ∧ x.2.length ≤ 60) ∧ Rise fk xs := by
  simp only [lightF, Bool.and_eq_true, decide_eq_true_eq, List.all_eq_true, lightF1] at h
  exact ⟨h.1.1, fun x hx => h.1.2 x hx, rise_of h.2⟩
theorem str_enc1 : ∀ (xs : List Str), ∀ u ∈ xs.flatMap strF.enc, u.oneCell' = true := by
  intro xs u hu
  obtain ⟨x, _, hx⟩ := List.mem_flatMap.1 hu
  rcases List.mem_cons.1 hx with rfl | hx
  · rfl
  · cases hx
def inS (xs : List Str) (k : Str) : Bool := decide (k ∈ xs)
theorem containsS_eq (xs : List Str) (k : Str) : Lib.containsS (xs.map fun s => (⟨s.toArray⟩ : ByteArray)) ⟨k.toArray⟩ = inS xs k := by
  unfold inS
  rw [Bool.eq_iff_iff, Lib.containsS_iff]
  simp
theorem Contains_c {w : World} {A : Option Addr} {n c : Nat} {xs : List Str} (h : SlR strF w A n xs) (hn : n ≤ 1000000) (k : Str) :
    Calls Tryz.prog 42 #[.slice A n c, S k] w fun e w' => e = .returned (.bool (inS xs k)) ∧ Ext w w' := by
  by_cases h0 : n = 0
  · subst h0
    refine (Tryz.slices_Contains_string_empty A c ⟨k.toArray⟩ w).mono ?_
    rintro e w' ⟨rfl, rfl⟩
    exact ⟨by rw [h.nil_]; rfl, Only.refl _ _⟩
  · obtain ⟨b, o, x, rfl, hb, hx, hc⟩ := h.get (k := 0) (by omega)
    refine (Tryz.slices_Contains_string b o n c (xs.map fun s => (⟨s.toArray⟩ : ByteArray)) ⟨k.toArray⟩ w (by rw [List.length_map, h.1]; exact Nat.le_refl _) (by omega) (fun j hj => ?_)).mono ?_
    · rw [List.length_map, h.1] at hj
      obtain ⟨b', o', y, he, hy, hcell⟩ := strs_get h hj
      injection he with he
      injection he with he1 he2
      subst he1; subst he2
      have := hcell (X.here w No)
      rw [List.getD_eq_getElem?_getD, List.getElem?_map, hy]
      exact this
    · rintro e w' ⟨rfl, rfl⟩
      refine ⟨?_, Only.refl _ _⟩
      rw [List.take_of_length_le (by rw [List.length_map, h.1]; exact Nat.le_refl _), containsS_eq]
theorem CloneStrs_f {w : World} {A : Option Addr} {n c : Nat} {xs : List Str} (h : SlR strF w A n xs) (hA : A = none → n = 0) (hn : n ≤ 1000000) :
    Calls Tryz.prog 101 #[.slice A n c] w fun e w' => ∃ A' c', e = .returned (.slice A' xs.length c') ∧ Fresh strF 9 w w' A' c' xs := by
  have hl := h.1
  refine (CloneStrs_c (h.rd (by decide)) (str_enc1 xs) hA hn).mono ?_
  rintro e w' ⟨A', c', rfl, h1, h2, h3⟩
  subst hl
  exact ⟨A', c', rfl, h1, h2, h3⟩
end Go.Proofs.YtnhaekifcieeoaaGreatDoor
