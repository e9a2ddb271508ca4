/- Put together: Own. -/
import Derived.Test.YtnhaekifcieeoaaGreatDoorMa03
/- append onto a row that the call owns; the source is whatever slice that reads as cells, nil and empty ones too. -/
namespace Go.Proofs.YtnhaekifcieeoaaGreatDoor
open Go Go.RowKit
/-- The slice '.slice A n c' reads as the cells 'cs' (in elements of 'size' cells). -/
def Rd (w : World) (A : Option Addr) (n size : Nat) (cs : List Value) : Prop :=
  cs.length = n * size ∧ (0 < n → ∃ b o, A = some ⟨b, o, none⟩ ∧ ∀ j u, cs[j]? = some u → w.cell? ⟨b, o + j, none⟩ = some u)
theorem getElem?_flatMap_enc {α : Type} (T : Flat α) (hpos : 0 < T.size) : ∀ (xs : List α) (i : Nat), (xs.flatMap T.enc)[i]? = (xs[i / T.size]?).bind fun x => (T.enc x)[i % T.size]?
  | [], i => by simp
  | x :: xs, i => by
    rw [List.flatMap_cons]
    by_cases h : i < T.size
    · rw [List.getElem?_append_left (by rw [T.len]; exact h), Nat.div_eq_of_lt h, Nat.mod_eq_of_lt h]; rfl
    · have hge : T.size ≤ i := by omega
      rw [List.getElem?_append_right (by rw [T.len]; exact hge), T.len, getElem?_flatMap_enc T hpos xs (i - T.size)]
      have hd : i / T.size = (i - T.size) / T.size + 1 := by
        rw [Nat.div_eq i, if_pos ⟨hpos, hge⟩]
      have hm : i % T.size = (i - T.size) % T.size := by rw [Nat.mod_eq_sub_mod hge]
      rw [hd, hm, List.getElem?_cons_succ]
theorem length_flatMap_enc {α : Type} (T : Flat α) (xs : List α) : (xs.flatMap T.enc).length = xs.length * T.size := by
  induction xs with
  | nil => simp
  | cons x xs ih => rw [List.flatMap_cons, List.length_append, T.len, ih, List.length_cons, Nat.succ_mul, Nat.add_comm]
theorem SlR.rd {α : Type} {T : Flat α} {w : World} {A : Option Addr} {n : Nat} {xs : List α} (hpos : 0 < T.size) (h : SlR T w A n xs) : Rd w A n T.size (xs.flatMap T.enc) := by
  refine ⟨by rw [length_flatMap_enc, h.1], fun hn => ?_⟩
  obtain ⟨b, o, e, _, hc⟩ := h.2 hn
  refine ⟨b, o, e, fun j u hu => ?_⟩
  rw [getElem?_flatMap_enc T hpos] at hu
  cases hx : xs[j / T.size]? with
  | none => rw [hx] at hu; cases hu
  | some x =>
    rw [hx] at hu
    have := hc _ x hx _ u hu
    rwa [Nat.add_assoc, Nat.mul_comm, Nat.div_add_mod] at this
/-- A row that the call owns reads as its elements. -/
theorem SlR.of_own {α : Type} {T : Flat α} (hpos : 0 < T.size) {w : World} {A : Option Addr} {n c B : Nat} {e : TypeId} {xs : List α} (h : w.ownsRow B e T.size (.slice A n c) n (xs.flatMap T.enc)) : SlR T w A n xs := by
  have hl : xs.length = n := by
    have := h.1
    rw [length_flatMap_enc] at this
    exact Nat.eq_of_mul_eq_mul_right hpos this
  refine ⟨hl, fun hn => ?_⟩
  rcases h.2 with ⟨hv, h0⟩ | ⟨g, cap, cur, hv, hb, hh, _, _, _, ht⟩
  · omega
  · injection hv with hv1 hv2 hv3
    subst hv1; subst hv3
    refine ⟨g, 0, rfl, (Array.getElem?_eq_some_iff.1 hh).1, fun k x hx j u hu => ?_⟩
    have hj : j < T.size := by
      rw [← T.len x]
      exact (List.getElem?_eq_some_iff.1 hu).1
    have hk : k < n := by rw [← hl]; exact (List.getElem?_eq_some_iff.1 hx).1
    have hlt : k * T.size + j < n * T.size := by
      have : (k + 1) * T.size ≤ n * T.size := Nat.mul_le_mul_right _ hk
      rw [Nat.succ_mul] at this
      omega
    rw [Nat.zero_add, World.ownsRow.cellAt h _ hlt, getElem?_flatMap_enc T hpos]
    have hd : (k * T.size + j) / T.size = k := by
      rw [Nat.mul_comm, Nat.mul_add_div hpos, Nat.div_eq_of_lt hj, Nat.add_zero]
    have hm : (k * T.size + j) % T.size = j := by
      rw [Nat.mul_comm, Nat.mul_add_mod, Nat.mod_eq_of_lt hj]
    rw [hd, hm, hx]
    exact hu
theorem cell?_alloc_of (w : World) (o : Obj) (p : Addr) {u : Value} (h : w.cell? p = some u) : (w.alloc o).cell? p = some u :=
  (World.cell?_alloc_lt w o p (World.block_lt_of_cell? w p h)).trans h
theorem Rd.alloc {w : World} {A : Option Addr} {n size : Nat} {cs : List Value} (h : Rd w A n size cs) (o : Obj) : Rd (w.alloc o) A n size cs :=
  ⟨h.1, fun hn => by
    obtain ⟨b, o', e, hc⟩ := h.2 hn
    exact ⟨b, o', e, fun j u hu => cell?_alloc_of _ _ _ (hc j u hu)⟩⟩
theorem own_empty (w : World) (e : TypeId) (size : Nat) : (w.alloc (.cells #[] e)).ownsRow 0 e size (.slice (some ⟨w.heap.size, 0, none⟩) 0 0) 0 [] :=
  ⟨by simp, .inr ⟨w.heap.size, 0, #[], rfl, Nat.zero_le _, Cs.new w _ _, Nat.le_refl _, by simp [maxLen], by simp, by simp⟩⟩
section
variable {P : Program} (w : World)
theorem run_append_of_nil (base : Nat) (t ty e : TypeId) (i : TypeInfo) (size : Nat) (ht : P.underlying t = some (.slice e)) (hi : P.info? e = some i)
    (v : Value) (n : Nat) (xs : List Value) (hown : w.ownsRow base e size v n xs) (c : Nat) : (Builtin.append_ #[t, t] ty #[v, .slice none 0 c]).run P w = .ok v w := by
  rcases hown.2 with ⟨rfl, rfl⟩ | ⟨g, cap, cur, rfl, _, _, hnc, _⟩
  · simp [Builtin.append_, run_underlying ht, sizeOf, typeInfo, hi, Builtin.lenOf, Builtin.firstCells]
  · simp [Builtin.append_, run_underlying ht, sizeOf, typeInfo, hi, Builtin.lenOf, Builtin.firstCells, hnc, storeCells]
/-- What is known of an element type. -/
structure Ety (P : Program) (t e : TypeId) (size : Nat) : Prop where
  under : P.underlying t = some (.slice e)
  info : ∃ i z, P.info? e = some i ∧ i.zero = some z ∧ i.size = size ∧ i.bytes ≤ 256 ∧ z.cells.size = size
  pos : 0 < size
theorem Ety.mk' {P : Program} {t e : TypeId} {size bytes : Nat} {z : Value} (h1 : P.underlying t = some (.slice e)) (h2 : (P.info? e).map (fun i => (i.zero, i.size, i.bytes)) = some (some z, size, bytes))
    (h3 : z.cells.size = size) (h4 : 0 < size) (h5 : bytes ≤ 256) : Ety P t e size := by
  obtain ⟨i, hi, hz, hs, hb⟩ := info_parts h2
  exact ⟨h1, ⟨i, z, hi, hz, hs, by rw [hb]; exact h5, h3⟩, h4⟩
theorem run_append_raw {t ty e : TypeId} {size : Nat} (hT : Ety P t e size) {v : Value} {n : Nat} {xs : List Value} (hown : w.ownsRow 0 e size v n xs)
    {A : Option Addr} {m c : Nat} {news : List Value} (hr : Rd w A m size news) (h1 : ∀ u ∈ news, u.oneCell' = true) (hnil : A = none → c = c) (hsm : n + m ≤ 100000000) :
    ∃ v' w', (Builtin.append_ #[t, t] ty #[v, .slice A m c]).run P w = .ok v' w' ∧ w'.ownsRow 0 e size v' (n + m) (xs ++ news) ∧ w.grownBy w' v.ownBlock ∧
      (v'.ownBlock = v.ownBlock ∨ v'.ownBlock = some w.heap.size) := by
  obtain ⟨i, z, hi, hz, hs, hb, hzs⟩ := hT.info
  rcases A with _ | ad
  · have hm : m = 0 := by
      rcases Nat.eq_zero_or_pos m with h0 | h0
      · exact h0
      · obtain ⟨_, _, h, _⟩ := hr.2 h0
        cases h
    subst hm
    have hn : news = [] := List.eq_nil_of_length_eq_zero (by simpa using hr.1)
    subst hn
    exact ⟨v, w, run_append_of_nil w 0 t ty e i size hT.under hi v n xs hown c, by simpa using hown, World.grownBy.refl w _, .inl rfl⟩
  · have hcells : ∀ j u, news[j]? = some u → w.cell? (ad.add j) = some u := by
      intro j u hu
      rcases Nat.eq_zero_or_pos m with h0 | h0
      · subst h0
        have hn : news = [] := List.eq_nil_of_length_eq_zero (by simpa using hr.1)
        subst hn
        simp at hu
      · obtain ⟨b, o, h, hc⟩ := hr.2 h0
        injection h with h
        subst h
        have := hc j u hu
        unfold Addr.add
        split
        · rename_i e; subst e; simpa using this
        · exact this
    obtain ⟨v', w', hrun, h2, h3, _, h5⟩ := run_append_own_at (P := P) w 0 t ty e i z size i.bytes hT.under hi hz hs rfl hzs hT.pos v n xs hown ad m c news hr.1 hcells h1
      (by simp only [maxLen]; omega) (by
        have : (n + m) * i.bytes ≤ 100000000 * 256 := Nat.mul_le_mul hsm hb
        omega) (Nat.zero_le _)
    exact ⟨v', w', hrun, h2, h3, h5⟩
end
theorem own_slice {w : World} {B : Nat} {e : TypeId} {size n : Nat} {v : Value} {xs : List Value} (h : w.ownsRow B e size v n xs) : ∃ A c, v = .slice A n c := by
  rcases h.2 with ⟨rfl, rfl⟩ | ⟨g, cap, cur, rfl, _⟩
  · exact ⟨none, 0, rfl⟩
  · exact ⟨_, _, rfl⟩
section
variable {P : Program} {w : World} {o : Oper} {a : Act}
/-- append, as one operation of a region that is walked in the order of the text. -/
theorem goes_append {K : Value → World → Prop} {t e : TypeId} {size : Nat} (hT : Ety P t e size) {s x : Operand} (ho : o.op = .call { callee := .builtin .append, args := #[s, x], argTypes := #[t, t] })
    {v : Value} {n : Nat} {xs : List Value} (hs : a.eval s = v) {A : Option Addr} {m c : Nat} (hx : a.eval x = .slice A m c) (hown : w.ownsRow 0 e size v n xs) {news : List Value} (hr : Rd w A m size news)
    (h1 : ∀ u ∈ news, u.oneCell' = true) (hsm : n + m ≤ 100000000)
    (h : ∀ A' c' w', w'.ownsRow 0 e size (.slice A' (n + m : Nat) c') (n + m) (xs ++ news) → w.grownBy w' v.ownBlock → ((Value.slice A' (n + m : Nat) c').ownBlock = v.ownBlock ∨ (Value.slice A' (n + m : Nat) c').ownBlock = some w.heap.size) → K (.slice A' (n + m : Nat) c') w') : Mix.goes P o a w K := by
  obtain ⟨v', w', hrun, h2, h3, h4⟩ := run_append_raw (P := P) w (ty := o.type) hT hown (c := c) hr h1 (fun _ => rfl) hsm
  unfold Mix.goes Mix.goesUpon execOp
  simp only [ho, resolve, invoke, builtin, Sem.run_bind, Sem.run_pure, Result.andThen_ok, List.map_toArray, List.map_cons, List.map_nil, hs, hx, hrun]
  obtain ⟨A', c', e⟩ := own_slice h2
  rw [e] at h2 h4 ⊢
  exact h A' c' w' h2 h3 h4
theorem wpList_append {ops : Array Oper} {rest : List Oper} {Q : Exit → Act → World → Prop} (hgd : o.guard = none) {t e : TypeId} {size : Nat} (hT : Ety P t e size) {s x : Operand} (ho : o.op = .call { callee := .builtin .append, args := #[s, x], argTypes := #[t, t] })
    {v : Value} {n : Nat} {xs : List Value} (hs : a.eval s = v) {A : Option Addr} {m c : Nat} (hx : a.eval x = .slice A m c) (hown : w.ownsRow 0 e size v n xs) {news : List Value} (hr : Rd w A m size news)
    (h1 : ∀ u ∈ news, u.oneCell' = true) (hsm : n + m ≤ 100000000)
    (h : ∀ A' c' w', w'.ownsRow 0 e size (.slice A' (n + m : Nat) c') (n + m) (xs ++ news) → w.grownBy w' v.ownBlock → ((Value.slice A' (n + m : Nat) c').ownBlock = v.ownBlock ∨ (Value.slice A' (n + m : Nat) c').ownBlock = some w.heap.size) → wpList P ops Q rest (a.put o.dst (.slice A' (n + m : Nat) c')) w') : wpList P ops Q (o :: rest) a w :=
  wpList_plain hgd fun _ hK => Mix.wp_of_goes (N := fun v' w' => wpList P ops Q rest (a.put o.dst v') w') (fun _ _ h => hK _ _ h) (goes_append hT ho hs hx hown hr h1 hsm h)
/-- copy over a whole row of the call's own (elements of one cell), from a slice as long. -/
theorem goes_copy {K : Value → World → Prop} {dT sT e : TypeId} (hu : P.underlying dT = some (.slice e)) (hz : (P.info? e).map (·.size) = some 1) {d s : Operand}
    (ho : o.op = .call { callee := .builtin .copy, args := #[d, s], argTypes := #[dT, sT] }) {g n cap : Nat} (hd : a.eval d = .slice (some ⟨g, 0, none⟩) n cap) {A : Option Addr} {c : Nat} (hs : a.eval s = .slice A n c)
    {xs ys : List Value} (hn : 0 < n) (hown : w.ownsRow 0 e 1 (.slice (some ⟨g, 0, none⟩) n cap) n xs) (hr : Rd w A n 1 ys) (h1 : ∀ u ∈ ys, u.oneCell' = true)
    (h : ∀ w', w'.ownsRow 0 e 1 (.slice (some ⟨g, 0, none⟩) n cap) n ys → Only (fun b => b = g) w w' → K (.int .i64 n) w') : Mix.goes P o a w K := by
  obtain ⟨b, off, rfl, hc⟩ := hr.2 hn
  have hl : ys.length = n := by have := hr.1; omega
  rcases hown.2 with ⟨h2, _⟩ | ⟨g', cap', cur, hv, hb, hh, hnc, hcm, hs', ht⟩
  · cases h2
  · injection hv with hv1 hv2 hv3
    injection hv1 with hv1
    injection hv1 with hv1
    subst hv1; subst hv3
    have hrun := run_copy_row (P := P) w dT sT o.type e g 0 n cap ⟨b, off, none⟩ n c cur e ys hu hz hh (by rw [hl]; exact (Nat.min_self n).symm) (fun j v hj => by
      have := hc j v hj
      unfold Addr.add
      split
      · rename_i e; subst e; simpa using this
      · exact this) (by omega) h1
    unfold Mix.goes Mix.goesUpon execOp
    simp only [ho, resolve, invoke, builtin, Sem.run_bind, Sem.run_pure, Result.andThen_ok, List.map_toArray, List.map_cons, List.map_nil, hd, hs, hrun]
    have e1 : goInt (ys.length : Nat) = .int .i64 (n : Int) := by rw [hl]; rfl
    rw [e1]
    refine h _ ⟨by omega, .inr ⟨g, cap, _, rfl, hb, setRow_heap w g _ _ e _ hh, hnc, hcm, ?_, ?_⟩⟩ ⟨rfl, rfl, rfl, by simp [World.setRow], fun k _ hne => setRow_other w g k _ hne⟩
    · have : cur.size = cap := by omega
      simp only [List.take_zero, List.nil_append, Nat.zero_add, List.size_toArray, List.length_append, List.length_drop, Array.length_toList]
      omega
    · simp only [List.take_zero, List.nil_append, Nat.zero_add]
      rw [Nat.mul_one, ← hl, List.take_left]
theorem wpList_copy {ops : Array Oper} {rest : List Oper} {Q : Exit → Act → World → Prop} (hgd : o.guard = none) {dT sT e : TypeId} (hu : P.underlying dT = some (.slice e)) (hz : (P.info? e).map (·.size) = some 1) {d s : Operand}
    (ho : o.op = .call { callee := .builtin .copy, args := #[d, s], argTypes := #[dT, sT] }) {g n cap : Nat} (hd : a.eval d = .slice (some ⟨g, 0, none⟩) n cap) {A : Option Addr} {c : Nat} (hs : a.eval s = .slice A n c)
    {xs ys : List Value} (hn : 0 < n) (hown : w.ownsRow 0 e 1 (.slice (some ⟨g, 0, none⟩) n cap) n xs) (hr : Rd w A n 1 ys) (h1 : ∀ u ∈ ys, u.oneCell' = true)
    (h : ∀ w', w'.ownsRow 0 e 1 (.slice (some ⟨g, 0, none⟩) n cap) n ys → Only (fun b => b = g) w w' → wpList P ops Q rest (a.put o.dst (.int .i64 n)) w') : wpList P ops Q (o :: rest) a w :=
  wpList_plain hgd fun _ hK => Mix.wp_of_goes (N := fun v' w' => wpList P ops Q rest (a.put o.dst v') w') (fun _ _ h => hK _ _ h) (goes_copy hu hz ho hd hs hn hown hr h1 h)
/-- copy into a row that is known whole, from a place on. -/
theorem goes_copy_row {K : Value → World → Prop} {dT sT e : TypeId} (hu : P.underlying dT = some (.slice e)) (hz : (P.info? e).map (·.size) = some 1) {d s : Operand}
    (ho : o.op = .call { callee := .builtin .copy, args := #[d, s], argTypes := #[dT, sT] }) {g off dLen dCap : Nat} (hd : a.eval d = .slice (some ⟨g, off, none⟩) dLen dCap) {b so sLen c : Nat} (hs : a.eval s = .slice (some ⟨b, so, none⟩) sLen c)
    {t : TypeId} {cur cs : List Value} (hg : Cs w g t cur.toArray) (hn : cs.length = Nat.min sLen dLen) (hsrc : ∀ j u, cs[j]? = some u → w.cell? ⟨b, so + j, none⟩ = some u) (hfit : off + cs.length ≤ cur.length) (h1 : ∀ u ∈ cs, u.oneCell' = true)
    (h : ∀ w', Cs w' g t (cur.take off ++ cs ++ cur.drop (off + cs.length)).toArray → Only (fun x => x = g) w w' → K (.int .i64 (cs.length : Nat)) w') : Mix.goes P o a w K := by
  have hrun := run_copy_row (P := P) w dT sT o.type e g off dLen dCap ⟨b, so, none⟩ sLen c cur.toArray t cs hu hz hg hn (fun j v hj => by
    have := hsrc j v hj
    unfold Addr.add
    split
    · rename_i e; subst e; simpa using this
    · exact this) (by simpa using hfit) h1
  unfold Mix.goes Mix.goesUpon execOp
  simp only [ho, resolve, invoke, builtin, Sem.run_bind, Sem.run_pure, Result.andThen_ok, List.map_toArray, List.map_cons, List.map_nil, hd, hs, hrun]
  exact h _ (setRow_heap w g _ _ t _ hg) ⟨rfl, rfl, rfl, by simp [World.setRow], fun k _ hne => setRow_other w g k _ hne⟩
theorem wpList_copy_row {ops : Array Oper} {rest : List Oper} {Q : Exit → Act → World → Prop} (hgd : o.guard = none) {dT sT e : TypeId} (hu : P.underlying dT = some (.slice e)) (hz : (P.info? e).map (·.size) = some 1) {d s : Operand}
    (ho : o.op = .call { callee := .builtin .copy, args := #[d, s], argTypes := #[dT, sT] }) {g off dLen dCap : Nat} (hd : a.eval d = .slice (some ⟨g, off, none⟩) dLen dCap) {b so sLen c : Nat} (hs : a.eval s = .slice (some ⟨b, so, none⟩) sLen c)
    {t : TypeId} {cur cs : List Value} (hg : Cs w g t cur.toArray) (hn : cs.length = Nat.min sLen dLen) (hsrc : ∀ j u, cs[j]? = some u → w.cell? ⟨b, so + j, none⟩ = some u) (hfit : off + cs.length ≤ cur.length) (h1 : ∀ u ∈ cs, u.oneCell' = true)
    (h : ∀ w', Cs w' g t (cur.take off ++ cs ++ cur.drop (off + cs.length)).toArray → Only (fun x => x = g) w w' → wpList P ops Q rest (a.put o.dst (.int .i64 (cs.length : Nat))) w') : wpList P ops Q (o :: rest) a w :=
  wpList_plain hgd fun _ hK => Mix.wp_of_goes (N := fun v' w' => wpList P ops Q rest (a.put o.dst v') w') (fun _ _ h => hK _ _ h) (goes_copy_row hu hz ho hd hs hg hn hsrc hfit h1 h)
theorem rd_of_own {w : World} {B : Nat} {e : TypeId} {A : Option Addr} {n c : Nat} {size : Nat} {xs : List Value} (h : w.ownsRow B e size (.slice A n c) n xs) : Rd w A n size xs := by
  refine ⟨h.1, fun hn => ?_⟩
  rcases h.2 with ⟨hv, h0⟩ | ⟨g, cap, cur, hv, hb, hh, _, _, _, ht⟩
  · omega
  · injection hv with hv1 hv2 hv3
    subst hv1; subst hv3
    refine ⟨g, 0, rfl, fun j u hu => ?_⟩
    have hj : j < n * size := by rw [← h.1]; exact (List.getElem?_eq_some_iff.1 hu).1
    rw [Nat.zero_add, World.ownsRow.cellAt h j hj]
    exact hu
/-- One new element, just laid in a block of its own. -/
theorem rd_one (w : World) (e : TypeId) (cs : List Value) : Rd (w.alloc (.cells cs.toArray e)) (some ⟨w.heap.size, 0, none⟩) 1 cs.length cs :=
  ⟨by simp, fun _ => ⟨w.heap.size, 0, rfl, fun j u hu => by
    rw [(Cs.new w e cs.toArray).cell, Nat.zero_add]
    simpa using hu⟩⟩
end
theorem SlR.one {α : Type} (T : Flat α) (w : World) (t : TypeId) (x : α) {cs : Array Value} (hcs : (T.enc x).toArray = cs) : SlR T (w.alloc (.cells cs t)) (some ⟨w.heap.size, 0, none⟩) 1 [x] := by
  subst hcs
  refine ⟨rfl, fun _ => ⟨w.heap.size, 0, rfl, by simp, fun k y hk j u hu => ?_⟩⟩
  match k, hk with
  | 0, hk =>
    injection hk with hk
    subst hk
    rw [(Cs.new w t _).cell]
    simpa using hu
end Go.Proofs.YtnhaekifcieeoaaGreatDoor
