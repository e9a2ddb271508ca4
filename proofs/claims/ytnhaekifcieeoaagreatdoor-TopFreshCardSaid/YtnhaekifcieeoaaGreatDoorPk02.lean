/- Put together: Mem, EnvT, LaidT, Own, Clone, Bdy, Kf, Types, Ord, FilesL, Find, Name, Files1. -/
import Derived.Test.YtnhaekifcieeoaaGreatDoorPk01
import Derived.Laws.OwnMore
import Derived.Maps.AppendAt
import Derived.Deep.AppendLies
import Derived.Test.YtnhaekifcieeoaaGreatDoorPkS
import Derived.Lib.SmallJoins
import Derived.Lib.AppendIntMem
import Derived.Lib.LaidTab
import Derived.MakeChecks
import GoSem.ClaimJoined
import Derived.Test.YtnhaekifcieeoaaGreatDoorProg
import Derived.Laws.ResultCell
import Derived.Lib.Bytealg
namespace Go.Proofs.YtnhaekifcieeoaaGreatDoor
open Go Go.RowKit
def Cs (w : World) (g : Nat) (t : TypeId) (cs : Array Value) : Prop := w.heap[g]? = some (.cells cs t (0, 0))
section
variable {w v : World} {g : Nat} {t : TypeId} {cs : Array Value} {F : Nat → Prop}
theorem Cs.lt (h : Cs w g t cs) : g < w.heap.size := by
  rcases Nat.lt_or_ge g w.heap.size with hlt | hge
  · exact hlt
  · unfold Cs at h; rw [Array.getElem?_eq_none hge] at h; cases h
theorem Cs.cell (h : Cs w g t cs) (i : Nat) : w.cell? ⟨g, i, none⟩ = cs[i]? := cell_of_row w g i cs t (0, 0) h
theorem Cs.frozen (h : Cs w g t cs) (i : Nat) : w.frozen? ⟨g, i, none⟩ = false := by
  unfold Cs at h
  simp [World.frozen?, h]
theorem Cs.new (w : World) (t : TypeId) (cs : Array Value) : Cs (w.alloc (.cells cs t)) w.heap.size t cs := heap_alloc_new w _
theorem Cs.drew (h : Cs w g t cs) : Cs w.drew g t cs := h
theorem Cs.drewN (h : Cs w g t cs) (n : Nat) : Cs (w.drewN n) g t cs := h
theorem Cs.alloc (h : Cs w g t cs) (o : Obj) : Cs (w.alloc o) g t cs := (Below.heap_alloc w o g h.lt).trans h
theorem Cs.set_ (h : Cs w g t cs) (i : Nat) (u : Value) : Cs (w.setCell ⟨g, i, none⟩ u) g t (cs.setIfInBounds i u) := by
  unfold Cs at h ⊢
  simp [World.setCell, Array.getElem?_modify, h]
theorem Cs.far (h : Cs w g t cs) {p : Addr} (hp : g ≠ p.block) (u : Value) : Cs (w.setCell p u) g t cs := (Below.heap_setCell w p u g hp).trans h
theorem Cs.keep (h : Cs w g t cs) (hx : Only F w v) (hg : ¬ F g) : Cs v g t cs := (hx.block g h.lt hg).trans h
theorem Cs.ne_ {g' : Nat} {t' : TypeId} {cs' : Array Value} (h : Cs w g t cs) (h' : Cs w g' t' cs') (hne : t ≠ t') : g ≠ g' := by
  rintro rfl
  unfold Cs at h h'
  rw [h] at h'
  injection h' with h'
  injection h' with _ ht
  exact hne ht
end
theorem own_keep {w v : World} {F : Nat → Prop} {B : Nat} {e : TypeId} {size n : Nat} {x : Value} {xs : List Value} (h : w.ownsRow B e size x n xs) (hx : Only F w v) (hn : ∀ g, x.ownBlock = some g → ¬ F g) : v.ownsRow B e size x n xs := by
  obtain ⟨h1, h2⟩ := h
  refine ⟨h1, ?_⟩
  rcases h2 with h2 | ⟨g, cap, cur, hv, hg, hh, r⟩
  · exact Or.inl h2
  · refine Or.inr ⟨g, cap, cur, hv, hg, ?_, r⟩
    rw [hx.block g (Array.getElem?_eq_some_iff.1 hh).1 (hn g (by rw [hv]; rfl))]
    exact hh
theorem Cs.x {w : World} {g : Nat} {t : TypeId} {cs : Array Value} {F : Nat → Prop} (h : Cs w g t cs) (hg : ¬ F g) (i : Nat) : ∀ ξ : X w F, ξ.v.cell? ⟨g, i, none⟩ = cs[i]? := fun ξ => (h.keep ξ.h hg).cell i
theorem Cs.of_own {w : World} {B : Nat} {e : TypeId} {size g n cap : Nat} {xs : List Value} (h : w.ownsRow B e size (.slice (some ⟨g, 0, none⟩) n cap) n xs) : ∃ cur, Cs w g e cur := by
  rcases h.2 with ⟨h2, _⟩ | ⟨g', cap', cur, hv, hb, hh, _⟩
  · cases h2
  · injection hv with hv1 hv2 hv3
    injection hv1 with hv1
    injection hv1 with hv1
    subst hv1
    exact ⟨cur, hh⟩
abbrev tabName : String := "internal/strconv.uint64pow10"
structure EnvT (w : World) : Prop where
  ml : Ml w
  tb : Lib.TabIs Tryz.prog w tabName .u64 Lib.pow10Tab
theorem EnvT.ext {w v : World} (h : EnvT w) (hx : Ext w v) : EnvT v := ⟨h.1.ext hx, Lib.tabBelow_of_tabIs h.2 v hx.toBelow⟩
theorem Itoa_t (n : Int) (h0 : -9223372036854775808 ≤ n) (h1 : n ≤ 9223372036854775807) {w : World} (h : EnvT w) :
    Calls Tryz.prog 108 #[.int .i64 n] w fun e w' => e = .returned (S (Lib.itoa n)) ∧ Ext w w' := by
  refine (Tryz.strconv_Itoa n h0 h1 w h.tb).mono ?_
  rintro e w' ⟨rfl, k, os, rfl⟩
  exact ⟨rfl, Only.below (Lib.below_grow _ w (Nat.le_refl _) k os)⟩
theorem laid_mem {P : Program} {w : World} : ∀ {L : List (String × DataW Unit)} {ps : List MemPlace}, DataW.LaidVars P w L ps → ∀ {n : String} {d : DataW Unit}, (n, d) ∈ L →
    ∃ g t cs fuel p, P.globalNamed n = some g ∧ (P.globals[g]?).map (·.type) = some t ∧ w.var? P n = some cs ∧ DataW.trod (fun _ => ()) P w 0 (fun _ => true) false fuel t cs.toList = some (d, p)
  | [], _, _, _, _, hm => by cases hm
  | (n', d') :: r, ps, h, n, d, hm => by
    obtain ⟨g, t, cs, fuel, p, q, h1, h2, h3, h4, h5, _⟩ := h
    rcases List.mem_cons.1 hm with e | hm
    · obtain ⟨rfl, rfl⟩ := Prod.mk.inj e
      exact ⟨g, t, cs, fuel, p, h1, h2, h3, h4⟩
    · exact laid_mem h5 hm
theorem tab_of {W : World} {L : List (String × DataW Unit)} (h : laidMet Tryz.prog L W) (hm : (tabName, Lib.tabData .u64 Lib.pow10Tab) ∈ L) : Lib.TabIs Tryz.prog W tabName .u64 Lib.pow10Tab := by
  obtain ⟨ps, hl, _⟩ := h
  obtain ⟨g', t', cs, fuel, p, h1, h2, h3, h4⟩ := laid_mem hl hm
  obtain rfl := Option.some.inj ((show Tryz.prog.globalNamed tabName = some 3 by kernel_rfl).symm.trans h1)
  obtain rfl := Option.some.inj ((show (Tryz.prog.globals[3]?).map (·.type) = some 233 by kernel_rfl).symm.trans h2)
  unfold Lib.TabIs
  rw [h3, ← Lib.cells_of_tab Tryz.underlying233 Tryz.underlying221 (by kernel_rfl) (by kernel_rfl) h4]
theorem envT_of {W : World} (hml : Ml W) {L : List (String × DataW Unit)} (h : laidMet Tryz.prog L W) (h1 : (tabName, Lib.tabData .u64 Lib.pow10Tab) ∈ L) : EnvT W := ⟨hml, tab_of h h1⟩
def Rd (w : World) (A : Option Addr) (n size : Nat) (cs : List Value) : Prop :=
  cs.length = n * size ∧ (0 < n → ∃ b o, A = some ⟨b, o, none⟩ ∧ ∀ j u, cs[j]? = some u → w.cell? ⟨b, o + j, none⟩ = some u)
theorem getElem?_flatMap_enc {α : Type} (T : Flat α) (hpos : 0 < T.size) : ∀ (xs : List α) (i : Nat), (xs.flatMap T.enc)[i]? = (xs[i / T.size]?).bind fun x => (T.enc x)[i % T.size]?
  | [], i => by simp
  | x :: xs, i => by
    rw [List.flatMap_cons]
    by_cases h : i < T.size
    · rw [List.getElem?_append_left (by rw [T.len]; exact h), Nat.div_eq_of_lt h, Nat.mod_eq_of_lt h]; rfl
    · have hge : T.size ≤ i := by omega
      rw [List.getElem?_append_right (by rw [T.len]; exact hge), T.len, getElem?_flatMap_enc T hpos xs (i - T.size)]
      have hd : i / T.size = (i - T.size) / T.size + 1 := by
        rw [Nat.div_eq i, if_pos ⟨hpos, hge⟩]
      have hm : i % T.size = (i - T.size) % T.size := by rw [Nat.mod_eq_sub_mod hge]
      rw [hd, hm, List.getElem?_cons_succ]
theorem length_flatMap_enc {α : Type} (T : Flat α) (xs : List α) : (xs.flatMap T.enc).length = xs.length * T.size := by
  induction xs with
  | nil => simp
  | cons x xs ih => rw [List.flatMap_cons, List.length_append, T.len, ih, List.length_cons, Nat.succ_mul, Nat.add_comm]
theorem SlR.rd {α : Type} {T : Flat α} {w : World} {A : Option Addr} {n : Nat} {xs : List α} (hpos : 0 < T.size) (h : SlR T w A n xs) : Rd w A n T.size (xs.flatMap T.enc) := by
  refine ⟨by rw [length_flatMap_enc, h.1], fun hn => ?_⟩
  obtain ⟨b, o, e, _, hc⟩ := h.2 hn
  refine ⟨b, o, e, fun j u hu => ?_⟩
  rw [getElem?_flatMap_enc T hpos] at hu
  cases hx : xs[j / T.size]? with
  | none => rw [hx] at hu; cases hu
  | some x =>
    rw [hx] at hu
    have := hc _ x hx _ u hu
    rwa [Nat.add_assoc, Nat.mul_comm, Nat.div_add_mod] at this
theorem SlR.of_own {α : Type} {T : Flat α} (hpos : 0 < T.size) {w : World} {A : Option Addr} {n c B : Nat} {e : TypeId} {xs : List α} (h : w.ownsRow B e T.size (.slice A n c) n (xs.flatMap T.enc)) : SlR T w A n xs := by
  have hl : xs.length = n := by
    have := h.1
    rw [length_flatMap_enc] at this
    exact Nat.eq_of_mul_eq_mul_right hpos this
  refine ⟨hl, fun hn => ?_⟩
  rcases h.2 with ⟨hv, h0⟩ | ⟨g, cap, cur, hv, hb, hh, _, _, _, ht⟩
  · omega
  · injection hv with hv1 hv2 hv3
    subst hv1; subst hv3
    refine ⟨g, 0, rfl, (Array.getElem?_eq_some_iff.1 hh).1, fun k x hx j u hu => ?_⟩
    have hj : j < T.size := by
      rw [← T.len x]
      exact (List.getElem?_eq_some_iff.1 hu).1
    have hk : k < n := by rw [← hl]; exact (List.getElem?_eq_some_iff.1 hx).1
    have hlt : k * T.size + j < n * T.size := by
      have : (k + 1) * T.size ≤ n * T.size := Nat.mul_le_mul_right _ hk
      rw [Nat.succ_mul] at this
      omega
    rw [Nat.zero_add, World.ownsRow.cellAt h _ hlt, getElem?_flatMap_enc T hpos]
    have hd : (k * T.size + j) / T.size = k := by
      rw [Nat.mul_comm, Nat.mul_add_div hpos, Nat.div_eq_of_lt hj, Nat.add_zero]
    have hm : (k * T.size + j) % T.size = j := by
      rw [Nat.mul_comm, Nat.mul_add_mod, Nat.mod_eq_of_lt hj]
    rw [hd, hm, hx]
    exact hu
theorem cell?_alloc_of (w : World) (o : Obj) (p : Addr) {u : Value} (h : w.cell? p = some u) : (w.alloc o).cell? p = some u :=
  (World.cell?_alloc_lt w o p (World.block_lt_of_cell? w p h)).trans h
theorem Rd.alloc {w : World} {A : Option Addr} {n size : Nat} {cs : List Value} (h : Rd w A n size cs) (o : Obj) : Rd (w.alloc o) A n size cs :=
  ⟨h.1, fun hn => by
    obtain ⟨b, o', e, hc⟩ := h.2 hn
    exact ⟨b, o', e, fun j u hu => cell?_alloc_of _ _ _ (hc j u hu)⟩⟩
theorem own_empty (w : World) (e : TypeId) (size : Nat) : (w.alloc (.cells #[] e)).ownsRow 0 e size (.slice (some ⟨w.heap.size, 0, none⟩) 0 0) 0 [] :=
  ⟨by simp, .inr ⟨w.heap.size, 0, #[], rfl, Nat.zero_le _, Cs.new w _ _, Nat.le_refl _, by simp [maxLen], by simp, by simp⟩⟩
section
variable {P : Program} (w : World)
theorem run_append_of_nil (base : Nat) (t ty e : TypeId) (i : TypeInfo) (size : Nat) (ht : P.underlying t = some (.slice e)) (hi : P.info? e = some i)
    (v : Value) (n : Nat) (xs : List Value) (hown : w.ownsRow base e size v n xs) (c : Nat) : (Builtin.append_ #[t, t] ty #[v, .slice none 0 c]).run P w = .ok v w := by
  rcases hown.2 with ⟨rfl, rfl⟩ | ⟨g, cap, cur, rfl, _, _, hnc, _⟩
  · simp [Builtin.append_, run_underlying ht, sizeOf, typeInfo, hi, Builtin.lenOf, Builtin.firstCells]
  · simp [Builtin.append_, run_underlying ht, sizeOf, typeInfo, hi, Builtin.lenOf, Builtin.firstCells, hnc, storeCells]
structure Ety (P : Program) (t e : TypeId) (size : Nat) : Prop where
  under : P.underlying t = some (.slice e)
  info : ∃ i z, P.info? e = some i ∧ i.zero = some z ∧ i.size = size ∧ i.bytes ≤ 256 ∧ z.cells.size = size
  pos : 0 < size
theorem Ety.mk' {P : Program} {t e : TypeId} {size bytes : Nat} {z : Value} (h1 : P.underlying t = some (.slice e)) (h2 : (P.info? e).map (fun i => (i.zero, i.size, i.bytes)) = some (some z, size, bytes))
    (h3 : z.cells.size = size) (h4 : 0 < size) (h5 : bytes ≤ 256) : Ety P t e size := by
  obtain ⟨i, hi, hz, hs, hb⟩ := info_parts h2
  exact ⟨h1, ⟨i, z, hi, hz, hs, by rw [hb]; exact h5, h3⟩, h4⟩
theorem run_append_raw {t ty e : TypeId} {size : Nat} (hT : Ety P t e size) {v : Value} {n : Nat} {xs : List Value} (hown : w.ownsRow 0 e size v n xs)
    {A : Option Addr} {m c : Nat} {news : List Value} (hr : Rd w A m size news) (h1 : ∀ u ∈ news, u.oneCell' = true) (hnil : A = none → c = c) (hsm : n + m ≤ 100000000) :
    ∃ v' w', (Builtin.append_ #[t, t] ty #[v, .slice A m c]).run P w = .ok v' w' ∧ w'.ownsRow 0 e size v' (n + m) (xs ++ news) ∧ w.grownBy w' v.ownBlock ∧
      (v'.ownBlock = v.ownBlock ∨ v'.ownBlock = some w.heap.size) := by
  obtain ⟨i, z, hi, hz, hs, hb, hzs⟩ := hT.info
  rcases A with _ | ad
  · have hm : m = 0 := by
      rcases Nat.eq_zero_or_pos m with h0 | h0
      · exact h0
      · obtain ⟨_, _, h, _⟩ := hr.2 h0
        cases h
    subst hm
    have hn : news = [] := List.eq_nil_of_length_eq_zero (by simpa using hr.1)
    subst hn
    exact ⟨v, w, run_append_of_nil w 0 t ty e i size hT.under hi v n xs hown c, by simpa using hown, World.grownBy.refl w _, .inl rfl⟩
  · have hcells : ∀ j u, news[j]? = some u → w.cell? (ad.add j) = some u := by
      intro j u hu
      rcases Nat.eq_zero_or_pos m with h0 | h0
      · subst h0
        have hn : news = [] := List.eq_nil_of_length_eq_zero (by simpa using hr.1)
        subst hn
        simp at hu
      · obtain ⟨b, o, h, hc⟩ := hr.2 h0
        injection h with h
        subst h
        have := hc j u hu
        unfold Addr.add
        split
        · rename_i e; subst e; simpa using this
        · exact this
    obtain ⟨v', w', hrun, h2, h3, _, h5⟩ := run_append_own_at (P := P) w 0 t ty e i z size i.bytes hT.under hi hz hs rfl hzs hT.pos v n xs hown ad m c news hr.1 hcells h1
      (by simp only [maxLen]; omega) (by
        have : (n + m) * i.bytes ≤ 100000000 * 256 := Nat.mul_le_mul hsm hb
        omega) (Nat.zero_le _)
    exact ⟨v', w', hrun, h2, h3, h5⟩
end
theorem own_slice {w : World} {B : Nat} {e : TypeId} {size n : Nat} {v : Value} {xs : List Value} (h : w.ownsRow B e size v n xs) : ∃ A c, v = .slice A n c := by
  rcases h.2 with ⟨rfl, rfl⟩ | ⟨g, cap, cur, rfl, _⟩
  · exact ⟨none, 0, rfl⟩
  · exact ⟨_, _, rfl⟩
section
variable {P : Program} {w : World} {o : Oper} {a : Act}
theorem goes_append {K : Value → World → Prop} {t e : TypeId} {size : Nat} (hT : Ety P t e size) {s x : Operand} (ho : o.op = .call { callee := .builtin .append, args := #[s, x], argTypes := #[t, t] })
    {v : Value} {n : Nat} {xs : List Value} (hs : a.eval s = v) {A : Option Addr} {m c : Nat} (hx : a.eval x = .slice A m c) (hown : w.ownsRow 0 e size v n xs) {news : List Value} (hr : Rd w A m size news)
    (h1 : ∀ u ∈ news, u.oneCell' = true) (hsm : n + m ≤ 100000000)
    (h : ∀ A' c' w', w'.ownsRow 0 e size (.slice A' (n + m : Nat) c') (n + m) (xs ++ news) → w.grownBy w' v.ownBlock → ((Value.slice A' (n + m : Nat) c').ownBlock = v.ownBlock ∨ (Value.slice A' (n + m : Nat) c').ownBlock = some w.heap.size) → K (.slice A' (n + m : Nat) c') w') : Mix.goes P o a w K := by
  obtain ⟨v', w', hrun, h2, h3, h4⟩ := run_append_raw (P := P) w (ty := o.type) hT hown (c := c) hr h1 (fun _ => rfl) hsm
  unfold Mix.goes Mix.goesUpon execOp
  simp only [ho, resolve, invoke, builtin, Sem.run_bind, Sem.run_pure, Result.andThen_ok, List.map_toArray, List.map_cons, List.map_nil, hs, hx, hrun]
  obtain ⟨A', c', e⟩ := own_slice h2
  rw [e] at h2 h4 ⊢
  exact h A' c' w' h2 h3 h4
theorem wpList_append {ops : Array Oper} {rest : List Oper} {Q : Exit → Act → World → Prop} (hgd : o.guard = none) {t e : TypeId} {size : Nat} (hT : Ety P t e size) {s x : Operand} (ho : o.op = .call { callee := .builtin .append, args := #[s, x], argTypes := #[t, t] })
    {v : Value} {n : Nat} {xs : List Value} (hs : a.eval s = v) {A : Option Addr} {m c : Nat} (hx : a.eval x = .slice A m c) (hown : w.ownsRow 0 e size v n xs) {news : List Value} (hr : Rd w A m size news)
    (h1 : ∀ u ∈ news, u.oneCell' = true) (hsm : n + m ≤ 100000000)
    (h : ∀ A' c' w', w'.ownsRow 0 e size (.slice A' (n + m : Nat) c') (n + m) (xs ++ news) → w.grownBy w' v.ownBlock → ((Value.slice A' (n + m : Nat) c').ownBlock = v.ownBlock ∨ (Value.slice A' (n + m : Nat) c').ownBlock = some w.heap.size) → wpList P ops Q rest (a.put o.dst (.slice A' (n + m : Nat) c')) w') : wpList P ops Q (o :: rest) a w :=
  wpList_plain hgd fun _ hK => Mix.wp_of_goes (N := fun v' w' => wpList P ops Q rest (a.put o.dst v') w') (fun _ _ h => hK _ _ h) (goes_append hT ho hs hx hown hr h1 hsm h)
theorem rd_one (w : World) (e : TypeId) (cs : List Value) : Rd (w.alloc (.cells cs.toArray e)) (some ⟨w.heap.size, 0, none⟩) 1 cs.length cs :=
  ⟨by simp, fun _ => ⟨w.heap.size, 0, rfl, fun j u hu => by
    rw [(Cs.new w e cs.toArray).cell, Nat.zero_add]
    simpa using hu⟩⟩
end
theorem SlR.one {α : Type} (T : Flat α) (w : World) (t : TypeId) (x : α) {cs : Array Value} (hcs : (T.enc x).toArray = cs) : SlR T (w.alloc (.cells cs t)) (some ⟨w.heap.size, 0, none⟩) 1 [x] := by
  subst hcs
  refine ⟨rfl, fun _ => ⟨w.heap.size, 0, rfl, by simp, fun k y hk j u hu => ?_⟩⟩
  match k, hk with
  | 0, hk =>
    injection hk with hk
    subst hk
    rw [(Cs.new w t _).cell]
    simpa using hu
theorem string_info : (Tryz.prog.info? 9).map (fun i => (i.zero, i.size, i.bytes)) = some (some (S []), 1, 16) := by kernel_rfl
theorem string_ty : Ety Tryz.prog 27 9 1 := Ety.mk' Tryz.underlying27 string_info rfl (by omega) (by omega)
theorem CloneStrs_c {w : World} {A : Option Addr} {n c : Nat} {cs : List Value} (h : Rd w A n 1 cs) (h1 : ∀ u ∈ cs, u.oneCell' = true) (hA : A = none → n = 0) (hn : n ≤ 1000000) :
    Calls Tryz.prog 101 #[.slice A n c] w fun e w' => ∃ A' c', e = .returned (.slice A' n c') ∧ w'.ownsRow 0 9 1 (.slice A' n c') n cs ∧ Ext w w' ∧ ∀ g, (Value.slice A' n c').ownBlock = some g → w.heap.size ≤ g := by
  have h2 := fun (W : World) => Lib.run_eql_slice_nil (P := Tryz.prog) W 27 9 A n c 0 0 Tryz.underlying27
  rcases A with _ | ad
  · obtain rfl := hA rfl
    obtain rfl : cs = [] := List.eq_nil_of_length_eq_zero (by simpa using h.1)
    go_enter Tryz.func101, Tryz.ntmps101
    go_wp2
    go_ret
    exact ⟨none, 0, rfl, World.ownsRow_nil _ _ _ _, Only.refl _ _, fun g hg => by simp [Value.ownBlock] at hg⟩
  · have H := Lib.hid h
    clear h
    go_enter Tryz.func101, Tryz.ntmps101
    go_wp2_with (at_builtin; go_must (refine wpList_append (v := .slice (some ⟨w.heap.size, 0, none⟩) 0 0) (n := 0) (xs := []) rfl string_ty rfl rfl rfl (own_empty w _ _) (H.out.alloc _) h1 (by omega) ?_); intro A' c' w5 hown5 hg5 hb5)
    go_ret
    rw [Nat.zero_add] at hown5 hb5
    have hx : Ext w w5 := ((Only.refl _ _).alloc (.cells #[] 9)).grown hg5 (fun g hg => by simp [Value.ownBlock] at hg; left; omega)
    refine ⟨A', c', ?_, by simpa using hown5, hx, fun g hg => ?_⟩
    · simp [Nat.zero_add]
    · rcases hb5 with h | h <;> rw [h] at hg <;> simp [Value.ownBlock] at hg <;> omega
theorem bodyPost_cell {P : Program} {fn : Func} {R : Ending → World → Prop} {a : Act} {w : World} {p u : Tmp} {ty : TypeId} {ad : Addr} {v : Value} (h : fn.results = #[.cell p ty, .tmp u])
    (hp : a.tmps.getD p undef = .pointer (some ad)) (hd : a.defers = []) (hl : (loadVar ty ad).run P w = .ok v w) (hR : R (.returned (.tuple #[v, a.tmps.getD u undef])) w) : bodyPost P fn R .ret a w := by
  refine bodyPost_ret (v := .tuple #[v, a.tmps.getD u undef]) ?_ hd hR
  rw [results_cell_tmp h, hp]
  simp [asAddr, Sem.run_pure, Result.andThen, hl]
theorem results_cell1 {fn : Func} {p : Tmp} {ty : TypeId} (h : fn.results = #[.cell p ty]) (tmps : Array Value) (P : Program) (w : World) :
    (results fn tmps).run P w = ((asAddr (tmps.getD p undef)).run P w).andThen fun a w₁ => (loadVar ty a).run P w₁ := by
  simp only [results, h]
  simp [Sem.run_bind, Result.andThen]
theorem bodyPost_cell1 {P : Program} {fn : Func} {R : Ending → World → Prop} {a : Act} {w : World} {p : Tmp} {ty : TypeId} {ad : Addr} {v : Value} (h : fn.results = #[.cell p ty])
    (hp : a.tmps.getD p undef = .pointer (some ad)) (hd : a.defers = []) (hl : (loadVar ty ad).run P w = .ok v w) (hR : R (.returned v) w) : bodyPost P fn R .ret a w := by
  refine bodyPost_ret (v := v) ?_ hd hR
  rw [results_cell1 h, hp]
  simp [asAddr, Sem.run_pure, Result.andThen, hl]
theorem fileF_head (x : File) : ∃ s l, fileF.enc x = S s :: l := ⟨_, _, rfl⟩
theorem strF_head (x : Str) : ∃ s l, strF.enc x = S s :: l := ⟨_, _, rfl⟩
theorem st_info : (Tryz.prog.info? 9).map (fun i => (i.zero, i.size, i.bytes)) = some (some (.string ⟨#[]⟩), 1, 16) := by kernel_rfl
theorem st_ty : Ety Tryz.prog 27 9 1 := Ety.mk' Tryz.underlying27 st_info rfl (by omega) (by omega)
theorem SlR.keep_far {α : Type} {T : Flat α} {w v : World} {A : Option Addr} {n : Nat} {xs : List α} {F : Nat → Prop} (h : SlR T w A n xs) (hx : Only F w v) (hn : ∀ b o, A = some ⟨b, o, none⟩ → 0 < n → ¬ F b) : SlR T v A n xs :=
  ⟨h.1, fun hp => by
    obtain ⟨b, o, e, hb, hc⟩ := h.2 hp
    exact ⟨b, o, e, Nat.lt_of_lt_of_le hb hx.size, fun k x hk j u hu => (hx.cell (p := ⟨b, _, none⟩) hb (hn b o e hp)).trans (hc k x hk j u hu)⟩⟩
theorem file_stood : Tryz.prog.stoodInHeld 75 = false := by kernel_rfl
@[go_sem] theorem file_guard : Tryz.prog.eqGuardType Tryz.prog.depth 75 = false := by kernel_rfl
theorem file_under : Tryz.prog.underlying 75 = some (.struct (Tryz.prog.fieldsOf 75)) := by kernel_rfl
def fileB (x y x' y' : Str) : Bool := decide (x = x' ∧ y = y')
theorem fileB_true {f g : File} (h : fileB f.1 f.2 g.1 g.2 = true) : f = g := by
  unfold fileB at h; have := of_decide_eq_true h; exact Prod.ext this.1 this.2
theorem fileB_false {f g : File} (h : fileB f.1 f.2 g.1 g.2 = false) : f ≠ g := by
  unfold fileB at h; have := of_decide_eq_false h; intro e; subst e; exact this ⟨rfl, rfl⟩
theorem file_eqIn (a b c d : Str) (w : World) : (Op.equalIn 10000 75 (.agg #[S a, S b]) (.agg #[S c, S d])).run Tryz.prog w = .ok (fileB a b c d) w := by
  have u3 := Tryz.underlying9
  have a3 := Tryz.isAgg9
  have z3 := Tryz.sizeOf9
  unfold fileB
  rw [show (10000 : Nat) = 9999 + 1 from rfl, run_equalIn_agg w 9999 75 _ _ file_under file_stood]
  simp only [Program.fieldsOf, Tryz.underlying75]
  go_simp
  by_cases h1 : a = c <;> by_cases h2 : b = d <;> simp [h1, h2]
@[go_sem high] theorem file_eql (a b c d : Str) (w : World) : (binOp .eql 75 (.agg #[S a, S b]) (.agg #[S c, S d])).run Tryz.prog w = .ok (.bool (fileB a b c d)) w := by
  rw [run_eql_struct, file_eqIn]; rfl
@[go_sem high] theorem file_neq (a b c d : Str) (w : World) : (binOp .neq 75 (.agg #[S a, S b]) (.agg #[S c, S d])).run Tryz.prog w = .ok (.bool (!fileB a b c d)) w := by
  rw [run_neq_struct, file_eqIn]; rfl
@[go_sem] theorem file_build (a b : ByteArray) (w : World) : (Instr.build 75 #[(0, .string a), (1, .string b)]).run Tryz.prog w = .ok (.agg #[.string a, .string b]) w := run_build w 75 _ _ (by kernel_rfl)
theorem slt_trans {a b c : Str} (h : a < b) (k : b < c) : a < c := List.lt_trans h k
theorem slt_irrefl (a : Str) : ¬ a < a := List.lt_irrefl a
theorem slt_asymm {a b : Str} (h : a < b) : ¬ b < a := List.lt_asymm h
theorem sle_iff {a b : Str} : a ≤ b ↔ ¬ b < a := List.not_lt.symm
theorem seq_of {a b : Str} (h : ¬ a < b) (k : ¬ b < a) : a = b := List.le_antisymm (List.not_lt.1 k) (List.not_lt.1 h)
theorem slt_of_le_ne {a b : Str} (h : a ≤ b) (k : a ≠ b) : a < b := by
  by_cases hl : a < b
  · exact hl
  · exact absurd (seq_of hl (sle_iff.1 h)) k
theorem slt_ne {a b : Str} (h : a < b) : a ≠ b := fun e => slt_irrefl b (e ▸ h)
theorem sle_lt_trans {a b c : Str} (h : a ≤ b) (k : b < c) : a < c := by
  by_cases e : a = b
  · exact e ▸ k
  · exact slt_trans (slt_of_le_ne h e) k
theorem cmp_cases : ∀ a b : Str, (Lib.compareBytes a b = -1 ∧ a < b) ∨ (Lib.compareBytes a b = 0 ∧ a = b) ∨ (Lib.compareBytes a b = 1 ∧ b < a)
  | [], [] => .inr (.inl ⟨rfl, rfl⟩)
  | [], _ :: _ => .inl ⟨rfl, by simp⟩
  | _ :: _, [] => .inr (.inr ⟨rfl, by simp⟩)
  | x :: a, y :: b => by
    unfold Lib.compareBytes
    by_cases h : x < y
    · exact .inl ⟨if_pos h, List.cons_lt_cons_iff.2 (.inl h)⟩
    · rw [if_neg h]
      by_cases h' : y < x
      · exact .inr (.inr ⟨if_pos h', List.cons_lt_cons_iff.2 (.inl h')⟩)
      · rw [if_neg h']
        obtain rfl : x = y := UInt8.le_antisymm (UInt8.not_lt.1 h') (UInt8.not_lt.1 h)
        rcases cmp_cases a b with ⟨h1, h2⟩ | ⟨h1, h2⟩ | ⟨h1, h2⟩
        · exact .inl ⟨h1, List.cons_lt_cons_iff.2 (.inr ⟨rfl, h2⟩)⟩
        · exact .inr (.inl ⟨h1, by rw [h2]⟩)
        · exact .inr (.inr ⟨h1, List.cons_lt_cons_iff.2 (.inr ⟨rfl, h2⟩)⟩)
def cmpS (a b : Str) : Int := Lib.compareBytes a b
theorem cmpS_lt (a b : Str) : decide (cmpS a b < 0) = decide (a < b) := by
  unfold cmpS
  rcases cmp_cases a b with ⟨h1, h2⟩ | ⟨h1, h2⟩ | ⟨h1, h2⟩ <;> rw [h1]
  · simp [h2]
  · subst h2; simp [slt_irrefl]
  · simp [slt_asymm h2]
theorem cmpS_eq (a b : Str) : (cmpS a b == 0) = decide (a = b) := by
  unfold cmpS
  rcases cmp_cases a b with ⟨h1, h2⟩ | ⟨h1, h2⟩ | ⟨h1, h2⟩ <;> rw [h1]
  · simp [slt_ne h2]
  · simp [h2]
  · simp [(slt_ne h2).symm]
theorem bytesLess_eq : ∀ a b : Str, Op.bytesLess a b = decide (a < b)
  | [], [] => by simp [Op.bytesLess]
  | [], _ :: _ => by simp [Op.bytesLess]
  | _ :: _, [] => by simp [Op.bytesLess]
  | x :: a, y :: b => by
    unfold Op.bytesLess
    rw [bytesLess_eq a b, Bool.eq_iff_iff]
    simp [List.cons_lt_cons_iff]
def ltB (a b : Str) : Bool := decide (a < b)
def leB (a b : Str) : Bool := decide (a ≤ b)
theorem ltB_true {a b : Str} (h : ltB a b = true) : a < b := of_decide_eq_true h
theorem leB_true {a b : Str} (h : leB a b = true) : a ≤ b := of_decide_eq_true h
theorem leB_false {a b : Str} (h : leB a b = false) : b < a := by
  have := of_decide_eq_false h
  rw [sle_iff] at this
  exact Classical.not_not.1 this
theorem toList_loop (b : ByteArray) (i : Nat) (r : List UInt8) : ByteArray.toList.loop b i r = r.reverse ++ b.data.toList.drop i := by
  rw [ByteArray.toList.loop]
  split
  · rename_i h
    rw [toList_loop b (i+1)]
    have hi : i < b.data.toList.length := by simpa using h
    rw [List.drop_eq_getElem_cons hi]
    have : b.get! i = b.data.toList[i] := by
      simp [ByteArray.get!]
      rw [getElem!_pos b.data i (by simpa using hi)]
    simp [this]
  · rename_i h
    rw [List.drop_eq_nil_of_le (by simpa using h)]; simp
termination_by b.size - i
theorem toList_S (a : List UInt8) : ByteArray.toList ⟨a.toArray⟩ = a := by
  unfold ByteArray.toList
  rw [toList_loop]; simp
@[go_sem high] theorem lss_S (t : TypeId) (a b : Str) : binOp .lss t (.string ⟨a.toArray⟩) (.string ⟨b.toArray⟩) = pure (.bool (ltB a b)) := by
  simp [binOp, Op.stringOp, toList_S, bytesLess_eq, ltB]
@[go_sem high] theorem leq_S (t : TypeId) (a b : Str) : binOp .leq t (.string ⟨a.toArray⟩) (.string ⟨b.toArray⟩) = pure (.bool (leB a b)) := by
  have : (decide (a < b) || a == b) = leB a b := by
    unfold leB
    rw [Bool.eq_iff_iff]
    simp only [Bool.or_eq_true, decide_eq_true_eq, beq_iff_eq]
    constructor
    · rintro (h | rfl)
      · exact sle_iff.2 (slt_asymm h)
      · exact sle_iff.2 (slt_irrefl _)
    · intro h
      by_cases e : a = b
      · exact .inr e
      · exact .inl (slt_of_le_ne h e)
  simp [binOp, Op.stringOp, toList_S, bytesLess_eq, this]
section
variable {α : Type} (key : α → Str)
def Rise (l : List α) : Prop := l.Pairwise fun a b => key a < key b
def posOf (l : List α) (k : Str) : Nat := (l.takeWhile fun x => ltB (key x) k).length
variable {key}
theorem Rise.at_lt {l : List α} (h : Rise key l) {i j : Nat} (hij : i < j) {x y : α} (hx : l[i]? = some x) (hy : l[j]? = some y) : key x < key y := by
  obtain ⟨hi, rfl⟩ := List.getElem?_eq_some_iff.1 hx
  obtain ⟨hj, rfl⟩ := List.getElem?_eq_some_iff.1 hy
  exact List.pairwise_iff_getElem.1 h i j hi hj hij
theorem posOf_le (l : List α) (k : Str) : posOf key l k ≤ l.length := by
  unfold posOf
  induction l with
  | nil => simp
  | cons x l ih =>
    rw [List.takeWhile_cons]
    split
    · simp; exact ih
    · simp
theorem posOf_of {l : List α} {k : Str} {i : Nat} (hi : i ≤ l.length) (h1 : ∀ j x, j < i → l[j]? = some x → key x < k) (h2 : ∀ x, l[i]? = some x → ¬ key x < k) : posOf key l k = i := by
  unfold posOf
  induction l generalizing i with
  | nil => simp at hi; simp [hi]
  | cons x l ih =>
    rw [List.takeWhile_cons]
    cases i with
    | zero =>
      have : ltB (key x) k = false := decide_eq_false (h2 x rfl)
      simp [this]
    | succ i =>
      have : ltB (key x) k = true := decide_eq_true (h1 0 x (by omega) rfl)
      simp only [this, if_true, List.length_cons]
      rw [ih (by simpa using hi) (fun j y hj hy => h1 (j + 1) y (by omega) (by simpa using hy)) (fun y hy => h2 y (by simpa using hy))]
end
def hasAt {α : Type} (key : α → Str) (l : List α) (k : Str) : Bool := match l[posOf key l k]? with | some x => decide (key x = k) | none => false
section
variable {α : Type} (key : α → Str)
def putL (f : α) : List α → List α
  | [] => [f]
  | x :: l => if leB (key f) (key x) then f :: (x :: l).filter (fun y => decide (key y ≠ key f)) else x :: putL f l
def getL (k : Str) (l : List α) : Option α := l.find? fun y => decide (key y = k)
variable {key}
theorem posOf_cons_lt {x : α} {l : List α} {k : Str} (h : key x < k) : posOf key (x :: l) k = posOf key l k + 1 := by
  unfold posOf
  rw [List.takeWhile_cons, if_pos (show ltB (key x) k = true from decide_eq_true h)]
  rfl
theorem posOf_cons_ge {x : α} {l : List α} {k : Str} (h : ¬ key x < k) : posOf key (x :: l) k = 0 := by
  unfold posOf
  rw [List.takeWhile_cons, if_neg (by show ¬ ltB (key x) k = true; rw [show ltB (key x) k = false from decide_eq_false h]; simp)]
  rfl
theorem hasAt_cons_lt {x : α} {l : List α} {k : Str} (h : key x < k) : hasAt key (x :: l) k = hasAt key l k := by
  unfold hasAt; rw [posOf_cons_lt h, List.getElem?_cons_succ]
theorem hasAt_cons_ge {x : α} {l : List α} {k : Str} (h : ¬ key x < k) : hasAt key (x :: l) k = decide (key x = k) := by
  unfold hasAt; rw [posOf_cons_ge h]; rfl
theorem Rise.tail {x : α} {l : List α} (h : Rise key (x :: l)) : Rise key l := (List.pairwise_cons.1 h).2
theorem Rise.head {x : α} {l : List α} (h : Rise key (x :: l)) : ∀ y ∈ l, key x < key y := (List.pairwise_cons.1 h).1
theorem filter_above {l : List α} {k : Str} (h : ∀ y ∈ l, k < key y) : l.filter (fun y => decide (key y ≠ k)) = l := by
  rw [List.filter_eq_self]
  exact fun y hy => decide_eq_true (slt_ne (h y hy)).symm
theorem getL_at {l : List α} (h : Rise key l) (k : Str) : getL key k l = if hasAt key l k then l[posOf key l k]? else none := by
  induction l with
  | nil => simp [getL, hasAt]
  | cons x l ih =>
    by_cases hx : key x < k
    · rw [hasAt_cons_lt hx, posOf_cons_lt hx, List.getElem?_cons_succ, ← ih h.tail]
      unfold getL
      rw [List.find?_cons_of_neg (by simpa using slt_ne hx)]
    · rw [hasAt_cons_ge hx, posOf_cons_ge hx]
      by_cases e : key x = k
      · simp [getL, e]
      · have hk : k < key x := by
          by_cases hl : k < key x
          · exact hl
          · exact absurd (seq_of hx hl) e
        have : getL key k (x :: l) = none := by
          unfold getL
          rw [List.find?_eq_none]
          intro y hy
          rcases List.mem_cons.1 hy with rfl | hy
          · simpa using e
          · have := slt_ne (slt_trans hk (h.head y hy))
            simp [Ne.symm this]
        rw [this]
        simp [e]
theorem putL_at {l : List α} (h : Rise key l) (f : α) : putL key f l = if hasAt key l (key f) then l.set (posOf key l (key f)) f else l.take (posOf key l (key f)) ++ f :: l.drop (posOf key l (key f)) := by
  induction l with
  | nil => simp [putL, hasAt, posOf]
  | cons x l ih =>
    unfold putL
    by_cases hx : key x < key f
    · have : leB (key f) (key x) = false := decide_eq_false (by rw [sle_iff]; exact fun h => h hx)
      rw [this, hasAt_cons_lt hx, posOf_cons_lt hx, ih h.tail]
      simp
      split <;> rfl
    · have : leB (key f) (key x) = true := decide_eq_true (sle_iff.2 hx)
      rw [this, hasAt_cons_ge hx, posOf_cons_ge hx]
      by_cases e : key x = key f
      · simp only [e, decide_true, if_true, List.set_cons_zero, List.filter_cons, ne_eq, not_true, decide_false, Bool.false_eq_true, if_false]
        rw [filter_above (fun y hy => e ▸ h.head y hy)]
      · have hk : key f < key x := by
          by_cases hl : key f < key x
          · exact hl
          · exact absurd (seq_of hx hl) e
        simp only [e, decide_false, Bool.false_eq_true, if_false, if_true, List.take_zero, List.drop_zero, List.nil_append]
        rw [filter_above fun y hy => ?_]
        rcases List.mem_cons.1 hy with rfl | hy
        · exact hk
        · exact slt_trans hk (h.head y hy)
theorem mem_putL {l : List α} {f x : α} (h : x ∈ putL key f l) : x = f ∨ x ∈ l := by
  induction l with
  | nil => simpa [putL] using h
  | cons y l ih =>
    unfold putL at h
    split at h
    · rcases List.mem_cons.1 h with h | h
      · exact .inl h
      · exact .inr (List.mem_filter.1 h).1
    · rcases List.mem_cons.1 h with h | h
      · exact .inr (h ▸ List.mem_cons_self)
      · rcases ih h with h | h
        · exact .inl h
        · exact .inr (List.mem_cons_of_mem _ h)
theorem rise_filter {l : List α} (h : Rise key l) (p : α → Bool) : Rise key (l.filter p) := List.Pairwise.filter p h
theorem rise_putL {l : List α} (h : Rise key l) (f : α) : Rise key (putL key f l) := by
  induction l with
  | nil => simp [putL, Rise]
  | cons x l ih =>
    unfold putL
    split
    · rename_i hle
      refine List.pairwise_cons.2 ⟨fun y hy => ?_, rise_filter h _⟩
      have hy2 := List.mem_filter.1 hy
      have hne : key y ≠ key f := by simpa using hy2.2
      have hfx : key f ≤ key x := leB_true hle
      rcases List.mem_cons.1 hy2.1 with rfl | hy
      · exact slt_of_le_ne hfx hne.symm
      · exact sle_lt_trans hfx (h.head y hy)
    · rename_i hle
      have hle : key x < key f := leB_false (by simpa using hle)
      refine List.pairwise_cons.2 ⟨fun y hy => ?_, ih h.tail⟩
      rcases mem_putL hy with rfl | hy
      · exact hle
      · exact h.head y hy
def riseB (key : α → Str) : List α → Bool
  | [] => true
  | [_] => true
  | x :: y :: l => ltB (key x) (key y) && riseB key (y :: l)
theorem rise_of {l : List α} (h : riseB key l = true) : Rise key l := by
  induction l with
  | nil => simp [Rise]
  | cons x l ih =>
    cases l with
    | nil => simp [Rise]
    | cons y l =>
      simp only [riseB, Bool.and_eq_true] at h
      have hr := ih h.2
      refine List.pairwise_cons.2 ⟨fun z hz => ?_, hr⟩
      have hxy := ltB_true h.1
      rcases List.mem_cons.1 hz with rfl | hz
      · exact hxy
      · exact slt_trans hxy (hr.head z hz)
theorem riseB_iff {l : List α} : riseB key l = true ↔ ∀ i x y, l[i]? = some x → l[i + 1]? = some y → key x < key y := by
  induction l with
  | nil => simp [riseB]
  | cons a l ih =>
    cases l with
    | nil => simp [riseB]
    | cons b l =>
      simp only [riseB, Bool.and_eq_true]
      constructor
      · rintro ⟨h1, h2⟩ i x y hx hy
        cases i with
        | zero =>
          simp at hx hy
          subst hx; subst hy
          exact ltB_true h1
        | succ i => exact ih.1 h2 i x y (by simpa using hx) (by simpa using hy)
      · intro h
        exact ⟨decide_eq_true (h 0 a b rfl rfl), ih.2 fun i x y hx hy => h (i + 1) x y (by simpa using hx) (by simpa using hy)⟩
theorem length_putL (f : α) (l : List α) : (putL key f l).length ≤ l.length + 1 := by
  induction l with
  | nil => simp [putL]
  | cons x l ih =>
    unfold putL
    split
    · simp only [List.length_cons]
      have := List.length_filter_le (fun y => decide (key y ≠ key f)) (x :: l)
      simp only [List.length_cons] at this
      omega
    · simp only [List.length_cons]; omega
end
theorem Compare_c (a b : Str) (w : World) : Calls Tryz.prog 72 #[S a, S b] w fun e w' => e = .returned (.int .i64 (cmpS a b)) ∧ Ext w w' := by
  refine (Tryz.strings_Compare _ _ w).mono ?_
  rintro e w' ⟨rfl, rfl⟩
  exact ⟨rfl, Only.refl _ _⟩
theorem find1_c (f : File) (k : Str) (w : World) : Calls Tryz.prog 71 #[.agg #[S f.1, S f.2], S k] w fun e w' => e = .returned (.int .i64 (cmpS f.1 k)) ∧ Ext w w' := by
  go_enter Tryz.func71, Tryz.ntmps71
  go_wp2_with fail
  refine (Compare_c f.1 k _).mono ?_
  rintro e u ⟨rfl, hu⟩
  go_wp2_with fail
  go_ret
  exact ⟨rfl, ((Only.refl No w).alloc _).then_ext hu⟩
set_option maxRecDepth 100000 in
set_option maxHeartbeats 1000000 in
theorem BsFile_c {w : World} {A : Option Addr} {n c : Nat} {xs : List File} (h : SlR fileF w A n xs) (hn : n ≤ 1000000) (k : Str) (hr : Rise (·.1) xs) :
    Calls Tryz.prog 70 #[.slice A n c, S k, .func (.func 71) #[] #[]] w fun e w' => e = .returned (.tuple #[.int .i64 (posOf (·.1) xs k : Nat), .bool (hasAt (·.1) xs k)]) ∧ Ext w w' := by
  have HR := Lib.hid hr
  clear hr
  go_enter Tryz.func70, Tryz.ntmps70
  go_wp2_with (first | ((first | refine Mix.wpList_guarded rfl ?_ | refine Mix.wp_still (by kernel_rfl) (by kernel_rfl) ?_); (repeat' (first | (refine Mix.lex_quiet0 rfl rfl rfl ?_; intro K hK; go_big_quiet_op; go_big_quiet_on) | (refine Mix.lex_quietG rfl rfl rfl (by with_reducible rfl) rfl rfl ?_; intro K hK; go_big_quiet_op; go_big_quiet_on) | ((first | refine Mix.lex_skipT rfl rfl rfl (by with_reducible rfl) ?_ | refine Mix.lex_skipF rfl rfl rfl (by with_reducible rfl) ?_ | refine Mix.lex_skipU rfl rfl rfl (by with_reducible rfl) ?_); simp only [Act.put, List.setIfInBounds_toArray, List.set_cons_succ, List.set_cons_zero]) | (refine Mix.lex_part rfl rfl rfl rfl (fun hq => ?_) (fun hq => ?_) <;> (fail_if_success (guard_hyp hq :ₛ true = true)) <;> (fail_if_success (guard_hyp hq :ₛ false = false)) <;> first | (exfalso; cases hq; done) | (exfalso; simp only [decide_eq_true_eq, decide_eq_false_iff_not, beq_iff_eq, beq_eq_false_iff_ne, ne_eq, Int.not_lt, Int.not_le] at hq; omega) | simp only [Act.put, List.setIfInBounds_toArray, List.set_cons_succ, List.set_cons_zero]))); all_goals (refine Mix.lex_nil ?_)))
  go_loopw [9, 10] (fun i j wr => ∃ a b : Nat, a ≤ b ∧ b ≤ n ∧ i = .int .i64 a ∧ j = .int .i64 b ∧ (∀ p x, p < a → xs[p]? = some x → x.1 < k) ∧ (∀ p x, b ≤ p → xs[p]? = some x → ¬ x.1 < k) ∧ ∃ ξ : X w No, wr = ξ.v) (fun i j _ => (intOf j - intOf i).toNat)
  case atStart => exact ⟨0, n, Nat.zero_le _, Nat.le_refl _, rfl, rfl, fun p x hp => by omega, fun p x hp hx => (by have := (List.getElem?_eq_some_iff.1 hx).1; have := h.1; omega), X.here _ _, rfl⟩
  case round =>
    obtain ⟨a, b, hab, hbn, rfl, rfl, h1, h2, ξ, rfl⟩ := hrel
    have H1 := Lib.hid h1
    have H2 := Lib.hid h2
    clear h1 h2
    by_cases hlt : a < b
    · obtain ⟨bk, o, x, rfl, hx, c0, c1⟩ := files_get h (k := (a + b) / 2) (by omega)
      have HX := Lib.hid hx
      clear hx
      have hd := cmpS_lt x.1 k
      have HF := Lib.hid (fun w => find1_c x k w)
      obtain ⟨m, hm⟩ : ∃ m, m = cmpS x.1 k := ⟨_, rfl⟩
      rw [← hm] at hd HF
      clear hm
      by_cases hxk : x.1 < k
      · rw [decide_eq_true hxk] at hd
        have HK := Lib.hid hxk
        clear hxk
        go_wp2_with (first | ((first | refine Mix.wpList_guarded rfl ?_ | refine Mix.wp_still (by kernel_rfl) (by kernel_rfl) ?_); (repeat' (first | (refine Mix.lex_quiet0 rfl rfl rfl ?_; intro K hK; go_big_quiet_op; go_big_quiet_on) | (refine Mix.lex_quietG rfl rfl rfl (by with_reducible rfl) rfl rfl ?_; intro K hK; go_big_quiet_op; go_big_quiet_on) | ((first | refine Mix.lex_skipT rfl rfl rfl (by with_reducible rfl) ?_ | refine Mix.lex_skipF rfl rfl rfl (by with_reducible rfl) ?_ | refine Mix.lex_skipU rfl rfl rfl (by with_reducible rfl) ?_); simp only [Act.put, List.setIfInBounds_toArray, List.set_cons_succ, List.set_cons_zero]) | (refine Mix.lex_part rfl rfl rfl rfl (fun hq => ?_) (fun hq => ?_) <;> (fail_if_success (guard_hyp hq :ₛ true = true)) <;> (fail_if_success (guard_hyp hq :ₛ false = false)) <;> first | (exfalso; cases hq; done) | (exfalso; simp only [decide_eq_true_eq, decide_eq_false_iff_not, beq_iff_eq, beq_eq_false_iff_ne, ne_eq, Int.not_lt, Int.not_le] at hq; omega) | simp only [Act.put, List.setIfInBounds_toArray, List.set_cons_succ, List.set_cons_zero]))); all_goals (refine Mix.lex_nil ?_)))
        refine (HF.out _).mono ?_
        rintro e u ⟨rfl, hu⟩
        have U := Lib.hid (ξ.h.then_ext hu)
        clear hu
        go_wp2_with (first | ((first | refine Mix.wpList_guarded rfl ?_ | refine Mix.wp_still (by kernel_rfl) (by kernel_rfl) ?_); (repeat' (first | (refine Mix.lex_quiet0 rfl rfl rfl ?_; intro K hK; go_big_quiet_op; go_big_quiet_on) | (refine Mix.lex_quietG rfl rfl rfl (by with_reducible rfl) rfl rfl ?_; intro K hK; go_big_quiet_op; go_big_quiet_on) | ((first | refine Mix.lex_skipT rfl rfl rfl (by with_reducible rfl) ?_ | refine Mix.lex_skipF rfl rfl rfl (by with_reducible rfl) ?_ | refine Mix.lex_skipU rfl rfl rfl (by with_reducible rfl) ?_); simp only [Act.put, List.setIfInBounds_toArray, List.set_cons_succ, List.set_cons_zero]) | (refine Mix.lex_part rfl rfl rfl rfl (fun hq => ?_) (fun hq => ?_) <;> (fail_if_success (guard_hyp hq :ₛ true = true)) <;> (fail_if_success (guard_hyp hq :ₛ false = false)) <;> first | (exfalso; cases hq; done) | (exfalso; simp only [decide_eq_true_eq, decide_eq_false_iff_not, beq_iff_eq, beq_eq_false_iff_ne, ne_eq, Int.not_lt, Int.not_le] at hq; omega) | simp only [Act.put, List.setIfInBounds_toArray, List.set_cons_succ, List.set_cons_zero]))); all_goals (refine Mix.lex_nil ?_)))
        go_roundw
        case rel =>
          refine ⟨(a + b) / 2 + 1, b, by omega, hbn, by go_num, rfl, fun p y hp hy => ?_, H2.out, ⟨_, U.out⟩, rfl⟩
          by_cases e : p = (a + b) / 2
          · subst e
            rw [HX.out] at hy
            injection hy with hy
            exact hy ▸ HK.out
          · exact slt_trans (HR.out.at_lt (show p < (a + b) / 2 by omega) hy HX.out) HK.out
        case measure => simp [intOf]; omega
      · rw [decide_eq_false hxk] at hd
        have HK := Lib.hid hxk
        clear hxk
        go_wp2_with (first | ((first | refine Mix.wpList_guarded rfl ?_ | refine Mix.wp_still (by kernel_rfl) (by kernel_rfl) ?_); (repeat' (first | (refine Mix.lex_quiet0 rfl rfl rfl ?_; intro K hK; go_big_quiet_op; go_big_quiet_on) | (refine Mix.lex_quietG rfl rfl rfl (by with_reducible rfl) rfl rfl ?_; intro K hK; go_big_quiet_op; go_big_quiet_on) | ((first | refine Mix.lex_skipT rfl rfl rfl (by with_reducible rfl) ?_ | refine Mix.lex_skipF rfl rfl rfl (by with_reducible rfl) ?_ | refine Mix.lex_skipU rfl rfl rfl (by with_reducible rfl) ?_); simp only [Act.put, List.setIfInBounds_toArray, List.set_cons_succ, List.set_cons_zero]) | (refine Mix.lex_part rfl rfl rfl rfl (fun hq => ?_) (fun hq => ?_) <;> (fail_if_success (guard_hyp hq :ₛ true = true)) <;> (fail_if_success (guard_hyp hq :ₛ false = false)) <;> first | (exfalso; cases hq; done) | (exfalso; simp only [decide_eq_true_eq, decide_eq_false_iff_not, beq_iff_eq, beq_eq_false_iff_ne, ne_eq, Int.not_lt, Int.not_le] at hq; omega) | simp only [Act.put, List.setIfInBounds_toArray, List.set_cons_succ, List.set_cons_zero]))); all_goals (refine Mix.lex_nil ?_)))
        refine (HF.out _).mono ?_
        rintro e u ⟨rfl, hu⟩
        have U := Lib.hid (ξ.h.then_ext hu)
        clear hu
        go_wp2_with (first | ((first | refine Mix.wpList_guarded rfl ?_ | refine Mix.wp_still (by kernel_rfl) (by kernel_rfl) ?_); (repeat' (first | (refine Mix.lex_quiet0 rfl rfl rfl ?_; intro K hK; go_big_quiet_op; go_big_quiet_on) | (refine Mix.lex_quietG rfl rfl rfl (by with_reducible rfl) rfl rfl ?_; intro K hK; go_big_quiet_op; go_big_quiet_on) | ((first | refine Mix.lex_skipT rfl rfl rfl (by with_reducible rfl) ?_ | refine Mix.lex_skipF rfl rfl rfl (by with_reducible rfl) ?_ | refine Mix.lex_skipU rfl rfl rfl (by with_reducible rfl) ?_); simp only [Act.put, List.setIfInBounds_toArray, List.set_cons_succ, List.set_cons_zero]) | (refine Mix.lex_part rfl rfl rfl rfl (fun hq => ?_) (fun hq => ?_) <;> (fail_if_success (guard_hyp hq :ₛ true = true)) <;> (fail_if_success (guard_hyp hq :ₛ false = false)) <;> first | (exfalso; cases hq; done) | (exfalso; simp only [decide_eq_true_eq, decide_eq_false_iff_not, beq_iff_eq, beq_eq_false_iff_ne, ne_eq, Int.not_lt, Int.not_le] at hq; omega) | simp only [Act.put, List.setIfInBounds_toArray, List.set_cons_succ, List.set_cons_zero]))); all_goals (refine Mix.lex_nil ?_)))
        go_roundw
        case rel =>
          refine ⟨a, (a + b) / 2, by omega, by omega, rfl, by go_num, H1.out, fun p y hp hy => ?_, ⟨_, U.out⟩, rfl⟩
          by_cases e : p = (a + b) / 2
          · subst e
            rw [HX.out] at hy
            injection hy with hy
            exact hy ▸ HK.out
          · exact fun hl => HK.out (slt_trans (HR.out.at_lt (show (a + b) / 2 < p by omega) HX.out hy) hl)
        case measure => simp [intOf]; omega
    · obtain rfl : a = b := by omega
      have HP : Hid (posOf (·.1) xs k = a) := posOf_of (by rw [h.1]; exact hbn) H1.out (fun x hx => H2.out a x (Nat.le_refl _) hx)
      have HB : Hid (hasAt (·.1) xs k = match xs[a]? with | some x => decide (x.1 = k) | none => false) := by unfold Hid hasAt; rw [HP.out]; cases xs[a]? <;> rfl
      clear H1 H2
      by_cases han : a < n
      · obtain ⟨bk, o, x, rfl, hx, c0, c1⟩ := files_get h han
        have HB' : Hid (hasAt (·.1) xs k = decide (x.1 = k)) := by unfold Hid; rw [HB.out, hx]
        clear hx HB
        have hd := cmpS_eq x.1 k
        have HF := Lib.hid (fun w => find1_c x k w)
        obtain ⟨m, hm⟩ : ∃ m, m = cmpS x.1 k := ⟨_, rfl⟩
        rw [← hm] at hd HF
        obtain ⟨bb, hbb⟩ : ∃ bb, bb = decide (x.1 = k) := ⟨_, rfl⟩
        rw [← hbb] at hd HB'
        clear hm hbb
        have hk : decide ((a : Int) < (n : Int)) = true := by simp; omega
        go_upto_region 8 with fail
        refine Mix.wp_plain [11] (Cl w No) (Cl.of ξ.h) ?_
        (repeat' (first | (refine Mix.lex_quiet0 rfl rfl rfl ?_; intro K hK; go_big_quiet_op; go_big_quiet_on) | (refine Mix.lex_quietG rfl rfl rfl (by with_reducible rfl) rfl rfl ?_; intro K hK; go_big_quiet_op; go_big_quiet_on) | ((first | refine Mix.lex_skipT rfl rfl rfl (by with_reducible rfl) ?_ | refine Mix.lex_skipF rfl rfl rfl (by with_reducible rfl) ?_ | refine Mix.lex_skipU rfl rfl rfl (by with_reducible rfl) ?_); simp only [Act.put, List.setIfInBounds_toArray, List.set_cons_succ, List.set_cons_zero]) | (refine Mix.lex_part rfl rfl rfl rfl (fun hq => ?_) (fun hq => ?_) <;> (fail_if_success (guard_hyp hq :ₛ true = true)) <;> (fail_if_success (guard_hyp hq :ₛ false = false)) <;> first | (exfalso; cases hq; done) | (exfalso; simp only [decide_eq_true_eq, decide_eq_false_iff_not, beq_iff_eq, beq_eq_false_iff_ne, ne_eq, Int.not_lt, Int.not_le] at hq; omega) | simp only [Act.put, List.setIfInBounds_toArray, List.set_cons_succ, List.set_cons_zero])))
        ((first | refine Mix.lex_goes0 rfl rfl ?_ | refine Mix.lex_goesG rfl rfl rfl (by with_reducible rfl) rfl ?_); intro K hK; go_simp)
        refine (HF.out _).mono ?_
        rintro e u ⟨rfl, hu⟩
        have U := Lib.hid (ξ.h.then_ext hu)
        refine ⟨_, rfl, hK _ _ (fun _ => Cl.of U.out) ?_⟩
        clear hK K hu
        simp only [Act.put, List.setIfInBounds_toArray, List.set_cons_succ, List.set_cons_zero]
        (repeat' (first | (refine Mix.lex_quiet0 rfl rfl rfl ?_; intro K hK; go_big_quiet_op; go_big_quiet_on) | (refine Mix.lex_quietG rfl rfl rfl (by with_reducible rfl) rfl rfl ?_; intro K hK; go_big_quiet_op; go_big_quiet_on) | ((first | refine Mix.lex_skipT rfl rfl rfl (by with_reducible rfl) ?_ | refine Mix.lex_skipF rfl rfl rfl (by with_reducible rfl) ?_ | refine Mix.lex_skipU rfl rfl rfl (by with_reducible rfl) ?_); simp only [Act.put, List.setIfInBounds_toArray, List.set_cons_succ, List.set_cons_zero]) | (refine Mix.lex_part rfl rfl rfl rfl (fun hq => ?_) (fun hq => ?_) <;> (fail_if_success (guard_hyp hq :ₛ true = true)) <;> (fail_if_success (guard_hyp hq :ₛ false = false)) <;> first | (exfalso; cases hq; done) | (exfalso; simp only [decide_eq_true_eq, decide_eq_false_iff_not, beq_iff_eq, beq_eq_false_iff_ne, ne_eq, Int.not_lt, Int.not_le] at hq; omega) | simp only [Act.put, List.setIfInBounds_toArray, List.set_cons_succ, List.set_cons_zero])))
        refine Mix.lex_nil ?_
        go_wp2_with (first | ((first | refine Mix.wpList_guarded rfl ?_ | refine Mix.wp_still (by kernel_rfl) (by kernel_rfl) ?_); (repeat' (first | (refine Mix.lex_quiet0 rfl rfl rfl ?_; intro K hK; go_big_quiet_op; go_big_quiet_on) | (refine Mix.lex_quietG rfl rfl rfl (by with_reducible rfl) rfl rfl ?_; intro K hK; go_big_quiet_op; go_big_quiet_on) | ((first | refine Mix.lex_skipT rfl rfl rfl (by with_reducible rfl) ?_ | refine Mix.lex_skipF rfl rfl rfl (by with_reducible rfl) ?_ | refine Mix.lex_skipU rfl rfl rfl (by with_reducible rfl) ?_); simp only [Act.put, List.setIfInBounds_toArray, List.set_cons_succ, List.set_cons_zero]) | (refine Mix.lex_part rfl rfl rfl rfl (fun hq => ?_) (fun hq => ?_) <;> (fail_if_success (guard_hyp hq :ₛ true = true)) <;> (fail_if_success (guard_hyp hq :ₛ false = false)) <;> first | (exfalso; cases hq; done) | (exfalso; simp only [decide_eq_true_eq, decide_eq_false_iff_not, beq_iff_eq, beq_eq_false_iff_ne, ne_eq, Int.not_lt, Int.not_le] at hq; omega) | simp only [Act.put, List.setIfInBounds_toArray, List.set_cons_succ, List.set_cons_zero]))); all_goals (refine Mix.lex_nil ?_)))
        go_ret2
        exact ⟨(by rw [HP.out, HB'.out]; try rfl), U.out⟩
      · have hk : decide ((a : Int) < (n : Int)) = false := by simp; omega
        have HB' : Hid (hasAt (·.1) xs k = false) := by
          have : xs[a]? = none := List.getElem?_eq_none (by rw [h.1]; omega)
          unfold Hid
          rw [HB.out, this]
        clear HB
        go_wp2_with (first | ((first | refine Mix.wpList_guarded rfl ?_ | refine Mix.wp_still (by kernel_rfl) (by kernel_rfl) ?_); (repeat' (first | (refine Mix.lex_quiet0 rfl rfl rfl ?_; intro K hK; go_big_quiet_op; go_big_quiet_on) | (refine Mix.lex_quietG rfl rfl rfl (by with_reducible rfl) rfl rfl ?_; intro K hK; go_big_quiet_op; go_big_quiet_on) | ((first | refine Mix.lex_skipT rfl rfl rfl (by with_reducible rfl) ?_ | refine Mix.lex_skipF rfl rfl rfl (by with_reducible rfl) ?_ | refine Mix.lex_skipU rfl rfl rfl (by with_reducible rfl) ?_); simp only [Act.put, List.setIfInBounds_toArray, List.set_cons_succ, List.set_cons_zero]) | (refine Mix.lex_part rfl rfl rfl rfl (fun hq => ?_) (fun hq => ?_) <;> (fail_if_success (guard_hyp hq :ₛ true = true)) <;> (fail_if_success (guard_hyp hq :ₛ false = false)) <;> first | (exfalso; cases hq; done) | (exfalso; simp only [decide_eq_true_eq, decide_eq_false_iff_not, beq_iff_eq, beq_eq_false_iff_ne, ne_eq, Int.not_lt, Int.not_le] at hq; omega) | simp only [Act.put, List.setIfInBounds_toArray, List.set_cons_succ, List.set_cons_zero]))); all_goals (refine Mix.lex_nil ?_)))
        all_goals (go_ret2; exact ⟨(by rw [HP.out, HB'.out]; try rfl), ξ.h⟩)
theorem find_c {w : World} {A : Option Addr} {n c : Nat} {xs : List File} (h : SlR fileF w A n xs) (hn : n ≤ 1000000) (k : Str) (hr : Rise (·.1) xs) :
    Calls Tryz.prog 46 #[.slice A n c, S k] w fun e w' => e = .returned (.tuple #[.int .i64 (posOf (·.1) xs k : Nat), .bool (hasAt (·.1) xs k)]) ∧ Ext w w' := by
  go_enter Tryz.func46, Tryz.ntmps46
  go_wp2_with fail
  refine (BsFile_c h hn k hr).mono ?_
  rintro e u ⟨rfl, hu⟩
  go_wp2_with fail
  go_ret2
  exact ⟨rfl, hu⟩
def nameC (c : UInt8) (first : Bool) : Bool := (decide (97 ≤ c.toNat) && decide (c.toNat ≤ 122)) || (!first && ((decide (48 ≤ c.toNat) && decide (c.toNat ≤ 57)) || c.toNat == 46))
def nameFrom : Str → Nat → Bool
  | [], _ => true
  | c :: r, i => nameC c (i == 0) && nameFrom r (i + 1)
def nameB (s : Str) : Bool := decide (1 ≤ s.length) && decide (s.length ≤ 8) && nameFrom s 0
theorem nameFrom_at (l : Str) (k : Nat) (h : k < l.length) : nameFrom (l.drop k) k = (nameC l[k] (k == 0) && nameFrom (l.drop (k + 1)) (k + 1)) := by
  rw [List.drop_eq_getElem_cons h]; rfl
set_option maxHeartbeats 2000000 in
theorem Name_c (s : Str) (w : World) (hs : s.length ≤ 10000) :
    Calls Tryz.prog 36 #[S s] w fun e w' => e = .returned (.bool (nameB s)) ∧ Ext w w' := by
  go_enter Tryz.func36, Tryz.ntmps36
  go_wp2_with fail
  go_loop [7] (fun i => ∃ k : Nat, k ≤ s.length ∧ i = .int .i64 k ∧ nameFrom s 0 = nameFrom (s.drop k) k) (fun i => s.length - (intOf i).toNat)
  case atStart => exact ⟨0, Nat.zero_le _, rfl, rfl⟩
  case round =>
    obtain ⟨k, hk, rfl, hF⟩ := hrel
    have HF := Lib.hid hF
    clear hF
    by_cases hlt : k < s.length
    · have hN := Lib.hid (nameFrom_at s k hlt)
      have HT : Hid (nameC s[k] (k == 0) = true → nameFrom s 0 = nameFrom (s.drop (k + 1)) (k + 1)) := fun h => by rw [HF.out, hN.out, h, Bool.true_and]
      have HB : Hid (nameC s[k] (k == 0) = false → nameB s = false) := fun h => by unfold nameB; rw [HF.out, hN.out, h, Bool.false_and, Bool.and_false]
      clear HF hN
      go_upto_region 5 with fail
      go_cut [34] from 13 to 34 (fun c wx => c = .bool (!nameC s[k] (k == 0)) ∧ wx = w)
      case first =>
        refine Mix.wp_plain [] (fun w' => w' = _) rfl ?_
        (repeat' (first | (refine Mix.lex_quiet0 rfl rfl rfl ?_; intro K hK; go_big_quiet_op; go_big_quiet_on) | (refine Mix.lex_quietG rfl rfl rfl (by with_reducible rfl) rfl rfl ?_; intro K hK; go_big_quiet_op; go_big_quiet_on) | ((first | refine Mix.lex_skipT rfl rfl rfl (by with_reducible rfl) ?_ | refine Mix.lex_skipF rfl rfl rfl (by with_reducible rfl) ?_ | refine Mix.lex_skipU rfl rfl rfl (by with_reducible rfl) ?_); simp only [Act.put, List.setIfInBounds_toArray, List.set_cons_succ, List.set_cons_zero]) | (refine Mix.lex_part rfl rfl rfl rfl (fun hq => ?_) (fun hq => ?_) <;> (fail_if_success (guard_hyp hq :ₛ true = true)) <;> (fail_if_success (guard_hyp hq :ₛ false = false)) <;> first | (exfalso; cases hq; done) | (exfalso; simp only [decide_eq_true_eq, decide_eq_false_iff_not, beq_iff_eq, beq_eq_false_iff_ne, ne_eq, Int.not_lt, Int.not_le] at hq; omega) | simp only [Act.put, List.setIfInBounds_toArray, List.set_cons_succ, List.set_cons_zero])))
        all_goals refine Mix.lex_nil ?_
        all_goals (go_wp2_with fail; go_meet; refine ⟨congrArg Value.bool ?_, rfl⟩)
        all_goals (clear HT HB; simp only [decide_eq_true_eq, decide_eq_false_iff_not, beq_iff_eq, beq_eq_false_iff_ne, ne_eq] at *; unfold nameC; rw [Bool.eq_iff_iff]; simp; omega)
      case rest =>
        obtain ⟨rfl, rfl⟩ := hcut
        cases hc : nameC s[k] (k == 0)
        · go_wp2
          go_ret
          exact ⟨ret_bool (HB.out hc).symm, Only.refl _ _⟩
        · go_wp2
          go_round
          case rel => exact ⟨k + 1, by omega, by go_num, HT.out hc⟩
          case measure => simp [intOf]; omega
    · have hlen : k = s.length := by omega
      have HB : Hid (nameFrom s 0 = true) := by rw [Hid, HF.out, hlen, List.drop_length]; rfl
      clear HF
      clear hlen
      go_wp2_with (refine Mix.wpList_guarded rfl ?_; (repeat' (first | (refine Mix.lex_quiet0 rfl rfl rfl ?_; intro K hK; go_big_quiet_op; go_big_quiet_on) | (refine Mix.lex_quietG rfl rfl rfl (by with_reducible rfl) rfl rfl ?_; intro K hK; go_big_quiet_op; go_big_quiet_on) | ((first | refine Mix.lex_skipT rfl rfl rfl (by with_reducible rfl) ?_ | refine Mix.lex_skipF rfl rfl rfl (by with_reducible rfl) ?_ | refine Mix.lex_skipU rfl rfl rfl (by with_reducible rfl) ?_); simp only [Act.put, List.setIfInBounds_toArray, List.set_cons_succ, List.set_cons_zero]) | (refine Mix.lex_part rfl rfl rfl rfl (fun hq => ?_) (fun hq => ?_) <;> (fail_if_success (guard_hyp hq :ₛ true = true)) <;> (fail_if_success (guard_hyp hq :ₛ false = false)) <;> first | (exfalso; cases hq; done) | (exfalso; simp only [decide_eq_true_eq, decide_eq_false_iff_not, beq_iff_eq, beq_eq_false_iff_ne, ne_eq, Int.not_lt, Int.not_le] at hq; omega) | simp only [Act.put, List.setIfInBounds_toArray, List.set_cons_succ, List.set_cons_zero]))); all_goals (refine Mix.lex_nil ?_))
      all_goals
        go_ret
        refine ⟨ret_bool ?_, Only.refl _ _⟩
        unfold nameB
        rw [HB.out, Bool.and_true]
        clear HB hlt hk
        revert hq
        cases s with
        | nil => simp
        | cons x l => intro hq; first | (simp at hq; done) | (rw [Bool.eq_iff_iff]; simp; omega)
abbrev fk : File → Str := fun f => f.1
def getT (k : Str) (xs : List File) : Str := ((getL fk k xs).map (·.2)).getD []
def getB (k : Str) (xs : List File) : Bool := (getL fk k xs).isSome
theorem Get_c {w : World} {A : Option Addr} {n c : Nat} {xs : List File} (h : SlR fileF w A n xs) (hn : n ≤ 1000000) (k : Str) (hr : Rise fk xs) :
    Calls Tryz.prog 19 #[.slice A n c, S k] w fun e w' => e = .returned (.tuple #[S (getT k xs), .bool (getB k xs)]) ∧ Ext w w' := by
  have hF := find_c (c := c) h hn k hr
  have hG := getL_at hr k
  have hP := posOf_le (key := fk) xs k
  obtain ⟨b, hb⟩ : ∃ b, b = hasAt fk xs k := ⟨_, rfl⟩
  rw [← hb] at hF hG
  have HB := Lib.hid hb
  clear hb
  cases b with
  | false =>
    have HG : Hid (getL fk k xs = none) := by simpa [Hid] using hG
    clear hG
    go_enter Tryz.func19, Tryz.ntmps19
    go_wp2_with fail
    refine hF.mono ?_
    rintro e u ⟨rfl, hu⟩
    go_wp2_with fail
    go_ret2
    exact ⟨by rw [getT, getB, HG.out]; rfl, hu⟩
  | true =>
    obtain ⟨p, hp⟩ : ∃ p, p = posOf fk xs k := ⟨_, rfl⟩
    rw [← hp] at hF hG hP
    have hlt : p < n := by
      have h1 := HB.out
      unfold hasAt at h1
      rw [← hp] at h1
      rw [← h.1]
      by_cases hl : p < xs.length
      · exact hl
      · rw [List.getElem?_eq_none (by omega)] at h1; cases h1
    obtain ⟨bk, o, x, rfl, hx, c0, c1⟩ := files_get h hlt
    have HG : Hid (getL fk k xs = some x) := by rw [Hid, hG, hx]; rfl
    have HP := Lib.hid hp
    clear hG hp hx hP
    go_enter Tryz.func19, Tryz.ntmps19
    go_wp2_with fail
    refine hF.mono ?_
    rintro e u ⟨rfl, hu⟩
    have c1' : u.cell? ⟨bk, o + p * 2 + 1, none⟩ = some (S x.2) := c1 ⟨u, hu⟩
    have U := Lib.hid hu
    clear hF hu c0 c1
    go_wp2_with fail
    go_ret2
    exact ⟨by rw [getT, getB, HG.out]; rfl, U.out⟩
end Go.Proofs.YtnhaekifcieeoaaGreatDoor
