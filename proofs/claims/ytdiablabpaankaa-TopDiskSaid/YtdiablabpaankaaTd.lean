/- The walk of the law: what was flushed is there after any failure. -/
import Derived.Test.YtdiablabpaankaaDs1
namespace Go.Proofs.Ytdiablabpaankaa
open Go Go.RowKit
/-- A disk of four sectors of the call's own, that is not told to fall. -/
structure Up (w v : World) (g : Nat) (r : DkR) (d : Dk) : Prop where
  dk : DiskAt v r d
  g : r.g = g
  f : ∀ b, r.fp b → w.heap.size ≤ b
  x : Ext w v
  n : d.now.length = 4
  fuse : d.fuse = -1
  down : d.down = false
section
variable {w v u : World} {g k : Nat} {r : DkR} {d d' : Dk}
theorem Up.on (h : Up w v g r d) (hx : Ext v u) : Up w u g r d := ⟨h.dk.ext hx, h.g, h.f, h.x.then_ext hx, h.n, h.fuse, h.down⟩
theorem Up.ext (h : Up w v g r d) (ξ : X v r.fp) : Ext w ξ.v := h.x.trans ξ.h fun b hb hf => by have := h.f b hf; omega
theorem Up.keep {F : Nat → Prop} (h : Up w v g r d) (hx : Only F v u) (hF : ∀ b, r.fp b → ¬ F b) (hw : ∀ b, F b → w.heap.size ≤ b) : Up w u g r d :=
  ⟨h.dk.keep hx hF, h.g, h.f, h.x.trans hx fun b hb hf => by have := hw b hf; omega, h.n, h.fuse, h.down⟩
theorem Up.far (h : Up w v g r d) {b : Nat} (hb : b < w.heap.size) (hx : Only r.fp v u) : u.heap[b]? = v.heap[b]? :=
  hx.block b (Nat.lt_of_lt_of_le hb h.x.size) fun hf => by have := h.f b hf; omega
theorem Up.stepped (h : Up w v g r d) : d.stepped = d := by
  obtain ⟨kept, now, wait, fuse, down⟩ := d
  have h1 := h.fuse; have h2 := h.down
  simp only at h1 h2
  subst h1; subst h2
  rfl
theorem Up.falls (h : Up w v g r d) : d.falls = false := by unfold Dk.falls; rw [h.fuse, h.down]; rfl
theorem Up.res {x : Value} {e : Ending} (h : Up w v g r d) (hr : DkRes v r d' x e u) (h1 : d'.now.length = 4) (h2 : d'.fuse = -1) (h3 : d'.down = false) : ∃ r' : DkR, Up w u g r' d' ∧ ∀ b, b < v.heap.size → ¬ r.fp b → ¬ r'.fp b := by
  obtain ⟨_, r', h4, hg, hx, hf⟩ := hr
  have hs := h.x.size
  refine ⟨r', ⟨h4, hg.trans h.g, fun b hb => ?_, h.x.trans hx fun b hb hr => absurd (h.f b hr) (by omega), h1, h2, h3⟩, fun b hb hn hb' => ?_⟩
  · rcases hf b hb with h5 | h5
    · exact h.f b h5
    · omega
  · rcases hf b hb' with h5 | h5
    · exact hn h5
    · omega
theorem Up.wr (h : Up w v g r d) (i : Int) (s : Str) : d.wr i s = (if d.bad i s then d else d.written i.toNat s) ∧ d.wrF i s = if d.bad i s then 1 else 0 := by
  unfold Dk.wr Dk.wrF
  rw [h.falls, h.stepped]
  simp
theorem Up.fl (h : Up w v g r d) : d.fl = d.flushed ∧ d.flF = 0 := by
  unfold Dk.fl Dk.flF
  rw [h.falls, h.stepped]
  exact ⟨rfl, rfl⟩
theorem Up.rd (h : Up w v g r d) (i : Nat) (hi : i < 4) : d.rd i = d.now.getD i [] ∧ d.rdF i = 0 := by
  unfold Dk.rd Dk.rdF
  have h1 : ¬ ((i : Int) < 0 ∨ (d.now.length : Int) ≤ i) := by rw [h.n]; omega
  rw [h.down, if_neg (by simp), if_neg h1, if_neg (by simp), if_neg h1]
  simp
theorem Up.wr_up (h : Up w v g r d) (i : Int) (s : Str) : (d.wr i s).now.length = 4 ∧ (d.wr i s).fuse = -1 ∧ (d.wr i s).down = false := by
  rw [(h.wr i s).1]
  split
  · exact ⟨h.n, h.fuse, h.down⟩
  · exact ⟨by simp [Dk.written, h.n], h.fuse, h.down⟩
theorem Up.Write (h : Up w v g r d) (i : Int) (s : Str) (hs : s.length ≤ 1000000) (hw : d.wait.length ≤ 1000000) :
    Calls Try.prog 11 #[pt g, .int .i64 i, S s] v fun e u => e = .returned (errV (d.wrF i s)) ∧ Only r.fp v u ∧ ∃ r', Up w u g r' (d.wr i s) ∧ ∀ b, b < v.heap.size → ¬ r.fp b → ¬ r'.fp b := by
  have := Write_all h.dk i s hs hw
  rw [h.g] at this
  refine this.mono fun e u hr => ⟨hr.1, hr.2.choose_spec.2.2.1, ?_⟩
  obtain ⟨h1, h2, h3⟩ := h.wr_up i s
  exact h.res hr h1 h2 h3
theorem Up.Flush (h : Up w v g r d) :
    Calls Try.prog 15 #[pt g] v fun e u => e = .returned .nilIface ∧ Only r.fp v u ∧ ∃ r', Up w u g r' d.flushed ∧ ∀ b, b < v.heap.size → ¬ r.fp b → ¬ r'.fp b := by
  have := Flush_all h.dk
  rw [h.g, h.fl.1, h.fl.2] at this
  exact this.mono fun e u hr => ⟨hr.1, hr.2.choose_spec.2.2.1, h.res hr h.n h.fuse h.down⟩
theorem Up.Restart (h : Up w v g r d) (K : Nat) (hK : K < 18446744073709551616) (hw : d.wait.length ≤ 1000000) :
    Calls Try.prog 18 #[pt g, .int .u64 (K : Int)] v fun e u => e = .returned (.tuple #[]) ∧ Only r.fp v u ∧ ∃ r', Up w u g r' (d.restarted K) ∧ ∀ b, b < v.heap.size → ¬ r.fp b → ¬ r'.fp b := by
  have := Restart_c h.dk K hK hw
  rw [h.g] at this
  exact this.mono fun e u hr => ⟨hr.1, hr.2.choose_spec.2.2.1, h.res hr (by simp [Dk.restarted, length_keepFrom, h.dk.fine.len, h.n]) rfl rfl⟩
theorem Up.Read (h : Up w v g r d) (i : Nat) (hi : i < 4) :
    Calls Try.prog 13 #[pt g, .int .i64 (i : Int)] v fun e u => e = .returned (.tuple #[S (d.now.getD i []), .nilIface]) ∧ Ext v u := by
  have := Read_all h.dk (i : Int)
  rw [h.g, (h.rd i hi).1, (h.rd i hi).2] at this
  exact this
theorem Up.Sectors (h : Up w v g r d) : Calls Try.prog 10 #[pt g] v fun e u => e = .returned (.int .i64 4) ∧ Ext v u := by
  have := Sectors_c h.dk
  rw [h.g, h.n] at this
  exact this
end
/-- Four texts in a block of the call's own. -/
structure Four (w v : World) (wb : Nat) (l : List Str) : Prop where
  cs : Cs v wb 53 (l.map S).toArray
  n : l.length = 4
  f : w.heap.size ≤ wb
theorem Four.keep {w v u : World} {wb : Nat} {l : List Str} {F : Nat → Prop} (h : Four w v wb l) (hx : Only F v u) (hF : ¬ F wb) : Four w u wb l := ⟨h.cs.keep hx hF, h.n, h.f⟩
theorem Four.set_ {w v : World} {wb : Nat} {l : List Str} (h : Four w v wb l) (k : Nat) (s : Str) : Four w (v.setCell ⟨wb, k, none⟩ (S s)) wb (l.set k s) := by
  have := h.cs.set_ k (S s)
  rw [List.setIfInBounds_toArray, ← List.map_set] at this
  exact ⟨this, by simp [h.n], h.f⟩
theorem Four.cell {w v : World} {wb : Nat} {l : List Str} (h : Four w v wb l) (k : Nat) (hk : k < 4) : v.cell? ⟨wb, k, none⟩ = some (S (l.getD k [])) := by
  rw [h.cs.cell, List.getElem?_toArray, List.getElem?_map, List.getD_eq_getElem?_getD, List.getElem?_eq_getElem (by rw [h.n]; exact hk)]
  rfl
theorem eq_of_getD {l m : List Str} {n : Nat} (h1 : l.length = n) (h2 : m.length = n) (h : ∀ i, i < n → l.getD i [] = m.getD i []) : l = m := by
  refine List.ext_getElem (by omega) fun i hi hm => ?_
  have := h i (by omega)
  simpa [List.getD_eq_getElem?_getD, hi, hm] using this
theorem getD_set_step {l m : List Str} {j : Nat} (hj : j < l.length) (h : ∀ i, i < j → l.getD i [] = m.getD i []) : ∀ i, i < j + 1 → (l.set j (m.getD j [])).getD i [] = m.getD i [] := fun i hi => by
  by_cases e : i = j
  · subst e; simp [List.getD_eq_getElem?_getD, hj]
  · have := h i (by omega)
    simp only [List.getD_eq_getElem?_getD] at this ⊢
    rw [List.getElem?_set_ne (by omega)]
    exact this
theorem keeps_lt (K k : Nat) (hK : K < 18446744073709551616) (hk : k < 64) : (bits .and .u64 ((K : Int) / 2 ^ k) 1 == 1) = keeps K k := by
  have := keeps_eq K k hK
  rwa [Nat.mod_eq_of_lt hk] at this
theorem keepFrom_snoc (K : Nat) (t : Nat × Str) : ∀ (l : List (Nat × Str)) (kept : List Str) (i : Nat), keepFrom K kept (l ++ [t]) i = if keeps K (i + l.length) then (keepFrom K kept l i).set t.1 t.2 else keepFrom K kept l i
  | [], kept, i => by simp [keepFrom]
  | x :: l, kept, i => by
    rw [List.cons_append, keepFrom, keepFrom_snoc K t l, keepFrom]
    simp [Nat.add_assoc, Nat.add_comm 1]
/-- What is there behind a restart. -/
theorem written_kept (d : Dk) (K k : Nat) (s : Str) : keepFrom K (d.written k s).kept (d.written k s).wait 0 = if keeps K d.wait.length then (keepFrom K d.kept d.wait 0).set k (full s) else keepFrom K d.kept d.wait 0 := by
  simp only [Dk.written, keepFrom_snoc, Nat.zero_add]
end Go.Proofs.Ytdiablabpaankaa
