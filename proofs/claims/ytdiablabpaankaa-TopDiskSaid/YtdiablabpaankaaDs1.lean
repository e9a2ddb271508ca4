/- Two disks beside each other. -/
import Derived.Test.YtdiablabpaankaaSpins
namespace Go.Proofs.Ytdiablabpaankaa
open Go Go.RowKit
section
variable {w v u : World} {r q : DkR} {d d' m m' : Dk}
theorem DkR.fp_lt (h : DiskAt v r d) : ∀ b, r.fp b → b < v.heap.size := fun b hb => by
  rcases hb with h1 | h1 | h1 | h1
  · rw [h1]; exact h.cs.lt
  · rw [h1]; exact lt_own h.kept rfl
  · rw [h1]; exact lt_own h.now rfl
  · exact lt_own h.wait h1
theorem DkR.fp_ltR (h : RefAt v r d) : ∀ b, r.fp b → b < v.heap.size := fun b hb => by
  rcases hb with h1 | h1 | h1 | h1
  · rw [h1]; exact h.cs.lt
  · rw [h1]; exact lt_own h.kept rfl
  · rw [h1]; exact lt_own h.now rfl
  · exact lt_own h.wait h1
theorem Pair.on (h : Pair w v r q d m) (hx : Ext v u) : Pair w u r q d m :=
  ⟨h.d.ext hx, h.m.ext hx, h.ap, h.f1, h.f2, h.ext.then_ext hx⟩
theorem Pair.dk {x : Value} {e : Ending} (h : Pair w v r q d m) (hr : DkRes v r d' x e u) : ∃ r' : DkR, r'.g = r.g ∧ Pair w u r' q d' m := by
  obtain ⟨_, r', h1, hg, hx, hf⟩ := hr
  have hs := h.ext.size
  refine ⟨r', hg, h1, h.m.keep hx fun b hq hr => h.ap b hr hq, fun b hb hq => ?_, fun b hb => ?_, h.f2, h.ext.trans hx fun b hb hr => absurd (h.f1 b hr) (by omega)⟩
  · rcases hf b hb with h2 | h2
    · exact h.ap b h2 hq
    · have := DkR.fp_ltR h.m b hq; omega
  · rcases hf b hb with h2 | h2
    · exact h.f1 b h2
    · omega
theorem Pair.rf {x : Value} {e : Ending} (h : Pair w v r q d m) (hr : RfRes v q m' x e u) : ∃ q' : DkR, q'.g = q.g ∧ Pair w u r q' d m' := by
  obtain ⟨_, q', h1, hg, hx, hf⟩ := hr
  have hs := h.ext.size
  refine ⟨q', hg, h.d.keep hx fun b hr hq => h.ap b hr hq, h1, fun b hb hq => ?_, h.f1, fun b hb => ?_, h.ext.trans hx fun b hb hr => absurd (h.f2 b hr) (by omega)⟩
  · rcases hf b hq with h2 | h2
    · exact h.ap b hb h2
    · have := DkR.fp_lt h.d b hb; omega
  · rcases hf b hb with h2 | h2
    · exact h.f2 b h2
    · omega
end
theorem Dk.stepped_now (d : Dk) : d.stepped.now = d.now := by unfold Dk.stepped; split <;> (try split) <;> rfl
theorem Dk.stepped_wait (d : Dk) : d.stepped.wait = d.wait := by unfold Dk.stepped; split <;> (try split) <;> rfl
theorem Dk.wr_now (d : Dk) (i : Int) (s : Str) : (d.wr i s).now.length = d.now.length := by
  unfold Dk.wr; split
  · rfl
  · split
    · rw [Dk.stepped_now]
    · simp [Dk.written, Dk.stepped_now]
theorem Dk.wr_wait (d : Dk) (i : Int) (s : Str) : (d.wr i s).wait.length ≤ d.wait.length + 1 := by
  unfold Dk.wr; split
  · omega
  · split
    · rw [Dk.stepped_wait]; omega
    · simp [Dk.written, Dk.stepped_wait]
theorem Dk.fl_now (d : Dk) : d.fl.now.length = d.now.length := by
  unfold Dk.fl; split
  · rw [Dk.stepped_now]
  · simp [Dk.flushed, Dk.stepped_now]
theorem Dk.fl_wait (d : Dk) : d.fl.wait.length ≤ d.wait.length := by
  unfold Dk.fl; split
  · rw [Dk.stepped_wait]; omega
  · simp [Dk.flushed]
theorem Dk.re_now {d : Dk} (h : d.Fine) (K : Nat) : (d.restarted K).now.length = d.now.length := by
  simp only [Dk.restarted, length_keepFrom]; exact h.len
/-- The disk's arm. -/
def Dk.armed (d : Dk) (n : Int) : Dk := { d with fuse := max n (-1) }
theorem Dk.Fine.armed {d : Dk} (h : d.Fine) (n : Int) (hn : n ≤ 9223372036854775807) : (d.armed n).Fine := ⟨h.len, h.pos, h.most, by simp only [Dk.armed]; omega, by simp only [Dk.armed]; omega, h.at_⟩
theorem Arm_all {w : World} {r : DkR} {d : Dk} (h : DiskAt w r d) (n : Int) (hn : n ≤ 9223372036854775807) :
    Calls Try.prog 17 #[pt r.g, .int .i64 n] w (DkRes w r (d.armed n) (.tuple #[])) := by
  refine (Arm_c h n hn).mono ?_
  rintro e w' ⟨rfl, h1, hx⟩
  exact ⟨rfl, r, h1, rfl, hx.weak fun b _ e => .inl e, fun b hb => .inl hb⟩
theorem RefAt.armed {w : World} {r : DkR} {d : Dk} (h : RefAt w r d) (n : Int) (hn : n ≤ 9223372036854775807) : RefAt (w.setCell ⟨r.g, 3, none⟩ (.int .i64 (max n (-1)))) r (d.armed n) := by
  have hx : Only (fun b => b = r.g) w (w.setCell ⟨r.g, 3, none⟩ (.int .i64 (max n (-1)))) := (Only.refl (fun b => b = r.g) w).at_ 3 _
  have c := h.cs.set_ 3 (.int .i64 (max n (-1)))
  simp only [List.setIfInBounds_toArray, List.set_cons_succ, List.set_cons_zero] at c
  have hk := h.gk
  have hn' := h.gn
  have hw := h.gw
  exact ⟨c, own_keep h.kept hx (fun g hg e => hk (by simp [Value.ownBlock] at hg; omega)), own_keep h.now hx (fun g hg e => hn' (by simp [Value.ownBlock] at hg; omega)),
      own_keep h.wait hx (fun g hg e => hw (by rw [hg, e])), h.ne, h.fine.armed n hn⟩
theorem RefAt.armedRes {w : World} {r : DkR} {d : Dk} (h : RefAt w r d) (n : Int) (hn : n ≤ 9223372036854775807) : RfRes w r (d.armed n) (.tuple #[]) (.returned (.tuple #[])) (w.setCell ⟨r.g, 3, none⟩ (.int .i64 (max n (-1)))) :=
  ⟨rfl, r, h.armed n hn, rfl, ((Only.refl (fun b => b = r.g) w).at_ 3 _).weak fun b _ e => .inl e, fun b hb => .inl hb⟩
end Go.Proofs.Ytdiablabpaankaa
