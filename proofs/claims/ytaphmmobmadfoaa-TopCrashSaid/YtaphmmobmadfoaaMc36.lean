/- Put together: StO, StP, StQ. -/
import Derived.Test.YtaphmmobmadfoaaMc33
import Derived.Test.YtaphmmobmadfoaaMc34
import Derived.Test.YtaphmmobmadfoaaMc35
/- The plain law of stores, last part; the contracts over it. -/
namespace Go.Proofs.Ytaphmmobmadfoaa
open Go Go.RowKit
theorem chkA_le : ∀ c : List Ch, 0 ≤ chkA c ∧ chkA c ≤ 3 := by
  intro c
  induction c with
  | nil => decide
  | cons a r ih =>
    unfold chkA
    split
    · exact ih
    · unfold chBad
      repeat' split
      all_goals decide
theorem chkA_all {c : List Ch} (h : chkA c = 0) : ∀ x ∈ c, chBad x = 0 := by
  induction c with
  | nil => intro x hx; cases hx
  | cons a r ih =>
    unfold chkA at h
    split at h
    · rename_i ha
      intro x hx
      rcases List.mem_cons.1 hx with e | hx
      · rw [e]; exact ha
      · exact ih h x hx
    · rename_i ha
      exact absurd h ha
/-- **Commit, on a disk that may fall.** -/
theorem com_law {d : Dk} {h : Hd} {l : LogR} {rows c : List Ch} (H : DiskOk d.now h l rows) (ok : d.Ok) (kn : d.kept = d.now) (wt : d.wait = []) (dl : d.fuse = -1 ∨ DullL l d.now) (hb : h.epoch + 1 ≤ 1000000000 ∧ l.first + l.many ≤ 1000000000) :
    ∃ h' l' rows' d' f, comF h l rows c d = (((h', l', rows'), d'), f) ∧ d'.now.length = d.now.length ∧
      ((f ≠ 0 ∧ f ≠ 11 ∧ 0 ≤ f ∧ h' = h ∧ l' = l ∧ rows' = rows ∧ d' = d ∧ rcF rows l.next l.many c = ((rows, l.next), f)) ∨
       (f = 0 ∧ d'.Ok ∧ d'.kept = d'.now ∧ d'.wait = [] ∧ (d.fuse = -1 → d'.fuse = -1) ∧ DiskOk d'.now h' l' rows' ∧ rows' = applyL rows c ∧ rcF rows l.next l.many c = ((rows', l'.next), 0) ∧ l'.many = l.many ∧ (DullL l d.now → DullL l' d'.now) ∧ h'.epoch ≤ h.epoch + 1 ∧ l'.first ≤ l.first + l.many) ∨
       (f = 11 ∧ d.fuse ≠ -1 ∧ ∀ K, ∃ h2 l2 r2, (r2 = rows ∨ r2 = applyL rows c) ∧ DiskOk (keepFrom K d'.kept d'.wait 0) h2 l2 r2 ∧ h2.epoch ≤ h.epoch + 1 ∧ l2.first ≤ l.first + l.many)) := by
  have hl := H.lg
  have hn := H.n
  unfold comF rcF
  by_cases h40 : 40 < c.length
  · rw [if_pos h40, if_pos h40]
    exact ⟨h, l, rows, d, 2, rfl, rfl, .inl ⟨by decide, by decide, by decide, rfl, rfl, rfl, rfl, rfl⟩⟩
  rw [if_neg h40, if_neg h40]
  by_cases hk : chkA c = 0
  · have hk' : ¬ (chkA c ≠ 0) := fun e => e hk
    rw [if_neg hk', if_neg hk']
    have hc := chkA_all hk
    have hmany : l.many = d.now.length - 44 := hl.2.1
    rw [← hmany]
    by_cases hf : manyB (applyL rows c) = true ∨ l.many < c.length + 1
    · rw [if_pos hf, if_pos hf]
      exact ⟨h, l, rows, d, 10, rfl, rfl, .inl ⟨by decide, by decide, by decide, rfl, rfl, rfl, rfl, rfl⟩⟩
    rw [if_neg hf, if_neg hf]
    have hm : manyB (applyL rows c) = false := by
      cases e : manyB (applyL rows c)
      · rfl
      · exact absurd (.inl e) hf
    by_cases hr : l.many - l.next < c.length + 1
    · rw [if_pos hr, if_pos hr]
      obtain ⟨d1, f1, e1, e2, e3⟩ := ck_law H ok kn wt hb
      rcases e3 with ⟨rfl, o1, kn1, wt1, fu1, H1, sc1, nu1⟩ | ⟨rfl, hfu, hK⟩
      · have hkf : ckF h l rows d = (((ckHd h l (allT rows), ⟨0, 44, d.now.length - 44, l.first + l.many, 0⟩), d1), 0) := by
          unfold ckF
          rw [e1, if_pos rfl]
          unfold ckLog
          rw [show (ckHd h l (allT rows)).first = l.first + l.many from rfl, sc1]
        have hdl1 : DullL ⟨0, 44, d.now.length - 44, l.first + l.many, 0⟩ d1.now := fun k s _ k2 k3 x => by
          have := nu1 k s k2 k3
          show lookF s (l.first + l.many + k) ≠ _
          rw [this]
          exact fun e => by cases e
        rw [hkf, if_pos rfl]
        dsimp only
        have H1' := H1 0
        obtain ⟨d2, f2, a1, a2, a3⟩ := add_law (c := c) H1' o1 kn1 wt1 (.inr hdl1) hc hk (by omega) (by show 0 + c.length + 1 ≤ d.now.length - 44; omega) hm
        unfold addS
        rw [a1]
        dsimp only
        rcases a3 with ⟨rfl, o2, kn2, wt2, fu2, H2, dl2⟩ | ⟨rfl, hfu, hK⟩
        · rw [if_pos rfl, if_pos rfl]
          exact ⟨_, _, _, d2, 0, rfl, by rw [a2, e2], .inr (.inl ⟨rfl, o2, kn2, wt2, fun e => fu2 (fu1 e), H2, rfl, by show ((applyL rows c, 0 + c.length + 1), (0 : Int)) = _; rfl, hmany.symm, fun _ => dl2 hdl1, Nat.le_refl _, Nat.le_refl _⟩)⟩
        · rw [if_neg (by decide)]
          refine ⟨_, _, _, d2, 11, rfl, by rw [a2, e2], .inr (.inr ⟨rfl, fun e => hfu (fu1 e), fun K => ?_⟩)⟩
          obtain ⟨l2, r2, k1, k2⟩ := hK K
          exact ⟨_, l2, r2, k1, k2, Nat.le_refl _, by have := k2.lg.2.2.1; rw [this]; exact Nat.le_refl _⟩
      · have hkf : ckF h l rows d = (((h, l), d1), 11) := by
          unfold ckF
          rw [e1, if_neg (show ¬ (11 : Int) = 0 by decide)]
        rw [hkf, if_neg (show ¬ (11 : Int) = 0 by decide)]
        refine ⟨h, l, rows, d1, 11, rfl, e2, .inr (.inr ⟨rfl, hfu, fun K => ?_⟩)⟩
        obtain ⟨h2, l2, k1, b1, b2⟩ := hK K
        exact ⟨h2, l2, rows, .inl rfl, k1, b1, b2⟩
    · rw [if_neg hr, if_neg hr]
      obtain ⟨d2, f2, a1, a2, a3⟩ := add_law (c := c) H ok kn wt dl hc hk (by omega) (by omega) hm
      unfold addS
      rw [a1]
      dsimp only
      rcases a3 with ⟨rfl, o2, kn2, wt2, fu2, H2, dl2⟩ | ⟨rfl, hfu, hK⟩
      · rw [if_pos rfl, if_pos rfl]
        exact ⟨h, _, _, d2, 0, rfl, a2, .inr (.inl ⟨rfl, o2, kn2, wt2, fu2, H2, rfl, rfl, rfl, dl2, Nat.le_succ _, Nat.le_add_right _ _⟩)⟩
      · rw [if_neg (by decide)]
        refine ⟨h, _, _, d2, 11, rfl, a2, .inr (.inr ⟨rfl, hfu, fun K => ?_⟩)⟩
        obtain ⟨l2, r2, k1, k2⟩ := hK K
        exact ⟨h, l2, r2, k1, k2, Nat.le_succ _, by have := k2.lg.2.2.1; have := H.lg.2.2.1; omega⟩
  · rw [if_pos hk, if_pos hk]
    have := chkA_le c
    exact ⟨h, l, rows, d, chkA c, rfl, rfl, .inl ⟨hk, by omega, this.1, rfl, rfl, rfl, rfl, rfl⟩⟩
theorem DiskOk.z {now : List Str} {h : Hd} {l : LogR} {rows : List Ch} (H : DiskOk now h l rows) (g : Nat) : DiskOk now h { l with g := g } rows := ⟨H.wide, H.n, H.lg, H.hd, H.cur, H.old, H.all, H.good, H.num⟩
/-- A store at work: nothing waits, nothing has fallen. -/
structure Live (w0 w : World) (Z : StS) (r : DkR) (d : Dk) : Prop where
  st : StoreAt w Z r.g
  dk : DiskAt w r d
  on : DiskOk d.now Z.h Z.l Z.rows
  ok : d.Ok
  kn : d.kept = d.now
  wt : d.wait = []
  fp : ∀ b, Z.fp r b → w0.heap.size ≤ b
theorem Live.ext {w0 w v : World} {Z : StS} {r : DkR} {d : Dk} (h : Live w0 w Z r d) (hx : Ext w v) : Live w0 v Z r d := ⟨h.st.ext hx, h.dk.ext hx, h.on, h.ok, h.kn, h.wt, h.fp⟩
theorem Live.com {w0 w : World} {Z : StS} {r : DkR} {d : Dk} (h : Live w0 w Z r d) (hm : Ml w0) : ComOk w Z r d :=
  ⟨h.st, h.dk, h.on.wide, h.on.n.1, h.on.n.2, by rw [h.wt]; exact Nat.zero_le _, fun e => by
    obtain ⟨m, hm⟩ := hm
    have k1 := World.block_lt_of_cell? w0 _ hm
    have k2 := h.fp _ e
    dsimp only at k1
    omega, ⟨h.on.lg.1, h.on.lg.2.1, h.on.lg.2.2.2.2.1, h.on.lg.2.2.2.2.2⟩, ⟨h.on.hd.2.2.1, h.on.hd.2.1⟩, h.on.good.1, by have := h.on.small; omega, h.on.small.2⟩
theorem Live.ml {w0 w u : World} {Z : StS} {r : DkR} {d : Dk} (h : Live w0 w Z r d) (hm0 : Ml w0) (hm : Ml w) (hx : Only (Z.fp r) w u) : Ml u := hm.only hx (h.com hm0).nm
/-- What a step of a store comes to, where it may fall. -/
def StepRes (w0 w : World) (Z : StS) (r : DkR) (d : Dk) (w' : World) (Z' : StS) (r' : DkR) (d' : Dk) : Prop :=
  StOn w w' Z r Z' r' d' ∧ (∀ b, Z'.fp r' b → w0.heap.size ≤ b) ∧ d'.now.length = d.now.length
theorem StOn.fp0 {w0 w w' : World} {Z Z' : StS} {r r' : DkR} {d d' : Dk} (h : StOn w w' Z r Z' r' d') (hL : ∀ b, Z.fp r b → w0.heap.size ≤ b) (h0 : w0.heap.size ≤ w.heap.size) : ∀ b, Z'.fp r' b → w0.heap.size ≤ b := fun b hb => by
  rcases h.f b hb with e | e
  · exact hL b e
  · omega
end Go.Proofs.Ytaphmmobmadfoaa

/- A store's actions over what its disk holds. -/
namespace Go.Proofs.Ytaphmmobmadfoaa
open Go Go.RowKit
/-- Open, of a disk that holds a store. -/
theorem Open_live {w : World} (hm : Ml w) {r : DkR} {d : Dk} {h : Hd} {l : LogR} {rows : List Ch} (hd : DiskAt w r d) (on : DiskOk d.now h l rows) (hdn : d.down = false) :
    Calls Try.prog 10 #[pt r.g] w fun e w' => ∃ Z : StS, e = .returned (.tuple #[pt Z.g, .nilIface]) ∧ StoreAt w' Z r.g ∧ Z.h = h ∧ Z.l.z = l.z ∧ Z.rows = rows ∧ Ext w w' ∧ w.heap.size ≤ Z.g ∧ w.heap.size ≤ Z.l.g := by
  obtain ⟨base, out, b1, b2, b3, b4, b5⟩ := on.all
  have hl := on.lg
  have hsc : scanF h.first ((d.now.drop 44).take (d.now.length - 44)) 0 [] [] 0 = (out, l.next) := by
    have := b4
    unfold reg at this
    rw [hl.1, hl.2.1, hl.2.2.1] at this
    exact this
  refine (SOpen_c hm hd hdn on.wide on.n.1 on.n.2 on.sel (by have := on.hd.1; omega) b1 b2 b3 hsc).mono ?_
  rintro e w' ⟨g, lg, A, c, he, hst, k1, k2, hx⟩
  refine ⟨_, he, hst, rfl, ?_, b5.symm, hx, k1, k2⟩
  obtain ⟨g', f', m', s', n'⟩ := l
  dsimp only at hl
  obtain ⟨q1, q2, q3, -⟩ := hl
  subst q1 q2 q3
  rfl
theorem Live.of_open {w0 w w' : World} {r : DkR} {d : Dk} {h : Hd} {l : LogR} {rows : List Ch} {Z : StS} (h0 : w0.heap.size ≤ w.heap.size) (hd : DiskAt w' r d) (hfp : ∀ b, r.fp b → w0.heap.size ≤ b) (on : DiskOk d.now h l rows) (ok : d.Ok) (kn : d.kept = d.now) (wt : d.wait = []) (hst : StoreAt w' Z r.g) (e1 : Z.h = h) (e2 : Z.l.z = l.z) (e3 : Z.rows = rows) (k1 : w.heap.size ≤ Z.g) (k2 : w.heap.size ≤ Z.l.g) : Live w0 w' Z r d :=
  ⟨hst, hd, by
    have := on.z Z.l.g
    rw [← e1, ← e3] at this
    have e : ({ l with g := Z.l.g } : LogR) = Z.l := by
      obtain ⟨g', f', m', s', n'⟩ := l
      obtain ⟨gz, hz, lz, Az, cz, rz⟩ := Z
      obtain ⟨g1, f1, m1, s1, n1⟩ := lz
      simp only [LogR.mk.injEq, true_and] at e2 ⊢
      exact ⟨e2.1.symm, e2.2.1.symm, e2.2.2.1.symm, e2.2.2.2.symm⟩
    rw [e] at this
    exact this, ok, kn, wt, fun b hb => by
    rcases hb with e | e | e
    · exact hfp b e
    · omega
    · omega⟩
theorem z_eq {l m : LogR} (h : l.z = m.z) : l.from_ = m.from_ ∧ l.many = m.many ∧ l.first = m.first ∧ l.next = m.next := by
  obtain ⟨a, b, c, d, e⟩ := l
  obtain ⟨a', b', c', d', e'⟩ := m
  simp only [LogR.mk.injEq, true_and] at h
  exact h
theorem z_on {now : List Str} {h : Hd} {l m : LogR} {rows : List Ch} (H : DiskOk now h m rows) (e : l.z = m.z) : DiskOk now h l rows := by
  have := H.z l.g
  have k : ({ m with g := l.g } : LogR) = l := by
    obtain ⟨a, b, c, d, e1⟩ := l
    obtain ⟨a', b', c', d', e'⟩ := m
    simp only [LogR.mk.injEq, true_and] at e ⊢
    exact ⟨e.1.symm, e.2.1.symm, e.2.2.1.symm, e.2.2.2.symm⟩
  rw [k] at this
  exact this
theorem addF_wait (l : LogR) (c : List Ch) (d : Dk) : (addF l c d).1.2.wait.length ≤ d.wait.length + (if 40 < c.length then 0 else 43) := by
  by_cases h40 : 40 < c.length
  · rw [if_pos h40]
    unfold addF
    rw [if_pos h40]
    exact Nat.le_refl _
  rw [if_neg h40]
  have h1 := layF_wait l c d
  have h2 := fl_wait' (layF l c d).1
  have h3 : (closeF l c.length (layF l c d).1.fl).1.wait.length ≤ (layF l c d).1.fl.wait.length + 1 := wr_wait' _ _ _
  have h4 := fl_wait' (closeF l c.length (layF l c d).1.fl).1
  unfold addF
  repeat' split
  all_goals try dsimp only
  all_goals omega
theorem addS_wait (h : Hd) (l : LogR) (rows c : List Ch) (d : Dk) : (addS h l rows c d).1.2.wait.length ≤ d.wait.length + 43 := by
  have h1 := addF_wait l c d
  unfold addS
  split
  all_goals try dsimp only
  all_goals (split at h1 <;> omega)
theorem comF_wait (h : Hd) (l : LogR) {rows : List Ch} (c : List Ch) (d : Dk) (ht : (allT rows).length ≤ 7140) : (comF h l rows c d).1.2.wait.length ≤ 1000 + d.wait.length := by
  have k0 : (ckL (allT rows)).length ≤ 21 := by rw [ckL_len]; exact chN_le ht
  have k1 := ckD_wait (ckHd h l (allT rows)) (allT rows) d
  have k2 : (ckF h l rows d).1.2.wait.length ≤ d.wait.length + 22 := by
    unfold ckF
    split
    all_goals try dsimp only
    all_goals omega
  have k3 := addS_wait (ckF h l rows d).1.1.1 (ckF h l rows d).1.1.2 rows c (ckF h l rows d).1.2
  have k4 := addS_wait h l rows c d
  unfold comF
  repeat' split
  all_goals try dsimp only
  all_goals omega
/-- Commit, on a store at work. -/
theorem Commit_live {w0 w : World} (hm0 : Ml w0) (hm : Ml w) (h0 : w0.heap.size ≤ w.heap.size) {Z : StS} {r : DkR} {d : Dk} (L : Live w0 w Z r d) (dl : d.fuse = -1 ∨ DullL Z.l d.now) (hb : Z.h.epoch + 1 ≤ 1000000000 ∧ Z.l.first + Z.l.many ≤ 1000000000)
    {A : Option Addr} {n cap : Nat} {c : List Ch} (hc : ∀ v, Only (Z.fp r) w v → SlR chF v A n c) (hn : n ≤ 1000000) (hcb : ∀ x ∈ c, x.1.length ≤ 1000 ∧ x.2.1.length ≤ 1000) :
    Calls Try.prog 12 #[pt Z.g, .slice A n cap] w fun e w' => ∃ f d' Z' r', e = .returned (errV f) ∧ StOn w w' Z r Z' r' d' ∧ d'.now.length = d.now.length ∧
      ((f ≠ 0 ∧ f ≠ 11 ∧ 0 ≤ f ∧ Live w0 w' Z' r' d' ∧ Z'.h = Z.h ∧ Z'.l.z = Z.l.z ∧ Z'.rows = Z.rows ∧ d' = d ∧ rcF Z.rows Z.l.next Z.l.many c = ((Z.rows, Z.l.next), f)) ∨
       (f = 0 ∧ Live w0 w' Z' r' d' ∧ (d.fuse = -1 → d'.fuse = -1) ∧ Z'.rows = applyL Z.rows c ∧ rcF Z.rows Z.l.next Z.l.many c = ((Z'.rows, Z'.l.next), 0) ∧ Z'.l.many = Z.l.many ∧ (DullL Z.l d.now → DullL Z'.l d'.now) ∧ Z'.h.epoch ≤ Z.h.epoch + 1 ∧ Z'.l.first ≤ Z.l.first + Z.l.many) ∨
       (f = 11 ∧ d.fuse ≠ -1 ∧ (∀ b, Z'.fp r' b → w0.heap.size ≤ b) ∧ d'.wait.length ≤ 1000 ∧ ∀ K, ∃ h2 l2 r2, (r2 = Z.rows ∨ r2 = applyL Z.rows c) ∧ DiskOk (keepFrom K d'.kept d'.wait 0) h2 l2 r2 ∧ h2.epoch ≤ Z.h.epoch + 1 ∧ l2.first ≤ Z.l.first + Z.l.many)) := by
  refine (Commit_c hm (L.com hm0) hc hn hcb).mono ?_
  rintro e w' ⟨h', l', rows', d', f, hcom, he, Z', r', hon, e1, e2, e3⟩
  have hfp := StOn.fp0 (d := d) hon L.fp h0
  obtain ⟨h1, l1, rows1, d1, f1, q1, q2, q3⟩ := com_law (d := d) (h := Z.h) (l := Z.l.z) (rows := Z.rows) (c := c) (L.on.z 0) L.ok L.kn L.wt (dl.imp id fun k => k) hb
  rw [show comF Z.h Z.l.z Z.rows c d = _ from q1] at hcom
  injection hcom with hcom k4
  injection hcom with hcom k3
  injection hcom with k1 hcom
  injection hcom with k2 k2'
  subst k1 k2 k2' k3 k4
  refine ⟨f1, d1, Z', r', he, hon, q2, ?_⟩
  rcases q3 with ⟨a1, a2, a3, a4, a5, a6, a7, a8⟩ | ⟨a1, a2, a3, a4, a5, a6, a7, a8, a9, a10, a11, a12⟩ | ⟨a1, a2, a3⟩
  · left
    subst a7
    exact ⟨a1, a2, a3, ⟨by have := hon.st; rw [← hon.g] at this; exact this, hon.dk, by rw [e1, e3, a4, a6]; exact z_on L.on (e2.trans a5), L.ok, L.kn, L.wt, hfp⟩, e1.trans a4, e2.trans a5, e3.trans a6, rfl, a8⟩
  · right; left
    have z := z_eq (l := Z'.l) (m := l1) (by rw [← e2])
    refine ⟨a1, ⟨by have := hon.st; rw [← hon.g] at this; exact this, hon.dk, by rw [e1, e3]; exact z_on a6 (by rw [← e2]), a2, a3, a4, hfp⟩, a5, e3.trans a7, by rw [e3, z.2.2.2]; exact a8, by rw [z.2.1]; exact a9, fun hd => ?_, by rw [e1]; exact a11, by rw [z.2.2.1]; exact a12⟩
    have := a10 hd
    unfold DullL at this ⊢
    rw [z.1, z.2.1, z.2.2.1, z.2.2.2]
    exact this
  · right; right
    refine ⟨a1, a2, hfp, ?_, a3⟩
    have k1 := comF_wait Z.h Z.l.z c d L.on.small.2
    rw [q1, L.wt] at k1
    exact k1
end Go.Proofs.Ytaphmmobmadfoaa

/- Checkpoint over what the disk holds; a fresh store. -/
namespace Go.Proofs.Ytaphmmobmadfoaa
open Go Go.RowKit
/-- Checkpoint, on a store at work. -/
theorem Ckpt_live {w0 w : World} (hm0 : Ml w0) (hm : Ml w) (h0 : w0.heap.size ≤ w.heap.size) {Z : StS} {r : DkR} {d : Dk} (L : Live w0 w Z r d) (hb : Z.h.epoch + 1 ≤ 1000000000 ∧ Z.l.first + Z.l.many ≤ 1000000000) :
    Calls Try.prog 14 #[pt Z.g] w fun e w' => ∃ f d' Z' r', e = .returned (errV f) ∧ StOn w w' Z r Z' r' d' ∧ d'.now.length = d.now.length ∧
      ((f = 0 ∧ Live w0 w' Z' r' d' ∧ (d.fuse = -1 → d'.fuse = -1) ∧ Z'.rows = Z.rows ∧ Z'.l.next = 0 ∧ Z'.l.many = Z.l.many ∧ DullL Z'.l d'.now ∧ Z'.h.epoch = Z.h.epoch + 1 ∧ Z'.l.first = Z.l.first + Z.l.many) ∨
       (f = 11 ∧ d.fuse ≠ -1 ∧ (∀ b, Z'.fp r' b → w0.heap.size ≤ b) ∧ d'.wait.length ≤ 1000 ∧ ∀ K, ∃ h2 l2, DiskOk (keepFrom K d'.kept d'.wait 0) h2 l2 Z.rows ∧ h2.epoch ≤ Z.h.epoch + 1 ∧ l2.first ≤ Z.l.first + Z.l.many)) := by
  have hc := L.com hm0
  refine (Ckpt_c hm L.st L.dk hc.wide hc.n1 hc.n2 hc.wt (fun e => hc.nm (.inl e)) ⟨hc.l1.1, hc.l1.2.1, hc.l1.2.2.1⟩ hc.hs (fun x hx => by
    have k3 := chBad_key (hc.good.ok x hx)
    have k4 := chBad_val (hc.good.ok x hx)
    omega) hc.rn hc.rt).mono ?_
  rintro e w' ⟨d', f, hck, he, Z', r', hon, hrows, hif⟩
  have hfp := StOn.fp0 (d := d) hon L.fp h0
  obtain ⟨d1, f1, e1, e2, e3⟩ := ck_law L.on L.ok L.kn L.wt hb
  rw [e1] at hck
  injection hck with k1 k2
  subst k1 k2
  refine ⟨f1, d1, Z', r', he, hon, e2, ?_⟩
  rcases e3 with ⟨rfl, o1, kn1, wt1, fu1, H1, sc1, nu1⟩ | ⟨rfl, hfu, hK⟩
  · left
    rw [if_pos rfl] at hif
    obtain ⟨hh, lg, hl⟩ := hif
    rw [sc1] at hl
    have hmany := L.on.lg.2.1
    refine ⟨rfl, ⟨by have := hon.st; rw [← hon.g] at this; exact this, hon.dk, by rw [hh, hl, hrows]; exact H1 lg, o1, kn1, wt1, hfp⟩, fu1, hrows, by rw [hl], by rw [hl]; exact hmany.symm, ?_, by rw [hh]; rfl, by rw [hl]⟩
    rw [hl]
    intro k s _ h2 h3 x
    have := nu1 k s h2 h3
    show lookF s (Z.l.first + Z.l.many + k) ≠ _
    rw [this]
    exact fun e => by cases e
  · right
    have k1 := ckD_wait (ckHd Z.h Z.l (allT Z.rows)) (allT Z.rows) d
    have k0 : (ckL (allT Z.rows)).length ≤ 21 := by rw [ckL_len]; exact chN_le L.on.small.2
    rw [e1, L.wt] at k1
    have k1 : d1.wait.length ≤ 0 + (ckL (allT Z.rows)).length + 1 := k1
    exact ⟨rfl, hfu, hfp, by omega, hK⟩
abbrev lg0 (N : Nat) : LogR := ⟨0, 44, N - 44, 1, 0⟩
theorem fmt_at {N i : Nat} (hi : i < N) : (fmtD N).now[i]? = some (if i = 1 then full (hdT hd0) else full []) := by
  show ((List.replicate N (full [])).set 1 (full (hdT hd0)))[i]? = _
  by_cases e : i = 1
  · subst e
    rw [List.getElem?_set_self (by simpa using hi), if_pos rfl]
  · rw [List.getElem?_set_ne (by omega), if_neg e]
    simp [hi]
theorem fmt_len (N : Nat) : (fmtD N).now.length = N := by simp [fmtD]
theorem fmt_ok {N : Nat} (h1 : 50 ≤ N) (h2 : N ≤ 120) : DiskOk (fmtD N).now hd0 (lg0 N) [] := by
  have hw : ∀ s ∈ (fmtD N).now, s.length = 340 := set_wide (fun s hs => by rw [List.eq_of_mem_replicate hs]; exact length_full [] (by simp)) (length_full _ (by rw [hdT_len]; omega))
  refine ⟨hw, by rw [fmt_len]; exact ⟨h1, h2⟩, ⟨rfl, by rw [fmt_len], rfl, Nat.le_refl _, by (show 1 ≤ 1000000000; decide), Nat.zero_le _⟩, by decide, ?_, ?_, ⟨[], [], ⟨List.Pairwise.nil, fun x hx => (by cases hx), fun x hx => (by cases hx)⟩, by simp, ?_, ?_, rfl⟩, ⟨⟨List.Pairwise.nil, fun x hx => (by cases hx), fun x hx => (by cases hx)⟩, rfl⟩, fun k s hk hx => ?_⟩
  · show hdOf ((fmtD N).now.getD 1 []) = hd0
    rw [List.getD_eq_getElem?_getD, fmt_at (by omega)]
    exact hdOf_text (by decide) (by decide) (by decide) (by decide)
  · show (hdOf ((fmtD N).now.getD 0 [])).epoch < 1
    rw [List.getD_eq_getElem?_getD, fmt_at (by omega)]
    show (hdOf (full [])).epoch < 1
    rw [hdOf_zero]
    decide
  · show (catT (fmtD N).now 0 21).take 0 = []
    rfl
  · refine scan_zeros 1 _ 0 [] [] 0 fun s hs => ?_
    obtain ⟨k, hk⟩ := List.getElem?_of_mem hs
    have hk2 : k < (lg0 N).many := by
      have := (List.getElem?_eq_some_iff.1 hk).1
      rw [List.length_take] at this
      omega
    rw [reg_get hk2] at hk
    have hk3 : k < N - 44 := hk2
    rw [show (lg0 N).from_ + k = 44 + k from rfl, fmt_at (by omega), if_neg (by omega)] at hk
    injection hk with hk
    exact hk.symm
  · have hk3 : k < N - 44 := hk
    rw [fmt_at (by omega), if_neg (by omega)] at hx
    injection hx with hx
    rw [← hx]
    exact NumP.zero _
theorem fmt_dull {N : Nat} (h1 : 50 ≤ N) : DullL (lg0 N) (fmtD N).now := fun k s _ h3 hx x => by
  have h3 : k < N - 44 := h3
  have hx : (fmtD N).now[44 + k]? = some s := hx
  rw [fmt_at (by omega), if_neg (by omega)] at hx
  injection hx with hx
  rw [← hx, lookF_zero]
  exact fun e => by cases e
theorem fmt_good (N : Nat) : (fmtD N).Ok := ⟨rfl, by show (-1:Int) ≤ -1; decide, set_wide (fun s hs => by rw [List.eq_of_mem_replicate hs]; exact length_full [] (by simp)) (length_full _ (by rw [hdT_len]; omega))⟩
/-- A store on a fresh disk. -/
def FreshSt (w w' : World) (N : Nat) (Z : StS) (r : DkR) : Prop := Live w w' Z r (fmtD N) ∧ Z.h = hd0 ∧ Z.l.z = lg0 N ∧ Z.rows = [] ∧ Ext w w'
set_option maxRecDepth 100000 in
theorem Stored_c {w : World} (hm : Ml w) (N : Nat) (h1 : 50 ≤ N) (h2 : N ≤ 120) :
    Calls Try.prog 19 #[.int .i64 N] w fun e w' => ∃ Z r, e = .returned (.tuple #[pt r.g, pt Z.g, .bool true]) ∧ FreshSt w w' N Z r := by
  have HM := Lib.hid hm
  have HN := Lib.hid (New_ok N (by omega) h2 w)
  clear hm
  go_enter Try.func19, Try.ntmps19
  go_wp2_with (first | ((first | refine Mix.wpList_guarded rfl ?_ | refine Mix.wp_still (by kernel_rfl) (by kernel_rfl) ?_); (repeat' (first | (refine Mix.lex_quiet0 rfl rfl rfl ?_; intro K hK; go_big_quiet_op; go_big_quiet_on) | (refine Mix.lex_quietG rfl rfl rfl (by with_reducible rfl) rfl rfl ?_; intro K hK; go_big_quiet_op; go_big_quiet_on) | ((first | refine Mix.lex_skipT rfl rfl rfl (by with_reducible rfl) ?_ | refine Mix.lex_skipF rfl rfl rfl (by with_reducible rfl) ?_ | refine Mix.lex_skipU rfl rfl rfl (by with_reducible rfl) ?_); simp only [Act.put, List.setIfInBounds_toArray, List.set_cons_succ, List.set_cons_zero]) | (refine Mix.lex_part rfl rfl rfl rfl (fun hq => ?_) (fun hq => ?_) <;> (fail_if_success (guard_hyp hq :ₛ true = true)) <;> (fail_if_success (guard_hyp hq :ₛ false = false)) <;> first | (exfalso; cases hq; done) | (exfalso; simp only [decide_eq_true_eq, decide_eq_false_iff_not, beq_iff_eq, beq_eq_false_iff_ne, ne_eq, Int.not_lt, Int.not_le] at hq; omega) | simp only [Act.put, List.setIfInBounds_toArray, List.set_cons_succ, List.set_cons_zero]))); all_goals (refine Mix.lex_nil ?_)))
  refine HN.out.mono ?_
  rintro e u1 ⟨r, rfl, hd, hu, hfp⟩
  have D1 := Lib.hid hd
  have U1 := Lib.hid hu
  have FP := Lib.hid hfp
  have HF := Lib.hid (Format_ok hd h1 h2)
  clear hd hu hfp HN
  go_wp2_with (first | ((first | refine Mix.wpList_guarded rfl ?_ | refine Mix.wp_still (by kernel_rfl) (by kernel_rfl) ?_); (repeat' (first | (refine Mix.lex_quiet0 rfl rfl rfl ?_; intro K hK; go_big_quiet_op; go_big_quiet_on) | (refine Mix.lex_quietG rfl rfl rfl (by with_reducible rfl) rfl rfl ?_; intro K hK; go_big_quiet_op; go_big_quiet_on) | ((first | refine Mix.lex_skipT rfl rfl rfl (by with_reducible rfl) ?_ | refine Mix.lex_skipF rfl rfl rfl (by with_reducible rfl) ?_ | refine Mix.lex_skipU rfl rfl rfl (by with_reducible rfl) ?_); simp only [Act.put, List.setIfInBounds_toArray, List.set_cons_succ, List.set_cons_zero]) | (refine Mix.lex_part rfl rfl rfl rfl (fun hq => ?_) (fun hq => ?_) <;> (fail_if_success (guard_hyp hq :ₛ true = true)) <;> (fail_if_success (guard_hyp hq :ₛ false = false)) <;> first | (exfalso; cases hq; done) | (exfalso; simp only [decide_eq_true_eq, decide_eq_false_iff_not, beq_iff_eq, beq_eq_false_iff_ne, ne_eq, Int.not_lt, Int.not_le] at hq; omega) | simp only [Act.put, List.setIfInBounds_toArray, List.set_cons_succ, List.set_cons_zero]))); all_goals (refine Mix.lex_nil ?_)))
  refine HF.out.mono ?_
  rintro e u2 ⟨rfl, r2, hd2, hg2, ho2, hf2⟩
  have D2 := Lib.hid hd2
  have X2 : Hid (Ext w u2) := U1.out.trans ho2 fun b hb e => by have := FP.out b e; omega
  have FP2 : Hid (∀ b, r2.fp b → w.heap.size ≤ b) := fun b hb => by
    rcases hf2 b hb with e | e
    · exact FP.out b e
    · have := U1.out.size; omega
  have HO := Lib.hid (Open_live (HM.out.ext X2.out) hd2 (fmt_ok h1 h2) rfl)
  rw [hg2] at HO
  have HG := Lib.hid hg2
  clear hd2 hg2 ho2 hf2 HF D1 FP
  go_wp2_with (first | ((first | refine Mix.wpList_guarded rfl ?_ | refine Mix.wp_still (by kernel_rfl) (by kernel_rfl) ?_); (repeat' (first | (refine Mix.lex_quiet0 rfl rfl rfl ?_; intro K hK; go_big_quiet_op; go_big_quiet_on) | (refine Mix.lex_quietG rfl rfl rfl (by with_reducible rfl) rfl rfl ?_; intro K hK; go_big_quiet_op; go_big_quiet_on) | ((first | refine Mix.lex_skipT rfl rfl rfl (by with_reducible rfl) ?_ | refine Mix.lex_skipF rfl rfl rfl (by with_reducible rfl) ?_ | refine Mix.lex_skipU rfl rfl rfl (by with_reducible rfl) ?_); simp only [Act.put, List.setIfInBounds_toArray, List.set_cons_succ, List.set_cons_zero]) | (refine Mix.lex_part rfl rfl rfl rfl (fun hq => ?_) (fun hq => ?_) <;> (fail_if_success (guard_hyp hq :ₛ true = true)) <;> (fail_if_success (guard_hyp hq :ₛ false = false)) <;> first | (exfalso; cases hq; done) | (exfalso; simp only [decide_eq_true_eq, decide_eq_false_iff_not, beq_iff_eq, beq_eq_false_iff_ne, ne_eq, Int.not_lt, Int.not_le] at hq; omega) | simp only [Act.put, List.setIfInBounds_toArray, List.set_cons_succ, List.set_cons_zero]))); all_goals (refine Mix.lex_nil ?_)))
  refine HO.out.mono ?_
  rintro e u3 ⟨Z, rfl, hst, e1, e2, e3, hx, k1, k2⟩
  have L3 : Hid (Live w u3 Z r2 (fmtD N)) := Live.of_open X2.out.size (D2.out.ext hx) FP2.out (fmt_ok h1 h2) (fmt_good N) rfl rfl (by rw [HG.out]; exact hst) e1 e2 e3 k1 k2
  have X3 := Lib.hid (X2.out.then_ext hx)
  have E1 := Lib.hid e1
  have E2 := Lib.hid e2
  have E3 := Lib.hid e3
  clear hst e1 e2 e3 hx k1 k2 HO
  go_wp2_with (first | ((first | refine Mix.wpList_guarded rfl ?_ | refine Mix.wp_still (by kernel_rfl) (by kernel_rfl) ?_); (repeat' (first | (refine Mix.lex_quiet0 rfl rfl rfl ?_; intro K hK; go_big_quiet_op; go_big_quiet_on) | (refine Mix.lex_quietG rfl rfl rfl (by with_reducible rfl) rfl rfl ?_; intro K hK; go_big_quiet_op; go_big_quiet_on) | ((first | refine Mix.lex_skipT rfl rfl rfl (by with_reducible rfl) ?_ | refine Mix.lex_skipF rfl rfl rfl (by with_reducible rfl) ?_ | refine Mix.lex_skipU rfl rfl rfl (by with_reducible rfl) ?_); simp only [Act.put, List.setIfInBounds_toArray, List.set_cons_succ, List.set_cons_zero]) | (refine Mix.lex_part rfl rfl rfl rfl (fun hq => ?_) (fun hq => ?_) <;> (fail_if_success (guard_hyp hq :ₛ true = true)) <;> (fail_if_success (guard_hyp hq :ₛ false = false)) <;> first | (exfalso; cases hq; done) | (exfalso; simp only [decide_eq_true_eq, decide_eq_false_iff_not, beq_iff_eq, beq_eq_false_iff_ne, ne_eq, Int.not_lt, Int.not_le] at hq; omega) | simp only [Act.put, List.setIfInBounds_toArray, List.set_cons_succ, List.set_cons_zero]))); all_goals (refine Mix.lex_nil ?_)))
  go_ret3
  refine ⟨Z, r2, ?_, L3.out, E1.out, E2.out, E3.out, X3.out⟩
  rw [HG.out]
  rfl
end Go.Proofs.Ytaphmmobmadfoaa
