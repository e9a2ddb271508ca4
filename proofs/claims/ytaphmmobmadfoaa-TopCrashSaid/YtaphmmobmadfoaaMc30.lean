/- Put together: St7. -/
import Derived.Test.YtaphmmobmadfoaaMc29
/- Checkpoint. -/
namespace Go.Proofs.Ytaphmmobmadfoaa
open Go Go.RowKit
attribute [local go_sem] Oper.semAt_some
abbrev spT : TypeId := 31
abbrev erT : TypeId := 27
theorem byte_row (s : Str) (cap : Nat) (w : World) (e : TypeId) (k : Nat) (hk : k < s.length) (z : Nat × Nat) :
    (w.alloc (.cells (bytesRow ⟨s.toArray⟩ cap) e z)).cell? ⟨w.heap.size, k, none⟩ = some (.int .u8 (s[k].toNat : Int)) := by
  have hh : (w.alloc (.cells (bytesRow ⟨s.toArray⟩ cap) e z)).heap[w.heap.size]? = some (.cells (bytesRow ⟨s.toArray⟩ cap) e z) := heap_alloc_new w _
  rw [cell_of_row _ _ _ _ _ _ hh, bytesRow_at _ _ _ (by simpa using hk)]
  simp
/-- The chunks of a text. -/
def ckAt (t : Str) (k : Nat) : Str := (t.drop (340 * k)).take 340
def ckL (t : Str) : List Str := (List.range (chN t.length)).map (ckAt t)
/-- Texts are laid one behind the other. -/
def wrL (p : Nat) : List Str → Dk → Dk × Int
  | [], d => (d, 0)
  | s :: r, d => if d.wrF (p : Int) s = 0 then wrL (p + 1) r (d.wr (p : Int) s) else (d.wr (p : Int) s, d.wrF (p : Int) s)
def ckHd (h : Hd) (l : LogR) (t : Str) : Hd := ⟨h.epoch + 1, 1 - h.side, t.length, l.first + l.many⟩
/-- What Checkpoint does to the disk. -/
def ckD (h' : Hd) (t : Str) (d : Dk) : Dk × Int :=
  if (wrL (2 + h'.side * 21) (ckL t) d).2 ≠ 0 then wrL (2 + h'.side * 21) (ckL t) d
  else if (wrL (2 + h'.side * 21) (ckL t) d).1.flF ≠ 0 then ((wrL (2 + h'.side * 21) (ckL t) d).1.fl, (wrL (2 + h'.side * 21) (ckL t) d).1.flF)
  else if (wrL (2 + h'.side * 21) (ckL t) d).1.fl.wrF ((h'.epoch % 2 : Nat) : Int) (hdT h') ≠ 0 then ((wrL (2 + h'.side * 21) (ckL t) d).1.fl.wr ((h'.epoch % 2 : Nat) : Int) (hdT h'), (wrL (2 + h'.side * 21) (ckL t) d).1.fl.wrF ((h'.epoch % 2 : Nat) : Int) (hdT h'))
  else (((wrL (2 + h'.side * 21) (ckL t) d).1.fl.wr ((h'.epoch % 2 : Nat) : Int) (hdT h')).fl, ((wrL (2 + h'.side * 21) (ckL t) d).1.fl.wr ((h'.epoch % 2 : Nat) : Int) (hdT h')).flF)
theorem stepped_now (d : Dk) : d.stepped.now = d.now := by
  unfold Dk.stepped
  repeat' split
  all_goals rfl
theorem wr_wide {d : Dk} (h : ∀ s ∈ d.now, s.length = 340) (p : Int) {x : Str} (hx : x.length ≤ 340) : ∀ s ∈ (d.wr p x).now, s.length = 340 := by
  unfold Dk.wr
  split
  · exact h
  · split
    · rw [stepped_now]; exact h
    · show ∀ s ∈ d.stepped.now.set _ (full x), _
      rw [stepped_now]
      exact set_wide h (length_full _ hx)
theorem fl_now2 (d : Dk) : d.fl.now = d.now := by
  unfold Dk.fl
  split
  · exact stepped_now d
  · exact stepped_now d
theorem fl_down {d : Dk} (h : d.flF = 0) : d.fl.down = false := by
  unfold Dk.flF at h
  split at h
  · cases h
  · rename_i hf
    unfold Dk.fl
    rw [if_neg hf]
    show d.stepped.down = false
    unfold Dk.falls at hf
    simp only [Bool.or_eq_true, decide_eq_true_eq, not_or, Bool.not_eq_true] at hf
    unfold Dk.stepped
    rw [hf.1, if_neg Bool.false_ne_true, if_neg hf.2]
theorem wrL_now : ∀ (l : List Str) (p : Nat) (d : Dk), (wrL p l d).1.now.length = d.now.length
  | [], _, _ => rfl
  | a :: l, p, d => by
    show (if d.wrF (p : Int) a = 0 then wrL (p + 1) l (d.wr (p : Int) a) else (d.wr (p : Int) a, d.wrF (p : Int) a)).1.now.length = _
    split
    · rw [wrL_now]; exact wr_now' _ _ _
    · exact wr_now' _ _ _
theorem wrL_wide : ∀ (l : List Str) (p : Nat) (d : Dk), (∀ s ∈ l, s.length ≤ 340) → (∀ s ∈ d.now, s.length = 340) → ∀ s ∈ (wrL p l d).1.now, s.length = 340
  | [], _, _, _, h => h
  | a :: l, p, d, hl, h => by
    show ∀ s ∈ (if d.wrF (p : Int) a = 0 then wrL (p + 1) l (d.wr (p : Int) a) else (d.wr (p : Int) a, d.wrF (p : Int) a)).1.now, _
    have h2 := wr_wide h (p : Int) (hl a (by simp))
    split
    · exact wrL_wide l _ _ (fun s hs => hl s (by simp [hs])) h2
    · exact h2
theorem ckL_le (t : Str) : ∀ s ∈ ckL t, s.length ≤ 340 := fun s hs => by
  obtain ⟨k, _, rfl⟩ := List.mem_map.1 hs
  simp [ckAt]
  omega
theorem fp_cs {w : World} {r : DkR} {d : Dk} (h : DiskAt w r d) {b : Nat} (hb : r.fp b) : ∃ cs t, Cs w b t cs ∧ (t = diskT ∨ t = strT ∨ t = turnT) := by
  rcases hb with e | e | e | e
  · subst e; exact ⟨_, _, h.cs, .inl rfl⟩
  · subst e
    obtain ⟨cur, hc⟩ := own_cs h.kept rfl
    exact ⟨_, _, hc, .inr (.inl rfl)⟩
  · subst e
    obtain ⟨cur, hc⟩ := own_cs h.now rfl
    exact ⟨_, _, hc, .inr (.inl rfl)⟩
  · obtain ⟨cur, hc⟩ := own_cs h.wait e
    exact ⟨_, _, hc, .inr (.inr rfl)⟩
theorem keeps_only {F : Nat → Prop} {W W' : World} (h : Only F W W') (hF : ∀ b, F b → ∃ cs t, Cs W b t cs) : KeepsOthers W W' := ⟨h.size, fun k o hk ho => by
  rw [h.block k (Array.getElem?_eq_some_iff.1 hk).1 (fun hf => by
    obtain ⟨cs, t, hc⟩ := hF k hf
    rw [show W.heap[k]? = _ from hc] at hk
    cases hk
    cases ho)]
  exact hk⟩
theorem only_grown {W W' : World} {row : Option Nat} (hg : W.grownBy W' row) : Only (fun b => row = some b) W W' := ⟨hg.os, hg.tape, hg.output, hg.size, fun b hb hn => hg.block b hb fun e => hn e.symm⟩
/-- What the chunks' loop keeps: what 'pre' names is laid. -/
structure CkI (w W : World) (r : DkR) (d : Dk) (q0 b1 b2 g4 b5 b6 Bs Bn sg cap : Nat) (h' : Hd) (t : Str) (pre : List Nat) : Prop where
  dk : ∃ r' d', DkOn w W r r' d' ∧ wrL q0 (pre.map (ckAt t)) d = (d', 0) ∧ d'.wait.length ≤ 500 + pre.length
  c1 : Cs W b1 spT #[pt sg]
  c2 : Cs W b2 erT #[.nilIface]
  c4 : Cs W g4 hdTy h'.cells
  c5 : Cs W b5 3 #[.int .i64 (pre.length : Nat)]
  cs : Cs W Bs 93 #[.slice (some ⟨b6, 0, none⟩) t.length cap]
  cn : Cs W Bn 3 #[.int .i64 340]
  by_ : ∃ fz, W.heap[b6]? = some (.cells (bytesRow ⟨t.toArray⟩ cap) 5 fz)
structure CkX (w W : World) (r : DkR) (d : Dk) (q0 b2 : Nat) (t : Str) (pre : List Nat) : Prop where
  dk : ∃ r' d' f, DkOn w W r r' d' ∧ wrL q0 (pre.map (ckAt t)) d = (d', f) ∧ f ≠ 0 ∧ Cs W b2 erT #[errV f]
theorem wrL_snoc : ∀ (l : List Str) (p : Nat) (s : Str) (d d' : Dk), wrL p l d = (d', 0) → wrL p (l ++ [s]) d = (d'.wr ((p + l.length : Nat) : Int) s, d'.wrF ((p + l.length : Nat) : Int) s)
  | [], p, s, d, d', h => by
    injection h with h1 h2
    subst h1
    show (if d.wrF (p : Int) s = 0 then (d.wr (p : Int) s, 0) else (d.wr (p : Int) s, d.wrF (p : Int) s)) = _
    by_cases hz : d.wrF (p : Int) s = 0
    · rw [if_pos hz]; simp [hz]
    · rw [if_neg hz]; simp
  | a :: l, p, s, d, d', h => by
    show (if d.wrF (p : Int) a = 0 then wrL (p + 1) (l ++ [s]) (d.wr (p : Int) a) else (d.wr (p : Int) a, d.wrF (p : Int) a)) = _
    have h' : (if d.wrF (p : Int) a = 0 then wrL (p + 1) l (d.wr (p : Int) a) else (d.wr (p : Int) a, d.wrF (p : Int) a)) = (d', 0) := h
    by_cases hz : d.wrF (p : Int) a = 0
    · rw [if_pos hz] at h' ⊢
      rw [wrL_snoc l (p + 1) s _ d' h', List.length_cons, show p + 1 + l.length = p + (l.length + 1) by omega]
    · rw [if_neg hz] at h'
      injection h' with _ h2
      exact absurd h2 hz
theorem wrL_more : ∀ (l m : List Str) (p : Nat) (d d' : Dk) (f : Int), wrL p l d = (d', f) → f ≠ 0 → wrL p (l ++ m) d = (d', f)
  | [], m, p, d, d', f, h, hf => by
    injection h with _ h2
    exact absurd h2.symm hf
  | a :: l, m, p, d, d', f, h, hf => by
    show (if d.wrF (p : Int) a = 0 then wrL (p + 1) (l ++ m) (d.wr (p : Int) a) else (d.wr (p : Int) a, d.wrF (p : Int) a)) = _
    have h' : (if d.wrF (p : Int) a = 0 then wrL (p + 1) l (d.wr (p : Int) a) else (d.wr (p : Int) a, d.wrF (p : Int) a)) = (d', f) := h
    by_cases hz : d.wrF (p : Int) a = 0
    · rw [if_pos hz] at h' ⊢
      exact wrL_more l m (p + 1) _ d' f h' hf
    · rw [if_neg hz] at h' ⊢
      exact h'
theorem DkOn.grown {w W W' : World} {r0 r : DkR} {d : Dk} {row : Option Nat} {B : Nat} (h : DkOn w W r0 r d) (hB : w.heap.size ≤ B) (hg : W.grownBy W' row) (hr : ∀ k, row = some k → B ≤ k ∧ ∃ o : Obj, W.heap[k]? = some o ∧ o.isCells = false) : DkOn w W' r0 r d :=
  ⟨h.dk.keep (only_grown hg) (fun b hb e => by
    obtain ⟨cs, t, hc, _⟩ := fp_cs h.dk hb
    obtain ⟨_, o, ho, hn⟩ := hr b e
    rw [show W.heap[b]? = _ from hc] at ho
    cases ho
    cases hn), h.g, h.o.trans (only_grown hg) (fun b hb e => by have := (hr b e).1; omega), h.f⟩
theorem DkOn.box {w W : World} {r0 r : DkR} {d : Dk} (h : DkOn w W r0 r d) {b : Nat} {t : TypeId} {cs : Array Value} (hc : Cs W b t cs) (h1 : diskT ≠ t) (h2 : strT ≠ t) (h3 : turnT ≠ t) (hb : w.heap.size ≤ b) (v : Value) : DkOn w (W.setCell ⟨b, 0, none⟩ v) r0 r d :=
  ⟨h.dk.keep ((Only.refl (fun x => x = b) W).at_ 0 v) (fun x hx e => by subst e; exact fp_ne h.dk hc h1 h2 h3 hx), h.g, h.o.trans ((Only.refl (fun x => x = b) W).at_ 0 v) (fun x hx e => by omega), h.f⟩
theorem Cs.grown {W W' : World} {row : Option Nat} {B g : Nat} {t : TypeId} {cs : Array Value} (h : Cs W g t cs) (hg : W.grownBy W' row) (hr : ∀ k, row = some k → B ≤ k ∧ ∃ o : Obj, W.heap[k]? = some o ∧ o.isCells = false) : Cs W' g t cs :=
  h.keep (only_grown hg) fun e => by
    obtain ⟨_, o, ho, hn⟩ := hr g e
    rw [show W.heap[g]? = _ from h] at ho
    cases ho
    cases hn
theorem CkI.own {w : World} {r : DkR} {d : Dk} {q0 b1 b2 g4 b5 b6 Bs Bn sg cap : Nat} {h' : Hd} {t : Str} {B : Nat} (hB : w.heap.size ≤ B) : OwnFrom B (fun (pre : List Nat) W => CkI w W r d q0 b1 b2 g4 b5 b6 Bs Bn sg cap h' t pre) := fun pre W W' row h hg hr => by
  obtain ⟨⟨r', d', h1, h2⟩, c1, c2, c4, c5, cs, cn, fz, hb⟩ := h
  refine ⟨⟨r', d', h1.grown hB hg hr, h2⟩, c1.grown hg hr, c2.grown hg hr, c4.grown hg hr, c5.grown hg hr, cs.grown hg hr, cn.grown hg hr, fz, ?_⟩
  refine ((only_grown hg).block b6 (Array.getElem?_eq_some_iff.1 hb).1 fun e => ?_).trans hb
  obtain ⟨_, o, ho, hn⟩ := hr b6 e
  rw [hb] at ho
  cases ho
  cases hn
theorem CkX.own {w : World} {r : DkR} {d : Dk} {q0 b2 : Nat} {t : Str} {B : Nat} (hB : w.heap.size ≤ B) (c : Code) : OwnFrom B (fun (pre : List Nat) W => c = .ret ∧ CkX w W r d q0 b2 t pre) := fun pre W W' row h hg hr => by
  obtain ⟨hc, ⟨r', d', f, h1, h2, h3, h4⟩⟩ := h
  exact ⟨hc, ⟨r', d', f, h1.grown hB hg hr, h2, h3, h4.grown hg hr⟩⟩
theorem ck_len (t : Str) (k : Nat) : (ckAt t k).length = min 340 (t.length - 340 * k) := by simp [ckAt]
/-- A chunk's bytes as a string. -/
theorem ck_conv {W : World} {b6 cap : Nat} {t : Str} {fz : Nat × Nat} (hb : W.heap[b6]? = some (.cells (bytesRow ⟨t.toArray⟩ cap) 5 fz)) (k : Nat) : (convert 93 9 (ckV b6 t.length k)).run Try.prog W = .ok (S (ckAt t k)) W := by
  have := run_convert_bytes_back (P := Try.prog) W 93 9 5 ⟨b6, 340 * k, none⟩ (min 340 (t.length - 340 * k)) (ckAt t k) Try.underlying93 Try.underlying5 Try.underlying9 (fun j hj => by
    have hj2 := hj
    rw [ck_len] at hj2
    rw [add_plain_, cell_of_row _ _ _ _ _ _ hb, bytesRow_at _ _ _ (by simp; omega)]
    simp [ckAt])
  rw [ck_len] at this
  exact this
theorem StoreAt.on {w W : World} {Z : StS} {r : DkR} {d : Dk} (h : StoreAt w Z r.g) (hd : DiskAt w r d) (o : Only r.fp w W) : StoreAt W Z r.g :=
  ⟨h.cs.keep o (fp_ne hd h.cs (by decide) (by decide) (by decide)), h.lg.keep o (fp_ne hd h.lg (by decide) (by decide) (by decide)), own_keep h.own o fun g hg e => by
    obtain ⟨cur, hc⟩ := own_cs h.own hg
    exact fp_ne hd hc (by decide) (by decide) (by decide) e⟩
theorem StoreAt.grown {W W' : World} {Z : StS} {dg : Nat} {row : Option Nat} {B : Nat} (h : StoreAt W Z dg) (hg : W.grownBy W' row) (hr : ∀ k, row = some k → B ≤ k ∧ ∃ o : Obj, W.heap[k]? = some o ∧ o.isCells = false) : StoreAt W' Z dg :=
  ⟨h.cs.grown hg hr, Cs.grown h.lg hg hr, own_keep h.own (only_grown hg) fun g hx e => by
    obtain ⟨cur, hc⟩ := own_cs h.own hx
    obtain ⟨_, o, ho, hn⟩ := hr g e
    rw [show W.heap[g]? = _ from hc] at ho
    cases ho
    cases hn⟩
/-- A store and its disk, some steps on. -/
def StS.fp (S : StS) (r : DkR) (b : Nat) : Prop := r.fp b ∨ b = S.g ∨ b = S.l.g
structure StOn (w0 w : World) (S0 : StS) (r0 : DkR) (S : StS) (r : DkR) (d : Dk) : Prop where
  dk : DiskAt w r d
  g : r.g = r0.g
  st : StoreAt w S r0.g
  sg : S.g = S0.g
  o : Only (S0.fp r0) w0 w
  f : ∀ b, S.fp r b → S0.fp r0 b ∨ w0.heap.size ≤ b
theorem StOn.of {w W : World} {Z Z' : StS} {r r' : DkR} {d : Dk} (h : DkOn w W r r' d) (hs : StoreAt W Z' r.g) (hg : Z'.g = Z.g) (hl : Z'.l.g = Z.l.g ∨ w.heap.size ≤ Z'.l.g) : StOn w W Z r Z' r' d :=
  ⟨h.dk, h.g, hs, hg, h.o.weak fun b _ e => .inl e, fun b hb => by
    rcases hb with e | e | e
    · rcases h.f b e with e | e
      · exact .inl (.inl e)
      · exact .inr e
    · exact .inl (.inr (.inl (e.trans hg)))
    · rcases hl with k | k
      · exact .inl (.inr (.inr (e.trans k)))
      · exact .inr (by rw [e]; exact k)⟩
/-- The rule of a range over a function, the activation behind the assignment told as a function of the one ahead. -/
theorem rangeFunc_g {P : Program} {F : Fence} {n : Nat} {α : Type} {g : Operand} {ps : Array Tmp} {assign body : Code} {Q : Exit → Act → World → Prop} {a : Act} {w : World} (G : Array Value → α → Act)
    (hro : F.round = none) (h1 : 1 ≤ n) {gf : Nat} {lb : Array Value} (hg : a.eval g = .func (.func gf) #[] lb) (hFg : F.fn gf) (eg : ∀ args w, (callFunc gf args).run P w = .ok (.enter gf args) w)
    {encs : α → Array Value} {Kp : World → World → Prop} {S Sp : List α → Prop} {N : Nat} {w0 : World} (hseq : SeqStopsK F (n - 1) P gf lb encs Kp S Sp N w0)
    (hKt : ∀ {A B C : World}, Kp A B → Kp B C → Kp A C) (hKb : ∀ (W : World) (l : Nat) (o o' : Obj), w.heap.size ≤ l → W.heap[l]? = some o → o.isCells = false → o.isWalk = false → Kp W (W.putObj l o')) (hb0 : Below w0.heap.size w0 w) (hps : ∀ x, (encs x).size = ps.size)
    (I : List α → World → Prop) (Ix : Code → List α → World → Prop) (hI : OwnFrom w.heap.size I) (hIx : ∀ c, OwnFrom w.heap.size (Ix c)) (h0 : I [] w)
    (hassign : ∀ (l : Nat) (pre : List α) (x : α) (W : World) (K : Act → World → Prop), I pre W → (∀ a' W', KeepsFrom w.heap.size W W' → Kp W W' → I pre W' → a' = G a.tmps x → K a' W') →
      assign.wpIn (F.inRound l) (n - 1 - 1) P (Exit.then K (fun _ _ _ => False)) { tmps := (ps.zip (encs x)).foldl (fun t (p, v) => t.setIfInBounds p v) a.tmps, defers := [] } W)
    (hbody : ∀ (l : Nat) (pre : List α) (x : α) (W : World), I pre W → pre.length < N → body.wpIn (F.inRound l) (n - 1 - 1) P (ownPostG w.heap.size Kp I Ix (pre ++ [x]) W) (G a.tmps x) W)
    (hdone : ∀ (D : Nat) (xs : List α) (W : World), w.heap.size ≤ D → S xs → I xs W → W.heap[D]? = some (.deferred (some [])) → Q .normal { a with defers := { target := .collected D, args := #[] } :: a.defers } W)
    (hstop : ∀ (D : Nat) (c : Code) (pre : List α) (W : World), w.heap.size ≤ D → Sp pre → Ix c pre W → W.heap[D]? = some (.deferred (some [])) → c.wpIn F n P Q { a with defers := { target := .collected D, args := #[] } :: a.defers } W) :
    (Code.rangeFunc g ps assign body).wpIn F n P Q a w :=
  wpIn_rangeFunc_ownH hro h1 hg hFg eg hseq hKt hKb hb0 hps I Ix hI hIx h0 (fun x a' _ => a' = G a.tmps x) (fun x a' => ownFrom_pure _ _) hassign
    (fun l pre x a' W _ _ hi hax hlt => by rw [hax]; exact hbody l pre x W hi hlt) hdone hstop
theorem ret_marked {tm : Array Value} {D b2 : Nat} {W : World} {f : Int} {R : Ending → World → Prop} (hK : W.heap[D]? = some (.deferred (some []))) (h2 : Cs W b2 erT #[errV f]) (ht : tm.getD 2 undef = .pointer (some ⟨b2, 0, none⟩))
    (hR : R (.returned (errV f)) (W.putObj D (.deferred none))) : bodyPostM Fence.wide 4 Try.prog Try.f14 R Exit.ret { tmps := tm, defers := [{ target := .collected D, args := #[] }] } W := by
  refine ⟨by simp, .inl ⟨_, _, rfl, run_takeDeferred hK, ?_⟩⟩
  have r2 : (W.putObj D (.deferred none)).cell? ⟨b2, 0, none⟩ = some (errV f) := cell_kept (h2.cell 0) (grownBy_putObj' _ D (.deferred none)) (fun r e => by cases e; exact ⟨_, hK, rfl⟩)
  refine ⟨errV f, ?_, hR⟩
  have ht' := ht
  simp only [Array.getD_eq_getD_getElem?] at ht'
  simp [results, Try.f14, go_sem, r2, ht']
/-- What Checkpoint comes to. -/
def CkRes (w : World) (Z : StS) (r : DkR) (d : Dk) (h' : Hd) (t : Str) (e : Ending) (w' : World) : Prop :=
  ∃ d' f, ckD h' t d = (d', f) ∧ e = .returned (errV f) ∧
    ∃ Z' r', StOn w w' Z r Z' r' d' ∧ Z'.rows = Z.rows ∧ (if f = 0 then Z'.h = h' ∧ ∃ lg, Z'.l = ⟨lg, 44, d.now.length - 44, Z.l.first + Z.l.many, (scanF (Z.l.first + Z.l.many) ((d'.now.drop 44).take (d.now.length - 44)) 0 [] [] 0).2⟩ else Z'.h = Z.h ∧ Z'.l = Z.l)
theorem ck_fail {w u : World} {Z : StS} {r r2 : DkR} {d d2 : Dk} {h' : Hd} {t : Str} {D b2 : Nat} {f : Int} {tm : Array Value} (hs : StoreAt w Z r.g) (hd : DiskAt w r d) (h : DkOn w u r r2 d2) (hD : w.heap.size ≤ D) (hK : u.heap[D]? = some (.deferred (some []))) (hc : Cs u b2 erT #[.nilIface]) (hb2 : w.heap.size ≤ b2)
    (hf : f ≠ 0) (he : ckD h' t d = (d2, f)) (ht : tm.getD 2 undef = .pointer (some ⟨b2, 0, none⟩)) : bodyPostM Fence.wide 4 Try.prog Try.f14 (CkRes w Z r d h' t) Exit.ret { tmps := tm, defers := [{ target := .collected D, args := #[] }] } (u.setCell ⟨b2, 0, none⟩ (E f)) := by
  have hbox := h.box hc (by decide) (by decide) (by decide) hb2 (E f)
  have hK' := (KeepsOthers.setCell u ⟨b2, 0, none⟩ (E f)).same _ _ hK rfl
  have hg := grownBy_putObj' (u.setCell ⟨b2, 0, none⟩ (E f)) D (.deferred none)
  have hgr : ∀ k, some D = some k → w.heap.size ≤ k ∧ ∃ o : Obj, (u.setCell ⟨b2, 0, none⟩ (E f)).heap[k]? = some o ∧ o.isCells = false := fun k e => by cases e; exact ⟨hD, _, hK', rfl⟩
  refine ret_marked (f := f) hK' (by rw [errV_pos hf]; exact hc.set_ 0 (E f)) ht ⟨d2, f, he, rfl, Z, r2, StOn.of (hbox.grown (Nat.le_refl _) hg hgr) ((hs.on hd hbox.o).grown hg hgr) rfl (.inl rfl), rfl, ?_⟩
  rw [if_neg hf]
  exact ⟨rfl, rfl⟩
set_option maxRecDepth 100000 in
set_option maxHeartbeats 8000000 in
theorem Ckpt_c {w : World} (hm : Ml w) {Z : StS} {r : DkR} {d : Dk} (h : StoreAt w Z r.g) (hd : DiskAt w r d) (hw : ∀ s ∈ d.now, s.length = 340) (h1 : 50 ≤ d.now.length) (h2 : d.now.length ≤ 120) (hwt : d.wait.length ≤ 500) (hnm : ¬ r.fp 0)
    (hl : Z.l.from_ = 44 ∧ Z.l.many = d.now.length - 44 ∧ Z.l.first ≤ 1000000000) (hh : Z.h.side ≤ 1 ∧ Z.h.epoch ≤ 1000000000) (hr : ∀ x ∈ Z.rows, x.1.length ≤ 1000 ∧ x.2.1.length ≤ 1000) (hrn : Z.rows.length ≤ 1000) (ht : (allT Z.rows).length ≤ 7140) :
    Calls Try.prog 14 #[pt Z.g] w (CkRes w Z r d (ckHd Z.h Z.l (allT Z.rows)) (allT Z.rows)) := by
  have HS := Lib.hid h
  have HD := Lib.hid hd
  have HW := Lib.hid hw
  have HM := Lib.hid hm
  have HAll := Lib.hid (fun v (hv : Ext w v) => All_c (c := Z.c) (h.ext hv).sl hrn hr)
  obtain ⟨t, ht0⟩ : ∃ t, t = allT Z.rows := ⟨_, rfl⟩
  rw [← ht0] at ht HAll ⊢
  have HT := Lib.hid ht0
  obtain ⟨h', hh'⟩ : ∃ h', h' = ckHd Z.h Z.l t := ⟨_, rfl⟩
  rw [← hh']
  have HH := Lib.hid hh'
  have HNx : Hid (∀ v, Ext w v → Calls Try.prog 45 #[pt Z.l.g] v fun e u => e = .returned (.int .i64 ((Z.l.first + Z.l.many : Nat) : Int)) ∧ Ext v u) := fun v hv => Next_c (h.lg.ext hv) (by have := hl.2.1; omega) (by have := hl.2.2; omega)
  have HL := Lib.hid hl
  have HHs := Lib.hid hh
  clear h hd hw hm hr ht0 hh' hl hh
  refine (callsIn_wide (n := 4)).1 ?_
  refine callsIn_of_wp_marks Try.func14 rfl trivial ?_ rfl
  simp only [Try.ntmps14, List.size_toArray, List.length_cons, List.length_nil, Nat.reduceAdd, Nat.reduceSub, Array.replicate_succ, Array.replicate_zero, List.push_toArray, List.append_toArray, List.nil_append, List.cons_append]
  refine wpIn_wide.2 ?_
  go_upto_region 1 with fail
  obtain ⟨b1, hb1⟩ : ∃ x, x = w.heap.size := ⟨_, rfl⟩
  obtain ⟨b2, hb2⟩ : ∃ x, x = w.heap.size + 1 := ⟨_, rfl⟩
  obtain ⟨w1, hw1⟩ : ∃ v, v = (w.alloc (.cells #[pt Z.g] spT)).alloc (.cells #[.nilIface] erT) := ⟨_, rfl⟩
  have X1 : Hid (Ext w w1) := by rw [hw1]; exact ((Only.refl No w).alloc _).alloc _
  have B1 : Hid (Cs w1 b1 spT #[pt Z.g]) := by rw [hw1, hb1]; exact (Cs.new _ _ _).alloc _
  have B2 : Hid (Cs w1 b2 erT #[.nilIface]) := by
    rw [hw1, hb2]
    have := Cs.new (w.alloc (.cells #[pt Z.g] spT)) erT #[.nilIface]
    rw [World.size_alloc] at this
    exact this
  have HB : Hid (w.heap.size ≤ b1 ∧ w.heap.size ≤ b2) := by rw [hb1, hb2]; exact ⟨Nat.le_refl _, Nat.le_succ _⟩
  rw [← hw1, ← hb2, ← hb1]
  clear hw1 hb1 hb2
  have q1 : w1.cell? ⟨b1, 0, none⟩ = some (pt Z.g) := B1.out.cell 0
  have s6 : w1.cell? ⟨Z.g, 6, none⟩ = some (.slice Z.A Z.rows.length Z.c) := (HS.out.ext X1.out).cs.cell 6
  go_wp2_with (first | ((first | refine Mix.wpList_guarded rfl ?_ | refine Mix.wp_still (by kernel_rfl) (by kernel_rfl) ?_); (repeat' (first | (refine Mix.lex_quiet0 rfl rfl rfl ?_; intro K hK; go_big_quiet_op; go_big_quiet_on) | (refine Mix.lex_quietG rfl rfl rfl (by with_reducible rfl) rfl rfl ?_; intro K hK; go_big_quiet_op; go_big_quiet_on) | ((first | refine Mix.lex_skipT rfl rfl rfl (by with_reducible rfl) ?_ | refine Mix.lex_skipF rfl rfl rfl (by with_reducible rfl) ?_ | refine Mix.lex_skipU rfl rfl rfl (by with_reducible rfl) ?_); simp only [Act.put, List.setIfInBounds_toArray, List.set_cons_succ, List.set_cons_zero]) | (refine Mix.lex_part rfl rfl rfl rfl (fun hq => ?_) (fun hq => ?_) <;> (fail_if_success (guard_hyp hq :ₛ true = true)) <;> (fail_if_success (guard_hyp hq :ₛ false = false)) <;> first | (exfalso; cases hq; done) | (exfalso; simp only [decide_eq_true_eq, decide_eq_false_iff_not, beq_iff_eq, beq_eq_false_iff_ne, ne_eq, Int.not_lt, Int.not_le] at hq; omega) | simp only [Act.put, List.setIfInBounds_toArray, List.set_cons_succ, List.set_cons_zero]))); all_goals (refine Mix.lex_nil ?_)))
  refine (HAll.out w1 X1.out).mono ?_
  rintro e w2 ⟨rfl, hu⟩
  have X2 := Lib.hid (X1.out.then_ext hu)
  have C1 := Lib.hid (B1.out.keep hu id)
  have C2 := Lib.hid (B2.out.keep hu id)
  clear hu q1 s6 X1 B1 B2
  go_upto_region 2 with fail
  have hep := HHs.out.2
  have hsd := HHs.out.1
  have hHd : Hid (h' = ⟨Z.h.epoch + 1, 1 - Z.h.side, t.length, Z.l.first + Z.l.many⟩) := HH.out
  go_cut [4] from 16 to 5 (fun v u => ∃ g4, v = pt g4 ∧ Cs u g4 hdTy h'.cells ∧ Ext w2 u ∧ w2.heap.size ≤ g4)
  case first =>
    have Q1 : ∀ ξ : X w2 No, ξ.v.cell? ⟨b1, 0, none⟩ = some (pt Z.g) := Cs.x C1.out id 0
    have Q2 : ∀ ξ : X w2 No, ξ.v.cell? ⟨Z.g, 1, none⟩ = some (.int .i64 (Z.h.epoch : Nat)) := Cs.x (HS.out.ext X2.out).cs id 1
    have Q3 : ∀ ξ : X w2 No, ξ.v.cell? ⟨Z.g, 2, none⟩ = some (.int .i64 (Z.h.side : Nat)) := Cs.x (HS.out.ext X2.out).cs id 2
    have Q4 : ∀ ξ : X w2 No, ξ.v.cell? ⟨Z.g, 5, none⟩ = some (pt Z.l.g) := Cs.x (HS.out.ext X2.out).cs id 5
    have HNx2 := HNx.out
    have gsz : t.length ≤ 7140 := ht
    have HS1 : Hid (((1 : Int) - (Z.h.side : Int)) = ((1 - Z.h.side : Nat) : Int)) := by have := HHs.out.1; show _ = _; omega
    have HS2 : Hid (((Z.h.epoch : Int) + 1) = ((Z.h.epoch + 1 : Nat) : Int)) := by show _ = _; omega
    refine Mix.wp_tree 22 [18, 20, 21] (Cl w2 No) rfl (by kernel_rfl) (by kernel_rfl) (Cl.drew_ (X.here w2 No)) ?_
    obtain ⟨μ0, hμ0⟩ : ∃ u, u = w2.drew := ⟨_, rfl⟩
    have xμ : Ext w2 μ0 := by rw [hμ0]; exact (Only.refl No w2).drew
    rw [← hμ0]
    clear hμ0
    (refine Mix.tree_quiet (i := 0) (by kernel_rfl) rfl rfl rfl rfl ?_; intro K hK; go_big_quiet_op; go_big_quiet_on); (refine Mix.tree_quiet (i := 1) (by kernel_rfl) rfl rfl rfl rfl ?_; intro K hK; go_big_quiet_op; go_big_quiet_on); (refine Mix.tree_quiet (i := 2) (by kernel_rfl) rfl rfl rfl rfl ?_; intro K hK; go_big_quiet_op; go_big_quiet_on); (refine Mix.tree_quiet (i := 3) (by kernel_rfl) rfl rfl rfl rfl ?_; intro K hK; go_big_quiet_op; go_big_quiet_on); (refine Mix.tree_quiet (i := 4) (by kernel_rfl) rfl rfl rfl rfl ?_; intro K hK; go_big_quiet_op; go_big_quiet_on); (refine Mix.tree_quiet (i := 5) (by kernel_rfl) rfl rfl rfl rfl ?_; intro K hK; go_big_quiet_op; go_big_quiet_on); (refine Mix.tree_quiet (i := 6) (by kernel_rfl) rfl rfl rfl rfl ?_; intro K hK; go_big_quiet_op; go_big_quiet_on); (refine Mix.tree_quiet (i := 7) (by kernel_rfl) rfl rfl rfl rfl ?_; intro K hK; go_big_quiet_op; go_big_quiet_on); (refine Mix.tree_quiet (i := 8) (by kernel_rfl) rfl rfl rfl rfl ?_; intro K hK; go_big_quiet_op; go_big_quiet_on); (refine Mix.tree_quiet (i := 9) (by kernel_rfl) rfl rfl rfl rfl ?_; intro K hK; go_big_quiet_op; go_big_quiet_on); (refine Mix.tree_quiet (i := 10) (by kernel_rfl) rfl rfl rfl rfl ?_; intro K hK; go_big_quiet_op; go_big_quiet_on); (refine Mix.tree_quiet (i := 11) (by kernel_rfl) rfl rfl rfl rfl ?_; intro K hK; go_big_quiet_op; go_big_quiet_on); (refine Mix.tree_quiet (i := 12) (by kernel_rfl) rfl rfl rfl rfl ?_; intro K hK; go_big_quiet_op; go_big_quiet_on); (refine Mix.tree_quiet (i := 13) (by kernel_rfl) rfl rfl rfl rfl ?_; intro K hK; go_big_quiet_op; go_big_quiet_on); (refine Mix.tree_quiet (i := 14) (by kernel_rfl) rfl rfl rfl rfl ?_; intro K hK; go_big_quiet_op; go_big_quiet_on); (refine Mix.tree_quiet (i := 15) (by kernel_rfl) rfl rfl rfl rfl ?_; intro K hK; go_big_quiet_op; go_big_quiet_on); (refine Mix.tree_quiet (i := 16) (by kernel_rfl) rfl rfl rfl rfl ?_; intro K hK; go_big_quiet_op; go_big_quiet_on); (refine Mix.tree_quiet (i := 17) (by kernel_rfl) rfl rfl rfl rfl ?_; intro K hK; go_big_quiet_op; go_big_quiet_on)
    rw [HS1.out, HS2.out]
    refine Mix.tree_two (i := 18) (j := 20) (by kernel_rfl) (by kernel_rfl) rfl rfl rfl rfl rfl rfl ?_ ?_
    · intro K hK
      go_simp
      refine (HNx2 μ0 (X2.out.then_ext xμ)).mono ?_
      rintro e u3 ⟨rfl, hu⟩
      have x3 := xμ.then_ext hu
      refine ⟨_, rfl, hK _ _ (Cl.of x3) ?_⟩
      clear hK K hu
      simp only [Act.put, List.setIfInBounds_toArray, List.set_cons_succ, List.set_cons_zero]
      (refine Mix.tree_quiet (i := 19) (by kernel_rfl) rfl rfl rfl rfl ?_; intro K hK; go_big_quiet_op; go_big_quiet_on)
      (refine Mix.tree_one (i := 20) (by kernel_rfl) (by kernel_rfl) rfl rfl rfl ?_; intro K hK; go_simp)
      obtain ⟨g4, hg4⟩ : ∃ x, x = u3.heap.size := ⟨_, rfl⟩
      obtain ⟨u4, hu4⟩ : ∃ v, v = u3.alloc (.cells #[.int .i64 0, .int .i64 0, .int .i64 0, .int .i64 0] hdTy) := ⟨_, rfl⟩
      have hC4 : Cs u4 g4 hdTy #[.int .i64 0, .int .i64 0, .int .i64 0, .int .i64 0] := by rw [hu4, hg4]; exact Cs.new _ _ _
      have x4 : Ext w2 u4 := by rw [hu4]; exact x3.alloc _
      have hg4w : w2.heap.size ≤ g4 := by rw [hg4]; exact x3.size
      rw [← hu4, ← hg4]
      refine hK _ _ (Cl.of x4) ?_
      clear hK K hu4 hg4
      simp only [Act.put, List.setIfInBounds_toArray, List.set_cons_succ, List.set_cons_zero]
      have y0 := hC4.frozen 0
      have y1 := hC4.frozen 1
      have y2 := hC4.frozen 2
      have y3 := hC4.frozen 3
      have c0 : u4.cell? ⟨g4, 0, none⟩ = some (.int .i64 0) := hC4.cell 0
      have c1 : u4.cell? ⟨g4, 1, none⟩ = some (.int .i64 0) := hC4.cell 1
      have c2 : u4.cell? ⟨g4, 2, none⟩ = some (.int .i64 0) := hC4.cell 2
      have c3 : u4.cell? ⟨g4, 3, none⟩ = some (.int .i64 0) := hC4.cell 3
      (refine Mix.tree_one (i := 21) (by kernel_rfl) (by kernel_rfl) rfl rfl rfl ?_; intro K hK; go_simp)
      have hC5 := head_set hC4 (.int .i64 (Z.h.epoch + 1 : Nat)) (.int .i64 (1 - Z.h.side : Nat)) (.int .i64 (t.length : Nat)) (.int .i64 (Z.l.first + Z.l.many : Nat))
      have x5 := head_ext x4 hg4w (.int .i64 (Z.h.epoch + 1 : Nat)) (.int .i64 (1 - Z.h.side : Nat)) (.int .i64 (t.length : Nat)) (.int .i64 (Z.l.first + Z.l.many : Nat))
      refine hK _ _ (Cl.of x5) ?_
      clear hK K y0 y1 y2 y3 c0 c1 c2 c3
      simp only [Act.put, List.setIfInBounds_toArray, List.set_cons_succ, List.set_cons_zero]
      refine Mix.tree_nil ?_
      go_wp2_with fail
      go_meet
      exact ⟨g4, rfl, by rw [hHd.out]; exact hC5, x5, hg4w⟩
    · intro K hK
      go_simp
      obtain ⟨g4, hg4⟩ : ∃ x, x = μ0.heap.size := ⟨_, rfl⟩
      obtain ⟨u4, hu4⟩ : ∃ v, v = μ0.alloc (.cells #[.int .i64 0, .int .i64 0, .int .i64 0, .int .i64 0] hdTy) := ⟨_, rfl⟩
      have hC4 : Cs u4 g4 hdTy #[.int .i64 0, .int .i64 0, .int .i64 0, .int .i64 0] := by rw [hu4, hg4]; exact Cs.new _ _ _
      have x4 : Ext w2 u4 := by rw [hu4]; exact xμ.alloc _
      have hg4w : w2.heap.size ≤ g4 := by rw [hg4]; exact xμ.size
      rw [← hu4, ← hg4]
      refine hK _ _ (Cl.of x4) ?_
      clear hK K hu4 hg4
      simp only [Act.put, List.setIfInBounds_toArray, List.set_cons_succ, List.set_cons_zero]
      refine Mix.tree_one (i := 18) (by kernel_rfl) (by kernel_rfl) rfl rfl rfl ?_
      intro K hK
      go_simp
      refine (HNx2 u4 (X2.out.then_ext x4)).mono ?_
      rintro e u5 ⟨rfl, hu⟩
      have x5 := x4.then_ext hu
      have hC4' := hC4.keep hu id
      refine ⟨_, rfl, hK _ _ (Cl.of x5) ?_⟩
      clear hK K hu
      simp only [Act.put, List.setIfInBounds_toArray, List.set_cons_succ, List.set_cons_zero]
      (refine Mix.tree_quiet (i := 19) (by kernel_rfl) rfl rfl rfl rfl ?_; intro K hK; go_big_quiet_op; go_big_quiet_on)
      have y0 := hC4'.frozen 0
      have y1 := hC4'.frozen 1
      have y2 := hC4'.frozen 2
      have y3 := hC4'.frozen 3
      have c0 : u5.cell? ⟨g4, 0, none⟩ = some (.int .i64 0) := hC4'.cell 0
      have c1 : u5.cell? ⟨g4, 1, none⟩ = some (.int .i64 0) := hC4'.cell 1
      have c2 : u5.cell? ⟨g4, 2, none⟩ = some (.int .i64 0) := hC4'.cell 2
      have c3 : u5.cell? ⟨g4, 3, none⟩ = some (.int .i64 0) := hC4'.cell 3
      (refine Mix.tree_one (i := 21) (by kernel_rfl) (by kernel_rfl) rfl rfl rfl ?_; intro K hK; go_simp)
      have hC5 := head_set hC4' (.int .i64 (Z.h.epoch + 1 : Nat)) (.int .i64 (1 - Z.h.side : Nat)) (.int .i64 (t.length : Nat)) (.int .i64 (Z.l.first + Z.l.many : Nat))
      have x6 := head_ext x5 hg4w (.int .i64 (Z.h.epoch + 1 : Nat)) (.int .i64 (1 - Z.h.side : Nat)) (.int .i64 (t.length : Nat)) (.int .i64 (Z.l.first + Z.l.many : Nat))
      refine hK _ _ (Cl.of x6) ?_
      clear hK K y0 y1 y2 y3 c0 c1 c2 c3
      simp only [Act.put, List.setIfInBounds_toArray, List.set_cons_succ, List.set_cons_zero]
      refine Mix.tree_nil ?_
      go_wp2_with fail
      go_meet
      exact ⟨g4, rfl, by rw [hHd.out]; exact hC5, x6, hg4w⟩
  case rest =>
    obtain ⟨g4, hv, hC4, hx4, hg4w⟩ := hcut
    subst hv
    have X3 := Lib.hid (X2.out.then_ext hx4)
    have H4 := Lib.hid hC4
    have D1 := Lib.hid (C1.out.keep hx4 id)
    have D2 := Lib.hid (C2.out.keep hx4 id)
    have Hg4 : Hid (w.heap.size ≤ g4 ∧ g4 ≠ b1 ∧ g4 ≠ b2) := by
      have k1 := D1.out.ne_ hC4 (by decide)
      have k2 := D2.out.ne_ hC4 (by decide)
      exact ⟨Nat.le_trans X2.out.size hg4w, k1.symm, k2.symm⟩
    clear hC4 hx4 hg4w C1 C2 X2
    go_upto_region 4 with fail
    obtain ⟨b5, hb5⟩ : ∃ x, x = wc.heap.size := ⟨_, rfl⟩
    obtain ⟨w5, hw5⟩ : ∃ v, v = wc.alloc (.cells #[.int .i64 0] 3) := ⟨_, rfl⟩
    have X5 : Hid (Ext w w5) := by rw [hw5]; exact X3.out.alloc _
    have E1 : Hid (Cs w5 b1 spT #[pt Z.g]) := by rw [hw5]; exact D1.out.alloc _
    have E2 : Hid (Cs w5 b2 erT #[.nilIface]) := by rw [hw5]; exact D2.out.alloc _
    have E4 : Hid (Cs w5 g4 hdTy h'.cells) := by rw [hw5]; exact H4.out.alloc _
    have E5 : Hid (Cs w5 b5 3 #[.int .i64 0]) := by rw [hw5, hb5]; exact Cs.new _ _ _
    have Hb5 : Hid (w.heap.size ≤ b5) := by rw [hb5]; exact X3.out.size
    rw [← hw5, ← hb5]
    clear hw5 hb5 X3 H4 D1 D2
    obtain ⟨cap, hcap⟩ : ∃ cap, cap = grownCap w5 (⟨t.toArray⟩ : ByteArray).size 0 5 := ⟨_, rfl⟩
    have h1 := run_bytes_of_string (P := Try.prog) w5 9 93 5 ⟨t.toArray⟩ Try.underlying9 Try.underlying93 Try.underlying5
    have hcap1 := grownCap_ge w5 (⟨t.toArray⟩ : ByteArray).size 0 5
    have hcap2 := grownCap_le_maxLen w5 (⟨t.toArray⟩ : ByteArray).size 0 5 (by show t.length ≤ _; unfold maxLen; omega)
    rw [← hcap] at h1 hcap1 hcap2
    obtain ⟨w6, hw6⟩ : ∃ W, W = w5.drew.alloc (.cells (bytesRow ⟨t.toArray⟩ cap) 5 ((bytesRow ⟨t.toArray⟩ cap).size, (bytesRow ⟨t.toArray⟩ cap).size + 1)) := ⟨_, rfl⟩
    obtain ⟨b6, hb6⟩ : ∃ x, x = w5.heap.size := ⟨_, rfl⟩
    rw [← hw6, ← hb6] at h1
    have h1' : (convert 9 93 (S t)).run Try.prog w5 = .ok (.slice (some ⟨b6, 0, none⟩) t.length cap) w6 := h1
    have Hby : Hid (∃ fz, w6.heap[b6]? = some (.cells (bytesRow ⟨t.toArray⟩ cap) 5 fz)) := ⟨_, by rw [hw6, hb6]; exact heap_alloc_new w5.drew _⟩
    have HB56 : Hid (b5 < b6) := by rw [hb6]; exact E5.out.lt
    have x6 : Ext w5 w6 := by rw [hw6]; exact (Only.refl No w5).drew.alloc _
    have Hb6 : Hid (w.heap.size ≤ b6 ∧ b6 < w6.heap.size) := ⟨by rw [hb6]; exact X5.out.size, by rw [hb6, hw6]; simp⟩
    have HCap : Hid (t.length ≤ cap ∧ cap ≤ maxLen) := ⟨hcap1, hcap2⟩
    clear hcap hw6 hb6 h1 hcap1 hcap2
    have hCk := (callsIn_wide (n := 3)).1 (chunk_in 3 b6 t.length cap w6)
    go_wp2_with (first | ((first | refine Mix.wpList_guarded rfl ?_ | refine Mix.wp_still (by kernel_rfl) (by kernel_rfl) ?_); (repeat' (first | (refine Mix.lex_quiet0 rfl rfl rfl ?_; intro K hK; go_big_quiet_op; go_big_quiet_on) | (refine Mix.lex_quietG rfl rfl rfl (by with_reducible rfl) rfl rfl ?_; intro K hK; go_big_quiet_op; go_big_quiet_on) | ((first | refine Mix.lex_skipT rfl rfl rfl (by with_reducible rfl) ?_ | refine Mix.lex_skipF rfl rfl rfl (by with_reducible rfl) ?_ | refine Mix.lex_skipU rfl rfl rfl (by with_reducible rfl) ?_); simp only [Act.put, List.setIfInBounds_toArray, List.set_cons_succ, List.set_cons_zero]) | (refine Mix.lex_part rfl rfl rfl rfl (fun hq => ?_) (fun hq => ?_) <;> (fail_if_success (guard_hyp hq :ₛ true = true)) <;> (fail_if_success (guard_hyp hq :ₛ false = false)) <;> first | (exfalso; cases hq; done) | (exfalso; simp only [decide_eq_true_eq, decide_eq_false_iff_not, beq_iff_eq, beq_eq_false_iff_ne, ne_eq, Int.not_lt, Int.not_le] at hq; omega) | simp only [Act.put, List.setIfInBounds_toArray, List.set_cons_succ, List.set_cons_zero]))); all_goals (refine Mix.lex_nil ?_)))
    refine hCk.mono ?_
    rintro e w7 ⟨rfl, hw7⟩
    go_wp2_with (first | ((first | refine Mix.wpList_guarded rfl ?_ | refine Mix.wp_still (by kernel_rfl) (by kernel_rfl) ?_); (repeat' (first | (refine Mix.lex_quiet0 rfl rfl rfl ?_; intro K hK; go_big_quiet_op; go_big_quiet_on) | (refine Mix.lex_quietG rfl rfl rfl (by with_reducible rfl) rfl rfl ?_; intro K hK; go_big_quiet_op; go_big_quiet_on) | ((first | refine Mix.lex_skipT rfl rfl rfl (by with_reducible rfl) ?_ | refine Mix.lex_skipF rfl rfl rfl (by with_reducible rfl) ?_ | refine Mix.lex_skipU rfl rfl rfl (by with_reducible rfl) ?_); simp only [Act.put, List.setIfInBounds_toArray, List.set_cons_succ, List.set_cons_zero]) | (refine Mix.lex_part rfl rfl rfl rfl (fun hq => ?_) (fun hq => ?_) <;> (fail_if_success (guard_hyp hq :ₛ true = true)) <;> (fail_if_success (guard_hyp hq :ₛ false = false)) <;> first | (exfalso; cases hq; done) | (exfalso; simp only [decide_eq_true_eq, decide_eq_false_iff_not, beq_iff_eq, beq_eq_false_iff_ne, ne_eq, Int.not_lt, Int.not_le] at hq; omega) | simp only [Act.put, List.setIfInBounds_toArray, List.set_cons_succ, List.set_cons_zero]))); all_goals (refine Mix.lex_nil ?_)))
    obtain ⟨Bs, hBs⟩ : ∃ x, x = w6.heap.size := ⟨_, rfl⟩
    obtain ⟨Bn, hBn⟩ : ∃ x, x = w6.heap.size + 1 := ⟨_, rfl⟩
    obtain ⟨w8, hw8⟩ : ∃ v, v = (w6.alloc (.cells #[.slice (some ⟨b6, 0, none⟩) t.length cap] 93)).alloc (.cells #[.int .i64 340] 3) := ⟨_, rfl⟩
    have x68 : Ext w6 w8 := by rw [hw8]; exact ((Only.refl No w6).alloc _).alloc _
    have hcBs : Cs w8 Bs 93 #[.slice (some ⟨b6, 0, none⟩) t.length cap] := by rw [hw8, hBs]; exact (Cs.new _ _ _).alloc _
    have hcBn : Cs w8 Bn 3 #[.int .i64 340] := by
      rw [hw8, hBn]
      have := Cs.new (w6.alloc (.cells #[.slice (some ⟨b6, 0, none⟩) t.length cap] 93)) 3 #[.int .i64 340]
      rw [World.size_alloc] at this
      exact this
    have x58 := x6.then_ext x68
    have HBs : Hid (w6.heap.size ≤ Bs ∧ w6.heap.size ≤ Bn) := ⟨by omega, by omega⟩
    rw [← hw8, ← hBn, ← hBs]
    clear hw8 hBn hBs h1' hw7 hCk
    obtain ⟨q0, hq0⟩ : ∃ q, q = 2 + h'.side * 21 := ⟨_, rfl⟩
    have HQ0 := Lib.hid hq0
    clear hq0
    have I0 : CkI w w8 r d q0 b1 b2 g4 b5 b6 Bs Bn Z.g cap h' t [] := ⟨⟨r, d, (DkOn.start HD.out).ext (X5.out.then_ext x58), rfl, hwt⟩, E1.out.keep x58 id, E2.out.keep x58 id, E4.out.keep x58 id, E5.out.keep x58 id, hcBs, hcBn, by obtain ⟨fz, hf⟩ := Hby.out; exact ⟨fz, (x68.block b6 Hb6.out.2 id).trans hf⟩⟩
    have hsz8 : w.heap.size ≤ w8.heap.size := (X5.out.then_ext x58).size
    have hne : b5 ≠ b1 ∧ b5 ≠ b2 ∧ b5 ≠ g4 ∧ b5 < w8.heap.size ∧ Bs ≠ b5 ∧ Bn ≠ b5 ∧ b6 ≠ b5 := by
      have k1 := E5.out.ne_ E1.out (by decide)
      have k2 := E5.out.ne_ E2.out (by decide)
      have k3 := E5.out.ne_ E4.out (by decide)
      have k4 := E5.out.lt
      have k5 := x6.size
      have k6 := HBs.out
      have k7 := x58.size
      have k8 := E5.out.lt
      exact ⟨k1, k2, k3, by omega, by omega, by omega, by have := HB56.out; omega⟩
    refine (wpIn_wide (n := 3)).1 ?_
    refine rangeFunc_g (F := Fence.wide) (n := 3) (fun tm (x : Nat) => { tmps := (tm.setIfInBounds 39 (ckV b6 t.length x)).setIfInBounds 6 (ckV b6 t.length x), defers := [] }) rfl (by omega) (gf := ckFn) (lb := #[.pointer (some ⟨Bs, 0, none⟩), .pointer (some ⟨Bn, 0, none⟩)]) rfl trivial (enters_of Try.func69 (by kernel_rfl) rfl)
      (chunk_stops 2 (by omega) Bs Bn b6 t.length cap HCap.out.1 HCap.out.2 (by omega) w8 (hcBs.cell 0) (hcBn.cell 0)) KpC.trans
      (fun W l o o' hl _ _ _ => ⟨World.cell?_of_block (World.putObj_heap_other (by have := hcBs.lt; dsimp only; omega)), World.cell?_of_block (World.putObj_heap_other (by have := hcBn.lt; dsimp only; omega))⟩) (Below.refl _ _) (fun _ => rfl)
      (fun pre W => CkI w W r d q0 b1 b2 g4 b5 b6 Bs Bn Z.g cap h' t pre) (fun c pre W => c = .ret ∧ CkX w W r d q0 b2 t pre) (CkI.own hsz8) (CkX.own hsz8) I0 ?assign ?body ?done ?stop_
    case assign =>
      rintro l pre x W K hI hK
      gi_wp2
      exact hK _ _ (KeepsFrom.refl _ _) ⟨rfl, rfl⟩ hI rfl
    case body =>
      rintro l pre x W hI hlt
      have HI := Lib.hid hI
      obtain ⟨⟨r', d', hdk, hwr, hwt'⟩, c1, c2, c4, c5, cs, cn, fz, hb⟩ := hI
      have hpl : pre.length ≤ 30 := by unfold chN at hlt; omega
      have n1 := fp_ne hdk.dk c1 (by decide) (by decide) (by decide)
      have n4 := fp_ne hdk.dk c4 (by decide) (by decide) (by decide)
      have n5 := fp_ne hdk.dk c5 (by decide) (by decide) (by decide)
      have cz : Cs W Z.g stTy (Z.cells r.g) := HS.out.cs.keep hdk.o (fp_ne HD.out HS.out.cs (by decide) (by decide) (by decide))
      have nz := fp_ne hdk.dk cz (by decide) (by decide) (by decide)
      have n6 : ¬ r'.fp b6 := fun e => by
        obtain ⟨cs', t', hc, ht'⟩ := fp_cs hdk.dk e
        rw [show W.heap[b6]? = _ from hc] at hb
        cases hb
        revert ht'
        decide
      have Q1 : ∀ ξ : X W r'.fp, ξ.v.cell? ⟨b1, 0, none⟩ = some (pt Z.g) := Cs.x c1 n1 0
      have Q2 : ∀ ξ : X W r'.fp, ξ.v.cell? ⟨Z.g, 0, none⟩ = some (pt r.g) := Cs.x cz nz 0
      have Q3 : ∀ ξ : X W r'.fp, ξ.v.cell? ⟨g4, 1, none⟩ = some (.int .i64 (h'.side : Nat)) := Cs.x c4 n4 1
      have Q4 : ∀ ξ : X W r'.fp, ξ.v.cell? ⟨b5, 0, none⟩ = some (.int .i64 (pre.length : Nat)) := Cs.x c5 n5 0
      have Q5 : ∀ ξ : X W r'.fp, (convert 93 9 (ckV b6 t.length x)).run Try.prog ξ.v = .ok (S (ckAt t x)) ξ.v := fun ξ => ck_conv ((ξ.h.block b6 (Array.getElem?_eq_some_iff.1 hb).1 n6).trans hb) x
      have hcl := ck_len t x
      have HWr : Hid (∀ v, Ext W v → Calls Try.prog 36 #[pt r.g, .int .i64 ((2 : Int) + (h'.side : Int) * 21 + (pre.length : Int)), S (ckAt t x)] v (DkRes v r' (d'.wr ((q0 + pre.length : Nat) : Int) (ckAt t x)) (errV (d'.wrF ((q0 + pre.length : Nat) : Int) (ckAt t x))))) := fun v hv => by
        have := Write_all (hdk.dk.ext hv) ((q0 + pre.length : Nat) : Int) (ckAt t x) (by omega) (by omega)
        rw [hdk.g] at this
        rw [show (2 : Int) + (h'.side : Int) * 21 + (pre.length : Int) = ((q0 + pre.length : Nat) : Int) by have := HQ0.out; omega]
        exact this
      have hside : h'.side ≤ 1 := by rw [hHd.out]; show 1 - Z.h.side ≤ 1; omega
      simp only [List.setIfInBounds_toArray, List.set_cons_succ, List.set_cons_zero]
      obtain ⟨tx, htx⟩ : ∃ s, s = ckAt t x := ⟨_, rfl⟩
      rw [← htx] at Q5 HWr
      have HTx := Lib.hid htx
      obtain ⟨V, hV⟩ : ∃ V, V = ckV b6 t.length x := ⟨_, rfl⟩
      rw [← hV] at Q5 ⊢
      clear htx hV hcl
      gi_wp2
      refine Mix.wpIn_draw [12] 100 (Cl W r'.fp) (by kernel_rfl) (by kernel_rfl) (Cl.drew_ (X.here W r'.fp)) ?_
      (repeat' (first | (refine Mix.lex_quiet0 rfl rfl rfl ?_; intro K hK; go_big_quiet_op; go_big_quiet_on) | (refine Mix.lex_quietG rfl rfl rfl (by with_reducible rfl) rfl rfl ?_; intro K hK; go_big_quiet_op; go_big_quiet_on) | ((first | refine Mix.lex_skipT rfl rfl rfl (by with_reducible rfl) ?_ | refine Mix.lex_skipF rfl rfl rfl (by with_reducible rfl) ?_ | refine Mix.lex_skipU rfl rfl rfl (by with_reducible rfl) ?_); simp only [Act.put, List.setIfInBounds_toArray, List.set_cons_succ, List.set_cons_zero]) | (refine Mix.lex_part rfl rfl rfl rfl (fun hq => ?_) (fun hq => ?_) <;> (fail_if_success (guard_hyp hq :ₛ true = true)) <;> (fail_if_success (guard_hyp hq :ₛ false = false)) <;> first | (exfalso; cases hq; done) | (exfalso; simp only [decide_eq_true_eq, decide_eq_false_iff_not, beq_iff_eq, beq_eq_false_iff_ne, ne_eq, Int.not_lt, Int.not_le] at hq; omega) | simp only [Act.put, List.setIfInBounds_toArray, List.set_cons_succ, List.set_cons_zero])))
      ((first | refine Mix.lex_goes0 rfl rfl ?_ | refine Mix.lex_goesG rfl rfl rfl (by with_reducible rfl) rfl ?_); intro K hK; go_simp)
      refine (HWr.out _ (Only.refl No W).drew).mono ?_
      intro e u3 hr3
      obtain ⟨rfl, r3, hd3⟩ := (hdk.ext (Only.refl No W).drew).step hr3
      have o3 : Only r'.fp W u3 := (Only.any (Only.refl No W).drew).trans hr3.2.choose_spec.2.2.1 fun _ _ e => e
      refine ⟨_, rfl, hK _ _ (fun _ => Cl.of o3) ?_⟩
      clear hK K hr3 HWr Q1 Q2 Q3 Q4 Q5
      simp only [Act.put, List.setIfInBounds_toArray, List.set_cons_succ, List.set_cons_zero]
      (repeat' (first | (refine Mix.lex_quiet0 rfl rfl rfl ?_; intro K hK; go_big_quiet_op; go_big_quiet_on) | (refine Mix.lex_quietG rfl rfl rfl (by with_reducible rfl) rfl rfl ?_; intro K hK; go_big_quiet_op; go_big_quiet_on) | ((first | refine Mix.lex_skipT rfl rfl rfl (by with_reducible rfl) ?_ | refine Mix.lex_skipF rfl rfl rfl (by with_reducible rfl) ?_ | refine Mix.lex_skipU rfl rfl rfl (by with_reducible rfl) ?_); simp only [Act.put, List.setIfInBounds_toArray, List.set_cons_succ, List.set_cons_zero]) | (refine Mix.lex_part rfl rfl rfl rfl (fun hq => ?_) (fun hq => ?_) <;> (fail_if_success (guard_hyp hq :ₛ true = true)) <;> (fail_if_success (guard_hyp hq :ₛ false = false)) <;> first | (exfalso; cases hq; done) | (exfalso; simp only [decide_eq_true_eq, decide_eq_false_iff_not, beq_iff_eq, beq_eq_false_iff_ne, ne_eq, Int.not_lt, Int.not_le] at hq; omega) | simp only [Act.put, List.setIfInBounds_toArray, List.set_cons_succ, List.set_cons_zero])))
      refine Mix.lex_nil ?_
      have kO : KeepsOthers W u3 := keeps_only o3 fun b hb => by
        obtain ⟨cs', t', hc, _⟩ := fp_cs hdk.dk hb
        exact ⟨cs', t', hc⟩
      have n2 := fp_ne hdk.dk c2 (by decide) (by decide) (by decide)
      have d1 := c1.keep o3 n1
      have d2 := c2.keep o3 n2
      have d4 := c4.keep o3 n4
      have d5 := c5.keep o3 n5
      have ds := cs.keep o3 (fp_ne hdk.dk cs (by decide) (by decide) (by decide))
      have dn := cn.keep o3 (fp_ne hdk.dk cn (by decide) (by decide) (by decide))
      have db := (o3.block b6 (Array.getElem?_eq_some_iff.1 hb).1 n6).trans hb
      have hsn := wrL_snoc _ _ tx _ _ hwr
      rw [List.length_map, HTx.out] at hsn
      have hmap : (pre ++ [x]).map (ckAt t) = pre.map (ckAt t) ++ [ckAt t x] := by simp
      rw [← hmap, ← HTx.out] at hsn
      have hwl : (d'.wr ((q0 + pre.length : Nat) : Int) tx).wait.length ≤ 500 + (pre ++ [x]).length := by
        have := wr_wait' d' ((q0 + pre.length : Nat) : Int) tx
        rw [List.length_append, List.length_singleton]; omega
      obtain ⟨f, hf⟩ : ∃ f, f = d'.wrF ((q0 + pre.length : Nat) : Int) tx := ⟨_, rfl⟩
      rw [← hf] at hsn ⊢
      have HSn := Lib.hid hsn
      have HK := Lib.hid kO
      have HD3 := Lib.hid hd3
      have HWl := Lib.hid hwl
      clear hsn kO hd3 hwl hf hwr hdk c1 c2 c4 c5
      by_cases hf0 : f = 0
      · subst hf0
        rw [errV_zero]
        have q5 : u3.cell? ⟨b5, 0, none⟩ = some (.int .i64 (pre.length : Nat)) := d5.cell 0
        have z5 := d5.frozen 0
        gi_wp2
        have e5 : Cs (u3.setCell ⟨b5, 0, none⟩ (.int .i64 ((pre.length : Int) + 1))) b5 3 #[.int .i64 ((pre ++ [x]).length : Nat)] := by
          have := d5.set_ 0 (.int .i64 ((pre.length : Int) + 1))
          simp only [List.setIfInBounds_toArray, List.set_cons_zero] at this
          rw [List.length_append, List.length_singleton, show ((pre.length + 1 : Nat) : Int) = (pre.length : Int) + 1 by omega]
          exact this
        refine ⟨(HK.out.trans (KeepsOthers.setCell _ _ _)).from _, ⟨?_, ?_⟩, ⟨⟨r3, _, HD3.out.box d5 (by decide) (by decide) (by decide) Hb5.out _, HSn.out, HWl.out⟩, d1.far hne.1.symm _, d2.far hne.2.1.symm _, d4.far hne.2.2.1.symm _, e5, ds.far hne.2.2.2.2.1 _, dn.far hne.2.2.2.2.2.1 _, fz, (Below.heap_setCell _ _ _ _ hne.2.2.2.2.2.2).trans db⟩⟩
        · exact ((ds.far (p := ⟨b5, 0, none⟩) hne.2.2.2.2.1 _).cell 0).trans (cs.cell 0).symm
        · exact ((dn.far (p := ⟨b5, 0, none⟩) hne.2.2.2.2.2.1 _).cell 0).trans (cn.cell 0).symm
      · rw [errV_pos hf0]
        have q2 : u3.cell? ⟨b2, 0, none⟩ = some .nilIface := d2.cell 0
        have z2 := d2.frozen 0
        gi_wp2
        refine ⟨(HK.out.trans (KeepsOthers.setCell _ _ _)).from _, rfl, ⟨r3, _, f, HD3.out.box d2 (by decide) (by decide) (by decide) HB.out.2 _, HSn.out, hf0, ?_⟩⟩
        rw [errV_pos hf0]
        exact d2.set_ 0 (E f)
    case done =>
      rintro D xs W hD rfl hI hK
      have hckl : (List.range (chN t.length)).map (ckAt t) = ckL t := rfl
      obtain ⟨⟨r', d', hdk, hwr, hwt'⟩, c1, c2, c4, -, -, -, -⟩ := hI
      rw [hckl] at hwr
      have hst : StoreAt W Z r.g := HS.out.on HD.out hdk.o
      have q1 : W.cell? ⟨b1, 0, none⟩ = some (pt Z.g) := c1.cell 0
      have q2 : W.cell? ⟨Z.g, 0, none⟩ = some (pt r.g) := hst.cs.cell 0
      have hF := Flush_all hdk.dk
      rw [hdk.g] at hF
      go_wp2_with (first | ((first | refine Mix.wpList_guarded rfl ?_ | refine Mix.wp_still (by kernel_rfl) (by kernel_rfl) ?_); (repeat' (first | (refine Mix.lex_quiet0 rfl rfl rfl ?_; intro K hK; go_big_quiet_op; go_big_quiet_on) | (refine Mix.lex_quietG rfl rfl rfl (by with_reducible rfl) rfl rfl ?_; intro K hK; go_big_quiet_op; go_big_quiet_on) | ((first | refine Mix.lex_skipT rfl rfl rfl (by with_reducible rfl) ?_ | refine Mix.lex_skipF rfl rfl rfl (by with_reducible rfl) ?_ | refine Mix.lex_skipU rfl rfl rfl (by with_reducible rfl) ?_); simp only [Act.put, List.setIfInBounds_toArray, List.set_cons_succ, List.set_cons_zero]) | (refine Mix.lex_part rfl rfl rfl rfl (fun hq => ?_) (fun hq => ?_) <;> (fail_if_success (guard_hyp hq :ₛ true = true)) <;> (fail_if_success (guard_hyp hq :ₛ false = false)) <;> first | (exfalso; cases hq; done) | (exfalso; simp only [decide_eq_true_eq, decide_eq_false_iff_not, beq_iff_eq, beq_eq_false_iff_ne, ne_eq, Int.not_lt, Int.not_le] at hq; omega) | simp only [Act.put, List.setIfInBounds_toArray, List.set_cons_succ, List.set_cons_zero]))); all_goals (refine Mix.lex_nil ?_)))
      refine hF.mono ?_
      intro e u1 hr1
      obtain ⟨rfl, r1, hd1⟩ := hdk.step hr1
      have o1 : Only r'.fp W u1 := hr1.2.choose_spec.2.2.1
      have K1 : u1.heap[D]? = some (.deferred (some [])) := (keeps_only o1 fun b hb => by obtain ⟨cs', t', hc, _⟩ := fp_cs hdk.dk hb; exact ⟨cs', t', hc⟩).same _ _ hK rfl
      have n1 := fp_ne hdk.dk c1 (by decide) (by decide) (by decide)
      have n2 := fp_ne hdk.dk c2 (by decide) (by decide) (by decide)
      have n4 := fp_ne hdk.dk c4 (by decide) (by decide) (by decide)
      have a1 := c1.keep o1 n1
      have a2 := c2.keep o1 n2
      have a4 := c4.keep o1 n4
      have hwf : wrL q0 (ckL t) d = (d', 0) := hwr
      have hfl : d'.fl.wait.length ≤ 600 := by
        have h3 := fl_wait' d'
        have h4 : (List.range (chN t.length)).length ≤ 30 := by rw [List.length_range]; unfold chN; omega
        omega
      obtain ⟨d1, hd1e⟩ : ∃ x, x = d'.fl := ⟨_, rfl⟩
      obtain ⟨f1, hf1⟩ : ∃ x, x = d'.flF := ⟨_, rfl⟩
      rw [← hf1]
      rw [← hd1e] at hd1 hfl
      have HWf := Lib.hid hwf
      have HD1e := Lib.hid hd1e
      have HF1 := Lib.hid hf1
      have D1 := Lib.hid hd1
      have HK1 := Lib.hid K1
      have A1 := Lib.hid a1
      have A2 := Lib.hid a2
      have A4 := Lib.hid a4
      have HC0 : Hid (∀ f0 : Int, f1 ≠ 0 → ckD h' t d = (d1, f1)) := fun _ hf => by
        unfold ckD
        rw [← HQ0.out, HWf.out, if_neg (by simp), ← HF1.out, ← HD1e.out, if_pos hf]
      clear hwf hd1e hf1 hd1 K1 a1 a2 a4 hr1 o1 hdk c1 c2 c4 hst q1 q2 hF hwr
      by_cases hf0 : f1 = 0
      · subst hf0
        rw [errV_zero]
        have HC1 : Hid (∀ f0 : Int, d1.wrF ((h'.epoch % 2 : Nat) : Int) (hdT h') ≠ 0 → ckD h' t d = (d1.wr ((h'.epoch % 2 : Nat) : Int) (hdT h'), d1.wrF ((h'.epoch % 2 : Nat) : Int) (hdT h'))) := fun _ hf => by
          unfold ckD
          rw [← HQ0.out, HWf.out, if_neg (by simp), ← HF1.out, ← HD1e.out, if_neg (by simp), if_pos hf]
        have HC2 : Hid (d1.wrF ((h'.epoch % 2 : Nat) : Int) (hdT h') = 0 → ckD h' t d = ((d1.wr ((h'.epoch % 2 : Nat) : Int) (hdT h')).fl, (d1.wr ((h'.epoch % 2 : Nat) : Int) (hdT h')).flF)) := fun hf => by
          unfold ckD
          rw [← HQ0.out, HWf.out, if_neg (by simp), ← HF1.out, ← HD1e.out, if_neg (by simp), if_neg (by rw [hf]; simp)]
        have HTxt := Lib.hid (fun v => HText_c h' v)
        have htl := hdT_len h'
        obtain ⟨tx, htx⟩ : ∃ x, x = hdT h' := ⟨_, rfl⟩
        rw [← htx] at HC1 HC2 HTxt htl
        clear htx HC0
        go_upto_region 12 with fail
        have m1 := fp_ne D1.out.dk A1.out (by decide) (by decide) (by decide)
        have m4 := fp_ne D1.out.dk A4.out (by decide) (by decide) (by decide)
        have hst : StoreAt u1 Z r.g := HS.out.on HD.out D1.out.o
        have mz := fp_ne D1.out.dk hst.cs (by decide) (by decide) (by decide)
        have Q1 : ∀ ξ : X u1 r1.fp, ξ.v.cell? ⟨b1, 0, none⟩ = some (pt Z.g) := Cs.x A1.out m1 0
        have Q2 : ∀ ξ : X u1 r1.fp, ξ.v.cell? ⟨Z.g, 0, none⟩ = some (pt r.g) := Cs.x hst.cs mz 0
        have Q3 : ∀ ξ : X u1 r1.fp, ξ.v.cell? ⟨g4, 0, none⟩ = some (.int .i64 (h'.epoch : Nat)) := Cs.x A4.out m4 0
        have Q4 : ∀ ξ : X u1 r1.fp, ξ.v.cell? ⟨g4, 1, none⟩ = some (.int .i64 (h'.side : Nat)) := Cs.x A4.out m4 1
        have Q5 : ∀ ξ : X u1 r1.fp, ξ.v.cell? ⟨g4, 2, none⟩ = some (.int .i64 (h'.size : Nat)) := Cs.x A4.out m4 2
        have Q6 : ∀ ξ : X u1 r1.fp, ξ.v.cell? ⟨g4, 3, none⟩ = some (.int .i64 (h'.first : Nat)) := Cs.x A4.out m4 3
        refine Mix.wp_draw [8, 9] 100 (Cl u1 r1.fp) (by kernel_rfl) (by kernel_rfl) (Cl.drew_ (X.here u1 r1.fp)) ?_
        (repeat' (first | (refine Mix.lex_quiet0 rfl rfl rfl ?_; intro K hK; go_big_quiet_op; go_big_quiet_on) | (refine Mix.lex_quietG rfl rfl rfl (by with_reducible rfl) rfl rfl ?_; intro K hK; go_big_quiet_op; go_big_quiet_on) | ((first | refine Mix.lex_skipT rfl rfl rfl (by with_reducible rfl) ?_ | refine Mix.lex_skipF rfl rfl rfl (by with_reducible rfl) ?_ | refine Mix.lex_skipU rfl rfl rfl (by with_reducible rfl) ?_); simp only [Act.put, List.setIfInBounds_toArray, List.set_cons_succ, List.set_cons_zero]) | (refine Mix.lex_part rfl rfl rfl rfl (fun hq => ?_) (fun hq => ?_) <;> (fail_if_success (guard_hyp hq :ₛ true = true)) <;> (fail_if_success (guard_hyp hq :ₛ false = false)) <;> first | (exfalso; cases hq; done) | (exfalso; simp only [decide_eq_true_eq, decide_eq_false_iff_not, beq_iff_eq, beq_eq_false_iff_ne, ne_eq, Int.not_lt, Int.not_le] at hq; omega) | simp only [Act.put, List.setIfInBounds_toArray, List.set_cons_succ, List.set_cons_zero])))
        ((first | refine Mix.lex_goes0 rfl rfl ?_ | refine Mix.lex_goesG rfl rfl rfl (by with_reducible rfl) rfl ?_); intro K hK; go_simp)
        refine (HTxt.out _).mono ?_
        rintro e u2 ⟨rfl, hu⟩
        have y2 : Ext u1 u2 := (Only.refl No u1).drew.then_ext hu
        refine ⟨_, rfl, hK _ _ (fun _ => Cl.of y2.any) ?_⟩
        clear hK K hu
        simp only [Act.put, List.setIfInBounds_toArray, List.set_cons_succ, List.set_cons_zero]
        (repeat' (first | (refine Mix.lex_quiet0 rfl rfl rfl ?_; intro K hK; go_big_quiet_op; go_big_quiet_on) | (refine Mix.lex_quietG rfl rfl rfl (by with_reducible rfl) rfl rfl ?_; intro K hK; go_big_quiet_op; go_big_quiet_on) | ((first | refine Mix.lex_skipT rfl rfl rfl (by with_reducible rfl) ?_ | refine Mix.lex_skipF rfl rfl rfl (by with_reducible rfl) ?_ | refine Mix.lex_skipU rfl rfl rfl (by with_reducible rfl) ?_); simp only [Act.put, List.setIfInBounds_toArray, List.set_cons_succ, List.set_cons_zero]) | (refine Mix.lex_part rfl rfl rfl rfl (fun hq => ?_) (fun hq => ?_) <;> (fail_if_success (guard_hyp hq :ₛ true = true)) <;> (fail_if_success (guard_hyp hq :ₛ false = false)) <;> first | (exfalso; cases hq; done) | (exfalso; simp only [decide_eq_true_eq, decide_eq_false_iff_not, beq_iff_eq, beq_eq_false_iff_ne, ne_eq, Int.not_lt, Int.not_le] at hq; omega) | simp only [Act.put, List.setIfInBounds_toArray, List.set_cons_succ, List.set_cons_zero])))
        have HWr : Calls Try.prog 36 #[pt r.g, .int .i64 ((h'.epoch : Int) % 2), S tx] u2 (DkRes u2 r1 (d1.wr ((h'.epoch % 2 : Nat) : Int) tx) (errV (d1.wrF ((h'.epoch % 2 : Nat) : Int) tx))) := by
          have := Write_all (D1.out.ext y2).dk ((h'.epoch % 2 : Nat) : Int) tx (by omega) (by omega)
          rw [D1.out.g] at this
          exact this
        ((first | refine Mix.lex_goes0 rfl rfl ?_ | refine Mix.lex_goesG rfl rfl rfl (by with_reducible rfl) rfl ?_); intro K hK; go_simp)
        refine HWr.mono ?_
        intro e u3 hr3
        obtain ⟨rfl, r3, hd3⟩ := (D1.out.ext y2).step hr3
        have o3 : Only r1.fp u1 u3 := (Only.any y2).trans hr3.2.choose_spec.2.2.1 fun _ _ e => e
        refine ⟨_, rfl, hK _ _ (fun _ => Cl.of o3) ?_⟩
        clear hK K hr3 HWr Q1 Q2 Q3 Q4 Q5 Q6
        simp only [Act.put, List.setIfInBounds_toArray, List.set_cons_succ, List.set_cons_zero]
        (repeat' (first | (refine Mix.lex_quiet0 rfl rfl rfl ?_; intro K hK; go_big_quiet_op; go_big_quiet_on) | (refine Mix.lex_quietG rfl rfl rfl (by with_reducible rfl) rfl rfl ?_; intro K hK; go_big_quiet_op; go_big_quiet_on) | ((first | refine Mix.lex_skipT rfl rfl rfl (by with_reducible rfl) ?_ | refine Mix.lex_skipF rfl rfl rfl (by with_reducible rfl) ?_ | refine Mix.lex_skipU rfl rfl rfl (by with_reducible rfl) ?_); simp only [Act.put, List.setIfInBounds_toArray, List.set_cons_succ, List.set_cons_zero]) | (refine Mix.lex_part rfl rfl rfl rfl (fun hq => ?_) (fun hq => ?_) <;> (fail_if_success (guard_hyp hq :ₛ true = true)) <;> (fail_if_success (guard_hyp hq :ₛ false = false)) <;> first | (exfalso; cases hq; done) | (exfalso; simp only [decide_eq_true_eq, decide_eq_false_iff_not, beq_iff_eq, beq_eq_false_iff_ne, ne_eq, Int.not_lt, Int.not_le] at hq; omega) | simp only [Act.put, List.setIfInBounds_toArray, List.set_cons_succ, List.set_cons_zero])))
        refine Mix.lex_nil ?_
        have HNow : Hid ((∀ s ∈ d1.now, s.length = 340) ∧ d1.now.length = d.now.length) := by
          have k1 := wrL_wide (ckL t) q0 d (ckL_le t) HW.out
          have k2 := wrL_now (ckL t) q0 d
          rw [HWf.out] at k1 k2
          rw [Hid, HD1e.out, fl_now2]
          exact ⟨k1, k2⟩
        have K3 : Hid (u3.heap[D]? = some (.deferred (some []))) := (keeps_only o3 fun b hb => by obtain ⟨cs', t', hc, _⟩ := fp_cs D1.out.dk hb; exact ⟨cs', t', hc⟩).same _ _ HK1.out rfl
        have A1' := Lib.hid (A1.out.keep o3 m1)
        have A2' := Lib.hid (A2.out.keep o3 (fp_ne D1.out.dk A2.out (by decide) (by decide) (by decide)))
        have A4' := Lib.hid (A4.out.keep o3 m4)
        have hwt3 := wr_wait' d1 ((h'.epoch % 2 : Nat) : Int) tx
        have HNow3 : Hid ((∀ s ∈ (d1.wr ((h'.epoch % 2 : Nat) : Int) tx).now, s.length = 340) ∧ (d1.wr ((h'.epoch % 2 : Nat) : Int) tx).now.length = d.now.length) := ⟨wr_wide HNow.out.1 _ (by omega), (wr_now' _ _ _).trans HNow.out.2⟩
        obtain ⟨d3, hd3e⟩ : ∃ x, x = d1.wr ((h'.epoch % 2 : Nat) : Int) tx := ⟨_, rfl⟩
        obtain ⟨f2, hf2⟩ : ∃ x, x = d1.wrF ((h'.epoch % 2 : Nat) : Int) tx := ⟨_, rfl⟩
        rw [← hf2] at HC1 HC2 ⊢
        rw [← hd3e] at HC1 HC2 hd3 hwt3 HNow3
        have D3 := Lib.hid hd3
        clear hd3 hd3e hf2 o3 y2 hst mz m1 m4 HTxt A1 A2 A4 HK1 D1 HNow
        by_cases hf2 : f2 = 0
        · have HC3 := Lib.hid (HC2.out hf2)
          subst hf2
          rw [errV_zero]
          have hst : StoreAt u3 Z r.g := HS.out.on HD.out D3.out.o
          have q1 : u3.cell? ⟨b1, 0, none⟩ = some (pt Z.g) := A1'.out.cell 0
          have q2 : u3.cell? ⟨Z.g, 0, none⟩ = some (pt r.g) := hst.cs.cell 0
          have hF := Flush_all D3.out.dk
          rw [D3.out.g] at hF
          clear HC1 HC2
          go_wp2_with (first | ((first | refine Mix.wpList_guarded rfl ?_ | refine Mix.wp_still (by kernel_rfl) (by kernel_rfl) ?_); (repeat' (first | (refine Mix.lex_quiet0 rfl rfl rfl ?_; intro K hK; go_big_quiet_op; go_big_quiet_on) | (refine Mix.lex_quietG rfl rfl rfl (by with_reducible rfl) rfl rfl ?_; intro K hK; go_big_quiet_op; go_big_quiet_on) | ((first | refine Mix.lex_skipT rfl rfl rfl (by with_reducible rfl) ?_ | refine Mix.lex_skipF rfl rfl rfl (by with_reducible rfl) ?_ | refine Mix.lex_skipU rfl rfl rfl (by with_reducible rfl) ?_); simp only [Act.put, List.setIfInBounds_toArray, List.set_cons_succ, List.set_cons_zero]) | (refine Mix.lex_part rfl rfl rfl rfl (fun hq => ?_) (fun hq => ?_) <;> (fail_if_success (guard_hyp hq :ₛ true = true)) <;> (fail_if_success (guard_hyp hq :ₛ false = false)) <;> first | (exfalso; cases hq; done) | (exfalso; simp only [decide_eq_true_eq, decide_eq_false_iff_not, beq_iff_eq, beq_eq_false_iff_ne, ne_eq, Int.not_lt, Int.not_le] at hq; omega) | simp only [Act.put, List.setIfInBounds_toArray, List.set_cons_succ, List.set_cons_zero]))); all_goals (refine Mix.lex_nil ?_)))
          refine hF.mono ?_
          intro e u4 hr4
          obtain ⟨rfl, r4, hd4⟩ := D3.out.step hr4
          have o4 : Only r3.fp u3 u4 := hr4.2.choose_spec.2.2.1
          have K4 : Hid (u4.heap[D]? = some (.deferred (some []))) := (keeps_only o4 fun b hb => by obtain ⟨cs', t', hc, _⟩ := fp_cs D3.out.dk hb; exact ⟨cs', t', hc⟩).same _ _ K3.out rfl
          have B1' := Lib.hid (A1'.out.keep o4 (fp_ne D3.out.dk A1'.out (by decide) (by decide) (by decide)))
          have B2' := Lib.hid (A2'.out.keep o4 (fp_ne D3.out.dk A2'.out (by decide) (by decide) (by decide)))
          have B4' := Lib.hid (A4'.out.keep o4 (fp_ne D3.out.dk A4'.out (by decide) (by decide) (by decide)))
          have HNow4 : Hid ((∀ s ∈ d3.fl.now, s.length = 340) ∧ d3.fl.now.length = d.now.length) := by rw [Hid, fl_now2]; exact HNow3.out
          have HDn4 : Hid (d3.flF = 0 → d3.fl.down = false) := fl_down
          obtain ⟨d4, hd4e⟩ : ∃ x, x = d3.fl := ⟨_, rfl⟩
          obtain ⟨f3, hf3⟩ : ∃ x, x = d3.flF := ⟨_, rfl⟩
          rw [← hf3] at HC3 HDn4 ⊢
          rw [← hd4e] at HC3 hd4 HNow4 HDn4
          have D4 := Lib.hid hd4
          clear hd4 hd4e hf3 o4 hr4 hst q1 q2 hF A1' A2' A4' K3
          by_cases hf3 : f3 = 0
          · subst hf3
            rw [errV_zero]
            have hdn4 := HDn4.out rfl
            go_upto_region 17 with fail
            have hst : StoreAt u4 Z r.g := HS.out.on HD.out D4.out.o
            have HFst : Hid (h'.first = Z.l.first + Z.l.many) := by rw [Hid, hHd.out]
            have Q1 : ∀ ξ : X u4 No, ξ.v.cell? ⟨b1, 0, none⟩ = some (pt Z.g) := Cs.x B1'.out id 0
            have Q2 : ∀ ξ : X u4 No, ξ.v.cell? ⟨Z.g, 0, none⟩ = some (pt r.g) := Cs.x hst.cs id 0
            have Q3 : ∀ ξ : X u4 No, ξ.v.cell? ⟨g4, 3, none⟩ = some (.int .i64 (h'.first : Nat)) := Cs.x B4'.out id 3
            have HSc : Hid (∀ v, Ext u4 v → Calls Try.prog 30 #[pt r.g] v fun e u => e = .returned (.int .i64 d.now.length) ∧ Ext v u) := fun v hv => by
              have := Sectors_c (D4.out.ext hv).dk
              rw [HNow4.out.2, D4.out.g] at this
              exact this
            have HLO : Hid (∀ v, Ext u4 v → Calls Try.prog 34 #[pt r.g, .int .i64 44, .int .i64 ((d.now.length : Int) - 44), .int .i64 (h'.first : Nat)] v (OpRes v r.g 44 (d.now.length - 44) h'.first (scanF h'.first ((d4.now.drop 44).take (d.now.length - 44)) 0 [] [] 0))) := fun v hv => by
              have hl1 := HL.out
              have := Open_ok (HM.out.only (D4.out.o.then_ext hv) hnm) (D4.out.ext hv).dk hdn4 HNow4.out.1 44 (d.now.length - 44) h'.first (by omega) (by have := HNow4.out.2; omega) (by have := HFst.out; have := hl1.2.1; omega) (by have := HFst.out; have := hl1.2.2; have := hl1.2.1; omega)
              rw [D4.out.g] at this
              rw [show ((d.now.length : Int) - 44) = ((d.now.length - 44 : Nat) : Int) by omega]
              exact this
            obtain ⟨N, hN⟩ : ∃ N, N = d.now.length := ⟨_, rfl⟩
            have HN := Lib.hid hN
            rw [← hN] at HSc HLO h1 h2
            clear hN
            refine Mix.wp_draw [8, 12] 100 (Cl u4 No) (by kernel_rfl) (by kernel_rfl) (Cl.drew_ (X.here u4 No)) ?_
            (repeat' (first | (refine Mix.lex_quiet0 rfl rfl rfl ?_; intro K hK; go_big_quiet_op; go_big_quiet_on) | (refine Mix.lex_quietG rfl rfl rfl (by with_reducible rfl) rfl rfl ?_; intro K hK; go_big_quiet_op; go_big_quiet_on) | ((first | refine Mix.lex_skipT rfl rfl rfl (by with_reducible rfl) ?_ | refine Mix.lex_skipF rfl rfl rfl (by with_reducible rfl) ?_ | refine Mix.lex_skipU rfl rfl rfl (by with_reducible rfl) ?_); simp only [Act.put, List.setIfInBounds_toArray, List.set_cons_succ, List.set_cons_zero]) | (refine Mix.lex_part rfl rfl rfl rfl (fun hq => ?_) (fun hq => ?_) <;> (fail_if_success (guard_hyp hq :ₛ true = true)) <;> (fail_if_success (guard_hyp hq :ₛ false = false)) <;> first | (exfalso; cases hq; done) | (exfalso; simp only [decide_eq_true_eq, decide_eq_false_iff_not, beq_iff_eq, beq_eq_false_iff_ne, ne_eq, Int.not_lt, Int.not_le] at hq; omega) | simp only [Act.put, List.setIfInBounds_toArray, List.set_cons_succ, List.set_cons_zero])))
            ((first | refine Mix.lex_goes0 rfl rfl ?_ | refine Mix.lex_goesG rfl rfl rfl (by with_reducible rfl) rfl ?_); intro K hK; go_simp)
            refine (HSc.out _ (Only.refl No u4).drew).mono ?_
            rintro e u5 ⟨rfl, hu⟩
            have y5 : Ext u4 u5 := (Only.refl No u4).drew.then_ext hu
            refine ⟨_, rfl, hK _ _ (fun _ => Cl.of y5) ?_⟩
            clear hK K hu
            simp only [Act.put, List.setIfInBounds_toArray, List.set_cons_succ, List.set_cons_zero]
            (repeat' (first | (refine Mix.lex_quiet0 rfl rfl rfl ?_; intro K hK; go_big_quiet_op; go_big_quiet_on) | (refine Mix.lex_quietG rfl rfl rfl (by with_reducible rfl) rfl rfl ?_; intro K hK; go_big_quiet_op; go_big_quiet_on) | ((first | refine Mix.lex_skipT rfl rfl rfl (by with_reducible rfl) ?_ | refine Mix.lex_skipF rfl rfl rfl (by with_reducible rfl) ?_ | refine Mix.lex_skipU rfl rfl rfl (by with_reducible rfl) ?_); simp only [Act.put, List.setIfInBounds_toArray, List.set_cons_succ, List.set_cons_zero]) | (refine Mix.lex_part rfl rfl rfl rfl (fun hq => ?_) (fun hq => ?_) <;> (fail_if_success (guard_hyp hq :ₛ true = true)) <;> (fail_if_success (guard_hyp hq :ₛ false = false)) <;> first | (exfalso; cases hq; done) | (exfalso; simp only [decide_eq_true_eq, decide_eq_false_iff_not, beq_iff_eq, beq_eq_false_iff_ne, ne_eq, Int.not_lt, Int.not_le] at hq; omega) | simp only [Act.put, List.setIfInBounds_toArray, List.set_cons_succ, List.set_cons_zero])))
            ((first | refine Mix.lex_goes0 rfl rfl ?_ | refine Mix.lex_goesG rfl rfl rfl (by with_reducible rfl) rfl ?_); intro K hK; go_simp)
            refine (HLO.out _ y5).mono ?_
            rintro e u6 ⟨lg, oA, oc, ys, rfl, hlg, hLa, hDe, hys, hx⟩
            have y6 : Ext u4 u6 := y5.then_ext hx
            refine ⟨_, rfl, hK _ _ (fun _ => Cl.of y6) ?_⟩
            clear hK K HLO HSc
            simp only [Act.put, List.setIfInBounds_toArray, List.set_cons_succ, List.set_cons_zero]
            (repeat' (first | (refine Mix.lex_quiet0 rfl rfl rfl ?_; intro K hK; go_big_quiet_op; go_big_quiet_on) | (refine Mix.lex_quietG rfl rfl rfl (by with_reducible rfl) rfl rfl ?_; intro K hK; go_big_quiet_op; go_big_quiet_on) | ((first | refine Mix.lex_skipT rfl rfl rfl (by with_reducible rfl) ?_ | refine Mix.lex_skipF rfl rfl rfl (by with_reducible rfl) ?_ | refine Mix.lex_skipU rfl rfl rfl (by with_reducible rfl) ?_); simp only [Act.put, List.setIfInBounds_toArray, List.set_cons_succ, List.set_cons_zero]) | (refine Mix.lex_part rfl rfl rfl rfl (fun hq => ?_) (fun hq => ?_) <;> (fail_if_success (guard_hyp hq :ₛ true = true)) <;> (fail_if_success (guard_hyp hq :ₛ false = false)) <;> first | (exfalso; cases hq; done) | (exfalso; simp only [decide_eq_true_eq, decide_eq_false_iff_not, beq_iff_eq, beq_eq_false_iff_ne, ne_eq, Int.not_lt, Int.not_le] at hq; omega) | simp only [Act.put, List.setIfInBounds_toArray, List.set_cons_succ, List.set_cons_zero])))
            refine Mix.lex_nil ?_
            have Y6 := Lib.hid y6
            have L6 := Lib.hid hLa
            have Hlg : Hid (w.heap.size ≤ lg) := Nat.le_trans (D4.out.o.size) (Nat.le_trans y5.size hlg)
            have ZC := Lib.hid (hst.cs.keep y6 id)
            have P1 := Lib.hid (B1'.out.keep y6 id)
            have P2 := Lib.hid (B2'.out.keep y6 id)
            have P4 := Lib.hid (B4'.out.keep y6 id)
            have PZ := Lib.hid (hst.ext y6)
            have K6 : Hid (u6.heap[D]? = some (.deferred (some []))) := (keeps_only y6 fun b hb => hb.elim).same _ _ K4.out rfl
            clear Q1 Q2 Q3 hlg hLa hDe hys hx y6 y5 hst
            go_upto_region 19 with fail
            have nzb1 := Cs.ne_ P1.out ZC.out (by decide)
            have nzb4 := Cs.ne_ P4.out ZC.out (by decide)
            have Q1 : ∀ ξ : X u6 (fun b => b = Z.g), ξ.v.cell? ⟨b1, 0, none⟩ = some (pt Z.g) := Cs.x P1.out nzb1 0
            have Q3 : ∀ ξ : X u6 (fun b => b = Z.g), ξ.v.cell? ⟨g4, 0, none⟩ = some (.int .i64 (h'.epoch : Nat)) := Cs.x P4.out nzb4 0
            have Q4 : ∀ ξ : X u6 (fun b => b = Z.g), ξ.v.cell? ⟨g4, 1, none⟩ = some (.int .i64 (h'.side : Nat)) := Cs.x P4.out nzb4 1
            have Q5 : ∀ ξ : X u6 (fun b => b = Z.g), ξ.v.cell? ⟨g4, 2, none⟩ = some (.int .i64 (h'.size : Nat)) := Cs.x P4.out nzb4 2
            have Q6 : ∀ ξ : X u6 (fun b => b = Z.g), ξ.v.cell? ⟨g4, 3, none⟩ = some (.int .i64 (h'.first : Nat)) := Cs.x P4.out nzb4 3
            refine Mix.wp_draw [6, 9] 100 (Cl u6 (fun b => b = Z.g)) (by kernel_rfl) (by kernel_rfl) (Cl.drew_ (X.here u6 _)) ?_
            obtain ⟨μ0, hμ0⟩ : ∃ u, u = u6.drew := ⟨_, rfl⟩
            have xμ : Ext u6 μ0 := by rw [hμ0]; exact (Only.refl No u6).drew
            rw [← hμ0]
            clear hμ0
            have ZM := ZC.out.keep xμ id
            (repeat' (first | (refine Mix.lex_quiet0 rfl rfl rfl ?_; intro K hK; go_big_quiet_op; go_big_quiet_on) | (refine Mix.lex_quietG rfl rfl rfl (by with_reducible rfl) rfl rfl ?_; intro K hK; go_big_quiet_op; go_big_quiet_on) | ((first | refine Mix.lex_skipT rfl rfl rfl (by with_reducible rfl) ?_ | refine Mix.lex_skipF rfl rfl rfl (by with_reducible rfl) ?_ | refine Mix.lex_skipU rfl rfl rfl (by with_reducible rfl) ?_); simp only [Act.put, List.setIfInBounds_toArray, List.set_cons_succ, List.set_cons_zero]) | (refine Mix.lex_part rfl rfl rfl rfl (fun hq => ?_) (fun hq => ?_) <;> (fail_if_success (guard_hyp hq :ₛ true = true)) <;> (fail_if_success (guard_hyp hq :ₛ false = false)) <;> first | (exfalso; cases hq; done) | (exfalso; simp only [decide_eq_true_eq, decide_eq_false_iff_not, beq_iff_eq, beq_eq_false_iff_ne, ne_eq, Int.not_lt, Int.not_le] at hq; omega) | simp only [Act.put, List.setIfInBounds_toArray, List.set_cons_succ, List.set_cons_zero])))
            have c1 : μ0.cell? ⟨Z.g, 1, none⟩ = some (.int .i64 (Z.h.epoch : Nat)) := ZM.cell 1
            have c2 : μ0.cell? ⟨Z.g, 2, none⟩ = some (.int .i64 (Z.h.side : Nat)) := ZM.cell 2
            have c3 : μ0.cell? ⟨Z.g, 3, none⟩ = some (.int .i64 (Z.h.size : Nat)) := ZM.cell 3
            have c4 : μ0.cell? ⟨Z.g, 4, none⟩ = some (.int .i64 (Z.h.first : Nat)) := ZM.cell 4
            have z1 := ZM.frozen 1
            have z2 := ZM.frozen 2
            have z3 := ZM.frozen 3
            have z4 := ZM.frozen 4
            ((first | refine Mix.lex_goes0 rfl rfl ?_ | refine Mix.lex_goesG rfl rfl rfl (by with_reducible rfl) rfl ?_); intro K hK; go_simp)
            obtain ⟨v1, hv1⟩ : ∃ v, v = ((((μ0.setCell ⟨Z.g, 1, none⟩ (.int .i64 (h'.epoch : Nat))).setCell ⟨Z.g, 2, none⟩ (.int .i64 (h'.side : Nat))).setCell ⟨Z.g, 3, none⟩ (.int .i64 (h'.size : Nat))).setCell ⟨Z.g, 4, none⟩ (.int .i64 (h'.first : Nat))) := ⟨_, rfl⟩
            have C1 : Cs v1 Z.g stTy (stCells r.g h' (pt Z.l.g) (.slice Z.A Z.rows.length Z.c)) := by
              have := (((ZM.set_ 1 (.int .i64 (h'.epoch : Nat))).set_ 2 (.int .i64 (h'.side : Nat))).set_ 3 (.int .i64 (h'.size : Nat))).set_ 4 (.int .i64 (h'.first : Nat))
              simp only [List.setIfInBounds_toArray, List.set_cons_succ, List.set_cons_zero] at this
              rw [hv1]; exact this
            have O1 : Only (fun b => b = Z.g) u6 v1 := by rw [hv1]; exact ((((Only.any xμ : Only (fun b => b = Z.g) u6 μ0).at_ 1 _).at_ 2 _).at_ 3 _).at_ 4 _
            rw [← hv1]
            refine hK _ _ (fun _ => Cl.of O1) ?_
            clear hK K hv1 c1 c2 c3 c4 z1 z2 z3 z4
            simp only [Act.put, List.setIfInBounds_toArray, List.set_cons_succ, List.set_cons_zero]
            (repeat' (first | (refine Mix.lex_quiet0 rfl rfl rfl ?_; intro K hK; go_big_quiet_op; go_big_quiet_on) | (refine Mix.lex_quietG rfl rfl rfl (by with_reducible rfl) rfl rfl ?_; intro K hK; go_big_quiet_op; go_big_quiet_on) | ((first | refine Mix.lex_skipT rfl rfl rfl (by with_reducible rfl) ?_ | refine Mix.lex_skipF rfl rfl rfl (by with_reducible rfl) ?_ | refine Mix.lex_skipU rfl rfl rfl (by with_reducible rfl) ?_); simp only [Act.put, List.setIfInBounds_toArray, List.set_cons_succ, List.set_cons_zero]) | (refine Mix.lex_part rfl rfl rfl rfl (fun hq => ?_) (fun hq => ?_) <;> (fail_if_success (guard_hyp hq :ₛ true = true)) <;> (fail_if_success (guard_hyp hq :ₛ false = false)) <;> first | (exfalso; cases hq; done) | (exfalso; simp only [decide_eq_true_eq, decide_eq_false_iff_not, beq_iff_eq, beq_eq_false_iff_ne, ne_eq, Int.not_lt, Int.not_le] at hq; omega) | simp only [Act.put, List.setIfInBounds_toArray, List.set_cons_succ, List.set_cons_zero])))
            have c5 : v1.cell? ⟨Z.g, 5, none⟩ = some (pt Z.l.g) := C1.cell 5
            have z5 := C1.frozen 5
            ((first | refine Mix.lex_goes0 rfl rfl ?_ | refine Mix.lex_goesG rfl rfl rfl (by with_reducible rfl) rfl ?_); intro K hK; go_simp)
            obtain ⟨v2, hv2⟩ : ∃ v, v = v1.setCell ⟨Z.g, 5, none⟩ (pt lg) := ⟨_, rfl⟩
            have C2 : Hid (Cs v2 Z.g stTy (stCells r.g h' (pt lg) (.slice Z.A Z.rows.length Z.c))) := by
              have := C1.set_ 5 (pt lg)
              simp only [List.setIfInBounds_toArray, List.set_cons_succ, List.set_cons_zero] at this
              rw [hv2]; exact this
            have O2 : Hid (Only (fun b => b = Z.g) u6 v2) := by rw [hv2]; exact O1.at_ 5 _
            rw [← hv2]
            refine hK _ _ (fun _ => Cl.of O2.out) ?_
            clear hK K hv2 c5 z5 C1 O1 Q1 Q3 Q4 Q5 Q6 ZM xμ
            simp only [Act.put, List.setIfInBounds_toArray, List.set_cons_succ, List.set_cons_zero]
            (repeat' (first | (refine Mix.lex_quiet0 rfl rfl rfl ?_; intro K hK; go_big_quiet_op; go_big_quiet_on) | (refine Mix.lex_quietG rfl rfl rfl (by with_reducible rfl) rfl rfl ?_; intro K hK; go_big_quiet_op; go_big_quiet_on) | ((first | refine Mix.lex_skipT rfl rfl rfl (by with_reducible rfl) ?_ | refine Mix.lex_skipF rfl rfl rfl (by with_reducible rfl) ?_ | refine Mix.lex_skipU rfl rfl rfl (by with_reducible rfl) ?_); simp only [Act.put, List.setIfInBounds_toArray, List.set_cons_succ, List.set_cons_zero]) | (refine Mix.lex_part rfl rfl rfl rfl (fun hq => ?_) (fun hq => ?_) <;> (fail_if_success (guard_hyp hq :ₛ true = true)) <;> (fail_if_success (guard_hyp hq :ₛ false = false)) <;> first | (exfalso; cases hq; done) | (exfalso; simp only [decide_eq_true_eq, decide_eq_false_iff_not, beq_iff_eq, beq_eq_false_iff_ne, ne_eq, Int.not_lt, Int.not_le] at hq; omega) | simp only [Act.put, List.setIfInBounds_toArray, List.set_cons_succ, List.set_cons_zero])))
            refine Mix.lex_nil ?_
            have R2 := Lib.hid (P2.out.keep O2.out fun e => Cs.ne_ P2.out ZC.out (by decide) e)
            have K7 : Hid (v2.heap[D]? = some (.deferred (some []))) := (keeps_only O2.out fun b hb => by cases hb; exact ⟨_, _, ZC.out⟩).same _ _ K6.out rfl
            have p2 : v2.cell? ⟨b2, 0, none⟩ = some .nilIface := R2.out.cell 0
            have z2 := R2.out.frozen 0
            go_wp2_with (first | ((first | refine Mix.wpList_guarded rfl ?_ | refine Mix.wp_still (by kernel_rfl) (by kernel_rfl) ?_); (repeat' (first | (refine Mix.lex_quiet0 rfl rfl rfl ?_; intro K hK; go_big_quiet_op; go_big_quiet_on) | (refine Mix.lex_quietG rfl rfl rfl (by with_reducible rfl) rfl rfl ?_; intro K hK; go_big_quiet_op; go_big_quiet_on) | ((first | refine Mix.lex_skipT rfl rfl rfl (by with_reducible rfl) ?_ | refine Mix.lex_skipF rfl rfl rfl (by with_reducible rfl) ?_ | refine Mix.lex_skipU rfl rfl rfl (by with_reducible rfl) ?_); simp only [Act.put, List.setIfInBounds_toArray, List.set_cons_succ, List.set_cons_zero]) | (refine Mix.lex_part rfl rfl rfl rfl (fun hq => ?_) (fun hq => ?_) <;> (fail_if_success (guard_hyp hq :ₛ true = true)) <;> (fail_if_success (guard_hyp hq :ₛ false = false)) <;> first | (exfalso; cases hq; done) | (exfalso; simp only [decide_eq_true_eq, decide_eq_false_iff_not, beq_iff_eq, beq_eq_false_iff_ne, ne_eq, Int.not_lt, Int.not_le] at hq; omega) | simp only [Act.put, List.setIfInBounds_toArray, List.set_cons_succ, List.set_cons_zero]))); all_goals (refine Mix.lex_nil ?_)))
            have hK8 := (KeepsOthers.setCell v2 ⟨b2, 0, none⟩ .nilIface).same _ _ K7.out rfl
            have hnD : ∀ {g : Nat} {t' : TypeId} {cs' : Array Value}, Cs u6 g t' cs' → g ≠ D := fun hc e => by
              subst e
              have := K6.out
              rw [show u6.heap[_]? = _ from hc] at this
              cases this
            obtain ⟨WF, hWF⟩ : ∃ W, W = (v2.setCell ⟨b2, 0, none⟩ .nilIface).putObj D (.deferred none) := ⟨_, rfl⟩
            have hD2 : w.heap.size ≤ D := Nat.le_trans hsz8 hD
            have OF : Only (fun b => b = Z.g ∨ b = b2 ∨ b = D) u6 WF := by
              rw [hWF]
              exact ((O2.out.weak (fun b _ e => .inl e)).setCell (p := ⟨b2, 0, none⟩) (.inr (.inr (.inl rfl))) .nilIface).trans (only_grown (grownBy_putObj' _ D _)) (fun b _ e => by cases e; exact .inr (.inr rfl))
            have CF : Cs WF Z.g stTy (stCells r.g h' (pt lg) (.slice Z.A Z.rows.length Z.c)) := by
              rw [hWF]
              exact (C2.out.far (p := ⟨b2, 0, none⟩) (fun e => Cs.ne_ P2.out ZC.out (by decide) e.symm) .nilIface).keep (only_grown (grownBy_putObj' _ D _)) fun e => by cases e; exact hnD ZC.out rfl
            refine ret_marked (f := 0) hK8 (by rw [errV_zero]; exact R2.out.set_ 0 .nilIface) rfl ?_
            rw [← hWF]
            refine ⟨d4, 0, HC3.out, rfl, ⟨Z.g, h', ⟨lg, 44, N - 44, h'.first, (scanF h'.first ((d4.now.drop 44).take (N - 44)) 0 [] [] 0).2⟩, Z.A, Z.c, Z.rows⟩, r4, ⟨?_, D4.out.g, ⟨CF, ?_, ?_⟩, rfl, ?_, ?_⟩, rfl, ?_⟩
            · refine (D4.out.ext Y6.out).dk.keep OF fun b hb e => ?_
              have hdk6 := (D4.out.ext Y6.out).dk
              rcases e with e | e | e
              · subst e; exact fp_ne hdk6 ZC.out (by decide) (by decide) (by decide) hb
              · subst e; exact fp_ne hdk6 P2.out (by decide) (by decide) (by decide) hb
              · obtain ⟨cs', t', hc, _⟩ := fp_cs hdk6 hb
                exact hnD hc e
            · refine L6.out.keep OF fun e => ?_
              rcases e with e | e | e
              · exact Cs.ne_ L6.out ZC.out (by decide) e
              · exact Cs.ne_ L6.out P2.out (by decide) e
              · exact hnD L6.out e
            · refine own_keep PZ.out.own OF fun g hg e => ?_
              obtain ⟨cur, hc⟩ := own_cs PZ.out.own hg
              rcases e with e | e | e
              · exact Cs.ne_ hc ZC.out (by decide) e
              · exact Cs.ne_ hc P2.out (by decide) e
              · exact hnD hc e
            · refine ((D4.out.o.weak fun b _ e => .inl e).then_ext Y6.out).trans OF fun b hb e => ?_
              rcases e with e | e | e
              · exact .inr (.inl e)
              · have := HB.out.2; omega
              · omega
            · intro b hb
              rcases hb with e | e | e
              · rcases D4.out.f b e with e | e
                · exact .inl (.inl e)
                · exact .inr e
              · exact .inl (.inr (.inl e))
              · exact .inr (by rw [e]; exact Hlg.out)
            · rw [if_pos rfl, ← HFst.out, ← HN.out]
              exact ⟨rfl, lg, rfl⟩
          · rw [errV_pos hf3]
            have p2 : u4.cell? ⟨b2, 0, none⟩ = some .nilIface := B2'.out.cell 0
            have z2 := B2'.out.frozen 0
            go_wp2_with (first | ((first | refine Mix.wpList_guarded rfl ?_ | refine Mix.wp_still (by kernel_rfl) (by kernel_rfl) ?_); (repeat' (first | (refine Mix.lex_quiet0 rfl rfl rfl ?_; intro K hK; go_big_quiet_op; go_big_quiet_on) | (refine Mix.lex_quietG rfl rfl rfl (by with_reducible rfl) rfl rfl ?_; intro K hK; go_big_quiet_op; go_big_quiet_on) | ((first | refine Mix.lex_skipT rfl rfl rfl (by with_reducible rfl) ?_ | refine Mix.lex_skipF rfl rfl rfl (by with_reducible rfl) ?_ | refine Mix.lex_skipU rfl rfl rfl (by with_reducible rfl) ?_); simp only [Act.put, List.setIfInBounds_toArray, List.set_cons_succ, List.set_cons_zero]) | (refine Mix.lex_part rfl rfl rfl rfl (fun hq => ?_) (fun hq => ?_) <;> (fail_if_success (guard_hyp hq :ₛ true = true)) <;> (fail_if_success (guard_hyp hq :ₛ false = false)) <;> first | (exfalso; cases hq; done) | (exfalso; simp only [decide_eq_true_eq, decide_eq_false_iff_not, beq_iff_eq, beq_eq_false_iff_ne, ne_eq, Int.not_lt, Int.not_le] at hq; omega) | simp only [Act.put, List.setIfInBounds_toArray, List.set_cons_succ, List.set_cons_zero]))); all_goals (refine Mix.lex_nil ?_)))
            exact ck_fail HS.out HD.out D4.out (Nat.le_trans hsz8 hD) K4.out B2'.out HB.out.2 hf3 HC3.out rfl
        · have HC3 := Lib.hid (HC1.out 0 hf2)
          rw [errV_pos hf2]
          have p2 : u3.cell? ⟨b2, 0, none⟩ = some .nilIface := A2'.out.cell 0
          have z2 := A2'.out.frozen 0
          clear HC1 HC2
          go_wp2_with (first | ((first | refine Mix.wpList_guarded rfl ?_ | refine Mix.wp_still (by kernel_rfl) (by kernel_rfl) ?_); (repeat' (first | (refine Mix.lex_quiet0 rfl rfl rfl ?_; intro K hK; go_big_quiet_op; go_big_quiet_on) | (refine Mix.lex_quietG rfl rfl rfl (by with_reducible rfl) rfl rfl ?_; intro K hK; go_big_quiet_op; go_big_quiet_on) | ((first | refine Mix.lex_skipT rfl rfl rfl (by with_reducible rfl) ?_ | refine Mix.lex_skipF rfl rfl rfl (by with_reducible rfl) ?_ | refine Mix.lex_skipU rfl rfl rfl (by with_reducible rfl) ?_); simp only [Act.put, List.setIfInBounds_toArray, List.set_cons_succ, List.set_cons_zero]) | (refine Mix.lex_part rfl rfl rfl rfl (fun hq => ?_) (fun hq => ?_) <;> (fail_if_success (guard_hyp hq :ₛ true = true)) <;> (fail_if_success (guard_hyp hq :ₛ false = false)) <;> first | (exfalso; cases hq; done) | (exfalso; simp only [decide_eq_true_eq, decide_eq_false_iff_not, beq_iff_eq, beq_eq_false_iff_ne, ne_eq, Int.not_lt, Int.not_le] at hq; omega) | simp only [Act.put, List.setIfInBounds_toArray, List.set_cons_succ, List.set_cons_zero]))); all_goals (refine Mix.lex_nil ?_)))
          exact ck_fail HS.out HD.out D3.out (Nat.le_trans hsz8 hD) K3.out A2'.out HB.out.2 hf2 HC3.out rfl
      · rw [errV_pos hf0]
        have p2 : u1.cell? ⟨b2, 0, none⟩ = some .nilIface := A2.out.cell 0
        have z2 := A2.out.frozen 0
        go_wp2_with (first | ((first | refine Mix.wpList_guarded rfl ?_ | refine Mix.wp_still (by kernel_rfl) (by kernel_rfl) ?_); (repeat' (first | (refine Mix.lex_quiet0 rfl rfl rfl ?_; intro K hK; go_big_quiet_op; go_big_quiet_on) | (refine Mix.lex_quietG rfl rfl rfl (by with_reducible rfl) rfl rfl ?_; intro K hK; go_big_quiet_op; go_big_quiet_on) | ((first | refine Mix.lex_skipT rfl rfl rfl (by with_reducible rfl) ?_ | refine Mix.lex_skipF rfl rfl rfl (by with_reducible rfl) ?_ | refine Mix.lex_skipU rfl rfl rfl (by with_reducible rfl) ?_); simp only [Act.put, List.setIfInBounds_toArray, List.set_cons_succ, List.set_cons_zero]) | (refine Mix.lex_part rfl rfl rfl rfl (fun hq => ?_) (fun hq => ?_) <;> (fail_if_success (guard_hyp hq :ₛ true = true)) <;> (fail_if_success (guard_hyp hq :ₛ false = false)) <;> first | (exfalso; cases hq; done) | (exfalso; simp only [decide_eq_true_eq, decide_eq_false_iff_not, beq_iff_eq, beq_eq_false_iff_ne, ne_eq, Int.not_lt, Int.not_le] at hq; omega) | simp only [Act.put, List.setIfInBounds_toArray, List.set_cons_succ, List.set_cons_zero]))); all_goals (refine Mix.lex_nil ?_)))
        exact ck_fail HS.out HD.out D1.out (Nat.le_trans hsz8 hD) HK1.out A2.out HB.out.2 hf0 (HC0.out 0 hf0) rfl
    case stop_ =>
      rintro D c pre W hD ⟨k, hk, rfl⟩ ⟨rfl, ⟨r', d', f, hdk, hwr, hf0, hc2⟩⟩ hK
      gi_wp2
      obtain ⟨m, hm⟩ : ∃ m, List.range (chN t.length) = List.range k ++ m := ⟨(List.range (chN t.length)).drop k, by rw [show List.range k = (List.range (chN t.length)).take k by rw [List.take_range, Nat.min_eq_left hk]]; exact (List.take_append_drop _ _).symm⟩
      have hwf : wrL q0 (ckL t) d = (d', f) := by unfold ckL; rw [hm, List.map_append]; exact wrL_more _ _ _ _ _ _ hwr hf0
      have hg := grownBy_putObj' W D (.deferred none)
      have hgr : ∀ k, some D = some k → w8.heap.size ≤ k ∧ ∃ o : Obj, W.heap[k]? = some o ∧ o.isCells = false := fun k e => by cases e; exact ⟨hD, _, hK, rfl⟩
      refine ret_marked hK hc2 rfl ⟨d', f, ?_, rfl, Z, r', StOn.of (hdk.grown hsz8 hg hgr) ((HS.out.on HD.out hdk.o).grown hg hgr) rfl (.inl rfl), rfl, ?_⟩
      · unfold ckD
        rw [← HQ0.out, hwf, if_pos hf0]
      · rw [if_neg hf0]; exact ⟨rfl, rfl⟩
end Go.Proofs.Ytaphmmobmadfoaa
