/- Put together: Grl. -/
import Derived.Test.YtnhaekifcieeoaaGreatDoorMa12
/- Each group comes behind those that it needs. Plain: no program. -/
namespace Go.Proofs.YtnhaekifcieeoaaGreatDoor
open Go Go.RowKit
/-- No name is made by two rules. -/
def Uniq (m : Mk) : Prop := ∀ r ∈ m.rules, ∀ q ∈ m.rules, ∀ t, t ∈ r.targets → t ∈ q.targets → r = q
theorem explF_none {rs : List Rul} {n : Str} (h : explF rs n = none) : ∀ r ∈ rs, n ∉ r.targets := by
  intro r hr hn
  unfold explF at h
  have := List.find?_eq_none.1 h r hr
  simp [inS, hn] at this
theorem groupF_tgt (m : Mk) (r : Rul) (n : Str) : (groupF m r n []).targets = r.targets := by simp [groupF, tgtOf]
theorem groupF_nil (m : Mk) (r : Rul) (n k : Str) : groupF m r n [] = groupF m r k [] := by simp [groupF, tgtOf]
theorem share {m : Mk} {l : List File} (hu : Uniq m) {n k t : Str} {g q : Grp} (hg : ruleF m l n = some g) (hq : ruleF m l k = some q) (h1 : t ∈ g.targets) (h2 : t ∈ q.targets) : g = q := by
  rcases ruleF_some hg with ⟨r, hr, rfl⟩ | ⟨hn, r, _, hs, rfl, _⟩
  · rcases ruleF_some hq with ⟨r', hr', rfl⟩ | ⟨hn', r', _, hs', rfl, _⟩
    · rw [groupF_tgt] at h1 h2
      have := hu r (explF_some hr).1 r' (explF_some hr').1 t h1 h2
      subst this
      exact groupF_nil _ _ _ _
    · exfalso
      rw [groupF_tgt] at h1
      have h2 : t ∈ tgtOf r' k _ := h2
      unfold tgtOf at h2
      rw [if_neg (stemL_ne hs'), List.mem_singleton] at h2
      subst h2
      exact explF_none hn' r (explF_some hr).1 h1
  · have e1 : t = n := by
      have h1 : t ∈ tgtOf r n _ := h1
      unfold tgtOf at h1
      rwa [if_neg (stemL_ne hs), List.mem_singleton] at h1
    rcases ruleF_some hq with ⟨r', hr', rfl⟩ | ⟨hn', r', _, hs', rfl, _⟩
    · exfalso
      rw [groupF_tgt] at h2
      subst e1
      exact explF_none hn r' (explF_some hr').1 h2
    · have e2 : t = k := by
        have h2 : t ∈ tgtOf r' k _ := h2
        unfold tgtOf at h2
        rwa [if_neg (stemL_ne hs'), List.mem_singleton] at h2
      subst e1; subst e2
      rw [hg] at hq
      exact Option.some.inj hq
structure GOk (m : Mk) (l : List File) (out : List Grp) : Prop where
  rl : ∀ g ∈ out, ∃ n, ruleF m l n = some g
  ds : out.Pairwise fun a b => ∀ t ∈ a.targets, t ∉ b.targets
  tp : ∀ (i : Nat) g, out[i]? = some g → ∀ n ∈ g.needs, (∃ k q, k < i ∧ out[k]? = some q ∧ n ∈ q.targets) ∨ (ruleF m l n = none ∧ isF l n = true)
def WayOk (m : Mk) (l : List File) (way : List Str) : Prop := ∀ t ∈ way, ∃ g n, ruleF m l n = some g ∧ t ∈ g.targets ∧ ∀ u ∈ g.targets, u ∈ way
def OffW (way : List Str) (out : List Grp) : Prop := ∀ g ∈ out, ∀ t ∈ g.targets, t ∉ way
def HasN (m : Mk) (l : List File) (out : List Grp) (n : Str) : Prop := (∃ g ∈ out, n ∈ g.targets) ∨ (ruleF m l n = none ∧ isF l n = true)
theorem makerF_none {out : List Grp} {n : Str} (h : (makerF out n).isSome = false) : ∀ g ∈ out, n ∉ g.targets := by
  intro g hg hn
  unfold makerF at h
  have : out.findIdx? (fun g => inS g.targets n) = none := by simpa using h
  have := List.findIdx?_eq_none_iff.1 this g hg
  simp [inS, hn] at this
theorem makerF_some {out : List Grp} {n : Str} {i : Nat} (h : makerF out n = some i) : ∃ g, out[i]? = some g ∧ n ∈ g.targets := by
  unfold makerF at h
  obtain ⟨hi, h1, _⟩ := List.findIdx?_eq_some_iff_getElem.1 h
  exact ⟨out[i], List.getElem?_eq_getElem hi, by simpa [inS] using h1⟩
theorem makerF_at {out : List Grp} (hd : out.Pairwise fun a b => ∀ t ∈ a.targets, t ∉ b.targets) {n : Str} {i : Nat} {g : Grp} (hg : out[i]? = some g) (hn : n ∈ g.targets) : makerF out n = some i := by
  obtain ⟨hi, e⟩ := List.getElem?_eq_some_iff.1 hg
  unfold makerF
  refine List.findIdx?_eq_some_iff_getElem.2 ⟨hi, by rw [e]; simpa [inS] using hn, fun j hj => ?_⟩
  have := List.pairwise_iff_getElem.1 hd j i (by omega) hi hj
  rw [e] at this
  have h2 : n ∉ (out[j]'(by omega)).targets := fun h => this n h hn
  simpa [inS] using h2
section
variable {m : Mk} {l : List File}
theorem GOk.add {out : List Grp} {g : Grp} {n : Str} (h : GOk m l out) (hr : ruleF m l n = some g) (hd : ∀ q ∈ out, ∀ t ∈ q.targets, t ∉ g.targets) (hn : ∀ k ∈ g.needs, HasN m l out k) : GOk m l (out ++ [g]) := by
  refine ⟨fun q hq => ?_, ?_, fun i q hi k hk => ?_⟩
  · rcases List.mem_append.1 hq with hq | hq
    · exact h.rl q hq
    · obtain rfl : q = g := by simpa using hq
      exact ⟨n, hr⟩
  · refine List.pairwise_append.2 ⟨h.ds, List.pairwise_singleton _ _, fun a ha b hb => ?_⟩
    obtain rfl : b = g := by simpa using hb
    exact hd a ha
  · rcases Nat.lt_or_ge i out.length with hlt | hge
    · rw [List.getElem?_append_left hlt] at hi
      rcases h.tp i q hi k hk with ⟨j, p, h1, h2, h3⟩ | h1
      · exact .inl ⟨j, p, h1, by rw [List.getElem?_append_left (by omega)]; exact h2, h3⟩
      · exact .inr h1
    · rw [List.getElem?_append_right hge] at hi
      have hz : i - out.length = 0 := by
        rcases Nat.eq_zero_or_pos (i - out.length) with h0 | h0
        · exact h0
        · rw [List.getElem?_eq_none (by simp only [List.length_singleton]; omega)] at hi; cases hi
      rw [hz] at hi
      obtain rfl : g = q := by simpa using hi
      rcases hn k hk with ⟨p, hp, hk2⟩ | h1
      · obtain ⟨j, hj, e⟩ := List.getElem_of_mem hp
        exact .inl ⟨j, p, by omega, by rw [List.getElem?_append_left hj, List.getElem?_eq_getElem hj, e], hk2⟩
      · exact .inr h1
theorem HasN.more {out new : List Grp} {n : Str} (h : HasN m l out n) : HasN m l (out ++ new) n := by
  rcases h with ⟨g, hg, hn⟩ | h
  · exact .inl ⟨g, List.mem_append_left _ hg, hn⟩
  · exact .inr h
theorem needsF_ok {way : List Str} {rec : List Grp → Str → List Grp × Int} (hrec : ∀ out n, GOk m l out → OffW way out → (rec out n).2 = 0 → (∃ new, (rec out n).1 = out ++ new) ∧ GOk m l (rec out n).1 ∧ OffW way (rec out n).1 ∧ HasN m l (rec out n).1 n) :
    ∀ (ns : List Str) (out : List Grp), GOk m l out → OffW way out → (needsF rec out ns).2 = 0 → (∃ new, (needsF rec out ns).1 = out ++ new) ∧ GOk m l (needsF rec out ns).1 ∧ OffW way (needsF rec out ns).1 ∧ ∀ n ∈ ns, HasN m l (needsF rec out ns).1 n
  | [], out, h1, h2, _ => ⟨⟨[], by simp [needsF]⟩, h1, h2, fun n hn => by cases hn⟩
  | n :: ns, out, h1, h2, h0 => by
    unfold needsF at h0 ⊢
    split at h0
    · rename_i hne; exact absurd h0 hne
    · rename_i he
      rw [if_neg he]
      have he : (rec out n).2 = 0 := by omega
      obtain ⟨⟨new, e1⟩, k1, k2, k3⟩ := hrec out n h1 h2 he
      obtain ⟨⟨new2, e2⟩, j1, j2, j3⟩ := needsF_ok hrec ns _ k1 k2 h0
      refine ⟨⟨new ++ new2, by rw [e2, e1, List.append_assoc]⟩, j1, j2, fun k hk => ?_⟩
      rcases List.mem_cons.1 hk with rfl | hk
      · rw [e2]; exact k3.more
      · exact j3 k hk
theorem visitF_ok (hu : Uniq m) : ∀ (f : Nat) (way : List Str) (out : List Grp) (name : Str), WayOk m l way → GOk m l out → OffW way out → (visitF m l f way out name).2 = 0 →
    (∃ new, (visitF m l f way out name).1 = out ++ new) ∧ GOk m l (visitF m l f way out name).1 ∧ OffW way (visitF m l f way out name).1 ∧ HasN m l (visitF m l f way out name).1 name
  | 0, _, _, _, _, _, _, h => by simp [visitF] at h
  | f + 1, way, out, name, hw, ho, hf, h => by
    unfold visitF at h ⊢
    by_cases h1 : inS way name = true
    · rw [if_pos h1] at h; simp at h
    rw [if_neg h1] at h ⊢
    by_cases h2 : (makerF out name).isSome = true
    · rw [if_pos h2]
      obtain ⟨i, hi⟩ := Option.isSome_iff_exists.1 h2
      obtain ⟨g, hg, hn⟩ := makerF_some hi
      exact ⟨⟨[], by simp⟩, ho, hf, .inl ⟨g, List.mem_of_getElem? hg, hn⟩⟩
    rw [if_neg h2] at h ⊢
    cases hr : ruleF m l name with
    | none =>
      rw [hr] at h
      simp only at h ⊢
      by_cases h3 : isF l name = true
      · rw [if_pos h3]
        exact ⟨⟨[], by simp⟩, ho, hf, .inr ⟨hr, h3⟩⟩
      · rw [if_neg h3] at h; simp at h
    | some g =>
      rw [hr] at h
      simp only at h ⊢
      have hnw : name ∉ way := by simpa [inS] using h1
      have hown := ruleF_own hr
      have hoff : ∀ q ∈ out, ∀ t ∈ q.targets, t ∉ g.targets := fun q hq t ht htg => by
        obtain ⟨k, hk⟩ := ho.rl q hq
        have := share hu hr hk htg ht
        subst this
        exact makerF_none (by simpa using h2) g hq hown
      have hw2 : WayOk m l (way ++ g.targets) := fun t ht => by
        rcases List.mem_append.1 ht with ht | ht
        · obtain ⟨q, k, a, b, c⟩ := hw t ht
          exact ⟨q, k, a, b, fun u hu => List.mem_append_left _ (c u hu)⟩
        · exact ⟨g, name, hr, ht, fun u hu => List.mem_append_right _ hu⟩
      have hf2 : OffW (way ++ g.targets) out := fun q hq t ht hm => by
        rcases List.mem_append.1 hm with hm | hm
        · exact hf q hq t ht hm
        · exact hoff q hq t ht hm
      have key := needsF_ok (m := m) (l := l) (way := way ++ g.targets) (rec := visitF m l f (way ++ g.targets)) (fun o n a b c => visitF_ok hu f _ o n hw2 a b c) g.needs out ho hf2
      generalize needsF (visitF m l f (way ++ g.targets)) out g.needs = R at h key ⊢
      by_cases h3 : R.2 ≠ 0
      · rw [if_pos h3] at h; exact absurd h h3
      rw [if_neg h3] at h ⊢
      by_cases h4 : R.1.length = 10
      · rw [if_pos h4] at h; simp at h
      rw [if_neg h4]
      obtain ⟨⟨new, e⟩, k1, k2, k3⟩ := key (by omega)
      refine ⟨⟨new ++ [g], by show R.1 ++ [g] = _; rw [e, List.append_assoc]⟩, k1.add hr (fun q hq t ht htg => k2 q hq t ht (List.mem_append_right _ htg)) k3, fun q hq t ht hm => ?_, .inl ⟨g, by simp, hown⟩⟩
      rcases List.mem_append.1 hq with hq | hq
      · exact k2 q hq t ht (List.mem_append_left _ hm)
      · obtain rfl : q = g := by simpa using hq
        obtain ⟨p, k, a, b, c⟩ := hw t hm
        have := share hu hr a ht b
        subst this
        exact hnw (c _ hown)
theorem visitF_len : ∀ (f : Nat) (way : List Str) (out : List Grp) (name : Str), out.length ≤ 10 → (visitF m l f way out name).1.length ≤ 10
  | 0, _, _, _, h => h
  | f + 1, way, out, name, h => by
    have hn : ∀ (ns : List Str) (o : List Grp) (w : List Str), o.length ≤ 10 → (needsF (visitF m l f w) o ns).1.length ≤ 10 := by
      intro ns
      induction ns with
      | nil => intro o w ho; exact ho
      | cons n ns ih =>
        intro o w ho
        unfold needsF
        split
        · exact visitF_len f w o n ho
        · exact ih _ w (visitF_len f w o n ho)
    unfold visitF
    split
    · exact h
    · split
      · exact h
      · split
        · split <;> exact h
        · rename_i g _
          have := hn g.needs out (way ++ g.targets) h
          split
          · exact this
          · split
            · exact this
            · simp only [List.length_append, List.length_cons, List.length_nil]; omega
/-- What the goal's groups are. -/
theorem groupsF_ok (hu : Uniq m) {goal : Str} (h : (groupsF m l goal).2 = 0) : GOk m l (groupsF m l goal).1 ∧ (groupsF m l goal).1.length ≤ 10 ∧
    ((groupsF m l goal).1 = [] → isF l goal = true) ∧ (∀ g, (groupsF m l goal).1.getLast? = some g → goal ∈ g.targets) := by
  unfold groupsF at h ⊢
  split at h
  · simp at h
  rename_i h0
  rw [if_neg h0]
  split at h
  · rename_i h1; exact absurd h h1
  rename_i h1
  rw [if_neg h1]
  have h1 : (visitF m l 100 [] [] goal).2 = 0 := by omega
  have hlen := visitF_len (m := m) (l := l) 100 [] [] goal (by simp)
  have hok := visitF_ok hu 100 [] [] goal (fun t ht => by cases ht) ⟨fun g hg => (by cases hg), List.Pairwise.nil, fun i g hi => (by simp at hi)⟩ (fun g hg => by cases hg) h1
  refine ⟨hok.2.1, hlen, fun he => ?_, fun g hg => ?_⟩
  · rcases hok.2.2.2 with ⟨g, hg, _⟩ | h2
    · have he : (visitF m l 100 [] [] goal).1 = [] := he
      rw [he] at hg; cases hg
    · exact h2.2
  · have hg : (visitF m l (99 + 1) [] [] goal).1.getLast? = some g := hg
    have h1 : (visitF m l (99 + 1) [] [] goal).2 = 0 := h1
    unfold visitF at hg h1
    rw [if_neg (by simp [inS]), if_neg (by simp [makerF])] at hg h1
    cases hr : ruleF m l goal with
    | none =>
      rw [hr] at hg
      simp only at hg
      split at hg <;> simp at hg
    | some q =>
      rw [hr] at hg h1
      simp only at hg h1
      split at hg
      · rename_i h2; rw [if_pos h2] at h1; exact absurd h1 h2
      · rename_i h2
        rw [if_neg h2] at h1
        split at hg
        · rename_i h3; rw [if_pos h3] at h1; simp at h1
        · simp only [List.getLast?_append, List.getLast?_singleton, Option.or_some, Option.some.injEq] at hg
          have e : q = g := by simpa using hg
          subst e
          exact ruleF_own hr
end
/-- A text that could be read has no name twice. -/
theorem dupF_false : ∀ {ts made : List Str}, dupF made ts = false → (∀ t ∈ ts, t ∉ made) ∧ ts.Nodup
  | [], made, _ => ⟨fun t ht => (by cases ht), List.nodup_nil⟩
  | t :: ts, made, h => by
    unfold dupF at h
    simp only [Bool.or_eq_false_iff] at h
    obtain ⟨h1, h2⟩ := dupF_false h.2
    have ht : t ∉ made := by simpa [inS] using h.1
    refine ⟨fun u hu => ?_, List.nodup_cons.2 ⟨fun hm => h1 t hm (by simp), h2⟩⟩
    rcases List.mem_cons.1 hu with rfl | hu
    · exact ht
    · exact fun hm => h1 u hu (List.mem_append_left _ hm)
theorem chkR_uniq (ph : List Str) : ∀ {rs : List Rul} {made all : List Str}, chkR ph rs made = some all → (∀ r ∈ rs, (∀ t ∈ r.targets, t ∉ made) ∧ r.targets.Nodup ∧ ruleOk ph r = true) ∧ rs.Pairwise (fun a b => ∀ t ∈ a.targets, t ∉ b.targets) ∧ (∀ t, t ∈ all ↔ t ∈ made ∨ ∃ r ∈ rs, t ∈ r.targets)
  | [], made, all, h => by
    unfold chkR at h
    cases h
    exact ⟨fun r hr => (by cases hr), List.Pairwise.nil, fun t => by simp⟩
  | r :: rs, made, all, h => by
    unfold chkR at h
    split at h
    · cases h
    · rename_i h1
      split at h
      · rename_i h2
        obtain ⟨k1, k2⟩ := dupF_false (by simpa using h1)
        obtain ⟨j1, j2, j3⟩ := chkR_uniq ph h
        refine ⟨fun q hq => ?_, List.pairwise_cons.2 ⟨fun q hq t ht hm => (j1 q hq).1 t hm (List.mem_append_right _ ht), j2⟩, fun t => ?_⟩
        · rcases List.mem_cons.1 hq with rfl | hq
          · exact ⟨k1, k2, h2⟩
          · exact ⟨fun t ht hm => (j1 q hq).1 t ht (List.mem_append_left _ hm), (j1 q hq).2⟩
        · rw [j3 t]
          simp only [List.mem_append, List.mem_cons, exists_eq_or_imp, or_assoc]
      · cases h
theorem chk_uniq {m : Mk} (h : chkF m = 0) : Uniq m ∧ (∀ r ∈ m.rules, r.targets.Nodup) ∧ (∀ r ∈ m.rules, ruleOk m.phony r = true) := by
  unfold chkF at h
  split at h
  · simp at h
  · rename_i all hc
    obtain ⟨h1, h2, _⟩ := chkR_uniq m.phony hc
    refine ⟨fun r hr q hq t ht hm => ?_, fun r hr => (h1 r hr).2.1, fun r hr => (h1 r hr).2.2⟩
    obtain ⟨i, hi, e1⟩ := List.getElem_of_mem hr
    obtain ⟨j, hj, e2⟩ := List.getElem_of_mem hq
    have hp := List.pairwise_iff_getElem.1 h2
    rcases Nat.lt_trichotomy i j with hlt | heq | hgt
    · have := hp i j hi hj hlt t (by rw [e1]; exact ht)
      rw [e2] at this
      exact absurd hm this
    · subst heq; rw [← e1, ← e2]
    · have := hp j i hj hi hgt t (by rw [e2]; exact hm)
      rw [e1] at this
      exact absurd ht this
end Go.Proofs.YtnhaekifcieeoaaGreatDoor
