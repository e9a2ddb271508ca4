/- Put together: Grl, Gxs, Fi, Ots, Frs, Uni. -/
import Derived.Test.YtnhaekifcieeoaaGreatDoorPk09
import Derived.Test.YtnhaekifcieeoaaGreatDoorPk16
import Derived.Test.YtnhaekifcieeoaaGreatDoorPk02
import Derived.Test.YtnhaekifcieeoaaGreatDoorPk12
import Derived.Test.YtnhaekifcieeoaaGreatDoorPk03
import Derived.Test.YtnhaekifcieeoaaGreatDoorPk07
import Derived.Test.YtnhaekifcieeoaaGreatDoorPk01
namespace Go.Proofs.YtnhaekifcieeoaaGreatDoor
open Go Go.RowKit
def Uniq (m : Mk) : Prop := ∀ r ∈ m.rules, ∀ q ∈ m.rules, ∀ t, t ∈ r.targets → t ∈ q.targets → r = q
theorem explF_none {rs : List Rul} {n : Str} (h : explF rs n = none) : ∀ r ∈ rs, n ∉ r.targets := by
  intro r hr hn
  unfold explF at h
  have := List.find?_eq_none.1 h r hr
  simp [inS, hn] at this
theorem groupF_tgt (m : Mk) (r : Rul) (n : Str) : (groupF m r n []).targets = r.targets := by simp [groupF, tgtOf]
theorem groupF_nil (m : Mk) (r : Rul) (n k : Str) : groupF m r n [] = groupF m r k [] := by simp [groupF, tgtOf]
theorem share {m : Mk} {l : List File} (hu : Uniq m) {n k t : Str} {g q : Grp} (hg : ruleF m l n = some g) (hq : ruleF m l k = some q) (h1 : t ∈ g.targets) (h2 : t ∈ q.targets) : g = q := by
  rcases ruleF_some hg with ⟨r, hr, rfl⟩ | ⟨hn, r, _, hs, rfl, _⟩
  · rcases ruleF_some hq with ⟨r', hr', rfl⟩ | ⟨hn', r', _, hs', rfl, _⟩
    · rw [groupF_tgt] at h1 h2
      have := hu r (explF_some hr).1 r' (explF_some hr').1 t h1 h2
      subst this
      exact groupF_nil _ _ _ _
    · exfalso
      rw [groupF_tgt] at h1
      have h2 : t ∈ tgtOf r' k _ := h2
      unfold tgtOf at h2
      rw [if_neg (stemL_ne hs'), List.mem_singleton] at h2
      subst h2
      exact explF_none hn' r (explF_some hr).1 h1
  · have e1 : t = n := by
      have h1 : t ∈ tgtOf r n _ := h1
      unfold tgtOf at h1
      rwa [if_neg (stemL_ne hs), List.mem_singleton] at h1
    rcases ruleF_some hq with ⟨r', hr', rfl⟩ | ⟨hn', r', _, hs', rfl, _⟩
    · exfalso
      rw [groupF_tgt] at h2
      subst e1
      exact explF_none hn r' (explF_some hr').1 h2
    · have e2 : t = k := by
        have h2 : t ∈ tgtOf r' k _ := h2
        unfold tgtOf at h2
        rwa [if_neg (stemL_ne hs'), List.mem_singleton] at h2
      subst e1; subst e2
      rw [hg] at hq
      exact Option.some.inj hq
structure GOk (m : Mk) (l : List File) (out : List Grp) : Prop where
  rl : ∀ g ∈ out, ∃ n, ruleF m l n = some g
  ds : out.Pairwise fun a b => ∀ t ∈ a.targets, t ∉ b.targets
  tp : ∀ (i : Nat) g, out[i]? = some g → ∀ n ∈ g.needs, (∃ k q, k < i ∧ out[k]? = some q ∧ n ∈ q.targets) ∨ (ruleF m l n = none ∧ isF l n = true)
def WayOk (m : Mk) (l : List File) (way : List Str) : Prop := ∀ t ∈ way, ∃ g n, ruleF m l n = some g ∧ t ∈ g.targets ∧ ∀ u ∈ g.targets, u ∈ way
def OffW (way : List Str) (out : List Grp) : Prop := ∀ g ∈ out, ∀ t ∈ g.targets, t ∉ way
def HasN (m : Mk) (l : List File) (out : List Grp) (n : Str) : Prop := (∃ g ∈ out, n ∈ g.targets) ∨ (ruleF m l n = none ∧ isF l n = true)
theorem makerF_none {out : List Grp} {n : Str} (h : (makerF out n).isSome = false) : ∀ g ∈ out, n ∉ g.targets := by
  intro g hg hn
  unfold makerF at h
  have : out.findIdx? (fun g => inS g.targets n) = none := by simpa using h
  have := List.findIdx?_eq_none_iff.1 this g hg
  simp [inS, hn] at this
theorem makerF_some {out : List Grp} {n : Str} {i : Nat} (h : makerF out n = some i) : ∃ g, out[i]? = some g ∧ n ∈ g.targets := by
  unfold makerF at h
  obtain ⟨hi, h1, _⟩ := List.findIdx?_eq_some_iff_getElem.1 h
  exact ⟨out[i], List.getElem?_eq_getElem hi, by simpa [inS] using h1⟩
theorem makerF_at {out : List Grp} (hd : out.Pairwise fun a b => ∀ t ∈ a.targets, t ∉ b.targets) {n : Str} {i : Nat} {g : Grp} (hg : out[i]? = some g) (hn : n ∈ g.targets) : makerF out n = some i := by
  obtain ⟨hi, e⟩ := List.getElem?_eq_some_iff.1 hg
  unfold makerF
  refine List.findIdx?_eq_some_iff_getElem.2 ⟨hi, by rw [e]; simpa [inS] using hn, fun j hj => ?_⟩
  have := List.pairwise_iff_getElem.1 hd j i (by omega) hi hj
  rw [e] at this
  have h2 : n ∉ (out[j]'(by omega)).targets := fun h => this n h hn
  simpa [inS] using h2
section
variable {m : Mk} {l : List File}
theorem GOk.add {out : List Grp} {g : Grp} {n : Str} (h : GOk m l out) (hr : ruleF m l n = some g) (hd : ∀ q ∈ out, ∀ t ∈ q.targets, t ∉ g.targets) (hn : ∀ k ∈ g.needs, HasN m l out k) : GOk m l (out ++ [g]) := by
  refine ⟨fun q hq => ?_, ?_, fun i q hi k hk => ?_⟩
  · rcases List.mem_append.1 hq with hq | hq
    · exact h.rl q hq
    · obtain rfl : q = g := by simpa using hq
      exact ⟨n, hr⟩
  · refine List.pairwise_append.2 ⟨h.ds, List.pairwise_singleton _ _, fun a ha b hb => ?_⟩
    obtain rfl : b = g := by simpa using hb
    exact hd a ha
  · rcases Nat.lt_or_ge i out.length with hlt | hge
    · rw [List.getElem?_append_left hlt] at hi
      rcases h.tp i q hi k hk with ⟨j, p, h1, h2, h3⟩ | h1
      · exact .inl ⟨j, p, h1, by rw [List.getElem?_append_left (by omega)]; exact h2, h3⟩
      · exact .inr h1
    · rw [List.getElem?_append_right hge] at hi
      have hz : i - out.length = 0 := by
        rcases Nat.eq_zero_or_pos (i - out.length) with h0 | h0
        · exact h0
        · rw [List.getElem?_eq_none (by simp only [List.length_singleton]; omega)] at hi; cases hi
      rw [hz] at hi
      obtain rfl : g = q := by simpa using hi
      rcases hn k hk with ⟨p, hp, hk2⟩ | h1
      · obtain ⟨j, hj, e⟩ := List.getElem_of_mem hp
        exact .inl ⟨j, p, by omega, by rw [List.getElem?_append_left hj, List.getElem?_eq_getElem hj, e], hk2⟩
      · exact .inr h1
theorem HasN.more {out new : List Grp} {n : Str} (h : HasN m l out n) : HasN m l (out ++ new) n := by
  rcases h with ⟨g, hg, hn⟩ | h
  · exact .inl ⟨g, List.mem_append_left _ hg, hn⟩
  · exact .inr h
theorem needsF_ok {way : List Str} {rec : List Grp → Str → List Grp × Int} (hrec : ∀ out n, GOk m l out → OffW way out → (rec out n).2 = 0 → (∃ new, (rec out n).1 = out ++ new) ∧ GOk m l (rec out n).1 ∧ OffW way (rec out n).1 ∧ HasN m l (rec out n).1 n) :
    ∀ (ns : List Str) (out : List Grp), GOk m l out → OffW way out → (needsF rec out ns).2 = 0 → (∃ new, (needsF rec out ns).1 = out ++ new) ∧ GOk m l (needsF rec out ns).1 ∧ OffW way (needsF rec out ns).1 ∧ ∀ n ∈ ns, HasN m l (needsF rec out ns).1 n
  | [], out, h1, h2, _ => ⟨⟨[], by simp [needsF]⟩, h1, h2, fun n hn => by cases hn⟩
  | n :: ns, out, h1, h2, h0 => by
    unfold needsF at h0 ⊢
    split at h0
    · rename_i hne; exact absurd h0 hne
    · rename_i he
      rw [if_neg he]
      have he : (rec out n).2 = 0 := by omega
      obtain ⟨⟨new, e1⟩, k1, k2, k3⟩ := hrec out n h1 h2 he
      obtain ⟨⟨new2, e2⟩, j1, j2, j3⟩ := needsF_ok hrec ns _ k1 k2 h0
      refine ⟨⟨new ++ new2, by rw [e2, e1, List.append_assoc]⟩, j1, j2, fun k hk => ?_⟩
      rcases List.mem_cons.1 hk with rfl | hk
      · rw [e2]; exact k3.more
      · exact j3 k hk
theorem visitF_ok (hu : Uniq m) : ∀ (f : Nat) (way : List Str) (out : List Grp) (name : Str), WayOk m l way → GOk m l out → OffW way out → (visitF m l f way out name).2 = 0 →
    (∃ new, (visitF m l f way out name).1 = out ++ new) ∧ GOk m l (visitF m l f way out name).1 ∧ OffW way (visitF m l f way out name).1 ∧ HasN m l (visitF m l f way out name).1 name
  | 0, _, _, _, _, _, _, h => by simp [visitF] at h
  | f + 1, way, out, name, hw, ho, hf, h => by
    unfold visitF at h ⊢
    by_cases h1 : inS way name = true
    · rw [if_pos h1] at h; simp at h
    rw [if_neg h1] at h ⊢
    by_cases h2 : (makerF out name).isSome = true
    · rw [if_pos h2]
      obtain ⟨i, hi⟩ := Option.isSome_iff_exists.1 h2
      obtain ⟨g, hg, hn⟩ := makerF_some hi
      exact ⟨⟨[], by simp⟩, ho, hf, .inl ⟨g, List.mem_of_getElem? hg, hn⟩⟩
    rw [if_neg h2] at h ⊢
    cases hr : ruleF m l name with
    | none =>
      rw [hr] at h
      simp only at h ⊢
      by_cases h3 : isF l name = true
      · rw [if_pos h3]
        exact ⟨⟨[], by simp⟩, ho, hf, .inr ⟨hr, h3⟩⟩
      · rw [if_neg h3] at h; simp at h
    | some g =>
      rw [hr] at h
      simp only at h ⊢
      have hnw : name ∉ way := by simpa [inS] using h1
      have hown := ruleF_own hr
      have hoff : ∀ q ∈ out, ∀ t ∈ q.targets, t ∉ g.targets := fun q hq t ht htg => by
        obtain ⟨k, hk⟩ := ho.rl q hq
        have := share hu hr hk htg ht
        subst this
        exact makerF_none (by simpa using h2) g hq hown
      have hw2 : WayOk m l (way ++ g.targets) := fun t ht => by
        rcases List.mem_append.1 ht with ht | ht
        · obtain ⟨q, k, a, b, c⟩ := hw t ht
          exact ⟨q, k, a, b, fun u hu => List.mem_append_left _ (c u hu)⟩
        · exact ⟨g, name, hr, ht, fun u hu => List.mem_append_right _ hu⟩
      have hf2 : OffW (way ++ g.targets) out := fun q hq t ht hm => by
        rcases List.mem_append.1 hm with hm | hm
        · exact hf q hq t ht hm
        · exact hoff q hq t ht hm
      have key := needsF_ok (m := m) (l := l) (way := way ++ g.targets) (rec := visitF m l f (way ++ g.targets)) (fun o n a b c => visitF_ok hu f _ o n hw2 a b c) g.needs out ho hf2
      generalize needsF (visitF m l f (way ++ g.targets)) out g.needs = R at h key ⊢
      by_cases h3 : R.2 ≠ 0
      · rw [if_pos h3] at h; exact absurd h h3
      rw [if_neg h3] at h ⊢
      by_cases h4 : R.1.length = 10
      · rw [if_pos h4] at h; simp at h
      rw [if_neg h4]
      obtain ⟨⟨new, e⟩, k1, k2, k3⟩ := key (by omega)
      refine ⟨⟨new ++ [g], by show R.1 ++ [g] = _; rw [e, List.append_assoc]⟩, k1.add hr (fun q hq t ht htg => k2 q hq t ht (List.mem_append_right _ htg)) k3, fun q hq t ht hm => ?_, .inl ⟨g, by simp, hown⟩⟩
      rcases List.mem_append.1 hq with hq | hq
      · exact k2 q hq t ht (List.mem_append_left _ hm)
      · obtain rfl : q = g := by simpa using hq
        obtain ⟨p, k, a, b, c⟩ := hw t hm
        have := share hu hr a ht b
        subst this
        exact hnw (c _ hown)
theorem visitF_len : ∀ (f : Nat) (way : List Str) (out : List Grp) (name : Str), out.length ≤ 10 → (visitF m l f way out name).1.length ≤ 10
  | 0, _, _, _, h => h
  | f + 1, way, out, name, h => by
    have hn : ∀ (ns : List Str) (o : List Grp) (w : List Str), o.length ≤ 10 → (needsF (visitF m l f w) o ns).1.length ≤ 10 := by
      intro ns
      induction ns with
      | nil => intro o w ho; exact ho
      | cons n ns ih =>
        intro o w ho
        unfold needsF
        split
        · exact visitF_len f w o n ho
        · exact ih _ w (visitF_len f w o n ho)
    unfold visitF
    split
    · exact h
    · split
      · exact h
      · split
        · split <;> exact h
        · rename_i g _
          have := hn g.needs out (way ++ g.targets) h
          split
          · exact this
          · split
            · exact this
            · simp only [List.length_append, List.length_cons, List.length_nil]; omega
theorem groupsF_ok (hu : Uniq m) {goal : Str} (h : (groupsF m l goal).2 = 0) : GOk m l (groupsF m l goal).1 ∧ (groupsF m l goal).1.length ≤ 10 ∧
    ((groupsF m l goal).1 = [] → isF l goal = true) ∧ (∀ g, (groupsF m l goal).1.getLast? = some g → goal ∈ g.targets) := by
  unfold groupsF at h ⊢
  split at h
  · simp at h
  rename_i h0
  rw [if_neg h0]
  split at h
  · rename_i h1; exact absurd h h1
  rename_i h1
  rw [if_neg h1]
  have h1 : (visitF m l 100 [] [] goal).2 = 0 := by omega
  have hlen := visitF_len (m := m) (l := l) 100 [] [] goal (by simp)
  have hok := visitF_ok hu 100 [] [] goal (fun t ht => by cases ht) ⟨fun g hg => (by cases hg), List.Pairwise.nil, fun i g hi => (by simp at hi)⟩ (fun g hg => by cases hg) h1
  refine ⟨hok.2.1, hlen, fun he => ?_, fun g hg => ?_⟩
  · rcases hok.2.2.2 with ⟨g, hg, _⟩ | h2
    · have he : (visitF m l 100 [] [] goal).1 = [] := he
      rw [he] at hg; cases hg
    · exact h2.2
  · have hg : (visitF m l (99 + 1) [] [] goal).1.getLast? = some g := hg
    have h1 : (visitF m l (99 + 1) [] [] goal).2 = 0 := h1
    unfold visitF at hg h1
    rw [if_neg (by simp [inS]), if_neg (by simp [makerF])] at hg h1
    cases hr : ruleF m l goal with
    | none =>
      rw [hr] at hg
      simp only at hg
      split at hg <;> simp at hg
    | some q =>
      rw [hr] at hg h1
      simp only at hg h1
      split at hg
      · rename_i h2; rw [if_pos h2] at h1; exact absurd h1 h2
      · rename_i h2
        rw [if_neg h2] at h1
        split at hg
        · rename_i h3; rw [if_pos h3] at h1; simp at h1
        · simp only [List.getLast?_append, List.getLast?_singleton, Option.or_some, Option.some.injEq] at hg
          have e : q = g := by simpa using hg
          subst e
          exact ruleF_own hr
end
theorem dupF_false : ∀ {ts made : List Str}, dupF made ts = false → (∀ t ∈ ts, t ∉ made) ∧ ts.Nodup
  | [], made, _ => ⟨fun t ht => (by cases ht), List.nodup_nil⟩
  | t :: ts, made, h => by
    unfold dupF at h
    simp only [Bool.or_eq_false_iff] at h
    obtain ⟨h1, h2⟩ := dupF_false h.2
    have ht : t ∉ made := by simpa [inS] using h.1
    refine ⟨fun u hu => ?_, List.nodup_cons.2 ⟨fun hm => h1 t hm (by simp), h2⟩⟩
    rcases List.mem_cons.1 hu with rfl | hu
    · exact ht
    · exact fun hm => h1 u hu (List.mem_append_left _ hm)
theorem chkR_uniq (ph : List Str) : ∀ {rs : List Rul} {made all : List Str}, chkR ph rs made = some all → (∀ r ∈ rs, (∀ t ∈ r.targets, t ∉ made) ∧ r.targets.Nodup ∧ ruleOk ph r = true) ∧ rs.Pairwise (fun a b => ∀ t ∈ a.targets, t ∉ b.targets) ∧ (∀ t, t ∈ all ↔ t ∈ made ∨ ∃ r ∈ rs, t ∈ r.targets)
  | [], made, all, h => by
    unfold chkR at h
    cases h
    exact ⟨fun r hr => (by cases hr), List.Pairwise.nil, fun t => by simp⟩
  | r :: rs, made, all, h => by
    unfold chkR at h
    split at h
    · cases h
    · rename_i h1
      split at h
      · rename_i h2
        obtain ⟨k1, k2⟩ := dupF_false (by simpa using h1)
        obtain ⟨j1, j2, j3⟩ := chkR_uniq ph h
        refine ⟨fun q hq => ?_, List.pairwise_cons.2 ⟨fun q hq t ht hm => (j1 q hq).1 t hm (List.mem_append_right _ ht), j2⟩, fun t => ?_⟩
        · rcases List.mem_cons.1 hq with rfl | hq
          · exact ⟨k1, k2, h2⟩
          · exact ⟨fun t ht hm => (j1 q hq).1 t ht (List.mem_append_left _ hm), (j1 q hq).2⟩
        · rw [j3 t]
          simp only [List.mem_append, List.mem_cons, exists_eq_or_imp, or_assoc]
      · cases h
theorem chk_uniq {m : Mk} (h : chkF m = 0) : Uniq m ∧ (∀ r ∈ m.rules, r.targets.Nodup) ∧ (∀ r ∈ m.rules, ruleOk m.phony r = true) := by
  unfold chkF at h
  split at h
  · simp at h
  · rename_i all hc
    obtain ⟨h1, h2, _⟩ := chkR_uniq m.phony hc
    refine ⟨fun r hr q hq t ht hm => ?_, fun r hr => (h1 r hr).2.1, fun r hr => (h1 r hr).2.2⟩
    obtain ⟨i, hi, e1⟩ := List.getElem_of_mem hr
    obtain ⟨j, hj, e2⟩ := List.getElem_of_mem hq
    have hp := List.pairwise_iff_getElem.1 h2
    rcases Nat.lt_trichotomy i j with hlt | heq | hgt
    · have := hp i j hi hj hlt t (by rw [e1]; exact ht)
      rw [e2] at this
      exact absurd hm this
    · subst heq; rw [← e1, ← e2]
    · have := hp j i hj hi hgt t (by rw [e2]; exact hm)
      rw [e1] at this
      exact absurd ht this
theorem groupF_b {m : Mk} {r : Rul} {n st : Str} (h1 : 1 ≤ r.targets.length) (h2 : r.targets.length ≤ 2) (h3 : r.needs.length ≤ 3) : 1 ≤ (groupF m r n st).targets.length ∧ (groupF m r n st).targets.length ≤ 2 ∧ (groupF m r n st).needs.length ≤ 3 := by
  refine ⟨?_, ?_, ?_⟩
  · show 1 ≤ (tgtOf r n st).length
    unfold tgtOf
    split
    · exact h1
    · exact Nat.le_refl 1
  · show (tgtOf r n st).length ≤ 2
    unfold tgtOf
    split
    · exact h2
    · exact Nat.le_succ 1
  · show (ndsOf r st).length ≤ 3
    unfold ndsOf
    rw [List.length_map]
    exact h3
theorem ruleF_b {m : Mk} {l : List File} {n : Str} {G : Grp} (hb : GBd m l) (h : ruleF m l n = some G) : 1 ≤ G.targets.length ∧ G.targets.length ≤ 2 ∧ G.needs.length ≤ 3 := by
  rcases ruleF_some h with ⟨r, hr, rfl⟩ | ⟨_, r, hr, _, rfl, _⟩
  · obtain ⟨p1, p2, p3, _⟩ := hb.t r (explF_some hr).1
    exact groupF_b p1 p2 p3
  · obtain ⟨p1, p2, p3, _⟩ := hb.t r hr
    exact groupF_b p1 p2 p3
theorem gr_info : (Tryz.prog.info? grpT).map (fun i => (i.zero, i.size, i.bytes)) = some (some (.agg #[.slice none 0 0, .slice none 0 0, .slice none 0 0, .bool false]), 4, 80) := by kernel_rfl
theorem gr_ty : Ety Tryz.prog 32 grpT 4 := Ety.mk' Tryz.underlying32 gr_info rfl (by omega) (by omega)
theorem visit_some {m : Mk} {l : List File} {way : List Str} {out : List Grp} {n : Str} {g : Grp} {f : Nat} (hw : inS way n = false) (hm : (makerF out n).isSome = false) (hr : ruleF m l n = some g) {R : List Grp × Int} (hR : needsF (visitF m l f (way ++ g.targets)) out g.needs = R) :
    visitF m l (f + 1) way out n = if R.2 ≠ 0 then R else if R.1.length = 10 then (R.1, 2) else (R.1 ++ [g], 0) := by
  rw [visitF, if_neg (by rw [hw]; decide), if_neg (by rw [hm]; decide), hr]
  show (if (needsF (visitF m l f (way ++ g.targets)) out g.needs).2 ≠ 0 then _ else _) = _
  rw [hR]
theorem needs_step {rec : List Grp → Str → List Grp × Int} {out : List Grp} {ns : List Str} {k : Nat} {t : Str} {r : List Grp × Int} (ht : ns[k]? = some t) (hr : rec out t = r) : needsF rec out (ns.drop k) = if r.2 ≠ 0 then r else needsF rec r.1 (ns.drop (k + 1)) := by
  obtain ⟨hk, e⟩ := List.getElem?_eq_some_iff.1 ht
  rw [List.drop_eq_getElem_cons hk, e, needsF, hr]
theorem Only.under {F F' : Nat → Prop} {w u v : World} (h : Only F w u) (k : Only F' u v) (hs : ∀ q, F' q → F q ∨ w.heap.size ≤ q) : Only F w v := h.trans k fun q hq e => (hs q e).elim id fun h => absurd h (by omega)
theorem GrpsR.nil (w : World) : GrpsR w none [] [] := ⟨⟨rfl, fun h => absurd h (by decide)⟩, (fun x hx => by cases hx), rfl⟩
theorem leftF_le (c way : List Str) : leftF c way ≤ c.length := List.length_filter_le _ _
def KpM (w : World) (m : Option Nat) (f : Str → Option Value) : Prop :=
  ∀ u, Ext w u → ∀ t : Str, t.length ≤ maxLen → (Instr.lookup rmapT (.map m) (S t) true).run Tryz.prog u = .ok (.tuple #[(f t).getD zeroR, .bool (f t).isSome]) u
theorem KpM.ext {w v : World} {m : Option Nat} {f : Str → Option Value} (h : KpM w m f) (hx : Ext w v) : KpM v m f := fun u hu => h u (hx.then_ext hu)
theorem MapR.kpm {w : World} {b n : Nat} {f : Str → Option Value} (h : MapR w b n f) : KpM w (some b) f := fun _ hu t ht => (h.keep hu id).look t ht
theorem KpM.nil (w : World) : KpM w none (fun _ => none) := fun u _ t ht => look_nil u t ht
set_option maxRecDepth 100000 in
set_option maxHeartbeats 4000000 in
theorem Find_c {w : World} {m : Option Nat} {f : Str → Option Value} (hM : KpM w m f) {a : RulA} {G : Grp} (ht : SlR strF w a.tA G.targets.length G.targets) (h1 : 1 ≤ G.targets.length) (hl : (G.targets.headD []).length ≤ 1000000)
    {p1 p2 p3 : Option Addr} {n1 n2 n3 c1 c2 c3 : Nat} (hv : (f (G.targets.headD [])).getD zeroR = .agg #[.slice p1 n1 c1, .slice p2 n2 c2, .slice p3 n3 c3]) :
    Calls Tryz.prog 78 #[.map m, grpW (a, G)] w fun e w' => e = .returned (.tuple #[.agg #[.slice p1 n1 c1, .slice p2 n2 c2, .slice p3 n3 c3], .bool (f (G.targets.headD [])).isSome]) ∧ Ext w w' := by
  obtain ⟨tA, tc, nA, nc, cA, cc⟩ := a
  obtain ⟨bt, ot, t, hA, hx, ct⟩ := strs_get ht (k := 0) (by omega)
  have htt : G.targets.headD [] = t := by
    cases htl : G.targets with
    | nil => rw [htl] at hx; cases hx
    | cons p r => rw [htl] at hx; exact Option.some.inj hx
  have hA : tA = some ⟨bt, ot, none⟩ := hA
  subst hA
  rw [htt] at hl hv ⊢
  obtain ⟨w1, hw1⟩ : ∃ u, u = w.alloc (.cells #[.slice (some ⟨bt, ot, none⟩) G.targets.length tc, .slice nA G.needs.length nc, .slice cA G.cmds.length cc, .bool G.phony] grpT) := ⟨_, rfl⟩
  obtain ⟨w2, hw2⟩ : ∃ u, u = w1.alloc (.cells #[.slice none 0 0, .slice none 0 0, .slice none 0 0] rcT) := ⟨_, rfl⟩
  obtain ⟨b3, hb3⟩ : ∃ b, b = w.heap.size := ⟨_, rfl⟩
  obtain ⟨b4, hb4⟩ : ∃ b, b = w.heap.size + 1 := ⟨_, rfl⟩
  have s1 : w1.heap.size = w.heap.size + 1 := by rw [hw1]; simp
  have x1 : Ext w w1 := by rw [hw1]; exact (Only.refl No w).alloc _
  have x2 : Ext w1 w2 := by rw [hw2]; exact (Only.refl No w1).alloc _
  have C3 : Hid (Cs w2 b3 grpT #[.slice (some ⟨bt, ot, none⟩) G.targets.length tc, .slice nA G.needs.length nc, .slice cA G.cmds.length cc, .bool G.phony]) := (show Cs w1 b3 grpT _ by rw [hw1, hb3]; exact Cs.new _ _ _).keep x2 id
  have C4 : Hid (Cs w2 b4 rcT #[.slice none 0 0, .slice none 0 0, .slice none 0 0]) := by rw [hw2, hb4, ← s1]; exact Cs.new _ _ _
  have X2 : Hid (Ext w w2) := x1.then_ext x2
  have HB : Hid (w.heap.size ≤ b4) := by rw [hb4]; exact Nat.le_succ _
  have hlk : (Instr.lookup rmapT (.map m) (S t) true).run Tryz.prog w2 = .ok (.tuple #[.agg #[.slice p1 n1 c1, .slice p2 n2 c2, .slice p3 n3 c3], .bool (f t).isSome]) w2 := by
    have h := hM w2 X2.out t (by unfold maxLen; omega)
    rw [hv] at h
    exact h
  have e0 : w2.cell? ⟨bt, ot, none⟩ = some (S t) := ct ⟨w2, X2.out⟩
  have k0 : w2.cell? ⟨b3, 0, none⟩ = some (.slice (some ⟨bt, ot, none⟩) G.targets.length tc) := C3.out.cell 0
  clear hM ht ct hx htt hv x1 x2 s1
  go_enter Tryz.func78, Tryz.ntmps78
  go_upto_region 1 with fail
  rw [← hw1, ← hw2, ← hb4, ← hb3]
  clear hw1 hw2 hb3 hb4
  go_upto_region 2 with fail
  obtain ⟨w3, hw3⟩ : ∃ u, u = w2.alloc (.cells #[.slice p1 n1 c1, .slice p2 n2 c2, .slice p3 n3 c3] rcT) := ⟨_, rfl⟩
  obtain ⟨b6, hb6⟩ : ∃ b, b = w2.heap.size := ⟨_, rfl⟩
  rw [← hw3, ← hb6]
  have x3 : Ext w2 w3 := by rw [hw3]; exact (Only.refl No w2).alloc _
  have C6 : Hid (Cs w3 b6 rcT #[.slice p1 n1 c1, .slice p2 n2 c2, .slice p3 n3 c3]) := by rw [hw3, hb6]; exact Cs.new _ _ _
  have D4 := Lib.hid (C4.out.keep x3 id)
  have X3 := Lib.hid (X2.out.then_ext x3)
  have q0 : w3.cell? ⟨b6, 0, none⟩ = some (.slice p1 n1 c1) := C6.out.cell 0
  have q1 : w3.cell? ⟨b6, 1, none⟩ = some (.slice p2 n2 c2) := C6.out.cell 1
  have q2 : w3.cell? ⟨b6, 2, none⟩ = some (.slice p3 n3 c3) := C6.out.cell 2
  have y0 : w3.cell? ⟨b4, 0, none⟩ = some (.slice none 0 0) := D4.out.cell 0
  have y1 : w3.cell? ⟨b4, 1, none⟩ = some (.slice none 0 0) := D4.out.cell 1
  have y2 : w3.cell? ⟨b4, 2, none⟩ = some (.slice none 0 0) := D4.out.cell 2
  have z0 := D4.out.frozen 0
  have z1 := D4.out.frozen 1
  have z2 := D4.out.frozen 2
  have HO : Hid (∀ a b c, Only (fun q => q = b4) w3 (((w3.setCell ⟨b4, 0, none⟩ a).setCell ⟨b4, 1, none⟩ b).setCell ⟨b4, 2, none⟩ c)) := fun a b c => (((Only.refl _ _).at_ 0 a).at_ 1 b).at_ 2 c
  have HS : Hid (∀ a b c, Cs (((w3.setCell ⟨b4, 0, none⟩ a).setCell ⟨b4, 1, none⟩ b).setCell ⟨b4, 2, none⟩ c) b4 rcT #[a, b, c]) := fun a b c => ((D4.out.set_ 0 a).set_ 1 b).set_ 2 c
  clear hw3 hb6 x3 hlk e0 k0 C4
  go_wp2_with fail
  refine bodyPost_cell (p := 4) (u := 5) (ty := rcT) (ad := ⟨b4, 0, none⟩) rfl rfl rfl (load_rc (HS.out _ _ _)) ?_
  exact ⟨rfl, X3.out.trans (HO.out _ _ _) fun q hq e => by have e : q = b4 := e; have := HB.out; omega⟩
def outsF (l : List File) : List Str → List File → Option (List File)
  | [], out => some out
  | t :: ts, out => if getB t l = true then outsF l ts (putL fk (t, getT t l) out) else none
theorem outsF_step {l : List File} {ts : List Str} {k : Nat} {t : Str} {out : List File} (ht : ts[k]? = some t) : outsF l (ts.drop k) out = if getB t l = true then outsF l (ts.drop (k + 1)) (putL fk (t, getT t l) out) else none := by
  obtain ⟨hk, e⟩ := List.getElem?_eq_some_iff.1 ht
  rw [List.drop_eq_getElem_cons hk, e, outsF]
def OutsRes : Option (List File) → Ending → World → Prop
  | some o, e, w' => ∃ (A : Option Addr) (c : Nat), e = .returned (.tuple #[.slice A o.length c, .bool true]) ∧ SlR fileF w' A o.length o
  | none, e, _ => e = .returned (.tuple #[.slice none 0 0, .bool false])
set_option maxRecDepth 100000 in
set_option maxHeartbeats 4000000 in
theorem outs_c {w : World} {a : RulA} {G : Grp} (ht : SlR strF w a.tA G.targets.length G.targets) (h2 : G.targets.length ≤ 100) {lA : Option Addr} {lc : Nat} {l : List File} (hl : SlR fileF w lA l.length l) (hln : l.length ≤ 900000) (hr : Rise fk l) :
    Calls Tryz.prog 79 #[grpW (a, G), .slice lA l.length lc] w fun e w' => OutsRes (outsF l G.targets []) e w' ∧ Ext w w' := by
  obtain ⟨tA, tc, nA, nc, cA, cc⟩ := a
  obtain ⟨w1, hw1⟩ : ∃ u, u = w.alloc (.cells #[.slice tA G.targets.length tc, .slice nA G.needs.length nc, .slice cA G.cmds.length cc, .bool G.phony] grpT) := ⟨_, rfl⟩
  obtain ⟨b2, hb2⟩ : ∃ b, b = w.heap.size := ⟨_, rfl⟩
  have X1 : Hid (Ext w w1) := by rw [hw1]; exact (Only.refl No w).alloc _
  have C2 : Hid (Cs w1 b2 grpT #[.slice tA G.targets.length tc, .slice nA G.needs.length nc, .slice cA G.cmds.length cc, .bool G.phony]) := by rw [hw1, hb2]; exact Cs.new _ _ _
  have HT : Hid (SlR strF w1 tA G.targets.length G.targets) := SlR.ext ht X1.out
  have HL := Lib.hid (hl.ext X1.out)
  have HR := Lib.hid hr
  have k0 : w1.cell? ⟨b2, 0, none⟩ = some (.slice tA G.targets.length tc) := C2.out.cell 0
  clear ht hl hr
  go_enter Tryz.func79, Tryz.ntmps79
  go_upto_region 1 with fail
  rw [← hw1, ← hb2]
  clear hw1 hb2
  go_wp2_with fail
  go_loopw [6, 14] (fun ov i wr => ∃ k : Nat, k ≤ G.targets.length ∧ i = .int .i64 k ∧ ∃ (A : Option Addr) (c : Nat) (o : List File), ov = .slice A o.length c ∧ SlR fileF wr A o.length o ∧ o.length ≤ k ∧ Rise fk o ∧ outsF l (G.targets.drop k) o = outsF l G.targets [] ∧ Ext w1 wr) (fun _ i _ => G.targets.length - (intOf i).toNat)
  case atStart => exact ⟨0, Nat.zero_le _, rfl, none, 0, [], rfl, SlR.none_, Nat.le_refl _, List.Pairwise.nil, rfl, Only.refl _ _⟩
  case round =>
    clear k0
    obtain ⟨k, hk, rfl, A, c, o, rfl, hO, hol, hRo, hE, hx⟩ := hrel
    have HO := Lib.hid hO
    have HRo := Lib.hid hRo
    have HE := Lib.hid hE
    have XR := Lib.hid hx
    clear hO hRo hE hx
    by_cases hlt : k < G.targets.length
    · obtain ⟨bt, ot, t, rfl, hti, ct⟩ := strs_get HT.out hlt
      have e0 : wr.cell? ⟨bt, ot + k, none⟩ = some (S t) := ct ⟨wr, XR.out⟩
      have HS := Lib.hid (outsF_step (l := l) (out := o) hti)
      have HG := Lib.hid (Get_c (c := lc) (HL.out.ext XR.out) (by omega) t HR.out)
      obtain ⟨gt, hgt⟩ : ∃ g, g = getT t l := ⟨_, rfl⟩
      obtain ⟨gb, hgb⟩ : ∃ g, g = getB t l := ⟨_, rfl⟩
      rw [← hgt, ← hgb] at HG HS
      clear hti ct hgt hgb
      go_wp2_with fail
      refine HG.out.mono ?_
      rintro e u ⟨rfl, hu⟩
      have XU := Lib.hid (XR.out.then_ext hu)
      have HO2 := Lib.hid (HO.out.ext hu)
      clear hu HG e0
      cases gb with
      | false =>
        have HN : Hid (outsF l G.targets [] = none) := by rw [Hid, ← HE.out, HS.out]; rfl
        go_wp2_with fail
        go_ret2
        rw [HN.out]
        exact ⟨rfl, X1.out.then_ext XU.out⟩
      | true =>
        have HP := Lib.hid (Put_c (c := c) HO2.out (by omega) (t, gt) HRo.out)
        have hpl := length_putL (key := fk) (t, gt) o
        have HRp := Lib.hid (rise_putL HRo.out (t, gt))
        have HE2 : Hid (outsF l (G.targets.drop (k + 1)) (putL fk (t, gt) o) = outsF l G.targets []) := by rw [Hid, ← HE.out, HS.out]; rfl
        obtain ⟨P, hP⟩ : ∃ P, P = putL fk (t, gt) o := ⟨_, rfl⟩
        rw [← hP] at HP hpl HRp HE2
        clear hP
        go_wp2_with fail
        refine HP.out.mono ?_
        rintro e z ⟨A', c', rfl, hF⟩
        have HF := Lib.hid hF
        clear hF HP
        have hpl2 : P.length ≤ k + 1 := by omega
        clear hpl
        go_wp2_with fail
        go_roundw
        case rel => exact ⟨k + 1, by omega, by go_num, A', c', P, rfl, HF.out.row (by decide), hpl2, HRp.out, HE2.out, XU.out.then_ext HF.out.ext⟩
        case measure => simp [intOf]; omega
    · obtain rfl : k = G.targets.length := by omega
      have HN : Hid (outsF l G.targets [] = some o) := by rw [Hid, ← HE.out, List.drop_of_length_le (Nat.le_refl _)]; rfl
      go_wp2_with fail
      go_ret2
      rw [HN.out]
      exact ⟨⟨A, c, rfl, HO.out⟩, X1.out.then_ext XR.out⟩
theorem outsF_len {l : List File} : ∀ {ts : List Str} {out o : List File}, outsF l ts out = some o → o.length ≤ out.length + ts.length
  | [], out, o, h => by cases h; simp
  | t :: ts, out, o, h => by
    rw [outsF] at h
    by_cases hb : getB t l = true
    · rw [if_pos hb] at h
      have := outsF_len h
      have := length_putL (key := fk) (t, getT t l) out
      rw [List.length_cons]
      omega
    · rw [if_neg hb] at h; cases h
abbrev kpF (F : Str → Option (RcdV × Rcd)) : Str → Option Value := fun s => (F s).map fun p => rcdV p.1 p.2
def KpR (w : World) (F : Str → Option (RcdV × Rcd)) : Prop := ∀ s p, F s = some p → RcdR w p.1 p.2 ∧ p.2.cmds.length ≤ 10000 ∧ p.2.needs.length ≤ 10000 ∧ p.2.out.length ≤ 10000
theorem KpR.ext {w v : World} {F : Str → Option (RcdV × Rcd)} (h : KpR w F) (hx : Ext w v) : KpR v F := fun s p e => ⟨(h s p e).1.ext hx, (h s p e).2⟩
def freshF (l : List File) (F : Str → Option (RcdV × Rcd)) (g : Grp) : Bool := match F (g.targets.headD []), outsF l g.targets [] with
  | some p, some o => sameR p.2 (recOf g l o)
  | _, _ => false
set_option maxRecDepth 100000 in
set_option maxHeartbeats 4000000 in
theorem fresh_c {w : World} {m : Option Nat} {F : Str → Option (RcdV × Rcd)} (hM : KpM w m (kpF F)) (hF : KpR w F) {a : RulA} {G : Grp} (ht : SlR strF w a.tA G.targets.length G.targets) (hn : SlR strF w a.nA G.needs.length G.needs) (hc : SlR strF w a.cA G.cmds.length G.cmds)
    (h1 : 1 ≤ G.targets.length) (h2 : G.targets.length ≤ 100) (h3 : G.needs.length ≤ 1000) (h4 : G.cmds.length ≤ 1000) (h5 : (G.targets.headD []).length ≤ 1000000)
    {lA : Option Addr} {lc : Nat} {l : List File} (hl : SlR fileF w lA l.length l) (hln : l.length ≤ 1000) (hr : Rise fk l) :
    Calls Tryz.prog 53 #[grpW (a, G), .slice lA l.length lc, .map m] w fun e w' => e = .returned (.bool (freshF l F G)) ∧ Ext w w' := by
  obtain ⟨w1, hw1⟩ : ∃ u, u = w.alloc (.cells #[.slice a.tA G.targets.length a.tc, .slice a.nA G.needs.length a.nc, .slice a.cA G.cmds.length a.cc, .bool G.phony] grpT) := ⟨_, rfl⟩
  obtain ⟨b2, hb2⟩ : ∃ b, b = w.heap.size := ⟨_, rfl⟩
  have x1 : Ext w w1 := by rw [hw1]; exact (Only.refl No w).alloc _
  have X1 := Lib.hid x1
  have C2 : Hid (Cs w1 b2 grpT #[.slice a.tA G.targets.length a.tc, .slice a.nA G.needs.length a.nc, .slice a.cA G.cmds.length a.cc, .bool G.phony]) := by rw [hw1, hb2]; exact Cs.new _ _ _
  obtain ⟨p1, n1, c1, p2, n2, c2, p3, n3, c3, hv⟩ : ∃ p1 n1 c1 p2 n2 c2 p3 n3 c3, (kpF F (G.targets.headD [])).getD zeroR = .agg #[.slice p1 n1 c1, .slice p2 n2 c2, .slice p3 n3 c3] := by
    cases hq : F (G.targets.headD []) with
    | none => exact ⟨_, _, _, _, _, _, _, _, _, by show (Option.map _ (F (G.targets.headD []))).getD _ = _; rw [hq]; rfl⟩
    | some p => exact ⟨_, _, _, _, _, _, _, _, _, by show (Option.map _ (F (G.targets.headD []))).getD _ = _; rw [hq]; rfl⟩
  have hiS : (kpF F (G.targets.headD [])).isSome = (F (G.targets.headD [])).isSome := by
    show (Option.map _ (F (G.targets.headD []))).isSome = _
    cases F (G.targets.headD []) <;> rfl
  have hv2 : Option.getD (Option.map (fun p : RcdV × Rcd => rcdV p.1 p.2) (F (G.targets.headD []))) zeroR = .agg #[.slice p1 n1 c1, .slice p2 n2 c2, .slice p3 n3 c3] := hv
  have HFi := Lib.hid (Find_c (hM.ext x1) (a := a) (ht.ext x1) h1 h5 hv)
  rw [hiS] at HFi
  have HO := Lib.hid (fun u (hu : Ext w1 u) => outs_c (a := a) (lc := lc) ((ht.ext x1).ext hu) h2 ((hl.ext x1).ext hu) (by omega) hr)
  have HOf := Lib.hid (fun u (hu : Ext w1 u) (B : Option Addr) (d : Nat) (o : List File) (ho : SlR fileF u B o.length o) (ho2 : o.length ≤ 1000) => Of_c (gv := ⟨a.tA, a.tc, a.nA, a.nc, a.cA, a.cc⟩) (c := lc) (d := d) (⟨(ht.ext x1).ext hu, (hn.ext x1).ext hu, (hc.ext x1).ext hu⟩ : GrpR u ⟨a.tA, a.tc, a.nA, a.nc, a.cA, a.cc⟩ G) ((hl.ext x1).ext hu) ho hr h4 h3 hln ho2)
  have HKR := Lib.hid (hF.ext x1)
  have HN3 := Lib.hid h3
  have HN4 := Lib.hid h4
  have HN2 := Lib.hid h2
  have HFF : Hid (freshF l F G = match F (G.targets.headD []), outsF l G.targets [] with
    | some p, some o => sameR p.2 (recOf G l o)
    | _, _ => false) := rfl
  have HLo := Lib.hid (fun o (e : outsF l G.targets [] = some o) => outsF_len e)
  generalize outsF l G.targets [] = OO at HFF HO HLo
  have HKh := Lib.hid (HKR.out (G.targets.headD []))
  generalize F (G.targets.headD []) = FF at HFF HFi hv2 HKh
  have HV := Lib.hid hv2
  have k0 : w1.cell? ⟨b2, 0, none⟩ = some (.slice a.tA G.targets.length a.tc) := C2.out.cell 0
  have k1 : w1.cell? ⟨b2, 1, none⟩ = some (.slice a.nA G.needs.length a.nc) := C2.out.cell 1
  have k2 : w1.cell? ⟨b2, 2, none⟩ = some (.slice a.cA G.cmds.length a.cc) := C2.out.cell 2
  have k3 : w1.cell? ⟨b2, 3, none⟩ = some (.bool G.phony) := C2.out.cell 3
  clear hM hF ht hn hc h1 h2 h3 h4 h5 hl hln hr hiS x1 hv hv2 HKR
  go_enter Tryz.func53, Tryz.ntmps53
  go_upto_region 1 with fail
  rw [← hw1, ← hb2]
  clear hw1 hb2
  go_wp2_with fail
  refine HFi.out.mono ?_
  rintro e u1 ⟨rfl, hu⟩
  have U1 := Lib.hid hu
  clear hu HFi
  obtain ⟨u2, hu2⟩ : ∃ u, u = u1.alloc (.cells #[.slice p1 n1 c1, .slice p2 n2 c2, .slice p3 n3 c3] rcT) := ⟨_, rfl⟩
  obtain ⟨b7, hb7⟩ : ∃ b, b = u1.heap.size := ⟨_, rfl⟩
  have x2 : Ext u1 u2 := by rw [hu2]; exact (Only.refl No u1).alloc _
  have C7 : Hid (Cs u2 b7 rcT #[.slice p1 n1 c1, .slice p2 n2 c2, .slice p3 n3 c3]) := by rw [hu2, hb7]; exact Cs.new _ _ _
  have U2 := Lib.hid (U1.out.then_ext x2)
  have HO2 := Lib.hid (HO.out u2 U2.out)
  have C22 := Lib.hid (C2.out.keep U2.out id)
  have j0 : u2.cell? ⟨b2, 0, none⟩ = some (.slice a.tA G.targets.length a.tc) := C22.out.cell 0
  have j1 : u2.cell? ⟨b2, 1, none⟩ = some (.slice a.nA G.needs.length a.nc) := C22.out.cell 1
  have j2 : u2.cell? ⟨b2, 2, none⟩ = some (.slice a.cA G.cmds.length a.cc) := C22.out.cell 2
  have j3 : u2.cell? ⟨b2, 3, none⟩ = some (.bool G.phony) := C22.out.cell 3
  clear x2 k0 k1 k2 k3 HO
  go_upto_region 2 with fail
  rw [← hu2, ← hb7]
  clear hu2 hb7
  go_wp2_with fail
  refine HO2.out.mono ?_
  rintro e u3 ⟨hres, hu⟩
  have U3 := Lib.hid hu
  have HRes := Lib.hid hres
  clear hu hres HO2
  cases FF with
  | none =>
    have HB : Hid (freshF l F G = false) := HFF.out
    cases OO with
    | none =>
      obtain rfl := HRes.out
      go_upto_region 3 with fail
      refine Mix.wp_draw [9, 10] 100 (Cl u3 No) (by kernel_rfl) (by kernel_rfl) (Cl.of (Only.refl _ _).drew) ?_
      (repeat' (first | (refine Mix.lex_quiet0 rfl rfl rfl ?_; intro K hK; go_big_quiet_op; go_big_quiet_on) | (refine Mix.lex_quietG rfl rfl rfl (by with_reducible rfl) rfl rfl ?_; intro K hK; go_big_quiet_op; go_big_quiet_on) | ((first | refine Mix.lex_skipT rfl rfl rfl (by with_reducible rfl) ?_ | refine Mix.lex_skipF rfl rfl rfl (by with_reducible rfl) ?_ | refine Mix.lex_skipU rfl rfl rfl (by with_reducible rfl) ?_); simp only [Act.put, List.setIfInBounds_toArray, List.set_cons_succ, List.set_cons_zero]) | (refine Mix.lex_part rfl rfl rfl rfl (fun hq => ?_) (fun hq => ?_) <;> (fail_if_success (guard_hyp hq :ₛ true = true)) <;> (fail_if_success (guard_hyp hq :ₛ false = false)) <;> first | (exfalso; cases hq; done) | (exfalso; simp only [decide_eq_true_eq, decide_eq_false_iff_not, beq_iff_eq, beq_eq_false_iff_ne, ne_eq, Int.not_lt, Int.not_le] at hq; omega) | simp only [Act.put, List.setIfInBounds_toArray, List.set_cons_succ, List.set_cons_zero])))
      refine Mix.lex_nil ?_
      go_wp2_with fail
      go_ret
      exact ⟨by rw [HB.out]; rfl, ((X1.out.then_ext U2.out).then_ext U3.out).drew⟩
    | some o =>
      obtain ⟨A, c, rfl, _⟩ := HRes.out
      go_upto_region 3 with fail
      refine Mix.wp_draw [9, 10] 100 (Cl u3 No) (by kernel_rfl) (by kernel_rfl) (Cl.of (Only.refl _ _).drew) ?_
      (repeat' (first | (refine Mix.lex_quiet0 rfl rfl rfl ?_; intro K hK; go_big_quiet_op; go_big_quiet_on) | (refine Mix.lex_quietG rfl rfl rfl (by with_reducible rfl) rfl rfl ?_; intro K hK; go_big_quiet_op; go_big_quiet_on) | ((first | refine Mix.lex_skipT rfl rfl rfl (by with_reducible rfl) ?_ | refine Mix.lex_skipF rfl rfl rfl (by with_reducible rfl) ?_ | refine Mix.lex_skipU rfl rfl rfl (by with_reducible rfl) ?_); simp only [Act.put, List.setIfInBounds_toArray, List.set_cons_succ, List.set_cons_zero]) | (refine Mix.lex_part rfl rfl rfl rfl (fun hq => ?_) (fun hq => ?_) <;> (fail_if_success (guard_hyp hq :ₛ true = true)) <;> (fail_if_success (guard_hyp hq :ₛ false = false)) <;> first | (exfalso; cases hq; done) | (exfalso; simp only [decide_eq_true_eq, decide_eq_false_iff_not, beq_iff_eq, beq_eq_false_iff_ne, ne_eq, Int.not_lt, Int.not_le] at hq; omega) | simp only [Act.put, List.setIfInBounds_toArray, List.set_cons_succ, List.set_cons_zero])))
      refine Mix.lex_nil ?_
      go_wp2_with fail
      go_ret
      exact ⟨by rw [HB.out]; rfl, ((X1.out.then_ext U2.out).then_ext U3.out).drew⟩
  | some p =>
    cases OO with
    | none =>
      have HB : Hid (freshF l F G = false) := HFF.out
      obtain rfl := HRes.out
      go_upto_region 3 with fail
      refine Mix.wp_draw [9, 10] 100 (Cl u3 No) (by kernel_rfl) (by kernel_rfl) (Cl.of (Only.refl _ _).drew) ?_
      (repeat' (first | (refine Mix.lex_quiet0 rfl rfl rfl ?_; intro K hK; go_big_quiet_op; go_big_quiet_on) | (refine Mix.lex_quietG rfl rfl rfl (by with_reducible rfl) rfl rfl ?_; intro K hK; go_big_quiet_op; go_big_quiet_on) | ((first | refine Mix.lex_skipT rfl rfl rfl (by with_reducible rfl) ?_ | refine Mix.lex_skipF rfl rfl rfl (by with_reducible rfl) ?_ | refine Mix.lex_skipU rfl rfl rfl (by with_reducible rfl) ?_); simp only [Act.put, List.setIfInBounds_toArray, List.set_cons_succ, List.set_cons_zero]) | (refine Mix.lex_part rfl rfl rfl rfl (fun hq => ?_) (fun hq => ?_) <;> (fail_if_success (guard_hyp hq :ₛ true = true)) <;> (fail_if_success (guard_hyp hq :ₛ false = false)) <;> first | (exfalso; cases hq; done) | (exfalso; simp only [decide_eq_true_eq, decide_eq_false_iff_not, beq_iff_eq, beq_eq_false_iff_ne, ne_eq, Int.not_lt, Int.not_le] at hq; omega) | simp only [Act.put, List.setIfInBounds_toArray, List.set_cons_succ, List.set_cons_zero])))
      refine Mix.lex_nil ?_
      go_wp2_with fail
      go_ret
      exact ⟨by rw [HB.out]; rfl, ((X1.out.then_ext U2.out).then_ext U3.out).drew⟩
    | some o =>
      obtain ⟨⟨cA, cc, nA, nc, oA, oc⟩, r⟩ := p
      have HB : Hid (freshF l F G = sameR r (recOf G l o)) := HFF.out
      obtain ⟨A, c, rfl, hrow⟩ := HRes.out
      have HV2 : (Value.agg #[.slice cA r.cmds.length cc, .slice nA r.needs.length nc, .slice oA r.out.length oc]) = .agg #[.slice p1 n1 c1, .slice p2 n2 c2, .slice p3 n3 c3] := HV.out
      injection HV2 with HV2
      simp only [Array.mk.injEq, List.cons.injEq, Value.slice.injEq, and_true] at HV2
      obtain ⟨⟨rfl, rfl, rfl⟩, ⟨rfl, rfl, rfl⟩, rfl, rfl, rfl⟩ := HV2
      have hol := HLo.out o rfl
      obtain ⟨ud, hud⟩ : ∃ v, v = u3.drew := ⟨_, rfl⟩
      have XD : Ext u3 ud := by rw [hud]; exact (Only.refl No u3).drew
      have UD := Lib.hid (U3.out.then_ext XD)
      have HRow := Lib.hid (hrow.ext XD)
      have C7D := Lib.hid (C7.out.keep UD.out id)
      have C2D := Lib.hid (C22.out.keep UD.out id)
      have hlen : o.length ≤ 100 := by have := HN2.out; simp only [List.length_nil] at hol; omega
      have HOf2 := Lib.hid (HOf.out ud (U2.out.then_ext UD.out) A c o HRow.out (by omega))
      obtain ⟨R, hR⟩ : ∃ R, R = recOf G l o := ⟨_, rfl⟩
      have hRc : R.cmds.length ≤ 10000 ∧ R.needs.length ≤ 10000 ∧ R.out.length ≤ 10000 := by
        rw [hR]
        have h1 := HN4.out
        have h2 := HN3.out
        have h3 := nedF_len l G.needs
        exact ⟨by show G.cmds.length ≤ _; omega, by show (nedF l G.needs).length ≤ _; omega, by show o.length ≤ _; omega⟩
      have HRc := Lib.hid hRc
      have HK := Lib.hid (HKh.out _ rfl)
      rw [← hR] at HOf2 HB
      have d0 : ∀ ξ : X ud No, ξ.v.cell? ⟨b7, 0, none⟩ = some (.slice cA r.cmds.length cc) := C7D.out.x id 0
      have d1 : ∀ ξ : X ud No, ξ.v.cell? ⟨b7, 1, none⟩ = some (.slice nA r.needs.length nc) := C7D.out.x id 1
      have d2 : ∀ ξ : X ud No, ξ.v.cell? ⟨b7, 2, none⟩ = some (.slice oA r.out.length oc) := C7D.out.x id 2
      have e0 : ∀ ξ : X ud No, ξ.v.cell? ⟨b2, 0, none⟩ = some (.slice a.tA G.targets.length a.tc) := C2D.out.x id 0
      have e1 : ∀ ξ : X ud No, ξ.v.cell? ⟨b2, 1, none⟩ = some (.slice a.nA G.needs.length a.nc) := C2D.out.x id 1
      have e2 : ∀ ξ : X ud No, ξ.v.cell? ⟨b2, 2, none⟩ = some (.slice a.cA G.cmds.length a.cc) := C2D.out.x id 2
      have e3 : ∀ ξ : X ud No, ξ.v.cell? ⟨b2, 3, none⟩ = some (.bool G.phony) := C2D.out.x id 3
      clear hol hR hrow XD hRc j0 j1 j2 j3 HLo HOf HFF HKh
      go_upto_region 3 with fail
      refine Mix.wp_draw [9, 10] 100 (Cl ud No) (by kernel_rfl) (by kernel_rfl) (by rw [hud]; exact Cl.of (Only.refl _ _)) ?_
      rw [← hud]
      clear hud
      (repeat' (first | (refine Mix.lex_quiet0 rfl rfl rfl ?_; intro K hK; go_big_quiet_op; go_big_quiet_on) | (refine Mix.lex_quietG rfl rfl rfl (by with_reducible rfl) rfl rfl ?_; intro K hK; go_big_quiet_op; go_big_quiet_on) | ((first | refine Mix.lex_skipT rfl rfl rfl (by with_reducible rfl) ?_ | refine Mix.lex_skipF rfl rfl rfl (by with_reducible rfl) ?_ | refine Mix.lex_skipU rfl rfl rfl (by with_reducible rfl) ?_); simp only [Act.put, List.setIfInBounds_toArray, List.set_cons_succ, List.set_cons_zero]) | (refine Mix.lex_part rfl rfl rfl rfl (fun hq => ?_) (fun hq => ?_) <;> (fail_if_success (guard_hyp hq :ₛ true = true)) <;> (fail_if_success (guard_hyp hq :ₛ false = false)) <;> first | (exfalso; cases hq; done) | (exfalso; simp only [decide_eq_true_eq, decide_eq_false_iff_not, beq_iff_eq, beq_eq_false_iff_ne, ne_eq, Int.not_lt, Int.not_le] at hq; omega) | simp only [Act.put, List.setIfInBounds_toArray, List.set_cons_succ, List.set_cons_zero])))
      ((first | refine Mix.lex_goes0 rfl rfl ?_ | refine Mix.lex_goesG rfl rfl rfl (by with_reducible rfl) rfl ?_); intro K hK; go_simp)
      refine HOf2.out.mono ?_
      rintro e u4 ⟨V, rfl, hq, hu⟩
      have U4 := Lib.hid hu
      have HS := Lib.hid (Same_c (HK.out.1.ext ((U2.out.then_ext UD.out).then_ext U4.out)) hq HK.out.2 HRc.out)
      refine ⟨_, rfl, hK _ _ (fun _ => Cl.of U4.out) ?_⟩
      clear hK K hu hq
      simp only [Act.put, List.setIfInBounds_toArray, List.set_cons_succ, List.set_cons_zero]
      obtain ⟨ξ4, rfl⟩ : ∃ ξ : X ud No, u4 = ξ.v := ⟨⟨u4, U4.out⟩, rfl⟩
      (repeat' (refine Mix.lex_quiet0 rfl rfl rfl ?_; intro K hK; go_big_quiet_op; go_big_quiet_on))
      ((first | refine Mix.lex_goes0 rfl rfl ?_ | refine Mix.lex_goesG rfl rfl rfl (by with_reducible rfl) rfl ?_); intro K hK; go_simp)
      refine HS.out.mono ?_
      rintro e u5 ⟨rfl, hu⟩
      have U5 := Lib.hid (ξ4.h.then_ext hu)
      refine ⟨_, rfl, hK _ _ (fun _ => Cl.of U5.out) ?_⟩
      clear hK K hu
      simp only [Act.put, List.setIfInBounds_toArray, List.set_cons_succ, List.set_cons_zero]
      obtain ⟨sb, hsb⟩ : ∃ b, b = sameR r R := ⟨_, rfl⟩
      rw [← hsb] at HB ⊢
      clear hsb d0 d1 d2 e0 e1 e2 e3
      (repeat' (refine Mix.lex_quiet0 rfl rfl rfl ?_; intro K hK; go_big_quiet_op; go_big_quiet_on))
      refine Mix.lex_nil ?_
      go_wp2_with fail
      go_ret
      exact ⟨by rw [HB.out]; rfl, (X1.out.then_ext (U2.out.then_ext UD.out)).then_ext U5.out⟩
abbrev Edge := Nat × Nat
inductive Conn (E : List Edge) (x : Nat) : Nat → Prop
  | here : Conn E x x
  | down {y z : Nat} : Conn E x y → (y, z) ∈ E → Conn E x z
  | up {y z : Nat} : Conn E x y → (z, y) ∈ E → Conn E x z
section
variable {E F : List Edge}
theorem Conn.trans {x y z : Nat} (h : Conn E x y) (k : Conn E y z) : Conn E x z := by
  induction k with
  | here => exact h
  | down _ e ih => exact ih.down e
  | up _ e ih => exact ih.up e
theorem Conn.symm {x y : Nat} (h : Conn E x y) : Conn E y x := by
  induction h with
  | here => exact .here
  | down _ e ih => exact (Conn.here.up e).trans ih
  | up _ e ih => exact (Conn.here.down e).trans ih
theorem Conn.more {x y : Nat} (h : Conn E x y) (hs : ∀ e ∈ E, e ∈ F) : Conn F x y := by
  induction h with
  | here => exact .here
  | down _ e ih => exact ih.down (hs _ e)
  | up _ e ih => exact ih.up (hs _ e)
end
def Least (E : List Edge) (x m : Nat) : Prop := Conn E x m ∧ ∀ y, Conn E x y → m ≤ y
theorem Least.uniq {E : List Edge} {x m k : Nat} (h : Least E x m) (h' : Least E x k) : m = k := Nat.le_antisymm (h.2 k h'.1) (h'.2 m h.1)
def rootF (up : List Nat) : Nat → Nat → Nat
  | 0, i => i
  | f + 1, i => if up.getD i 0 = i then i else rootF up f (up.getD i 0)
def rootA (up : List Nat) (i : Nat) : Nat := rootF up i i
def uniF (up : List Nat) (e : Edge) : List Nat := up.set (max (rootA up e.1) (rootA up e.2)) (min (rootA up e.1) (rootA up e.2))
def Low (up : List Nat) : Prop := ∀ i, i < up.length → up.getD i 0 ≤ i
theorem rootF_enough {up : List Nat} (h : Low up) : ∀ (f i : Nat), i ≤ f → i < up.length → rootF up f i = rootF up i i ∧ rootF up f i ≤ i ∧ up.getD (rootF up f i) 0 = rootF up f i
  | 0, i, hi, hl => by
    obtain rfl : i = 0 := by omega
    have := h 0 hl
    exact ⟨rfl, Nat.le_refl _, by show up.getD 0 0 = 0; omega⟩
  | f + 1, i, hi, hl => by
    have h1 := h i hl
    by_cases he : up.getD i 0 = i
    · have e1 : rootF up (f + 1) i = i := by unfold rootF; rw [if_pos he]
      have e2 : rootF up i i = i := by
        cases i with
        | zero => rfl
        | succ j => unfold rootF; rw [if_pos he]
      rw [e1, e2]
      exact ⟨rfl, Nat.le_refl _, he⟩
    · have e1 : rootF up (f + 1) i = rootF up f (up.getD i 0) := by conv => lhs; unfold rootF
                                                                    rw [if_neg he]
      obtain ⟨k1, k2, k3⟩ := rootF_enough h f (up.getD i 0) (by omega) (by omega)
      cases i with
      | zero => omega
      | succ j =>
        have e2 : rootF up (j + 1) (j + 1) = rootF up j (up.getD (j + 1) 0) := by conv => lhs; unfold rootF
                                                                                  rw [if_neg he]
        obtain ⟨j1, _, _⟩ := rootF_enough h j (up.getD (j + 1) 0) (by omega) (by omega)
        rw [e1, e2, k1, j1]
        rw [k1] at k2 k3
        exact ⟨rfl, by omega, k3⟩
  termination_by f => f
theorem rootA_le {up : List Nat} (h : Low up) {i : Nat} (hl : i < up.length) : rootA up i ≤ i := (rootF_enough h i i (Nat.le_refl _) hl).2.1
theorem rootA_fix {up : List Nat} (h : Low up) {i : Nat} (hl : i < up.length) : up.getD (rootA up i) 0 = rootA up i := (rootF_enough h i i (Nat.le_refl _) hl).2.2
theorem rootA_step {up : List Nat} (h : Low up) {i : Nat} (hl : i < up.length) : rootA up i = if up.getD i 0 = i then i else rootA up (up.getD i 0) := by
  have h1 := h i hl
  unfold rootA
  cases i with
  | zero =>
    have : up.getD 0 0 = 0 := by omega
    rw [if_pos this]; rfl
  | succ j =>
    conv => lhs; unfold rootF
    by_cases he : up.getD (j + 1) 0 = j + 1
    · rw [if_pos he, if_pos he]
    · rw [if_neg he, if_neg he]
      exact (rootF_enough h j (up.getD (j + 1) 0) (by omega) (by omega)).1
theorem rootA_of {up : List Nat} {i : Nat} (he : up.getD i 0 = i) : rootA up i = i := by
  unfold rootA
  cases i with
  | zero => rfl
  | succ j => unfold rootF; rw [if_pos he]
theorem rootA_root {up : List Nat} (h : Low up) {i : Nat} (hl : i < up.length) : rootA up (rootA up i) = rootA up i := rootA_of (rootA_fix h hl)
theorem getD_set {up : List Nat} {a b i : Nat} (ha : a < up.length) : (up.set a b).getD i 0 = if i = a then b else up.getD i 0 := by
  rw [List.getD_eq_getElem?_getD, List.getD_eq_getElem?_getD, List.getElem?_set]
  by_cases h : a = i
  · subst h; simp [ha]
  · rw [if_neg h, if_neg (fun e => h e.symm)]
theorem rootA_hang {up : List Nat} (h : Low up) {a b : Nat} (ha : a < up.length) (hb : b < up.length) (ra : up.getD a 0 = a) (rb : up.getD b 0 = b) (hab : a ≤ b) :
    Low (up.set b a) ∧ ∀ i, i < up.length → rootA (up.set b a) i = if rootA up i = b then a else rootA up i := by
  have hL : Low (up.set b a) := fun i hi => by
    rw [getD_set hb]
    rw [List.length_set] at hi
    split
    · omega
    · exact h i hi
  refine ⟨hL, fun i => ?_⟩
  induction i using Nat.strongRecOn with
  | ind i ih =>
    intro hi
    have hi' : i < (up.set b a).length := by rw [List.length_set]; exact hi
    by_cases he : up.getD i 0 = i
    · rw [rootA_of he]
      by_cases hib : i = b
      · subst hib
        rw [if_pos rfl, rootA_step hL hi', getD_set hb, if_pos rfl]
        split
        · omega
        · rename_i hne
          rw [ih a (by omega) ha, rootA_of ra]
          split <;> omega
      · rw [if_neg hib]
        refine rootA_of ?_
        rw [getD_set hb, if_neg hib]; exact he
    · have hlt : up.getD i 0 < i := Nat.lt_of_le_of_ne (h i hi) he
      have hib : i ≠ b := by rintro rfl; exact he rb
      rw [rootA_step hL hi', getD_set hb, if_neg hib, if_neg he, ih _ hlt (by omega), rootA_step h hi, if_neg he]
structure UpOk (E : List Edge) (up : List Nat) : Prop where
  low : Low up
  edge : ∀ e ∈ E, e.1 < up.length ∧ e.2 < up.length
  iff : ∀ x y, x < up.length → y < up.length → (rootA up x = rootA up y ↔ Conn E x y)
theorem Conn.lt {E : List Edge} {n : Nat} (he : ∀ e ∈ E, e.1 < n ∧ e.2 < n) {x y : Nat} (h : Conn E x y) (hx : x < n) : y < n := by
  induction h with
  | here => exact hx
  | down _ e _ => exact (he _ e).2
  | up _ e _ => exact (he _ e).1
theorem UpOk.least {E : List Edge} {up : List Nat} (h : UpOk E up) {x : Nat} (hx : x < up.length) : Least E x (rootA up x) := by
  have hr : rootA up x < up.length := Nat.lt_of_le_of_lt (rootA_le h.low hx) hx
  refine ⟨(h.iff x _ hx hr).1 (rootA_root h.low hx).symm, fun y hy => ?_⟩
  have hyl := hy.lt h.edge hx
  rw [(h.iff x y hx hyl).2 hy]
  exact rootA_le h.low hyl
theorem UpOk.new {E : List Edge} {up : List Nat} (h : UpOk E up) : UpOk E (up ++ [up.length]) := by
  have hget : ∀ i, i < up.length → (up ++ [up.length]).getD i 0 = up.getD i 0 := fun i hi => by
    rw [List.getD_eq_getElem?_getD, List.getD_eq_getElem?_getD, List.getElem?_append_left hi]
  have hlast : (up ++ [up.length]).getD up.length 0 = up.length := by simp [List.getD_eq_getElem?_getD]
  have hL : Low (up ++ [up.length]) := fun i hi => by
    rw [List.length_append, List.length_singleton] at hi
    rcases Nat.lt_or_ge i up.length with hlt | hge
    · rw [hget i hlt]; exact h.low i hlt
    · obtain rfl : i = up.length := by omega
      rw [hlast]; exact Nat.le_refl _
  have hroot : ∀ i, i < up.length → rootA (up ++ [up.length]) i = rootA up i := by
    intro i
    induction i using Nat.strongRecOn with
    | ind i ih =>
      intro hi
      have hi' : i < (up ++ [up.length]).length := by rw [List.length_append]; omega
      rw [rootA_step hL hi', rootA_step h.low hi, hget i hi]
      by_cases he : up.getD i 0 = i
      · rw [if_pos he, if_pos he]
      · rw [if_neg he, if_neg he]
        have := h.low i hi
        exact ih _ (by omega) (by omega)
  have hlr : rootA (up ++ [up.length]) up.length = up.length := rootA_of hlast
  refine ⟨hL, fun e he => by have := h.edge e he; rw [List.length_append]; omega, fun x y hx hy => ?_⟩
  rw [List.length_append, List.length_singleton] at hx hy
  rcases Nat.lt_or_ge x up.length with hxl | hxl
  · rcases Nat.lt_or_ge y up.length with hyl | hyl
    · rw [hroot x hxl, hroot y hyl]; exact h.iff x y hxl hyl
    · obtain rfl : y = up.length := by omega
      rw [hroot x hxl, hlr]
      constructor
      · intro e; have := rootA_le h.low hxl; omega
      · intro c; have := c.lt h.edge hxl; omega
  · obtain rfl : x = up.length := by omega
    rcases Nat.lt_or_ge y up.length with hyl | hyl
    · rw [hroot y hyl, hlr]
      constructor
      · intro e; have := rootA_le h.low hyl; omega
      · intro c; have := c.symm.lt h.edge hyl; omega
    · obtain rfl : y = up.length := by omega
      exact ⟨fun _ => .here, fun _ => rfl⟩
theorem Conn.one {E : List Edge} {e : Edge} {x y : Nat} (h : Conn (E ++ [e]) x y) : Conn E x y ∨ (Conn E x e.1 ∧ Conn E e.2 y) ∨ (Conn E x e.2 ∧ Conn E e.1 y) := by
  induction h with
  | here => exact .inl .here
  | down _ he ih =>
    rcases List.mem_append.1 he with he | he
    · rcases ih with h1 | ⟨h1, h2⟩ | ⟨h1, h2⟩
      · exact .inl (h1.down he)
      · exact .inr (.inl ⟨h1, h2.down he⟩)
      · exact .inr (.inr ⟨h1, h2.down he⟩)
    · have he := List.mem_singleton.1 he
      subst he
      rcases ih with h1 | ⟨h1, h2⟩ | ⟨h1, h2⟩
      · exact .inr (.inl ⟨h1, .here⟩)
      · exact .inr (.inl ⟨h1, .here⟩)
      · exact .inl h1
  | up _ he ih =>
    rcases List.mem_append.1 he with he | he
    · rcases ih with h1 | ⟨h1, h2⟩ | ⟨h1, h2⟩
      · exact .inl (h1.up he)
      · exact .inr (.inl ⟨h1, h2.up he⟩)
      · exact .inr (.inr ⟨h1, h2.up he⟩)
    · have he := List.mem_singleton.1 he
      subst he
      rcases ih with h1 | ⟨h1, h2⟩ | ⟨h1, h2⟩
      · exact .inr (.inr ⟨h1, .here⟩)
      · exact .inl h1
      · exact .inr (.inr ⟨h1, .here⟩)
theorem UpOk.uni {E : List Edge} {up : List Nat} (h : UpOk E up) {e : Edge} (h1 : e.1 < up.length) (h2 : e.2 < up.length) : UpOk (E ++ [e]) (uniF up e) := by
  have l1 := rootA_le h.low h1
  have l2 := rootA_le h.low h2
  have f1 := rootA_fix h.low h1
  have f2 := rootA_fix h.low h2
  have mlt : max (rootA up e.1) (rootA up e.2) < up.length := by omega
  have key := rootA_hang h.low (a := min (rootA up e.1) (rootA up e.2)) (b := max (rootA up e.1) (rootA up e.2)) (by omega) mlt
    (by rcases Nat.le_total (rootA up e.1) (rootA up e.2) with hl | hl
        · rw [Nat.min_eq_left hl]; exact f1
        · rw [Nat.min_eq_right hl]; exact f2)
    (by rcases Nat.le_total (rootA up e.1) (rootA up e.2) with hl | hl
        · rw [Nat.max_eq_right hl]; exact f2
        · rw [Nat.max_eq_left hl]; exact f1) (by omega)
  have hmore : ∀ {x y}, Conn E x y → Conn (E ++ [e]) x y := fun h => h.more fun _ hm => List.mem_append_left _ hm
  refine ⟨key.1, fun d hd => ?_, fun x y hx hy => ?_⟩
  · unfold uniF
    rw [List.length_set]
    rcases List.mem_append.1 hd with hd | hd
    · exact h.edge d hd
    · obtain rfl := List.mem_singleton.1 hd
      exact ⟨h1, h2⟩
  · unfold uniF at hx hy
    rw [List.length_set] at hx hy
    have c1 : ∀ z, z < up.length → (rootA up z = rootA up e.1 ↔ Conn E z e.1) := fun z hz => h.iff z e.1 hz h1
    have c2 : ∀ z, z < up.length → (rootA up z = rootA up e.2 ↔ Conn E z e.2) := fun z hz => h.iff z e.2 hz h2
    have hnew : ∀ z, z < up.length → rootA (uniF up e) z = if rootA up z = rootA up e.1 ∨ rootA up z = rootA up e.2 then min (rootA up e.1) (rootA up e.2) else rootA up z := fun z hz => by
      show rootA (up.set _ _) z = _
      rw [key.2 z hz]
      rcases Nat.le_total (rootA up e.1) (rootA up e.2) with hl | hl
      · rw [Nat.max_eq_right hl, Nat.min_eq_left hl]
        by_cases ha : rootA up z = rootA up e.2
        · rw [if_pos ha, if_pos (.inr ha)]
        · rw [if_neg ha]
          by_cases hb : rootA up z = rootA up e.1
          · rw [if_pos (.inl hb)]; exact hb
          · rw [if_neg (fun hc => hc.elim hb ha)]
      · rw [Nat.max_eq_left hl, Nat.min_eq_right hl]
        by_cases ha : rootA up z = rootA up e.1
        · rw [if_pos ha, if_pos (.inl ha)]
        · rw [if_neg ha]
          by_cases hb : rootA up z = rootA up e.2
          · rw [if_pos (.inr hb)]; exact hb
          · rw [if_neg (fun hc => hc.elim ha hb)]
    rw [hnew x hx, hnew y hy]
    have hmin : min (rootA up e.1) (rootA up e.2) = rootA up e.1 ∨ min (rootA up e.1) (rootA up e.2) = rootA up e.2 := by omega
    have bridge : ∀ z, (rootA up z = rootA up e.1 ∨ rootA up z = rootA up e.2) → z < up.length → Conn (E ++ [e]) z e.1 := fun z hz hl => by
      rcases hz with hz | hz
      · exact hmore ((c1 z hl).1 hz)
      · exact (hmore ((c2 z hl).1 hz)).up (by simp)
    by_cases hX : rootA up x = rootA up e.1 ∨ rootA up x = rootA up e.2
    · by_cases hY : rootA up y = rootA up e.1 ∨ rootA up y = rootA up e.2
      · rw [if_pos hX, if_pos hY]
        exact ⟨fun _ => (bridge x hX hx).trans (bridge y hY hy).symm, fun _ => rfl⟩
      · rw [if_pos hX, if_neg hY]
        refine ⟨fun hc => ?_, fun hc => ?_⟩
        · exfalso
          rcases hmin with hm | hm
          · exact hY (.inl (hc.symm.trans hm))
          · exact hY (.inr (hc.symm.trans hm))
        · exfalso
          rcases hc.one with k | ⟨_, k⟩ | ⟨_, k⟩
          · have := (h.iff x y hx hy).2 k
            rcases hX with hX | hX
            · exact hY (.inl (this.symm.trans hX))
            · exact hY (.inr (this.symm.trans hX))
          · exact hY (.inr ((c2 y hy).2 k.symm))
          · exact hY (.inl ((c1 y hy).2 k.symm))
    · by_cases hY : rootA up y = rootA up e.1 ∨ rootA up y = rootA up e.2
      · rw [if_neg hX, if_pos hY]
        refine ⟨fun hc => ?_, fun hc => ?_⟩
        · exfalso
          rcases hmin with hm | hm
          · exact hX (.inl (hc.trans hm))
          · exact hX (.inr (hc.trans hm))
        · exfalso
          rcases hc.one with k | ⟨k, _⟩ | ⟨k, _⟩
          · have := (h.iff x y hx hy).2 k
            rcases hY with hY | hY
            · exact hX (.inl (this.trans hY))
            · exact hX (.inr (this.trans hY))
          · exact hX (.inl ((c1 x hx).2 k))
          · exact hX (.inr ((c2 x hx).2 k))
      · rw [if_neg hX, if_neg hY]
        refine ⟨fun hc => hmore ((h.iff x y hx hy).1 hc), fun hc => ?_⟩
        rcases hc.one with k | ⟨k, _⟩ | ⟨k, _⟩
        · exact (h.iff x y hx hy).2 k
        · exact absurd (.inl ((c1 x hx).2 k)) hX
        · exact absurd (.inr ((c2 x hx).2 k)) hX
end Go.Proofs.YtnhaekifcieeoaaGreatDoor
