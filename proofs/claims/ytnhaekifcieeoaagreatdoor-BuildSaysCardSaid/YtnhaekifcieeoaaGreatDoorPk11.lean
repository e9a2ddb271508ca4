/- Put together: Grl, Gxs, Fi, Ots, Frs, Uni, Pl0, Rfd. -/
import Derived.Test.YtnhaekifcieeoaaGreatDoorPk09
import Derived.Test.YtnhaekifcieeoaaGreatDoorPk10
import Derived.Test.YtnhaekifcieeoaaGreatDoorPk02
import Derived.Test.YtnhaekifcieeoaaGreatDoorPk03
import Derived.Test.YtnhaekifcieeoaaGreatDoorPk08
import Derived.Test.YtnhaekifcieeoaaGreatDoorPk01
import Derived.Test.YtnhaekifcieeoaaGreatDoorPk04
import Derived.Lib.IndexLaws
import Derived.Lib.IndexMore
namespace Go.Proofs.YtnhaekifcieeoaaGreatDoor
open Go Go.RowKit
def Uniq (m : Mk) : Prop := ∀ r ∈ m.rules, ∀ q ∈ m.rules, ∀ t, t ∈ r.targets → t ∈ q.targets → r = q
theorem explF_none {rs : List Rul} {n : Str} (h : explF rs n = none) : ∀ r ∈ rs, n ∉ r.targets := by
  intro r hr hn
  unfold explF at h
  have := List.find?_eq_none.1 h r hr
  simp [inS, hn] at this
theorem groupF_tgt (m : Mk) (r : Rul) (n : Str) : (groupF m r n []).targets = r.targets := by simp [groupF, tgtOf]
theorem groupF_nil (m : Mk) (r : Rul) (n k : Str) : groupF m r n [] = groupF m r k [] := by simp [groupF, tgtOf]
theorem share {m : Mk} {l : List File} (hu : Uniq m) {n k t : Str} {g q : Grp} (hg : ruleF m l n = some g) (hq : ruleF m l k = some q) (h1 : t ∈ g.targets) (h2 : t ∈ q.targets) : g = q := by
  rcases ruleF_some hg with ⟨r, hr, rfl⟩ | ⟨hn, r, _, hs, rfl, _⟩
  · rcases ruleF_some hq with ⟨r', hr', rfl⟩ | ⟨hn', r', _, hs', rfl, _⟩
    · rw [groupF_tgt] at h1 h2
      have := hu r (explF_some hr).1 r' (explF_some hr').1 t h1 h2
      subst this
      exact groupF_nil _ _ _ _
    · exfalso
      rw [groupF_tgt] at h1
      have h2 : t ∈ tgtOf r' k _ := h2
      unfold tgtOf at h2
      rw [if_neg (stemL_ne hs'), List.mem_singleton] at h2
      subst h2
      exact explF_none hn' r (explF_some hr).1 h1
  · have e1 : t = n := by
      have h1 : t ∈ tgtOf r n _ := h1
      unfold tgtOf at h1
      rwa [if_neg (stemL_ne hs), List.mem_singleton] at h1
    rcases ruleF_some hq with ⟨r', hr', rfl⟩ | ⟨hn', r', _, hs', rfl, _⟩
    · exfalso
      rw [groupF_tgt] at h2
      subst e1
      exact explF_none hn r' (explF_some hr').1 h2
    · have e2 : t = k := by
        have h2 : t ∈ tgtOf r' k _ := h2
        unfold tgtOf at h2
        rwa [if_neg (stemL_ne hs'), List.mem_singleton] at h2
      subst e1; subst e2
      rw [hg] at hq
      exact Option.some.inj hq
structure GOk (m : Mk) (l : List File) (out : List Grp) : Prop where
  rl : ∀ g ∈ out, ∃ n, ruleF m l n = some g
  ds : out.Pairwise fun a b => ∀ t ∈ a.targets, t ∉ b.targets
  tp : ∀ (i : Nat) g, out[i]? = some g → ∀ n ∈ g.needs, (∃ k q, k < i ∧ out[k]? = some q ∧ n ∈ q.targets) ∨ (ruleF m l n = none ∧ isF l n = true)
def WayOk (m : Mk) (l : List File) (way : List Str) : Prop := ∀ t ∈ way, ∃ g n, ruleF m l n = some g ∧ t ∈ g.targets ∧ ∀ u ∈ g.targets, u ∈ way
def OffW (way : List Str) (out : List Grp) : Prop := ∀ g ∈ out, ∀ t ∈ g.targets, t ∉ way
def HasN (m : Mk) (l : List File) (out : List Grp) (n : Str) : Prop := (∃ g ∈ out, n ∈ g.targets) ∨ (ruleF m l n = none ∧ isF l n = true)
theorem makerF_none {out : List Grp} {n : Str} (h : (makerF out n).isSome = false) : ∀ g ∈ out, n ∉ g.targets := by
  intro g hg hn
  unfold makerF at h
  have : out.findIdx? (fun g => inS g.targets n) = none := by simpa using h
  have := List.findIdx?_eq_none_iff.1 this g hg
  simp [inS, hn] at this
theorem makerF_some {out : List Grp} {n : Str} {i : Nat} (h : makerF out n = some i) : ∃ g, out[i]? = some g ∧ n ∈ g.targets := by
  unfold makerF at h
  obtain ⟨hi, h1, _⟩ := List.findIdx?_eq_some_iff_getElem.1 h
  exact ⟨out[i], List.getElem?_eq_getElem hi, by simpa [inS] using h1⟩
section
variable {m : Mk} {l : List File}
theorem GOk.add {out : List Grp} {g : Grp} {n : Str} (h : GOk m l out) (hr : ruleF m l n = some g) (hd : ∀ q ∈ out, ∀ t ∈ q.targets, t ∉ g.targets) (hn : ∀ k ∈ g.needs, HasN m l out k) : GOk m l (out ++ [g]) := by
  refine ⟨fun q hq => ?_, ?_, fun i q hi k hk => ?_⟩
  · rcases List.mem_append.1 hq with hq | hq
    · exact h.rl q hq
    · obtain rfl : q = g := by simpa using hq
      exact ⟨n, hr⟩
  · refine List.pairwise_append.2 ⟨h.ds, List.pairwise_singleton _ _, fun a ha b hb => ?_⟩
    obtain rfl : b = g := by simpa using hb
    exact hd a ha
  · rcases Nat.lt_or_ge i out.length with hlt | hge
    · rw [List.getElem?_append_left hlt] at hi
      rcases h.tp i q hi k hk with ⟨j, p, h1, h2, h3⟩ | h1
      · exact .inl ⟨j, p, h1, by rw [List.getElem?_append_left (by omega)]; exact h2, h3⟩
      · exact .inr h1
    · rw [List.getElem?_append_right hge] at hi
      have hz : i - out.length = 0 := by
        rcases Nat.eq_zero_or_pos (i - out.length) with h0 | h0
        · exact h0
        · rw [List.getElem?_eq_none (by simp only [List.length_singleton]; omega)] at hi; cases hi
      rw [hz] at hi
      obtain rfl : g = q := by simpa using hi
      rcases hn k hk with ⟨p, hp, hk2⟩ | h1
      · obtain ⟨j, hj, e⟩ := List.getElem_of_mem hp
        exact .inl ⟨j, p, by omega, by rw [List.getElem?_append_left hj, List.getElem?_eq_getElem hj, e], hk2⟩
      · exact .inr h1
theorem HasN.more {out new : List Grp} {n : Str} (h : HasN m l out n) : HasN m l (out ++ new) n := by
  rcases h with ⟨g, hg, hn⟩ | h
  · exact .inl ⟨g, List.mem_append_left _ hg, hn⟩
  · exact .inr h
theorem needsF_ok {way : List Str} {rec : List Grp → Str → List Grp × Int} (hrec : ∀ out n, GOk m l out → OffW way out → (rec out n).2 = 0 → (∃ new, (rec out n).1 = out ++ new) ∧ GOk m l (rec out n).1 ∧ OffW way (rec out n).1 ∧ HasN m l (rec out n).1 n) :
    ∀ (ns : List Str) (out : List Grp), GOk m l out → OffW way out → (needsF rec out ns).2 = 0 → (∃ new, (needsF rec out ns).1 = out ++ new) ∧ GOk m l (needsF rec out ns).1 ∧ OffW way (needsF rec out ns).1 ∧ ∀ n ∈ ns, HasN m l (needsF rec out ns).1 n
  | [], out, h1, h2, _ => ⟨⟨[], by simp [needsF]⟩, h1, h2, fun n hn => by cases hn⟩
  | n :: ns, out, h1, h2, h0 => by
    unfold needsF at h0 ⊢
    split at h0
    · rename_i hne; exact absurd h0 hne
    · rename_i he
      rw [if_neg he]
      have he : (rec out n).2 = 0 := by omega
      obtain ⟨⟨new, e1⟩, k1, k2, k3⟩ := hrec out n h1 h2 he
      obtain ⟨⟨new2, e2⟩, j1, j2, j3⟩ := needsF_ok hrec ns _ k1 k2 h0
      refine ⟨⟨new ++ new2, by rw [e2, e1, List.append_assoc]⟩, j1, j2, fun k hk => ?_⟩
      rcases List.mem_cons.1 hk with rfl | hk
      · rw [e2]; exact k3.more
      · exact j3 k hk
theorem visitF_ok (hu : Uniq m) : ∀ (f : Nat) (way : List Str) (out : List Grp) (name : Str), WayOk m l way → GOk m l out → OffW way out → (visitF m l f way out name).2 = 0 →
    (∃ new, (visitF m l f way out name).1 = out ++ new) ∧ GOk m l (visitF m l f way out name).1 ∧ OffW way (visitF m l f way out name).1 ∧ HasN m l (visitF m l f way out name).1 name
  | 0, _, _, _, _, _, _, h => by simp [visitF] at h
  | f + 1, way, out, name, hw, ho, hf, h => by
    unfold visitF at h ⊢
    by_cases h1 : inS way name = true
    · rw [if_pos h1] at h; simp at h
    rw [if_neg h1] at h ⊢
    by_cases h2 : (makerF out name).isSome = true
    · rw [if_pos h2]
      obtain ⟨i, hi⟩ := Option.isSome_iff_exists.1 h2
      obtain ⟨g, hg, hn⟩ := makerF_some hi
      exact ⟨⟨[], by simp⟩, ho, hf, .inl ⟨g, List.mem_of_getElem? hg, hn⟩⟩
    rw [if_neg h2] at h ⊢
    cases hr : ruleF m l name with
    | none =>
      rw [hr] at h
      simp only at h ⊢
      by_cases h3 : isF l name = true
      · rw [if_pos h3]
        exact ⟨⟨[], by simp⟩, ho, hf, .inr ⟨hr, h3⟩⟩
      · rw [if_neg h3] at h; simp at h
    | some g =>
      rw [hr] at h
      simp only at h ⊢
      have hnw : name ∉ way := by simpa [inS] using h1
      have hown := ruleF_own hr
      have hoff : ∀ q ∈ out, ∀ t ∈ q.targets, t ∉ g.targets := fun q hq t ht htg => by
        obtain ⟨k, hk⟩ := ho.rl q hq
        have := share hu hr hk htg ht
        subst this
        exact makerF_none (by simpa using h2) g hq hown
      have hw2 : WayOk m l (way ++ g.targets) := fun t ht => by
        rcases List.mem_append.1 ht with ht | ht
        · obtain ⟨q, k, a, b, c⟩ := hw t ht
          exact ⟨q, k, a, b, fun u hu => List.mem_append_left _ (c u hu)⟩
        · exact ⟨g, name, hr, ht, fun u hu => List.mem_append_right _ hu⟩
      have hf2 : OffW (way ++ g.targets) out := fun q hq t ht hm => by
        rcases List.mem_append.1 hm with hm | hm
        · exact hf q hq t ht hm
        · exact hoff q hq t ht hm
      have key := needsF_ok (m := m) (l := l) (way := way ++ g.targets) (rec := visitF m l f (way ++ g.targets)) (fun o n a b c => visitF_ok hu f _ o n hw2 a b c) g.needs out ho hf2
      generalize needsF (visitF m l f (way ++ g.targets)) out g.needs = R at h key ⊢
      by_cases h3 : R.2 ≠ 0
      · rw [if_pos h3] at h; exact absurd h h3
      rw [if_neg h3] at h ⊢
      by_cases h4 : R.1.length = 10
      · rw [if_pos h4] at h; simp at h
      rw [if_neg h4]
      obtain ⟨⟨new, e⟩, k1, k2, k3⟩ := key (by omega)
      refine ⟨⟨new ++ [g], by show R.1 ++ [g] = _; rw [e, List.append_assoc]⟩, k1.add hr (fun q hq t ht htg => k2 q hq t ht (List.mem_append_right _ htg)) k3, fun q hq t ht hm => ?_, .inl ⟨g, by simp, hown⟩⟩
      rcases List.mem_append.1 hq with hq | hq
      · exact k2 q hq t ht (List.mem_append_left _ hm)
      · obtain rfl : q = g := by simpa using hq
        obtain ⟨p, k, a, b, c⟩ := hw t hm
        have := share hu hr a ht b
        subst this
        exact hnw (c _ hown)
theorem visitF_len : ∀ (f : Nat) (way : List Str) (out : List Grp) (name : Str), out.length ≤ 10 → (visitF m l f way out name).1.length ≤ 10
  | 0, _, _, _, h => h
  | f + 1, way, out, name, h => by
    have hn : ∀ (ns : List Str) (o : List Grp) (w : List Str), o.length ≤ 10 → (needsF (visitF m l f w) o ns).1.length ≤ 10 := by
      intro ns
      induction ns with
      | nil => intro o w ho; exact ho
      | cons n ns ih =>
        intro o w ho
        unfold needsF
        split
        · exact visitF_len f w o n ho
        · exact ih _ w (visitF_len f w o n ho)
    unfold visitF
    split
    · exact h
    · split
      · exact h
      · split
        · split <;> exact h
        · rename_i g _
          have := hn g.needs out (way ++ g.targets) h
          split
          · exact this
          · split
            · exact this
            · simp only [List.length_append, List.length_cons, List.length_nil]; omega
theorem groupsF_ok (hu : Uniq m) {goal : Str} (h : (groupsF m l goal).2 = 0) : GOk m l (groupsF m l goal).1 ∧ (groupsF m l goal).1.length ≤ 10 ∧
    ((groupsF m l goal).1 = [] → isF l goal = true) ∧ (∀ g, (groupsF m l goal).1.getLast? = some g → goal ∈ g.targets) := by
  unfold groupsF at h ⊢
  split at h
  · simp at h
  rename_i h0
  rw [if_neg h0]
  split at h
  · rename_i h1; exact absurd h h1
  rename_i h1
  rw [if_neg h1]
  have h1 : (visitF m l 100 [] [] goal).2 = 0 := by omega
  have hlen := visitF_len (m := m) (l := l) 100 [] [] goal (by simp)
  have hok := visitF_ok hu 100 [] [] goal (fun t ht => by cases ht) ⟨fun g hg => (by cases hg), List.Pairwise.nil, fun i g hi => (by simp at hi)⟩ (fun g hg => by cases hg) h1
  refine ⟨hok.2.1, hlen, fun he => ?_, fun g hg => ?_⟩
  · rcases hok.2.2.2 with ⟨g, hg, _⟩ | h2
    · have he : (visitF m l 100 [] [] goal).1 = [] := he
      rw [he] at hg; cases hg
    · exact h2.2
  · have hg : (visitF m l (99 + 1) [] [] goal).1.getLast? = some g := hg
    have h1 : (visitF m l (99 + 1) [] [] goal).2 = 0 := h1
    unfold visitF at hg h1
    rw [if_neg (by simp [inS]), if_neg (by simp [makerF])] at hg h1
    cases hr : ruleF m l goal with
    | none =>
      rw [hr] at hg
      simp only at hg
      split at hg <;> simp at hg
    | some q =>
      rw [hr] at hg h1
      simp only at hg h1
      split at hg
      · rename_i h2; rw [if_pos h2] at h1; exact absurd h1 h2
      · rename_i h2
        rw [if_neg h2] at h1
        split at hg
        · rename_i h3; rw [if_pos h3] at h1; simp at h1
        · simp only [List.getLast?_append, List.getLast?_singleton, Option.or_some, Option.some.injEq] at hg
          have e : q = g := by simpa using hg
          subst e
          exact ruleF_own hr
end
theorem dupF_false : ∀ {ts made : List Str}, dupF made ts = false → (∀ t ∈ ts, t ∉ made) ∧ ts.Nodup
  | [], made, _ => ⟨fun t ht => (by cases ht), List.nodup_nil⟩
  | t :: ts, made, h => by
    unfold dupF at h
    simp only [Bool.or_eq_false_iff] at h
    obtain ⟨h1, h2⟩ := dupF_false h.2
    have ht : t ∉ made := by simpa [inS] using h.1
    refine ⟨fun u hu => ?_, List.nodup_cons.2 ⟨fun hm => h1 t hm (by simp), h2⟩⟩
    rcases List.mem_cons.1 hu with rfl | hu
    · exact ht
    · exact fun hm => h1 u hu (List.mem_append_left _ hm)
theorem chkR_uniq (ph : List Str) : ∀ {rs : List Rul} {made all : List Str}, chkR ph rs made = some all → (∀ r ∈ rs, (∀ t ∈ r.targets, t ∉ made) ∧ r.targets.Nodup ∧ ruleOk ph r = true) ∧ rs.Pairwise (fun a b => ∀ t ∈ a.targets, t ∉ b.targets) ∧ (∀ t, t ∈ all ↔ t ∈ made ∨ ∃ r ∈ rs, t ∈ r.targets)
  | [], made, all, h => by
    unfold chkR at h
    cases h
    exact ⟨fun r hr => (by cases hr), List.Pairwise.nil, fun t => by simp⟩
  | r :: rs, made, all, h => by
    unfold chkR at h
    split at h
    · cases h
    · rename_i h1
      split at h
      · rename_i h2
        obtain ⟨k1, k2⟩ := dupF_false (by simpa using h1)
        obtain ⟨j1, j2, j3⟩ := chkR_uniq ph h
        refine ⟨fun q hq => ?_, List.pairwise_cons.2 ⟨fun q hq t ht hm => (j1 q hq).1 t hm (List.mem_append_right _ ht), j2⟩, fun t => ?_⟩
        · rcases List.mem_cons.1 hq with rfl | hq
          · exact ⟨k1, k2, h2⟩
          · exact ⟨fun t ht hm => (j1 q hq).1 t ht (List.mem_append_left _ hm), (j1 q hq).2⟩
        · rw [j3 t]
          simp only [List.mem_append, List.mem_cons, exists_eq_or_imp, or_assoc]
      · cases h
theorem chk_uniq {m : Mk} (h : chkF m = 0) : Uniq m ∧ (∀ r ∈ m.rules, r.targets.Nodup) ∧ (∀ r ∈ m.rules, ruleOk m.phony r = true) := by
  unfold chkF at h
  split at h
  · simp at h
  · rename_i all hc
    obtain ⟨h1, h2, _⟩ := chkR_uniq m.phony hc
    refine ⟨fun r hr q hq t ht hm => ?_, fun r hr => (h1 r hr).2.1, fun r hr => (h1 r hr).2.2⟩
    obtain ⟨i, hi, e1⟩ := List.getElem_of_mem hr
    obtain ⟨j, hj, e2⟩ := List.getElem_of_mem hq
    have hp := List.pairwise_iff_getElem.1 h2
    rcases Nat.lt_trichotomy i j with hlt | heq | hgt
    · have := hp i j hi hj hlt t (by rw [e1]; exact ht)
      rw [e2] at this
      exact absurd hm this
    · subst heq; rw [← e1, ← e2]
    · have := hp j i hj hi hgt t (by rw [e2]; exact hm)
      rw [e1] at this
      exact absurd ht this
theorem groupF_b {m : Mk} {r : Rul} {n st : Str} (h1 : 1 ≤ r.targets.length) (h2 : r.targets.length ≤ 2) (h3 : r.needs.length ≤ 3) : 1 ≤ (groupF m r n st).targets.length ∧ (groupF m r n st).targets.length ≤ 2 ∧ (groupF m r n st).needs.length ≤ 3 := by
  refine ⟨?_, ?_, ?_⟩
  · show 1 ≤ (tgtOf r n st).length
    unfold tgtOf
    split
    · exact h1
    · exact Nat.le_refl 1
  · show (tgtOf r n st).length ≤ 2
    unfold tgtOf
    split
    · exact h2
    · exact Nat.le_succ 1
  · show (ndsOf r st).length ≤ 3
    unfold ndsOf
    rw [List.length_map]
    exact h3
theorem ruleF_b {m : Mk} {l : List File} {n : Str} {G : Grp} (hb : GBd m l) (h : ruleF m l n = some G) : 1 ≤ G.targets.length ∧ G.targets.length ≤ 2 ∧ G.needs.length ≤ 3 := by
  rcases ruleF_some h with ⟨r, hr, rfl⟩ | ⟨_, r, hr, _, rfl, _⟩
  · obtain ⟨p1, p2, p3, _⟩ := hb.t r (explF_some hr).1
    exact groupF_b p1 p2 p3
  · obtain ⟨p1, p2, p3, _⟩ := hb.t r hr
    exact groupF_b p1 p2 p3
theorem gr_info : (Tryz.prog.info? grpT).map (fun i => (i.zero, i.size, i.bytes)) = some (some (.agg #[.slice none 0 0, .slice none 0 0, .slice none 0 0, .bool false]), 4, 80) := by kernel_rfl
theorem gr_ty : Ety Tryz.prog 32 grpT 4 := Ety.mk' Tryz.underlying32 gr_info rfl (by omega) (by omega)
theorem visit_some {m : Mk} {l : List File} {way : List Str} {out : List Grp} {n : Str} {g : Grp} {f : Nat} (hw : inS way n = false) (hm : (makerF out n).isSome = false) (hr : ruleF m l n = some g) {R : List Grp × Int} (hR : needsF (visitF m l f (way ++ g.targets)) out g.needs = R) :
    visitF m l (f + 1) way out n = if R.2 ≠ 0 then R else if R.1.length = 10 then (R.1, 2) else (R.1 ++ [g], 0) := by
  rw [visitF, if_neg (by rw [hw]; decide), if_neg (by rw [hm]; decide), hr]
  show (if (needsF (visitF m l f (way ++ g.targets)) out g.needs).2 ≠ 0 then _ else _) = _
  rw [hR]
theorem needs_step {rec : List Grp → Str → List Grp × Int} {out : List Grp} {ns : List Str} {k : Nat} {t : Str} {r : List Grp × Int} (ht : ns[k]? = some t) (hr : rec out t = r) : needsF rec out (ns.drop k) = if r.2 ≠ 0 then r else needsF rec r.1 (ns.drop (k + 1)) := by
  obtain ⟨hk, e⟩ := List.getElem?_eq_some_iff.1 ht
  rw [List.drop_eq_getElem_cons hk, e, needsF, hr]
theorem Only.under {F F' : Nat → Prop} {w u v : World} (h : Only F w u) (k : Only F' u v) (hs : ∀ q, F' q → F q ∨ w.heap.size ≤ q) : Only F w v := h.trans k fun q hq e => (hs q e).elim id fun h => absurd h (by omega)
theorem GrpsR.nil (w : World) : GrpsR w none [] [] := ⟨⟨rfl, fun h => absurd h (by decide)⟩, (fun x hx => by cases hx), rfl⟩
theorem leftF_le (c way : List Str) : leftF c way ≤ c.length := List.length_filter_le _ _
def KpM (w : World) (m : Option Nat) (f : Str → Option Value) : Prop :=
  ∀ u, Ext w u → ∀ t : Str, t.length ≤ maxLen → (Instr.lookup rmapT (.map m) (S t) true).run Tryz.prog u = .ok (.tuple #[(f t).getD zeroR, .bool (f t).isSome]) u
theorem KpM.ext {w v : World} {m : Option Nat} {f : Str → Option Value} (h : KpM w m f) (hx : Ext w v) : KpM v m f := fun u hu => h u (hx.then_ext hu)
theorem MapR.kpm {w : World} {b n : Nat} {f : Str → Option Value} (h : MapR w b n f) : KpM w (some b) f := fun _ hu t ht => (h.keep hu id).look t ht
theorem KpM.nil (w : World) : KpM w none (fun _ => none) := fun u _ t ht => look_nil u t ht
abbrev kpF (F : Str → Option (RcdV × Rcd)) : Str → Option Value := fun s => (F s).map fun p => rcdV p.1 p.2
def KpR (w : World) (F : Str → Option (RcdV × Rcd)) : Prop := ∀ s p, F s = some p → RcdR w p.1 p.2 ∧ p.2.cmds.length ≤ 10000 ∧ p.2.needs.length ≤ 10000 ∧ p.2.out.length ≤ 10000
theorem KpR.ext {w v : World} {F : Str → Option (RcdV × Rcd)} (h : KpR w F) (hx : Ext w v) : KpR v F := fun s p e => ⟨(h s p e).1.ext hx, (h s p e).2⟩
abbrev Edge := Nat × Nat
inductive Conn (E : List Edge) (x : Nat) : Nat → Prop
  | here : Conn E x x
  | down {y z : Nat} : Conn E x y → (y, z) ∈ E → Conn E x z
  | up {y z : Nat} : Conn E x y → (z, y) ∈ E → Conn E x z
section
variable {E F : List Edge}
theorem Conn.trans {x y z : Nat} (h : Conn E x y) (k : Conn E y z) : Conn E x z := by
  induction k with
  | here => exact h
  | down _ e ih => exact ih.down e
  | up _ e ih => exact ih.up e
theorem Conn.symm {x y : Nat} (h : Conn E x y) : Conn E y x := by
  induction h with
  | here => exact .here
  | down _ e ih => exact (Conn.here.up e).trans ih
  | up _ e ih => exact (Conn.here.down e).trans ih
theorem Conn.more {x y : Nat} (h : Conn E x y) (hs : ∀ e ∈ E, e ∈ F) : Conn F x y := by
  induction h with
  | here => exact .here
  | down _ e ih => exact ih.down (hs _ e)
  | up _ e ih => exact ih.up (hs _ e)
end
def Least (E : List Edge) (x m : Nat) : Prop := Conn E x m ∧ ∀ y, Conn E x y → m ≤ y
theorem Least.uniq {E : List Edge} {x m k : Nat} (h : Least E x m) (h' : Least E x k) : m = k := Nat.le_antisymm (h.2 k h'.1) (h'.2 m h.1)
def rootF (up : List Nat) : Nat → Nat → Nat
  | 0, i => i
  | f + 1, i => if up.getD i 0 = i then i else rootF up f (up.getD i 0)
def rootA (up : List Nat) (i : Nat) : Nat := rootF up i i
def Low (up : List Nat) : Prop := ∀ i, i < up.length → up.getD i 0 ≤ i
theorem rootF_enough {up : List Nat} (h : Low up) : ∀ (f i : Nat), i ≤ f → i < up.length → rootF up f i = rootF up i i ∧ rootF up f i ≤ i ∧ up.getD (rootF up f i) 0 = rootF up f i
  | 0, i, hi, hl => by
    obtain rfl : i = 0 := by omega
    have := h 0 hl
    exact ⟨rfl, Nat.le_refl _, by show up.getD 0 0 = 0; omega⟩
  | f + 1, i, hi, hl => by
    have h1 := h i hl
    by_cases he : up.getD i 0 = i
    · have e1 : rootF up (f + 1) i = i := by unfold rootF; rw [if_pos he]
      have e2 : rootF up i i = i := by
        cases i with
        | zero => rfl
        | succ j => unfold rootF; rw [if_pos he]
      rw [e1, e2]
      exact ⟨rfl, Nat.le_refl _, he⟩
    · have e1 : rootF up (f + 1) i = rootF up f (up.getD i 0) := by conv => lhs; unfold rootF
                                                                    rw [if_neg he]
      obtain ⟨k1, k2, k3⟩ := rootF_enough h f (up.getD i 0) (by omega) (by omega)
      cases i with
      | zero => omega
      | succ j =>
        have e2 : rootF up (j + 1) (j + 1) = rootF up j (up.getD (j + 1) 0) := by conv => lhs; unfold rootF
                                                                                  rw [if_neg he]
        obtain ⟨j1, _, _⟩ := rootF_enough h j (up.getD (j + 1) 0) (by omega) (by omega)
        rw [e1, e2, k1, j1]
        rw [k1] at k2 k3
        exact ⟨rfl, by omega, k3⟩
  termination_by f => f
theorem rootA_le {up : List Nat} (h : Low up) {i : Nat} (hl : i < up.length) : rootA up i ≤ i := (rootF_enough h i i (Nat.le_refl _) hl).2.1
theorem rootA_step {up : List Nat} (h : Low up) {i : Nat} (hl : i < up.length) : rootA up i = if up.getD i 0 = i then i else rootA up (up.getD i 0) := by
  have h1 := h i hl
  unfold rootA
  cases i with
  | zero =>
    have : up.getD 0 0 = 0 := by omega
    rw [if_pos this]; rfl
  | succ j =>
    conv => lhs; unfold rootF
    by_cases he : up.getD (j + 1) 0 = j + 1
    · rw [if_pos he, if_pos he]
    · rw [if_neg he, if_neg he]
      exact (rootF_enough h j (up.getD (j + 1) 0) (by omega) (by omega)).1
theorem rootA_of {up : List Nat} {i : Nat} (he : up.getD i 0 = i) : rootA up i = i := by
  unfold rootA
  cases i with
  | zero => rfl
  | succ j => unfold rootF; rw [if_pos he]
theorem getD_set {up : List Nat} {a b i : Nat} (ha : a < up.length) : (up.set a b).getD i 0 = if i = a then b else up.getD i 0 := by
  rw [List.getD_eq_getElem?_getD, List.getD_eq_getElem?_getD, List.getElem?_set]
  by_cases h : a = i
  · subst h; simp [ha]
  · rw [if_neg h, if_neg (fun e => h e.symm)]
structure UpOk (E : List Edge) (up : List Nat) : Prop where
  low : Low up
  edge : ∀ e ∈ E, e.1 < up.length ∧ e.2 < up.length
  iff : ∀ x y, x < up.length → y < up.length → (rootA up x = rootA up y ↔ Conn E x y)
theorem Conn.lt {E : List Edge} {n : Nat} (he : ∀ e ∈ E, e.1 < n ∧ e.2 < n) {x y : Nat} (h : Conn E x y) (hx : x < n) : y < n := by
  induction h with
  | here => exact hx
  | down _ e _ => exact (he _ e).2
  | up _ e _ => exact (he _ e).1
theorem UpOk.new {E : List Edge} {up : List Nat} (h : UpOk E up) : UpOk E (up ++ [up.length]) := by
  have hget : ∀ i, i < up.length → (up ++ [up.length]).getD i 0 = up.getD i 0 := fun i hi => by
    rw [List.getD_eq_getElem?_getD, List.getD_eq_getElem?_getD, List.getElem?_append_left hi]
  have hlast : (up ++ [up.length]).getD up.length 0 = up.length := by simp [List.getD_eq_getElem?_getD]
  have hL : Low (up ++ [up.length]) := fun i hi => by
    rw [List.length_append, List.length_singleton] at hi
    rcases Nat.lt_or_ge i up.length with hlt | hge
    · rw [hget i hlt]; exact h.low i hlt
    · obtain rfl : i = up.length := by omega
      rw [hlast]; exact Nat.le_refl _
  have hroot : ∀ i, i < up.length → rootA (up ++ [up.length]) i = rootA up i := by
    intro i
    induction i using Nat.strongRecOn with
    | ind i ih =>
      intro hi
      have hi' : i < (up ++ [up.length]).length := by rw [List.length_append]; omega
      rw [rootA_step hL hi', rootA_step h.low hi, hget i hi]
      by_cases he : up.getD i 0 = i
      · rw [if_pos he, if_pos he]
      · rw [if_neg he, if_neg he]
        have := h.low i hi
        exact ih _ (by omega) (by omega)
  have hlr : rootA (up ++ [up.length]) up.length = up.length := rootA_of hlast
  refine ⟨hL, fun e he => by have := h.edge e he; rw [List.length_append]; omega, fun x y hx hy => ?_⟩
  rw [List.length_append, List.length_singleton] at hx hy
  rcases Nat.lt_or_ge x up.length with hxl | hxl
  · rcases Nat.lt_or_ge y up.length with hyl | hyl
    · rw [hroot x hxl, hroot y hyl]; exact h.iff x y hxl hyl
    · obtain rfl : y = up.length := by omega
      rw [hroot x hxl, hlr]
      constructor
      · intro e; have := rootA_le h.low hxl; omega
      · intro c; have := c.lt h.edge hxl; omega
  · obtain rfl : x = up.length := by omega
    rcases Nat.lt_or_ge y up.length with hyl | hyl
    · rw [hroot y hyl, hlr]
      constructor
      · intro e; have := rootA_le h.low hyl; omega
      · intro c; have := c.symm.lt h.edge hyl; omega
    · obtain rfl : y = up.length := by omega
      exact ⟨fun _ => .here, fun _ => rfl⟩
theorem Conn.one {E : List Edge} {e : Edge} {x y : Nat} (h : Conn (E ++ [e]) x y) : Conn E x y ∨ (Conn E x e.1 ∧ Conn E e.2 y) ∨ (Conn E x e.2 ∧ Conn E e.1 y) := by
  induction h with
  | here => exact .inl .here
  | down _ he ih =>
    rcases List.mem_append.1 he with he | he
    · rcases ih with h1 | ⟨h1, h2⟩ | ⟨h1, h2⟩
      · exact .inl (h1.down he)
      · exact .inr (.inl ⟨h1, h2.down he⟩)
      · exact .inr (.inr ⟨h1, h2.down he⟩)
    · have he := List.mem_singleton.1 he
      subst he
      rcases ih with h1 | ⟨h1, h2⟩ | ⟨h1, h2⟩
      · exact .inr (.inl ⟨h1, .here⟩)
      · exact .inr (.inl ⟨h1, .here⟩)
      · exact .inl h1
  | up _ he ih =>
    rcases List.mem_append.1 he with he | he
    · rcases ih with h1 | ⟨h1, h2⟩ | ⟨h1, h2⟩
      · exact .inl (h1.up he)
      · exact .inr (.inl ⟨h1, h2.up he⟩)
      · exact .inr (.inr ⟨h1, h2.up he⟩)
    · have he := List.mem_singleton.1 he
      subst he
      rcases ih with h1 | ⟨h1, h2⟩ | ⟨h1, h2⟩
      · exact .inr (.inr ⟨h1, .here⟩)
      · exact .inl h1
      · exact .inr (.inr ⟨h1, .here⟩)
def relaxF (mk : List Nat) (e : Edge) : List Nat := (mk.set e.1 (min (mk.getD e.1 0) (mk.getD e.2 0))).set e.2 (min (mk.getD e.1 0) (mk.getD e.2 0))
def sweepF (E : List Edge) (mk : List Nat) : List Nat := E.foldl relaxF mk
def sweepsF (E : List Edge) : Nat → List Nat → List Nat
  | 0, mk => mk
  | t + 1, mk => sweepsF E t (sweepF E mk)
theorem relaxF_get {mk : List Nat} {e : Edge} (h1 : e.1 < mk.length) (h2 : e.2 < mk.length) (i : Nat) : (relaxF mk e).getD i 0 = if i = e.1 ∨ i = e.2 then min (mk.getD e.1 0) (mk.getD e.2 0) else mk.getD i 0 := by
  unfold relaxF
  rw [getD_set (by rw [List.length_set]; exact h2), getD_set h1]
  by_cases ha : i = e.2
  · rw [if_pos ha, if_pos (.inr ha)]
  · rw [if_neg ha]
    by_cases hb : i = e.1
    · rw [if_pos hb, if_pos (.inl hb)]
    · rw [if_neg hb, if_neg (fun hc => hc.elim hb ha)]
structure MkOk (E : List Edge) (n : Nat) (mk : List Nat) : Prop where
  len : mk.length = n
  conn : ∀ i, i < n → Conn E i (mk.getD i 0)
theorem MkOk.relax {E : List Edge} {n : Nat} {mk : List Nat} (h : MkOk E n mk) {e : Edge} (he : e ∈ E) (h1 : e.1 < n) (h2 : e.2 < n) : MkOk E n (relaxF mk e) ∧ ∀ i, i < n → (relaxF mk e).getD i 0 ≤ mk.getD i 0 := by
  have hl := h.len
  have g := relaxF_get (mk := mk) (e := e) (by omega) (by omega)
  refine ⟨⟨by unfold relaxF; rw [List.length_set, List.length_set]; exact hl, fun i hi => ?_⟩, fun i hi => ?_⟩
  · rw [g i]
    split
    · rename_i hc
      have hm : min (mk.getD e.1 0) (mk.getD e.2 0) = mk.getD e.1 0 ∨ min (mk.getD e.1 0) (mk.getD e.2 0) = mk.getD e.2 0 := by omega
      have e12 : Conn E e.1 e.2 := Conn.here.down he
      rcases hm with hm | hm <;> rw [hm] <;> rcases hc with rfl | rfl
      · exact h.conn _ h1
      · exact e12.symm.trans (h.conn _ h1)
      · exact e12.trans (h.conn _ h2)
      · exact h.conn _ h2
    · exact h.conn i hi
  · rw [g i]
    split
    · rename_i hc
      rcases hc with rfl | rfl <;> omega
    · exact Nat.le_refl _
theorem sweep_ok {E : List Edge} {n : Nat} (hE : ∀ e ∈ E, e.1 < n ∧ e.2 < n) : ∀ (D : List Edge) (mk : List Nat), (∀ e ∈ D, e ∈ E) → MkOk E n mk → MkOk E n (sweepF D mk) ∧ (∀ i, i < n → (sweepF D mk).getD i 0 ≤ mk.getD i 0) ∧ ∀ e ∈ D, (sweepF D mk).getD e.1 0 ≤ mk.getD e.2 0 ∧ (sweepF D mk).getD e.2 0 ≤ mk.getD e.1 0
  | [], mk, _, h => ⟨h, fun _ _ => Nat.le_refl _, fun e he => by cases he⟩
  | e :: D, mk, hs, h => by
    have hm := hs e (by simp)
    have hb := hE e hm
    obtain ⟨r1, r2⟩ := h.relax hm hb.1 hb.2
    obtain ⟨s1, s2, s3⟩ := sweep_ok hE D _ (fun d hd => hs d (List.mem_cons_of_mem _ hd)) r1
    have hl := h.len
    have g := relaxF_get (mk := mk) (e := e) (by omega) (by omega)
    refine ⟨s1, fun i hi => Nat.le_trans (s2 i hi) (r2 i hi), fun d hd => ?_⟩
    rcases List.mem_cons.1 hd with rfl | hd
    · have a1 := s2 d.1 hb.1
      have a2 := s2 d.2 hb.2
      rw [g, if_pos (.inl rfl)] at a1
      rw [g, if_pos (.inr rfl)] at a2
      show (sweepF D (relaxF mk d)).getD d.1 0 ≤ _ ∧ (sweepF D (relaxF mk d)).getD d.2 0 ≤ _
      omega
    · have hdb := hE d (hs d (List.mem_cons_of_mem _ hd))
      have := s3 d hd
      have b1 := r2 d.1 hdb.1
      have b2 := r2 d.2 hdb.2
      show (sweepF D (relaxF mk e)).getD d.1 0 ≤ _ ∧ (sweepF D (relaxF mk e)).getD d.2 0 ≤ _
      omega
theorem filter_grow {p q : Nat → Bool} : ∀ {l : List Nat}, (∀ x ∈ l, p x = true → q x = true) → (l.filter p).length ≤ (l.filter q).length
  | [], _ => Nat.le_refl _
  | x :: l, h => by
    have ih := filter_grow (l := l) (p := p) (q := q) fun y hy => h y (List.mem_cons_of_mem _ hy)
    simp only [List.filter_cons]
    cases hp : p x with
    | true => rw [h x (by simp) hp]; simp only [if_true, List.length_cons]; omega
    | false => cases hq : q x <;> simp <;> omega
theorem filter_grow_lt {p q : Nat → Bool} : ∀ {l : List Nat} {z : Nat}, (∀ x ∈ l, p x = true → q x = true) → z ∈ l → p z = false → q z = true → (l.filter p).length < (l.filter q).length
  | x :: l, z, h, hz, h1, h2 => by
    have hg := filter_grow (l := l) (p := p) (q := q) fun y hy => h y (List.mem_cons_of_mem _ hy)
    simp only [List.filter_cons]
    rcases List.mem_cons.1 hz with rfl | hz
    · rw [h1, h2]; simp only [if_true, Bool.false_eq_true, if_false, List.length_cons]; omega
    · have ih := filter_grow_lt (l := l) (p := p) (q := q) (fun y hy => h y (List.mem_cons_of_mem _ hy)) hz h1 h2
      cases hp : p x with
      | true => rw [h x (by simp) hp]; simp only [if_true, List.length_cons]; omega
      | false => cases hq : q x <;> simp <;> omega
theorem Conn.crossing {E : List Edge} {m : Nat} {p : Nat → Bool} (hm : p m = true) {x : Nat} (h : Conn E m x) (hx : p x = false) : ∃ y z, ((y, z) ∈ E ∨ (z, y) ∈ E) ∧ p y = true ∧ p z = false ∧ Conn E m y := by
  induction h with
  | here => rw [hm] at hx; cases hx
  | @down y z hc e ih =>
    cases hy : p y with
    | true => exact ⟨y, z, .inl e, hy, hx, hc⟩
    | false => exact ih hy
  | @up y z hc e ih =>
    cases hy : p y with
    | true => exact ⟨y, z, .inr e, hy, hx, hc⟩
    | false => exact ih hy
def cntF (n m : Nat) (mk : List Nat) : Nat := ((List.range n).filter fun x => decide (mk.getD x 0 = m)).length
theorem sweeps_count {E : List Edge} {n m : Nat} (hE : ∀ e ∈ E, e.1 < n ∧ e.2 < n) (hmn : m < n) (hm : ∀ y, Conn E m y → m ≤ y) : ∀ (t c : Nat) (mk : List Nat), MkOk E n mk → mk.getD m 0 = m → c + 1 ≤ cntF n m mk →
    MkOk E n (sweepsF E t mk) ∧ ((∀ y, Conn E m y → (sweepsF E t mk).getD y 0 = m) ∨ c + t + 1 ≤ cntF n m (sweepsF E t mk))
  | 0, c, mk, h, _, hc => ⟨h, .inr hc⟩
  | t + 1, c, mk, h, h0, hc => by
    obtain ⟨s1, s2, s3⟩ := sweep_ok hE E mk (fun e he => he) h
    have hge : ∀ (mk' : List Nat), MkOk E n mk' → ∀ y, Conn E m y → m ≤ mk'.getD y 0 := fun mk' hk y hy => hm _ (hy.trans (hk.conn y (hy.lt hE hmn)))
    have hstay : ∀ y, Conn E m y → mk.getD y 0 = m → (sweepF E mk).getD y 0 = m := fun y hy e => by
      have := s2 y (hy.lt hE hmn)
      have := hge _ s1 y hy
      omega
    have h0' := hstay m .here h0
    by_cases hall : ∀ y, Conn E m y → mk.getD y 0 = m
    ·
      have hkeep : ∀ (t : Nat) (mk' : List Nat), MkOk E n mk' → (∀ y, Conn E m y → mk'.getD y 0 = m) → MkOk E n (sweepsF E t mk') ∧ ∀ y, Conn E m y → (sweepsF E t mk').getD y 0 = m := by
        intro t
        induction t with
        | zero => intro mk' hk ha; exact ⟨hk, ha⟩
        | succ t ih =>
          intro mk' hk ha
          obtain ⟨q1, q2, _⟩ := sweep_ok hE E mk' (fun e he => he) hk
          refine ih _ q1 fun y hy => ?_
          have := q2 y (hy.lt hE hmn)
          have := hge _ q1 y hy
          have := ha y hy
          omega
      have := hkeep t _ s1 fun y hy => hstay y hy (hall y hy)
      exact ⟨this.1, .inl this.2⟩
    · have hne : ∃ y, Conn E m y ∧ mk.getD y 0 ≠ m := by
        refine Classical.byContradiction fun hno => hall fun y hy => ?_
        exact Classical.byContradiction fun he => hno ⟨y, hy, he⟩
      obtain ⟨x, hx, hxm⟩ := hne
      obtain ⟨y, z, hyz, hy, hz, hcy⟩ := hx.crossing (p := fun k => decide (mk.getD k 0 = m)) (by simpa using h0) (by simpa using hxm)
      have hy : mk.getD y 0 = m := by simpa using hy
      have hcz : Conn E m z := hyz.elim (fun e => hcy.down e) fun e => hcy.up e
      have hz' : (sweepF E mk).getD z 0 = m := by
        have hb := hge _ s1 z hcz
        rcases hyz with e | e
        · have := (s3 _ e).2; simp only at this; omega
        · have := (s3 _ e).1; simp only at this; omega
      have hcnt : c + 1 + 1 ≤ cntF n m (sweepF E mk) := by
        refine Nat.lt_of_le_of_lt hc (filter_grow_lt (z := z) (fun k hk hp => ?_) (List.mem_range.2 (hcz.lt hE hmn)) hz (by simpa using hz'))
        have hk := List.mem_range.1 hk
        have hp : mk.getD k 0 = m := by simpa using hp
        have hc' : Conn E m k := by
          have := h.conn k hk
          rw [hp] at this
          exact this.symm
        simpa using hstay k hc' hp
      have := sweeps_count hE hmn hm t (c + 1) _ s1 h0' hcnt
      refine ⟨this.1, this.2.imp id fun h => ?_⟩
      show c + (t + 1) + 1 ≤ cntF n m (sweepsF E t (sweepF E mk))
      omega
theorem cntF_le (n m : Nat) (mk : List Nat) : cntF n m mk ≤ n := by
  have := List.length_filter_le (fun x => decide (mk.getD x 0 = m)) (List.range n)
  rw [List.length_range] at this
  exact this
theorem range_getD {n i : Nat} (h : i < n) : (List.range n).getD i 0 = i := by
  rw [List.getD_eq_getElem?_getD, List.getElem?_range h]; rfl
theorem marks_least {E : List Edge} {n : Nat} (hE : ∀ e ∈ E, e.1 < n ∧ e.2 < n) {x m : Nat} (hx : x < n) (hl : Least E x m) : (sweepsF E n (List.range n)).getD x 0 = m := by
  have h0 : MkOk E n (List.range n) := ⟨List.length_range, fun i hi => by rw [range_getD hi]; exact .here⟩
  have hmn : m < n := hl.1.lt hE hx
  have hm : ∀ y, Conn E m y → m ≤ y := fun y hy => hl.2 y (hl.1.trans hy)
  have hc : 0 + 1 ≤ cntF n m (List.range n) := by
    refine List.length_pos_iff.2 fun he => ?_
    have : m ∈ (List.range n).filter fun x => decide ((List.range n).getD x 0 = m) := List.mem_filter.2 ⟨List.mem_range.2 hmn, by simpa using range_getD hmn⟩
    rw [he] at this
    cases this
  obtain ⟨_, h | h⟩ := sweeps_count hE hmn hm n 0 _ h0 (range_getD hmn) hc
  · exact h x hl.1.symm
  · have := cntF_le n m (sweepsF E n (List.range n)); omega
abbrev stB (st : List Bool) (i : Nat) : Bool := st.getD i false
def edgeF (gs : List Grp) (st : List Bool) (i : Nat) (n : Str) : Option Edge :=
  match makerF (gs.take i) n with
  | some k => if (stB st i && stB st k) = true then some (i, k) else none
  | none => none
def ndsAt (gs : List Grp) (i : Nat) : List Str := match gs[i]? with
  | some g => g.needs
  | none => []
def edgesAt (gs : List Grp) (st : List Bool) (i : Nat) : List Edge := (ndsAt gs i).filterMap (edgeF gs st i)
def edgesTo (gs : List Grp) (st : List Bool) (i : Nat) : List Edge := (List.range i).flatMap (edgesAt gs st)
abbrev edgesF (gs : List Grp) (st : List Bool) : List Edge := edgesTo gs st gs.length
def unitAt (n : Nat) (st : List Bool) (r : Nat → Nat) (i : Nat) : List Nat := (List.range n).filter fun k => stB st k && decide (r k = i)
def nphB (gs : List Grp) (k : Nat) : Bool := match gs[k]? with
  | some g => !g.phony
  | none => false
def realB (gs : List Grp) (u : List Nat) : Bool := u.any (nphB gs)
def unit1 (gs : List Grp) (st : List Bool) (r : Nat → Nat) (i : Nat) : Option (List Nat) := if realB gs (unitAt gs.length st r i) = true then some (unitAt gs.length st r i) else none
def unitsTo (gs : List Grp) (st : List Bool) (r : Nat → Nat) (i : Nat) : List (List Nat) := (List.range i).filterMap (unit1 gs st r)
abbrev unitsF (gs : List Grp) (st : List Bool) (r : Nat → Nat) : List (List Nat) := unitsTo gs st r gs.length
theorem edgesTo_succ (gs : List Grp) (st : List Bool) (i : Nat) : edgesTo gs st (i + 1) = edgesTo gs st i ++ edgesAt gs st i := by
  unfold edgesTo
  rw [List.range_succ, List.flatMap_append]
  simp
theorem unitsTo_succ (gs : List Grp) (st : List Bool) (r : Nat → Nat) (i : Nat) : unitsTo gs st r (i + 1) = unitsTo gs st r i ++ (unit1 gs st r i).toList := by
  unfold unitsTo
  rw [List.range_succ, List.filterMap_append]
  congr 1
theorem makerF_lt {out : List Grp} {n : Str} {k : Nat} (h : makerF out n = some k) : k < out.length := by
  unfold makerF at h
  obtain ⟨hk, _⟩ := List.findIdx?_eq_some_iff_getElem.1 h
  exact hk
theorem edge_ok {gs : List Grp} {st : List Bool} {i : Nat} {n : Str} {e : Edge} (h : edgeF gs st i n = some e) : e.1 = i ∧ e.2 < i ∧ stB st e.1 = true ∧ stB st e.2 = true := by
  unfold edgeF at h
  split at h
  · rename_i k hk
    split at h
    · rename_i hs
      cases h
      rw [Bool.and_eq_true] at hs
      have := makerF_lt hk
      rw [List.length_take] at this
      exact ⟨rfl, by show k < i; omega, hs.1, hs.2⟩
    · cases h
  · cases h
theorem edgesTo_ok {gs : List Grp} {st : List Bool} {i : Nat} : ∀ e ∈ edgesTo gs st i, e.1 < i ∧ e.2 < e.1 ∧ stB st e.1 = true ∧ stB st e.2 = true := by
  intro e he
  unfold edgesTo at he
  obtain ⟨j, hj, he⟩ := List.mem_flatMap.1 he
  unfold edgesAt at he
  obtain ⟨n, _, he⟩ := List.mem_filterMap.1 he
  obtain ⟨h1, h2, h3, h4⟩ := edge_ok he
  have := List.mem_range.1 hj
  exact ⟨by omega, by omega, h3, h4⟩
theorem Conn.stale {E : List Edge} {p : Nat → Bool} (hp : ∀ e ∈ E, p e.1 = true ∧ p e.2 = true) {x y : Nat} (h : Conn E x y) : x = y ∨ p y = true := by
  induction h with
  | here => exact .inl rfl
  | down _ e _ => exact .inr (hp _ e).2
  | up _ e _ => exact .inr (hp _ e).1
def UpI (n i : Nat) (E : List Edge) (up : List Nat) : Prop := ∃ U : List Nat, U.length = i ∧ i ≤ n ∧ up = U ++ List.replicate (n - i) 0 ∧ UpOk E U
theorem UpI.len {n i : Nat} {E : List Edge} {up : List Nat} (h : UpI n i E up) : up.length = n := by
  obtain ⟨U, h1, h2, rfl, _⟩ := h
  rw [List.length_append, List.length_replicate]
  omega
theorem pad_get {U : List Nat} {k j : Nat} (h : j < U.length) : (U ++ List.replicate k 0).getD j 0 = U.getD j 0 := by
  rw [List.getD_eq_getElem?_getD, List.getD_eq_getElem?_getD, List.getElem?_append_left h]
theorem pad_low {U : List Nat} {k : Nat} (h : Low U) : Low (U ++ List.replicate k 0) := by
  intro j hj
  rcases Nat.lt_or_ge j U.length with hlt | hge
  · rw [pad_get hlt]; exact h j hlt
  · rw [List.getD_eq_getElem?_getD, List.getElem?_append_right hge, List.getElem?_replicate]
    split <;> exact Nat.zero_le _
theorem UpI.low {n i : Nat} {E : List Edge} {up : List Nat} (h : UpI n i E up) : Low up := by
  obtain ⟨U, h1, h2, rfl, h3⟩ := h
  exact pad_low h3.low
theorem UpI.new {n i : Nat} {E : List Edge} {up : List Nat} (h : UpI n i E up) (hi : i < n) : UpI n (i + 1) E (up.set i i) := by
  obtain ⟨U, rfl, h2, rfl, h3⟩ := h
  refine ⟨U ++ [U.length], by simp, hi, ?_, h3.new⟩
  have : List.replicate (n - U.length) 0 = 0 :: List.replicate (n - (U.length + 1)) 0 := by
    rw [show n - U.length = (n - (U.length + 1)) + 1 by omega, List.replicate_succ]
  rw [this, List.set_append_right _ _ (Nat.le_refl _), Nat.sub_self]
  simp
theorem UpI.fin {n : Nat} {E : List Edge} {up : List Nat} (h : UpI n n E up) : UpOk E up := by
  obtain ⟨U, h1, h2, rfl, h3⟩ := h
  rw [Nat.sub_self, List.replicate_zero, List.append_nil]
  exact h3
def LstOk (E : List Edge) (n : Nat) (r : Nat → Nat) : Prop := ∀ k, k < n → Least E k (r k)
theorem unit_mem {n : Nat} {st : List Bool} {r : Nat → Nat} {i k : Nat} : k ∈ unitAt n st r i ↔ k < n ∧ stB st k = true ∧ r k = i := by
  unfold unitAt
  rw [List.mem_filter, List.mem_range, Bool.and_eq_true, decide_eq_true_eq]
theorem unit1_some {gs : List Grp} {st : List Bool} {r : Nat → Nat} {i : Nat} {u : List Nat} (h : unit1 gs st r i = some u) : u = unitAt gs.length st r i ∧ realB gs u = true := by
  unfold unit1 at h
  split at h
  · rename_i h1
    cases h
    exact ⟨rfl, h1⟩
  · cases h
def fndI (s p : Str) (f : Nat) : Int := if Lib.index (s.drop f) p = -1 then -1 else Lib.index (s.drop f) p + f
theorem pre_take (p l : Str) : p.isPrefixOf l = decide (l.take p.length = p) := by
  rw [Bool.eq_iff_iff, List.isPrefixOf_iff_prefix, decide_eq_true_iff]
  constructor
  · rintro ⟨t, rfl⟩
    simp
  · intro h
    rw [← h]
    exact List.take_prefix _ _
theorem part_at (s : Str) (f k n : Nat) : (s.take (f + k + n)).drop (f + k) = ((s.drop f).drop k).take n := by
  rw [List.drop_take, List.drop_drop, show f + k + n - (f + k) = n by omega]
set_option maxRecDepth 100000 in
theorem rfind1_c (s : Str) (hs : s.length ≤ 1000000) (a : UInt8) (f : Nat) (hf : f ≤ s.length) (w : World) :
    Calls Tryz.prog 57 #[S s, S [a], .int .i64 f] w fun e w' => e = .returned (.int .i64 (fndI s [a] f)) ∧ Ext w w' := by
  have hd : (s.drop f).length = s.length - f := List.length_drop
  go_enter Tryz.func57, Tryz.ntmps57
  go_wp2_with fail
  go_loopw [7] (fun i wr => ∃ k : Nat, f + k ≤ s.length ∧ i = .int .i64 ((f + k : Nat) : Int) ∧ Lib.NoOcc (s.drop f) [a] k ∧ ∃ ξ : X w No, wr = ξ.v) (fun i _ => s.length - (intOf i).toNat)
  case atStart => exact ⟨0, by omega, by simp, fun j hj => absurd hj (Nat.not_lt_zero _), X.here _ _, rfl⟩
  case round =>
    obtain ⟨k, hk, rfl, hT, ξ, rfl⟩ := hrel
    have HT := Lib.hid hT
    clear hT
    obtain ⟨i, hi⟩ : ∃ i, i = f + k := ⟨_, rfl⟩
    have HI := Lib.hid hi
    by_cases hlt : i + 1 ≤ s.length
    · have g1 : decide ((i : Int) + 1 ≤ (s.length : Int)) = true := by rw [decide_eq_true_iff]; omega
      have e0 : Lib.occAt (s.drop f) [a] k = decide ((s.take (i + 1)).drop i = [a]) := by
        unfold Lib.occAt
        rw [pre_take, hi]
        show decide (List.take 1 _ = _) = _
        rw [part_at]
      have HO := Lib.hid e0
      obtain ⟨q, hq⟩ : ∃ q, (s.take (i + 1)).drop i = q := ⟨_, rfl⟩
      rw [hq] at HO
      rw [← hi] at hk ⊢
      obtain ⟨bb, hb⟩ : ∃ bb, (q == [a]) = bb := ⟨_, rfl⟩
      have HB := Lib.hid hb
      clear hi e0
      cases bb with
      | true =>
        have HX : Hid (fndI s [a] f = (i : Int)) := by
          have hqp : q = [a] := by simpa using HB.out
          have h1 := Lib.index_hit HT.out (by have := HI.out; omega) (by rw [HO.out, hqp]; simp)
          rw [Hid, fndI, h1, if_neg (by omega)]
          have := HI.out
          omega
        go_wp2_with fail
        go_ret
        exact ⟨by rw [HX.out]; rfl, ξ.h⟩
      | false =>
        have HX : Hid (Lib.NoOcc (s.drop f) [a] (k + 1)) := by
          have hqp : q ≠ [a] := by simpa using HB.out
          intro j hj
          rcases Nat.lt_or_ge j k with h | h
          · exact HT.out j h
          · obtain rfl : j = k := by omega
            rw [HO.out, decide_eq_false hqp]
        have hfk : f + k + 1 ≤ s.length := by have := HI.out; omega
        go_wp2_with fail
        go_roundw
        case rel => exact ⟨k + 1, hfk, by rw [HI.out]; exact congrArg _ (by omega), HX.out, ξ, rfl⟩
        case measure => simp [intOf]; omega
    · have g1 : decide ((i : Int) + 1 ≤ (s.length : Int)) = false := by rw [decide_eq_false_iff_not]; omega
      have HX : Hid (fndI s [a] f = -1) := by
        have h1 := Lib.index_past (sub := [a]) (by simp) HT.out (by rw [hd, show ([a] : Str).length = 1 from rfl]; omega)
        rw [Hid, fndI, h1]
        rfl
      rw [← hi] at hk ⊢
      clear hi
      go_wp2_with fail
      go_ret
      exact ⟨by rw [HX.out]; rfl, ξ.h⟩
set_option maxRecDepth 100000 in
theorem rfind2_c (s : Str) (hs : s.length ≤ 1000000) (a b : UInt8) (f : Nat) (hf : f ≤ s.length) (w : World) :
    Calls Tryz.prog 57 #[S s, S [a, b], .int .i64 f] w fun e w' => e = .returned (.int .i64 (fndI s [a, b] f)) ∧ Ext w w' := by
  have hd : (s.drop f).length = s.length - f := List.length_drop
  go_enter Tryz.func57, Tryz.ntmps57
  go_wp2_with fail
  go_loopw [7] (fun i wr => ∃ k : Nat, f + k ≤ s.length ∧ i = .int .i64 ((f + k : Nat) : Int) ∧ Lib.NoOcc (s.drop f) [a, b] k ∧ ∃ ξ : X w No, wr = ξ.v) (fun i _ => s.length - (intOf i).toNat)
  case atStart => exact ⟨0, by omega, by simp, fun j hj => absurd hj (Nat.not_lt_zero _), X.here _ _, rfl⟩
  case round =>
    obtain ⟨k, hk, rfl, hT, ξ, rfl⟩ := hrel
    have HT := Lib.hid hT
    clear hT
    obtain ⟨i, hi⟩ : ∃ i, i = f + k := ⟨_, rfl⟩
    have HI := Lib.hid hi
    by_cases hlt : i + 2 ≤ s.length
    · have g1 : decide ((i : Int) + 2 ≤ (s.length : Int)) = true := by rw [decide_eq_true_iff]; omega
      have e0 : Lib.occAt (s.drop f) [a, b] k = decide ((s.take (i + 2)).drop i = [a, b]) := by
        unfold Lib.occAt
        rw [pre_take, hi]
        show decide (List.take 2 _ = _) = _
        rw [part_at]
      have HO := Lib.hid e0
      obtain ⟨q, hq⟩ : ∃ q, (s.take (i + 2)).drop i = q := ⟨_, rfl⟩
      rw [hq] at HO
      rw [← hi] at hk ⊢
      obtain ⟨bb, hb⟩ : ∃ bb, (q == [a, b]) = bb := ⟨_, rfl⟩
      have HB := Lib.hid hb
      clear hi e0
      cases bb with
      | true =>
        have HX : Hid (fndI s [a, b] f = (i : Int)) := by
          have hqp : q = [a, b] := by simpa using HB.out
          have h1 := Lib.index_hit HT.out (by have := HI.out; omega) (by rw [HO.out, hqp]; simp)
          rw [Hid, fndI, h1, if_neg (by omega)]
          have := HI.out
          omega
        go_wp2_with fail
        go_ret
        exact ⟨by rw [HX.out]; rfl, ξ.h⟩
      | false =>
        have HX : Hid (Lib.NoOcc (s.drop f) [a, b] (k + 1)) := by
          have hqp : q ≠ [a, b] := by simpa using HB.out
          intro j hj
          rcases Nat.lt_or_ge j k with h | h
          · exact HT.out j h
          · obtain rfl : j = k := by omega
            rw [HO.out, decide_eq_false hqp]
        have hfk : f + k + 1 ≤ s.length := by have := HI.out; omega
        go_wp2_with fail
        go_roundw
        case rel => exact ⟨k + 1, hfk, by rw [HI.out]; exact congrArg _ (by omega), HX.out, ξ, rfl⟩
        case measure => simp [intOf]; omega
    · have g1 : decide ((i : Int) + 2 ≤ (s.length : Int)) = false := by rw [decide_eq_false_iff_not]; omega
      have HX : Hid (fndI s [a, b] f = -1) := by
        have h1 := Lib.index_past (sub := [a, b]) (by simp) HT.out (by rw [hd, show ([a, b] : Str).length = 2 from rfl]; omega)
        rw [Hid, fndI, h1]
        rfl
      rw [← hi] at hk ⊢
      clear hi
      go_wp2_with fail
      go_ret
      exact ⟨by rw [HX.out]; rfl, ξ.h⟩
set_option maxRecDepth 100000 in
theorem rfind3_c (s : Str) (hs : s.length ≤ 1000000) (a b c : UInt8) (f : Nat) (hf : f ≤ s.length) (w : World) :
    Calls Tryz.prog 57 #[S s, S [a, b, c], .int .i64 f] w fun e w' => e = .returned (.int .i64 (fndI s [a, b, c] f)) ∧ Ext w w' := by
  have hd : (s.drop f).length = s.length - f := List.length_drop
  go_enter Tryz.func57, Tryz.ntmps57
  go_wp2_with fail
  go_loopw [7] (fun i wr => ∃ k : Nat, f + k ≤ s.length ∧ i = .int .i64 ((f + k : Nat) : Int) ∧ Lib.NoOcc (s.drop f) [a, b, c] k ∧ ∃ ξ : X w No, wr = ξ.v) (fun i _ => s.length - (intOf i).toNat)
  case atStart => exact ⟨0, by omega, by simp, fun j hj => absurd hj (Nat.not_lt_zero _), X.here _ _, rfl⟩
  case round =>
    obtain ⟨k, hk, rfl, hT, ξ, rfl⟩ := hrel
    have HT := Lib.hid hT
    clear hT
    obtain ⟨i, hi⟩ : ∃ i, i = f + k := ⟨_, rfl⟩
    have HI := Lib.hid hi
    by_cases hlt : i + 3 ≤ s.length
    · have g1 : decide ((i : Int) + 3 ≤ (s.length : Int)) = true := by rw [decide_eq_true_iff]; omega
      have e0 : Lib.occAt (s.drop f) [a, b, c] k = decide ((s.take (i + 3)).drop i = [a, b, c]) := by
        unfold Lib.occAt
        rw [pre_take, hi]
        show decide (List.take 3 _ = _) = _
        rw [part_at]
      have HO := Lib.hid e0
      obtain ⟨q, hq⟩ : ∃ q, (s.take (i + 3)).drop i = q := ⟨_, rfl⟩
      rw [hq] at HO
      rw [← hi] at hk ⊢
      obtain ⟨bb, hb⟩ : ∃ bb, (q == [a, b, c]) = bb := ⟨_, rfl⟩
      have HB := Lib.hid hb
      clear hi e0
      cases bb with
      | true =>
        have HX : Hid (fndI s [a, b, c] f = (i : Int)) := by
          have hqp : q = [a, b, c] := by simpa using HB.out
          have h1 := Lib.index_hit HT.out (by have := HI.out; omega) (by rw [HO.out, hqp]; simp)
          rw [Hid, fndI, h1, if_neg (by omega)]
          have := HI.out
          omega
        go_wp2_with fail
        go_ret
        exact ⟨by rw [HX.out]; rfl, ξ.h⟩
      | false =>
        have HX : Hid (Lib.NoOcc (s.drop f) [a, b, c] (k + 1)) := by
          have hqp : q ≠ [a, b, c] := by simpa using HB.out
          intro j hj
          rcases Nat.lt_or_ge j k with h | h
          · exact HT.out j h
          · obtain rfl : j = k := by omega
            rw [HO.out, decide_eq_false hqp]
        have hfk : f + k + 1 ≤ s.length := by have := HI.out; omega
        go_wp2_with fail
        go_roundw
        case rel => exact ⟨k + 1, hfk, by rw [HI.out]; exact congrArg _ (by omega), HX.out, ξ, rfl⟩
        case measure => simp [intOf]; omega
    · have g1 : decide ((i : Int) + 3 ≤ (s.length : Int)) = false := by rw [decide_eq_false_iff_not]; omega
      have HX : Hid (fndI s [a, b, c] f = -1) := by
        have h1 := Lib.index_past (sub := [a, b, c]) (by simp) HT.out (by rw [hd, show ([a, b, c] : Str).length = 3 from rfl]; omega)
        rw [Hid, fndI, h1]
        rfl
      rw [← hi] at hk ⊢
      clear hi
      go_wp2_with fail
      go_ret
      exact ⟨by rw [HX.out]; rfl, ξ.h⟩
theorem fndI_cut (s p : Str) : (Lib.cut s p = (s, [], false) ∧ fndI s p 0 = -1) ∨ ∃ i : Nat, fndI s p 0 = (i : Int) ∧ i + p.length ≤ s.length ∧ Lib.cut s p = (s.take i, s.drop (i + p.length), true) := by
  have hg := Lib.index_ge s p
  unfold fndI Lib.cut
  rw [List.drop_zero]
  by_cases h : Lib.index s p = -1
  · left
    rw [if_neg (by omega), if_pos h]
    exact ⟨rfl, rfl⟩
  · right
    obtain ⟨i, hi⟩ : ∃ i : Nat, Lib.index s p = i := ⟨(Lib.index s p).toNat, by omega⟩
    have := Lib.index_room s p (by omega)
    refine ⟨i, ?_, by omega, ?_⟩
    · rw [if_neg h, hi]
      simp
    · rw [if_pos (by omega), hi]
      rfl
theorem fndI_from (s p : Str) (f : Nat) : (Lib.cut (s.drop f) p = (s.drop f, [], false) ∧ fndI s p f = -1) ∨ ∃ i : Nat, fndI s p f = ((f + i : Nat) : Int) ∧ i + p.length ≤ (s.drop f).length ∧ Lib.cut (s.drop f) p = ((s.drop f).take i, (s.drop f).drop (i + p.length), true) := by
  have e : fndI s p f = if fndI (s.drop f) p 0 = -1 then -1 else fndI (s.drop f) p 0 + f := by
    unfold fndI
    rw [List.drop_zero]
    split
    · rfl
    · rename_i h
      rw [if_neg (by simpa using h)]
      simp
  rcases fndI_cut (s.drop f) p with ⟨h1, h2⟩ | ⟨i, h1, h2, h3⟩
  · left
    rw [e, h2]
    exact ⟨h1, rfl⟩
  · right
    refine ⟨i, ?_, h2, h3⟩
    rw [e, h1, if_neg (by omega)]
    omega
end Go.Proofs.YtnhaekifcieeoaaGreatDoor
