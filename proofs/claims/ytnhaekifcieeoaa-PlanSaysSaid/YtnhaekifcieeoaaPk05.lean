/- Put together: Gx3, Gx4, Grl, Gxs, Fi, Ins, Files2, Ots. -/
import Derived.Test.YtnhaekifcieeoaaPk03
import Derived.Test.YtnhaekifcieeoaaPk04
import Derived.Test.YtnhaekifcieeoaaPk02
import Derived.Laws.ResultCell
import Derived.Deep.CutRange
namespace Go.Proofs.Ytnhaekifcieeoaa
open Go Go.RowKit
theorem grp_build (A : Option Addr) (n c : Nat) (b : Bool) (w : World) : (Instr.build grpT #[(0, .slice A n c), (3, .bool b)]).run Try.prog w = .ok (.agg #[.slice A n c, .slice none 0 0, .slice none 0 0, .bool b]) w := run_build w grpT _ _ (by kernel_rfl)
abbrev rulL (x : RulA × Rul) : Array Value := #[.slice x.1.tA x.2.targets.length x.1.tc, .slice x.1.nA x.2.needs.length x.1.nc, .slice x.1.cA x.2.cmds.length x.1.cc]
abbrev zerG : Array Value := #[.slice none 0 0, .slice none 0 0, .slice none 0 0, .bool false]
structure Gr (w u : World) (b b5 b8 : Nat) (L5 : Array Value) (a : RulA) (ts ns ks : List Str) (ph : Bool) : Prop where
  cs : Cs u b grpT #[.slice a.tA ts.length a.tc, .slice a.nA ns.length a.nc, .slice a.cA ks.length a.cc, .bool ph]
  c5 : Cs u b5 ruleT L5
  c8 : Cs u b8 grpT zerG
  ft : Fresh strF 9 w u a.tA a.tc ts
  fn : Fresh strF 9 w u a.nA a.nc ns
  fc : Fresh strF 9 w u a.cA a.cc ks
  hb : w.heap.size ≤ b
  h8 : w.heap.size ≤ b8
  n8 : b8 ≠ b
  tn : ∀ g, (Value.slice a.tA ts.length a.tc).ownBlock = some g → (Value.slice a.nA ns.length a.nc).ownBlock ≠ some g
  tk : ∀ g, (Value.slice a.tA ts.length a.tc).ownBlock = some g → (Value.slice a.cA ks.length a.cc).ownBlock ≠ some g
  nk : ∀ g, (Value.slice a.nA ns.length a.nc).ownBlock = some g → (Value.slice a.cA ks.length a.cc).ownBlock ≠ some g
section
variable {w u v : World} {b b5 b8 : Nat} {L5 : Array Value} {a : RulA} {ts ns ks : List Str} {ph : Bool}
theorem Gr.ext (h : Gr w u b b5 b8 L5 a ts ns ks ph) (hx : Ext u v) : Gr w v b b5 b8 L5 a ts ns ks ph :=
  ⟨h.cs.keep hx id, h.c5.keep hx id, h.c8.keep hx id, h.ft.on hx, h.fn.on hx, h.fc.on hx, h.hb, h.h8, h.n8, h.tn, h.tk, h.nk⟩
theorem Gr.growN (h : Gr w u b b5 b8 L5 a ts ns ks ph) {A' : Option Addr} {c' : Nat} {w5 : World} {t : Str}
    (hown : w5.ownsRow 0 9 1 (.slice A' (ns.length + 1 : Nat) c') (ns.length + 1) (ns.flatMap strF.enc ++ [t].flatMap strF.enc)) (hg : u.grownBy w5 (Value.slice a.nA ns.length a.nc).ownBlock)
    (hb : (Value.slice A' (ns.length + 1 : Nat) c').ownBlock = (Value.slice a.nA ns.length a.nc).ownBlock ∨ (Value.slice A' (ns.length + 1 : Nat) c').ownBlock = some u.heap.size) :
    Gr w (w5.setCell ⟨b, 1, none⟩ (.slice A' (ns.length + 1 : Nat) c')) b b5 b8 L5 { a with nA := A', nc := c' } ts (ns ++ [t]) ks ph := by
  have O5 : Only (fun g => (Value.slice a.nA ns.length a.nc).ownBlock = some g) u w5 := (Only.refl _ _).grown hg fun g e => .inr e
  have F5 := h.fn.grow (ys := [t]) rfl hown hg hb
  have T5 := h.ft.keep O5 F5.ext (fun g h1 h2 => h.tn g h1 h2)
  have K5 := h.fc.keep O5 F5.ext (fun g h1 h2 => h.nk g h2 h1)
  have c5 := h.cs.keep O5 (fun e => own_ne_cs h.fn.own h.cs (by decide) _ e rfl)
  have d5 := h.c5.keep O5 (fun e => own_ne_cs h.fn.own h.c5 (by decide) _ e rfl)
  have e5 := h.c8.keep O5 (fun e => own_ne_cs h.fn.own h.c8 (by decide) _ e rfl)
  have O6 : Only (fun g => g = b) w5 (w5.setCell ⟨b, 1, none⟩ (.slice A' (ns.length + 1 : Nat) c')) := (Only.refl _ _).at_ 1 _
  have E6 : Ext w (w5.setCell ⟨b, 1, none⟩ (.slice A' (ns.length + 1 : Nat) c')) := F5.ext.trans O6 fun g hg e => by have e : g = b := e; have := h.hb; omega
  refine ⟨?_, d5.keep O6 (fun e => Cs.ne_ d5 c5 (by decide) e), e5.keep O6 h.n8, T5.keep O6 E6 (own_ne_cs T5.own c5 (by decide)), F5.keep O6 E6 (own_ne_cs F5.own c5 (by decide)), K5.keep O6 E6 (own_ne_cs K5.own c5 (by decide)), h.hb, h.h8, h.n8, fun g h1 h2 => ?_, h.tk, fun g h1 h2 => ?_⟩
  · have := c5.set_ 1 (.slice A' (ns.length + 1 : Nat) c')
    rw [List.length_append]
    exact this
  · rw [List.length_append] at h2
    rcases hb with hb | hb
    · exact h.tn g h1 (hb.symm.trans h2)
    · have h3 : some u.heap.size = some g := hb.symm.trans h2
      injection h3 with h3
      obtain ⟨cur, hc⟩ := own_cs h.ft.own h1
      have := hc.lt
      omega
  · rw [List.length_append] at h1
    rcases hb with hb | hb
    · exact h.nk g (hb.symm.trans h1) h2
    · have h3 : some u.heap.size = some g := hb.symm.trans h1
      injection h3 with h3
      obtain ⟨cur, hc⟩ := own_cs h.fc.own h2
      have := hc.lt
      omega
theorem Gr.growK (h : Gr w u b b5 b8 L5 a ts ns ks ph) {A' : Option Addr} {c' : Nat} {w5 : World} {t : Str}
    (hown : w5.ownsRow 0 9 1 (.slice A' (ks.length + 1 : Nat) c') (ks.length + 1) (ks.flatMap strF.enc ++ [t].flatMap strF.enc)) (hg : u.grownBy w5 (Value.slice a.cA ks.length a.cc).ownBlock)
    (hb : (Value.slice A' (ks.length + 1 : Nat) c').ownBlock = (Value.slice a.cA ks.length a.cc).ownBlock ∨ (Value.slice A' (ks.length + 1 : Nat) c').ownBlock = some u.heap.size) :
    Gr w (w5.setCell ⟨b, 2, none⟩ (.slice A' (ks.length + 1 : Nat) c')) b b5 b8 L5 { a with cA := A', cc := c' } ts ns (ks ++ [t]) ph := by
  have O5 : Only (fun g => (Value.slice a.cA ks.length a.cc).ownBlock = some g) u w5 := (Only.refl _ _).grown hg fun g e => .inr e
  have F5 := h.fc.grow (ys := [t]) rfl hown hg hb
  have T5 := h.ft.keep O5 F5.ext (fun g h1 h2 => h.tk g h1 h2)
  have K5 := h.fn.keep O5 F5.ext (fun g h1 h2 => h.nk g h1 h2)
  have c5 := h.cs.keep O5 (fun e => own_ne_cs h.fc.own h.cs (by decide) _ e rfl)
  have d5 := h.c5.keep O5 (fun e => own_ne_cs h.fc.own h.c5 (by decide) _ e rfl)
  have e5 := h.c8.keep O5 (fun e => own_ne_cs h.fc.own h.c8 (by decide) _ e rfl)
  have O6 : Only (fun g => g = b) w5 (w5.setCell ⟨b, 2, none⟩ (.slice A' (ks.length + 1 : Nat) c')) := (Only.refl _ _).at_ 2 _
  have E6 : Ext w (w5.setCell ⟨b, 2, none⟩ (.slice A' (ks.length + 1 : Nat) c')) := F5.ext.trans O6 fun g hg e => by have e : g = b := e; have := h.hb; omega
  refine ⟨?_, d5.keep O6 (fun e => Cs.ne_ d5 c5 (by decide) e), e5.keep O6 h.n8, T5.keep O6 E6 (own_ne_cs T5.own c5 (by decide)), K5.keep O6 E6 (own_ne_cs K5.own c5 (by decide)), F5.keep O6 E6 (own_ne_cs F5.own c5 (by decide)), h.hb, h.h8, h.n8, h.tn, fun g h1 h2 => ?_, fun g h1 h2 => ?_⟩
  · have := c5.set_ 2 (.slice A' (ks.length + 1 : Nat) c')
    rw [List.length_append]
    exact this
  · rw [List.length_append] at h2
    rcases hb with hb | hb
    · exact h.tk g h1 (hb.symm.trans h2)
    · have h3 : some u.heap.size = some g := hb.symm.trans h2
      injection h3 with h3
      obtain ⟨cur, hc⟩ := own_cs h.ft.own h1
      have := hc.lt
      omega
  · rw [List.length_append] at h2
    rcases hb with hb | hb
    · exact h.nk g h1 (hb.symm.trans h2)
    · have h3 : some u.heap.size = some g := hb.symm.trans h2
      injection h3 with h3
      obtain ⟨cur, hc⟩ := own_cs h.fn.own h1
      have := hc.lt
      omega
theorem Gr.newT (h : Gr w u b b5 b8 L5 a ts [] [] ph) (hn : a.nA = none) (hk : a.cA = none) {A' : Option Addr} {c' : Nat} {w5 : World} {t : Str}
    (hF : Fresh strF 9 w w5 A' c' [t]) (hx : Ext u w5) :
    Gr w (w5.setCell ⟨b, 0, none⟩ (.slice A' 1 c')) b b5 b8 L5 { a with tA := A', tc := c' } [t] [] [] ph := by
  have g := h.ext hx
  have O6 : Only (fun g => g = b) w5 (w5.setCell ⟨b, 0, none⟩ (.slice A' 1 c')) := (Only.refl _ _).at_ 0 _
  have E6 : Ext w (w5.setCell ⟨b, 0, none⟩ (.slice A' 1 c')) := hF.ext.trans O6 fun q hg e => by have e : q = b := e; have := h.hb; omega
  refine ⟨g.cs.set_ 0 _, g.c5.keep O6 (fun e => Cs.ne_ g.c5 g.cs (by decide) e), g.c8.keep O6 g.n8, hF.keep O6 E6 (own_ne_cs hF.own g.cs (by decide)), g.fn.keep O6 E6 (own_ne_cs g.fn.own g.cs (by decide)), g.fc.keep O6 E6 (own_ne_cs g.fc.own g.cs (by decide)), g.hb, g.h8, g.n8, fun q _ h2 => ?_, fun q _ h2 => ?_, g.nk⟩
  · simp [hn, Value.ownBlock] at h2
  · simp [hk, Value.ownBlock] at h2
end
theorem fresh_one {w u : World} (hx : Ext w u) (t : Str) : Fresh strF 9 w (u.alloc (.cells #[S t] 9)) (some ⟨u.heap.size, 0, none⟩) 1 [t] :=
  ⟨⟨rfl, .inr ⟨u.heap.size, 1, #[S t], rfl, Nat.zero_le _, Cs.new u _ _, Nat.le_refl _, by simp [maxLen], rfl, rfl⟩⟩, hx.alloc _, fun g hg => by simp [Value.ownBlock] at hg; have := hx.size; omega⟩
theorem own_cap {w : World} {B : Nat} {e : TypeId} {size n c : Nat} {A : Option Addr} {xs : List Value} (h : w.ownsRow B e size (.slice A n c) n xs) : n ≤ c := by
  rcases h.2 with ⟨h1, h2⟩ | ⟨g, cap, cur, h1, _, _, h2, _⟩
  · omega
  · injection h1 with _ _ h3
    omega
theorem load_grp {w : World} {b : Nat} {x y z p : Value} (h : Cs w b grpT #[x, y, z, p]) : (loadVar grpT ⟨b, 0, none⟩).run Try.prog w = .ok (.agg #[x, y, z, p]) w := by
  have c0 := h.cell 0
  have c1 := h.cell 1
  have c2 := h.cell 2
  have c3 := h.cell 3
  simp only [List.getElem?_toArray, List.getElem?_cons_succ, List.getElem?_cons_zero] at c0 c1 c2 c3
  go_simp
def OfRes (w : World) (g : Grp) (e : Ending) (w' : World) : Prop := ∃ a : RulA, e = .returned (grpW (a, g)) ∧ Fresh strF 9 w w' a.tA a.tc g.targets ∧ Fresh strF 9 w w' a.nA a.nc g.needs ∧ Fresh strF 9 w w' a.cA a.cc g.cmds ∧ Ext w w'
structure GrM (u : World) (g : Nat) (v : MkV) (rs : List (RulA × Rul)) (m : Mk) (lA : Option Addr) (lc : Nat) (l : List File) : Prop where
  c0 : u.cell? ⟨g, 0, none⟩ = some (.slice v.vA m.vars.length v.vc)
  c1 : u.cell? ⟨g, 1, none⟩ = some (.slice v.rA m.rules.length v.rc)
  c2 : u.cell? ⟨g, 2, none⟩ = some (.slice v.pA m.phony.length v.pc)
  c3 : u.cell? ⟨g, 3, none⟩ = some (.slice lA l.length lc)
  mr : MakeR u v rs m
  fl : SlR fileF u lA l.length l
theorem GrM.ext {u w : World} {g : Nat} {v : MkV} {rs : List (RulA × Rul)} {m : Mk} {lA : Option Addr} {lc : Nat} {l : List File} (h : GrM u g v rs m lA lc l) (hx : Ext u w) : GrM w g v rs m lA lc l :=
  have hb : g < u.heap.size := World.block_lt_of_cell? _ _ h.c0
  ⟨(hx.cell (p := ⟨g, 0, none⟩) hb id).trans h.c0, (hx.cell (p := ⟨g, 1, none⟩) hb id).trans h.c1, (hx.cell (p := ⟨g, 2, none⟩) hb id).trans h.c2, (hx.cell (p := ⟨g, 3, none⟩) hb id).trans h.c3, h.mr.ext hx, h.fl.ext hx⟩
structure GBd (m : Mk) (l : List File) : Prop where
  r : m.rules.length ≤ 100
  t : ∀ r ∈ m.rules, 1 ≤ r.targets.length ∧ r.targets.length ≤ 2 ∧ r.needs.length ≤ 3 ∧ r.cmds.length ≤ 3 ∧ (∀ x ∈ r.targets, x.length ≤ 100) ∧ (∀ x ∈ r.needs, x.length ≤ 100) ∧ (∀ x ∈ r.cmds, x.length ≤ 100)
  p : m.phony.length ≤ 100000
  n : l.length ≤ 900000
  o : Rise fk l
theorem idxI_ge {o : Option Nat} : decide (idxI o ≥ 0) = o.isSome := by
  cases o with
  | none => rfl
  | some k => simp [idxI]
theorem expl_some (rs : List Rul) (n : Str) : (rs.findIdx? fun r => inS r.targets n).isSome = (explF rs n).isSome := by
  unfold explF
  rw [List.findIdx?_isSome, Bool.eq_iff_iff, List.any_eq_true, List.find?_isSome]
theorem groupF_tgt (m : Mk) (r : Rul) (n : Str) : (groupF m r n []).targets = r.targets := by simp [groupF, tgtOf]
structure GOk (m : Mk) (l : List File) (out : List Grp) : Prop where
  rl : ∀ g ∈ out, ∃ n, ruleF m l n = some g
  ds : out.Pairwise fun a b => ∀ t ∈ a.targets, t ∉ b.targets
  tp : ∀ (i : Nat) g, out[i]? = some g → ∀ n ∈ g.needs, (∃ k q, k < i ∧ out[k]? = some q ∧ n ∈ q.targets) ∨ (ruleF m l n = none ∧ isF l n = true)
def HasN (m : Mk) (l : List File) (out : List Grp) (n : Str) : Prop := (∃ g ∈ out, n ∈ g.targets) ∨ (ruleF m l n = none ∧ isF l n = true)
section
variable {m : Mk} {l : List File}
theorem GOk.add {out : List Grp} {g : Grp} {n : Str} (h : GOk m l out) (hr : ruleF m l n = some g) (hd : ∀ q ∈ out, ∀ t ∈ q.targets, t ∉ g.targets) (hn : ∀ k ∈ g.needs, HasN m l out k) : GOk m l (out ++ [g]) := by
  refine ⟨fun q hq => ?_, ?_, fun i q hi k hk => ?_⟩
  · rcases List.mem_append.1 hq with hq | hq
    · exact h.rl q hq
    · obtain rfl : q = g := by simpa using hq
      exact ⟨n, hr⟩
  · refine List.pairwise_append.2 ⟨h.ds, List.pairwise_singleton _ _, fun a ha b hb => ?_⟩
    obtain rfl : b = g := by simpa using hb
    exact hd a ha
  · rcases Nat.lt_or_ge i out.length with hlt | hge
    · rw [List.getElem?_append_left hlt] at hi
      rcases h.tp i q hi k hk with ⟨j, p, h1, h2, h3⟩ | h1
      · exact .inl ⟨j, p, h1, by rw [List.getElem?_append_left (by omega)]; exact h2, h3⟩
      · exact .inr h1
    · rw [List.getElem?_append_right hge] at hi
      have hz : i - out.length = 0 := by
        rcases Nat.eq_zero_or_pos (i - out.length) with h0 | h0
        · exact h0
        · rw [List.getElem?_eq_none (by simp only [List.length_singleton]; omega)] at hi; cases hi
      rw [hz] at hi
      obtain rfl : g = q := by simpa using hi
      rcases hn k hk with ⟨p, hp, hk2⟩ | h1
      · obtain ⟨j, hj, e⟩ := List.getElem_of_mem hp
        exact .inl ⟨j, p, by omega, by rw [List.getElem?_append_left hj, List.getElem?_eq_getElem hj, e], hk2⟩
      · exact .inr h1
theorem HasN.more {out new : List Grp} {n : Str} (h : HasN m l out n) : HasN m l (out ++ new) n := by
  rcases h with ⟨g, hg, hn⟩ | h
  · exact .inl ⟨g, List.mem_append_left _ hg, hn⟩
  · exact .inr h
theorem visitF_len : ∀ (f : Nat) (way : List Str) (out : List Grp) (name : Str), out.length ≤ 10 → (visitF m l f way out name).1.length ≤ 10
  | 0, _, _, _, h => h
  | f + 1, way, out, name, h => by
    have hn : ∀ (ns : List Str) (o : List Grp) (w : List Str), o.length ≤ 10 → (needsF (visitF m l f w) o ns).1.length ≤ 10 := by
      intro ns
      induction ns with
      | nil => intro o w ho; exact ho
      | cons n ns ih =>
        intro o w ho
        unfold needsF
        split
        · exact visitF_len f w o n ho
        · exact ih _ w (visitF_len f w o n ho)
    unfold visitF
    split
    · exact h
    · split
      · exact h
      · split
        · split <;> exact h
        · rename_i g _
          have := hn g.needs out (way ++ g.targets) h
          split
          · exact this
          · split
            · exact this
            · simp only [List.length_append, List.length_cons, List.length_nil]; omega
end
theorem groupF_b {m : Mk} {r : Rul} {n st : Str} (h1 : 1 ≤ r.targets.length) (h2 : r.targets.length ≤ 2) (h3 : r.needs.length ≤ 3) : 1 ≤ (groupF m r n st).targets.length ∧ (groupF m r n st).targets.length ≤ 2 ∧ (groupF m r n st).needs.length ≤ 3 := by
  refine ⟨?_, ?_, ?_⟩
  · show 1 ≤ (tgtOf r n st).length
    unfold tgtOf
    split
    · exact h1
    · exact Nat.le_refl 1
  · show (tgtOf r n st).length ≤ 2
    unfold tgtOf
    split
    · exact h2
    · exact Nat.le_succ 1
  · show (ndsOf r st).length ≤ 3
    unfold ndsOf
    rw [List.length_map]
    exact h3
theorem ruleF_b {m : Mk} {l : List File} {n : Str} {G : Grp} (hb : GBd m l) (h : ruleF m l n = some G) : 1 ≤ G.targets.length ∧ G.targets.length ≤ 2 ∧ G.needs.length ≤ 3 := by
  rcases ruleF_some h with ⟨r, hr, rfl⟩ | ⟨_, r, hr, _, rfl, _⟩
  · obtain ⟨p1, p2, p3, _⟩ := hb.t r (explF_some hr).1
    exact groupF_b p1 p2 p3
  · obtain ⟨p1, p2, p3, _⟩ := hb.t r hr
    exact groupF_b p1 p2 p3
theorem gr_info : (Try.prog.info? grpT).map (fun i => (i.zero, i.size, i.bytes)) = some (some (.agg #[.slice none 0 0, .slice none 0 0, .slice none 0 0, .bool false]), 4, 80) := by kernel_rfl
theorem gr_ty : Ety Try.prog 54 grpT 4 := Ety.mk' Try.underlying54 gr_info rfl (by omega) (by omega)
theorem visit_some {m : Mk} {l : List File} {way : List Str} {out : List Grp} {n : Str} {g : Grp} {f : Nat} (hw : inS way n = false) (hm : (makerF out n).isSome = false) (hr : ruleF m l n = some g) {R : List Grp × Int} (hR : needsF (visitF m l f (way ++ g.targets)) out g.needs = R) :
    visitF m l (f + 1) way out n = if R.2 ≠ 0 then R else if R.1.length = 10 then (R.1, 2) else (R.1 ++ [g], 0) := by
  rw [visitF, if_neg (by rw [hw]; decide), if_neg (by rw [hm]; decide), hr]
  show (if (needsF (visitF m l f (way ++ g.targets)) out g.needs).2 ≠ 0 then _ else _) = _
  rw [hR]
theorem needs_step {rec : List Grp → Str → List Grp × Int} {out : List Grp} {ns : List Str} {k : Nat} {t : Str} {r : List Grp × Int} (ht : ns[k]? = some t) (hr : rec out t = r) : needsF rec out (ns.drop k) = if r.2 ≠ 0 then r else needsF rec r.1 (ns.drop (k + 1)) := by
  obtain ⟨hk, e⟩ := List.getElem?_eq_some_iff.1 ht
  rw [List.drop_eq_getElem_cons hk, e, needsF, hr]
theorem Only.under {F F' : Nat → Prop} {w u v : World} (h : Only F w u) (k : Only F' u v) (hs : ∀ q, F' q → F q ∨ w.heap.size ≤ q) : Only F w v := h.trans k fun q hq e => (hs q e).elim id fun h => absurd h (by omega)
theorem GrpsR.nil (w : World) : GrpsR w none [] [] := ⟨⟨rfl, fun h => absurd h (by decide)⟩, (fun x hx => by cases hx), rfl⟩
theorem leftF_le (c way : List Str) : leftF c way ≤ c.length := List.length_filter_le _ _
def KpM (w : World) (m : Option Nat) (f : Str → Option Value) : Prop :=
  ∀ u, Ext w u → ∀ t : Str, t.length ≤ maxLen → (Instr.lookup rmapT (.map m) (S t) true).run Try.prog u = .ok (.tuple #[(f t).getD zeroR, .bool (f t).isSome]) u
theorem KpM.ext {w v : World} {m : Option Nat} {f : Str → Option Value} (h : KpM w m f) (hx : Ext w v) : KpM v m f := fun u hu => h u (hx.then_ext hu)
theorem MapR.kpm {w : World} {b n : Nat} {f : Str → Option Value} (h : MapR w b n f) : KpM w (some b) f := fun _ hu t ht => (h.keep hu id).look t ht
theorem KpM.nil (w : World) : KpM w none (fun _ => none) := fun u _ t ht => look_nil u t ht
set_option maxRecDepth 100000 in
set_option maxHeartbeats 4000000 in
theorem Find_c {w : World} {m : Option Nat} {f : Str → Option Value} (hM : KpM w m f) {a : RulA} {G : Grp} (ht : SlR strF w a.tA G.targets.length G.targets) (h1 : 1 ≤ G.targets.length) (hl : (G.targets.headD []).length ≤ 1000000)
    {p1 p2 p3 : Option Addr} {n1 n2 n3 c1 c2 c3 : Nat} (hv : (f (G.targets.headD [])).getD zeroR = .agg #[.slice p1 n1 c1, .slice p2 n2 c2, .slice p3 n3 c3]) :
    Calls Try.prog 24 #[.map m, grpW (a, G)] w fun e w' => e = .returned (.tuple #[.agg #[.slice p1 n1 c1, .slice p2 n2 c2, .slice p3 n3 c3], .bool (f (G.targets.headD [])).isSome]) ∧ Ext w w' := by
  obtain ⟨tA, tc, nA, nc, cA, cc⟩ := a
  obtain ⟨bt, ot, t, hA, hx, ct⟩ := strs_get ht (k := 0) (by omega)
  have htt : G.targets.headD [] = t := by
    cases htl : G.targets with
    | nil => rw [htl] at hx; cases hx
    | cons p r => rw [htl] at hx; exact Option.some.inj hx
  have hA : tA = some ⟨bt, ot, none⟩ := hA
  subst hA
  rw [htt] at hl hv ⊢
  obtain ⟨w1, hw1⟩ : ∃ u, u = w.alloc (.cells #[.slice (some ⟨bt, ot, none⟩) G.targets.length tc, .slice nA G.needs.length nc, .slice cA G.cmds.length cc, .bool G.phony] grpT) := ⟨_, rfl⟩
  obtain ⟨w2, hw2⟩ : ∃ u, u = w1.alloc (.cells #[.slice none 0 0, .slice none 0 0, .slice none 0 0] rcT) := ⟨_, rfl⟩
  obtain ⟨b3, hb3⟩ : ∃ b, b = w.heap.size := ⟨_, rfl⟩
  obtain ⟨b4, hb4⟩ : ∃ b, b = w.heap.size + 1 := ⟨_, rfl⟩
  have s1 : w1.heap.size = w.heap.size + 1 := by rw [hw1]; simp
  have x1 : Ext w w1 := by rw [hw1]; exact (Only.refl No w).alloc _
  have x2 : Ext w1 w2 := by rw [hw2]; exact (Only.refl No w1).alloc _
  have C3 : Hid (Cs w2 b3 grpT #[.slice (some ⟨bt, ot, none⟩) G.targets.length tc, .slice nA G.needs.length nc, .slice cA G.cmds.length cc, .bool G.phony]) := (show Cs w1 b3 grpT _ by rw [hw1, hb3]; exact Cs.new _ _ _).keep x2 id
  have C4 : Hid (Cs w2 b4 rcT #[.slice none 0 0, .slice none 0 0, .slice none 0 0]) := by rw [hw2, hb4, ← s1]; exact Cs.new _ _ _
  have X2 : Hid (Ext w w2) := x1.then_ext x2
  have HB : Hid (w.heap.size ≤ b4) := by rw [hb4]; exact Nat.le_succ _
  have hlk : (Instr.lookup rmapT (.map m) (S t) true).run Try.prog w2 = .ok (.tuple #[.agg #[.slice p1 n1 c1, .slice p2 n2 c2, .slice p3 n3 c3], .bool (f t).isSome]) w2 := by
    have h := hM w2 X2.out t (by unfold maxLen; omega)
    rw [hv] at h
    exact h
  have e0 : w2.cell? ⟨bt, ot, none⟩ = some (S t) := ct ⟨w2, X2.out⟩
  have k0 : w2.cell? ⟨b3, 0, none⟩ = some (.slice (some ⟨bt, ot, none⟩) G.targets.length tc) := C3.out.cell 0
  clear hM ht ct hx htt hv x1 x2 s1
  go_enter Try.func24, Try.ntmps24
  go_upto_region 1 with fail
  rw [← hw1, ← hw2, ← hb4, ← hb3]
  clear hw1 hw2 hb3 hb4
  go_upto_region 2 with fail
  obtain ⟨w3, hw3⟩ : ∃ u, u = w2.alloc (.cells #[.slice p1 n1 c1, .slice p2 n2 c2, .slice p3 n3 c3] rcT) := ⟨_, rfl⟩
  obtain ⟨b6, hb6⟩ : ∃ b, b = w2.heap.size := ⟨_, rfl⟩
  rw [← hw3, ← hb6]
  have x3 : Ext w2 w3 := by rw [hw3]; exact (Only.refl No w2).alloc _
  have C6 : Hid (Cs w3 b6 rcT #[.slice p1 n1 c1, .slice p2 n2 c2, .slice p3 n3 c3]) := by rw [hw3, hb6]; exact Cs.new _ _ _
  have D4 := Lib.hid (C4.out.keep x3 id)
  have X3 := Lib.hid (X2.out.then_ext x3)
  have q0 : w3.cell? ⟨b6, 0, none⟩ = some (.slice p1 n1 c1) := C6.out.cell 0
  have q1 : w3.cell? ⟨b6, 1, none⟩ = some (.slice p2 n2 c2) := C6.out.cell 1
  have q2 : w3.cell? ⟨b6, 2, none⟩ = some (.slice p3 n3 c3) := C6.out.cell 2
  have y0 : w3.cell? ⟨b4, 0, none⟩ = some (.slice none 0 0) := D4.out.cell 0
  have y1 : w3.cell? ⟨b4, 1, none⟩ = some (.slice none 0 0) := D4.out.cell 1
  have y2 : w3.cell? ⟨b4, 2, none⟩ = some (.slice none 0 0) := D4.out.cell 2
  have z0 := D4.out.frozen 0
  have z1 := D4.out.frozen 1
  have z2 := D4.out.frozen 2
  have HO : Hid (∀ a b c, Only (fun q => q = b4) w3 (((w3.setCell ⟨b4, 0, none⟩ a).setCell ⟨b4, 1, none⟩ b).setCell ⟨b4, 2, none⟩ c)) := fun a b c => (((Only.refl _ _).at_ 0 a).at_ 1 b).at_ 2 c
  have HS : Hid (∀ a b c, Cs (((w3.setCell ⟨b4, 0, none⟩ a).setCell ⟨b4, 1, none⟩ b).setCell ⟨b4, 2, none⟩ c) b4 rcT #[a, b, c]) := fun a b c => ((D4.out.set_ 0 a).set_ 1 b).set_ 2 c
  clear hw3 hb6 x3 hlk e0 k0 C4
  go_wp2_with fail
  refine bodyPost_cell (p := 4) (u := 5) (ty := rcT) (ad := ⟨b4, 0, none⟩) rfl rfl rfl (load_rc (HS.out _ _ _)) ?_
  exact ⟨rfl, X3.out.trans (HO.out _ _ _) fun q hq e => by have e : q = b4 := e; have := HB.out; omega⟩
theorem file_info : (Try.prog.info? 82).map (fun i => (i.zero, i.size, i.bytes)) = some (some (.agg #[S [], S []]), 2, 32) := by kernel_rfl
theorem file_ty : Ety Try.prog 40 82 2 := Ety.mk' Try.underlying40 file_info rfl (by omega) (by omega)
structure Turned (w w' : World) (v v' : Value) : Prop where
  o : Only (fun b => v.ownBlock = some b) w w'
  b : ∀ g, v'.ownBlock = some g → v.ownBlock = some g ∨ w.heap.size ≤ g
def insAt {α : Type} (i : Nat) (x : α) (xs : List α) : List α := xs.take i ++ x :: xs.drop i
theorem file_enc1 : ∀ (xs : List File), ∀ u ∈ xs.flatMap fileF.enc, u.oneCell' = true := by
  intro xs u hu
  obtain ⟨x, _, hx⟩ := List.mem_flatMap.1 hu
  rcases List.mem_cons.1 hx with rfl | hx
  · rfl
  · rcases List.mem_cons.1 hx with rfl | hx
    · rfl
    · cases hx
set_option maxRecDepth 100000 in
set_option maxHeartbeats 1000000 in
theorem InsFile_end {w : World} {A : Option Addr} {n c : Nat} {xs : List File} (h : w.ownsRow 0 82 2 (.slice A n c) n (xs.flatMap fileF.enc)) (hcap : n ≤ c) (hc : c ≤ maxLen) (x : File) {vb : Nat} (hv : Cs w vb 82 #[S x.1, S x.2]) (hn : n ≤ 1000000) :
    Calls Try.prog 103 #[.slice A n c, .int .i64 n, .slice (some ⟨vb, 0, none⟩) 1 1] w fun e w' =>
      ∃ A' c', e = .returned (.slice A' (n + 1 : Nat) c') ∧ w'.ownsRow 0 82 2 (.slice A' (n + 1 : Nat) c') (n + 1) ((insAt n x xs).flatMap fileF.enc) ∧ Turned w w' (.slice A n c) (.slice A' (n + 1 : Nat) c') := by
  have hl := SlR.of_own (T := fileF) (by decide) h
  have hrd : Rd w (some ⟨vb, 0, none⟩) 1 2 [S x.1, S x.2] := ⟨rfl, fun _ => ⟨vb, 0, rfl, fun j u hu => by rw [hv.cell, Nat.zero_add]; simpa using hu⟩⟩
  unfold maxLen at hc
  have H := Lib.hid h
  have HL := Lib.hid hl.1
  have HRD := Lib.hid hrd
  clear h hv hl hrd
  go_enter Try.func103, Try.ntmps103
  go_wp2_with (at_builtin; go_must (refine wpList_append (v := .slice A n c) (n := n) (xs := xs.flatMap fileF.enc) rfl file_ty rfl rfl rfl H.out HRD.out (by simp [Value.oneCell']) (by omega) ?_); intro A' c' w5 hown5 hg5 hb5)
  all_goals
    go_ret
    have e1 : (insAt n x xs).flatMap fileF.enc = xs.flatMap fileF.enc ++ [S x.1, S x.2] := by
      unfold insAt
      rw [List.take_of_length_le (by rw [HL.out]; exact Nat.le_refl _), List.drop_eq_nil_of_le (by rw [HL.out]; exact Nat.le_refl _), List.flatMap_append]
      rfl
    exact ⟨A', c', rfl, by rw [e1]; exact hown5, (Only.refl _ _).grown hg5 (fun g hg => .inr (by cases A <;> exact hg)), fun g hg => hb5.elim (fun hb => .inl (by cases A <;> exact hb.symm.trans hg)) (fun hb => .inr (by rw [hb] at hg; injection hg with hg; omega))⟩
set_option maxRecDepth 100000 in
set_option maxHeartbeats 2000000 in
theorem InsFile_room {w : World} {g n c i : Nat} {xs : List File} {rest : List Value} (hg : Cs w g 82 (xs.flatMap fileF.enc ++ rest).toArray) (hl : xs.length = n) (hr : (xs.flatMap fileF.enc ++ rest).length = c * 2) (hi : i < n) (hcap : n + 1 ≤ c) (hc : c ≤ maxLen)
    (x : File) {vb : Nat} (hv : Cs w vb 82 #[S x.1, S x.2]) (hne : vb ≠ g) (hn : n ≤ 1000000) :
    Calls Try.prog 103 #[.slice (some ⟨g, 0, none⟩) n c, .int .i64 i, .slice (some ⟨vb, 0, none⟩) 1 1] w fun e w' =>
      ∃ rest', e = .returned (.slice (some ⟨g, 0, none⟩) (n + 1 : Nat) c) ∧ Cs w' g 82 ((insAt i x xs).flatMap fileF.enc ++ rest').toArray ∧ ((insAt i x xs).flatMap fileF.enc ++ rest').length = c * 2 ∧ Only (fun b => b = g) w w' := by
  have hov : ∀ (W : World) lb cb, W = w → (callFunc 115 #[.slice (some ⟨vb, 0, none⟩) 1 1, .slice (some ⟨g, (i + 1) * 2, none⟩) lb cb]).run Try.prog W = .ok (.value (.bool false)) W := fun W lb cb e => by
    subst e
    rw [run_callFunc_extern Try.func115 (by kernel_rfl) (by kernel_rfl) (by kernel_rfl) (e := Extern.SlicesOverlaps.overlaps #[40, 40] #[4]) (by kernel_rfl),
      Lib.run_overlaps_apart W 40 4 82 Try.underlying40 2 (fun _ => by kernel_rfl) ⟨vb, 0, none⟩ ⟨g, (i + 1) * 2, none⟩ 1 1 lb cb hne _ _ _ _ hv.shape hg.shape (by rw [List.size_toArray]; omega) (hv.frozen 0) (hv.frozen _)]
    rfl
  unfold maxLen at hc
  have hX : (xs.flatMap fileF.enc).length = n * 2 := by rw [length_flatMap_enc, hl]; rfl
  have HD : Hid (((xs.drop i).flatMap fileF.enc).length = (n - i) * 2) := by rw [Hid, length_flatMap_enc, List.length_drop, hl]; rfl
  have HDe : Hid ((xs.drop i).flatMap fileF.enc = (xs.flatMap fileF.enc).drop (i * 2)) := drop_flatMap fileF xs i
  have HC : Hid (∀ j u, ((xs.drop i).flatMap fileF.enc)[j]? = some u → w.cell? ⟨g, i * 2 + j, none⟩ = some u) := fun j u hu => by
    rw [HDe.out, List.getElem?_drop] at hu
    rw [hg.cell, List.getElem?_toArray, List.getElem?_append_left (by have := (List.getElem?_eq_some_iff.1 hu).1; omega)]
    exact hu
  have HF : Hid ((i + 1) * 2 + (n - i) * 2 ≤ (xs.flatMap fileF.enc ++ rest).length) := by rw [Hid, hr]; omega
  obtain ⟨C1, hC1⟩ : ∃ C1, C1 = (xs.flatMap fileF.enc ++ rest).take ((i + 1) * 2) ++ (xs.drop i).flatMap fileF.enc ++ (xs.flatMap fileF.enc ++ rest).drop ((i + 1) * 2 + ((xs.drop i).flatMap fileF.enc).length) := ⟨_, rfl⟩
  have HI := Lib.hid (ins_cells (xs.flatMap fileF.enc) rest [S x.1, S x.2] i n 2 hX rfl hi (c1 := C1) (by rw [hC1, HDe.out]))
  have HC1 := Lib.hid hC1
  have HC1l : Hid (C1.length = c * 2) := by
    rw [Hid, hC1]
    have h1 := HD.out
    have h2 := HF.out
    simp only [List.length_append, List.length_take, List.length_drop] at hr h1 h2 ⊢
    omega
  have HIe : Hid ((insAt i x xs).flatMap fileF.enc = (xs.flatMap fileF.enc).take (i * 2) ++ [S x.1, S x.2] ++ (xs.flatMap fileF.enc).drop (i * 2)) := by
    have := take_flatMap fileF xs i
    have h2 := HDe.out
    rw [Hid, insAt, List.flatMap_append, List.flatMap_cons, h2, this, ← List.append_assoc]
    rfl
  have HG := Lib.hid hg
  have HV := Lib.hid hv
  have HR := Lib.hid hr
  clear hg hv hl hr hX hC1
  go_enter Try.func103, Try.ntmps103
  go_wp2
  refine Mix.wp_draw [8] 100 (Cl w (fun b => b = g)) (by kernel_rfl) (by kernel_rfl) (Cl.of (Only.refl _ _).drew) ?_
  (repeat' (refine Mix.lex_quiet0 rfl rfl rfl ?_; intro K hK; go_big_quiet_op; go_big_quiet_on))
  refine Mix.lex_goes0 rfl rfl ?_
  intro K hK
  refine goes_copy_k Try.underlying40 (k := 2) (by kernel_rfl) rfl rfl rfl (cur := xs.flatMap fileF.enc ++ rest) (cs := (xs.drop i).flatMap fileF.enc) HG.out.drew ?_ ?_ ?_ ?_ ?_
  · rw [HD.out, show (n + 1 - i).min (n - i) = n - i by simp only [Nat.min_def]; split <;> omega]
  · exact HC.out
  · rw [HD.out]; exact HF.out
  · exact file_enc1 _
  rw [← HC1.out]
  intro u hu hx
  have HU := Lib.hid hu
  have HX := Lib.hid ((Only.refl (fun b => b = g) w).drew.trans hx fun _ _ h => h)
  have HV2 : Hid (Cs u vb 82 #[S x.1, S x.2]) := HV.out.keep HX.out hne
  refine hK _ _ (fun _ => Cl.of HX.out) ?_
  clear hK K hu hx
  simp only [Act.put, List.setIfInBounds_toArray, List.set_cons_succ, List.set_cons_zero]
  (repeat' (refine Mix.lex_quiet0 rfl rfl rfl ?_; intro K hK; go_big_quiet_op; go_big_quiet_on))
  refine Mix.lex_nil ?_
  go_wp2_with (with_reducible refine wpList_copy_k rfl Try.underlying40 (k := 2) (by kernel_rfl) rfl rfl rfl (cur := C1) (cs := [S x.1, S x.2]) HU.out ?_ ?_ ?_ ?_ ?_)
  · have : Nat.min 1 (n + 1 - i) = 1 := by simp only [Nat.min_def]; split <;> omega
    rw [this]; rfl
  · intro j y hy
    rw [HV2.out.cell, Nat.zero_add]; simpa using hy
  · rw [HC1l.out]; show i * 2 + 2 ≤ c * 2; omega
  · intro y hy
    exact file_enc1 [x] y (by simpa [fileF] using hy)
  intro v hv hx2
  have HI2 := HI.out
  have HIe2 := HIe.out
  have HC2 := HC1l.out
  have HX2 := Lib.hid (HX.out.trans hx2 fun _ _ h => h)
  have HV3 := Lib.hid hv
  clear HC1 HC1l HC HDe hv hx2 HU
  have fin : Hid (Cs v g 82 ((insAt i x xs).flatMap fileF.enc ++ ((xs.flatMap fileF.enc ++ rest).drop ((n + 1) * 2))).toArray ∧ ((insAt i x xs).flatMap fileF.enc ++ ((xs.flatMap fileF.enc ++ rest).drop ((n + 1) * 2))).length = c * 2) := by
    rw [HIe2]
    have e1 : C1.take (i * 2) ++ S x.1 :: S x.2 :: C1.drop (i * 2 + 2) = (xs.flatMap fileF.enc).take (i * 2) ++ [S x.1, S x.2] ++ (xs.flatMap fileF.enc).drop (i * 2) ++ (xs.flatMap fileF.enc ++ rest).drop ((n + 1) * 2) := by
      rw [← HI2]; simp
    refine ⟨by rw [← e1]; exact HV3.out, ?_⟩
    rw [← e1]
    simp only [List.length_append, List.length_take, List.length_cons, List.length_drop, HC2]
    omega
  clear HI2 HIe2 HC2 HI HIe HV3
  go_wp2
  go_ret
  exact ⟨_, rfl, fin.out.1, fin.out.2, HX2.out⟩
set_option maxRecDepth 100000 in
set_option maxHeartbeats 2000000 in
theorem InsFile_grow {w : World} {g n i : Nat} {xs : List File} {rest : List Value} (hg : Cs w g 82 (xs.flatMap fileF.enc ++ rest).toArray) (hl : xs.length = n) (hi : i < n)
    (x : File) {vb : Nat} (hv : Cs w vb 82 #[S x.1, S x.2]) (hn : n ≤ 1000000) :
    Calls Try.prog 103 #[.slice (some ⟨g, 0, none⟩) n n, .int .i64 i, .slice (some ⟨vb, 0, none⟩) 1 1] w fun e w' =>
      ∃ c rest', e = .returned (.slice (some ⟨w.heap.size, 0, none⟩) (n + 1 : Nat) c) ∧ Cs w' w.heap.size 82 ((insAt i x xs).flatMap fileF.enc ++ rest').toArray ∧ ((insAt i x xs).flatMap fileF.enc ++ rest').length = c * 2 ∧ n + 1 ≤ c ∧ c ≤ maxLen ∧ Ext w w' := by
  obtain ⟨i0, hi0, hz0, hz1, hz2⟩ := info_parts file_info
  have hX : (xs.flatMap fileF.enc).length = n * 2 := by rw [length_flatMap_enc, hl]; rfl
  have HD : Hid (((xs.drop i).flatMap fileF.enc).length = (n - i) * 2) := by rw [Hid, length_flatMap_enc, List.length_drop, hl]; rfl
  have HO : Hid (((xs.take i).flatMap fileF.enc).length = i * 2) := by rw [Hid, length_flatMap_enc, List.length_take, hl, Nat.min_eq_left (by omega)]; rfl
  have HDc : Hid (∀ j u, ((xs.drop i).flatMap fileF.enc)[j]? = some u → w.cell? ⟨g, i * 2 + j, none⟩ = some u) := fun j u hu => by
    have e1 : (xs.drop i).flatMap fileF.enc = (xs.flatMap fileF.enc).drop (i * 2) := drop_flatMap fileF xs i
    rw [e1, List.getElem?_drop] at hu
    rw [hg.cell, List.getElem?_toArray, List.getElem?_append_left (by have := (List.getElem?_eq_some_iff.1 hu).1; omega)]
    exact hu
  have HOc : Hid (∀ j u, ((xs.take i).flatMap fileF.enc)[j]? = some u → w.cell? ⟨g, 0 + j, none⟩ = some u) := fun j u hu => by
    have e1 : (xs.take i).flatMap fileF.enc = (xs.flatMap fileF.enc).take (i * 2) := take_flatMap fileF xs i
    have hj := (List.getElem?_eq_some_iff.1 hu).1
    rw [HO.out] at hj
    rw [e1, List.getElem?_take_of_lt hj] at hu
    rw [Nat.zero_add, hg.cell, List.getElem?_toArray, List.getElem?_append_left (by omega)]
    exact hu
  have HIe : Hid ((insAt i x xs).flatMap fileF.enc = (xs.take i).flatMap fileF.enc ++ [S x.1, S x.2] ++ (xs.drop i).flatMap fileF.enc) := by
    rw [Hid, insAt, List.flatMap_append, List.flatMap_cons, ← List.append_assoc]
    rfl
  have HG := Lib.hid hg
  have HV := Lib.hid hv
  have HS0 := Lib.hid hz1
  have hs0 : 0 < i0.size := by omega
  have hb0 : i0.bytes ≤ 256 := by omega
  have HI0 := Lib.hid hi0
  have HZ0 := Lib.hid hz0
  have hgw := hg.lt
  have hvw := hv.lt
  clear hg hv hl hX hi0 hz0 hz1 hz2
  go_enter Try.func103, Try.ntmps103
  go_upto_region 10 with (at_builtin; go_must (refine wpList_zeros (m := n + 1 - i) rfl Try.underlying40 Try.underlying3 HI0.out HZ0.out rfl rfl ?hx1 (olds := (xs.take i).flatMap fileF.enc) (by rw [HO.out, HS0.out]) HOc.out (by omega) hs0 (by omega) hb0 (by omega) ?hx2); case' hx2 => (intro cap hc1 hc2; generalize hW1 : w.drew.alloc _ = W1))
  case hx1 => (show Value.int .i64 ((n : Int) + 1 - i) = _; congr 1; omega)
  have hm : i + (n + 1 - i) = n + 1 := by omega
  have E1 : Hid (Ext w W1) := by rw [Hid, ← hW1]; exact (Only.refl No w).drew.alloc _
  obtain ⟨Z1, hZ1⟩ : ∃ Z1, Z1 = (Builtin.zeroCells (Value.agg #[S [], S []]).cells (n + 1 - i)).toList := ⟨_, rfl⟩
  obtain ⟨Z2, hZ2⟩ : ∃ Z2, Z2 = (Builtin.zeroCells (Value.agg #[S [], S []]).cells (cap - (i + (n + 1 - i)))).toList := ⟨_, rfl⟩
  obtain ⟨N, hN⟩ : ∃ N, N = w.heap.size := ⟨_, rfl⟩
  obtain ⟨O, hO⟩ : ∃ O, O = (xs.take i).flatMap fileF.enc := ⟨_, rfl⟩
  obtain ⟨D, hD⟩ : ∃ D, D = (xs.drop i).flatMap fileF.enc := ⟨_, rfl⟩
  have C1 : Hid (Cs W1 N 82 (O ++ Z1 ++ Z2).toArray) := by
    rw [Hid, ← hW1, hZ1, hZ2, hN, hO]
    exact Cs.new w.drew _ _
  have LZ1 : Hid (Z1.length = (n + 1 - i) * 2) := by rw [Hid, hZ1, length_zeroCells]; rfl
  have LZ2 : Hid (Z2.length = (cap - (n + 1)) * 2) := by rw [Hid, hZ2, length_zeroCells, hm]; rfl
  have V1 : Hid (Cs W1 vb 82 #[S x.1, S x.2]) := HV.out.keep E1.out id
  have D1 : Hid (∀ j u, D[j]? = some u → W1.cell? ⟨g, i * 2 + j, none⟩ = some u) := fun j u hu => by
    rw [E1.out.cell hgw id]; exact HDc.out j u (hD ▸ hu)
  have hDe := Lib.hid hD
  rw [← hO] at HO HIe
  rw [← hD] at HD HIe
  rw [hm] at hc1
  rw [hm, ← hN]
  have hgN : g ≠ N := by omega
  have hvN : vb ≠ N := by omega
  have HN := Lib.hid hN
  have HO' := Lib.hid HO.out
  have HD' := Lib.hid HD.out
  clear hZ1 hZ2 hO hD hN hm hW1 HDc HOc HG HV HI0 HZ0 HS0 hs0 hb0 HO HD
  obtain ⟨CC, hCC⟩ : ∃ CC, CC = O ++ Z1 ++ Z2 := ⟨_, rfl⟩
  rw [← hCC] at C1
  have HCC := Lib.hid hCC
  clear hCC
  go_wp2_with (with_reducible refine wpList_copy_k rfl Try.underlying40 (k := 2) (by kernel_rfl) rfl rfl rfl (cur := CC) (cs := [S x.1, S x.2]) C1.out ?_ ?_ ?_ ?_ ?_)
  · have : Nat.min 1 (n + 1 - i) = 1 := by simp only [Nat.min_def]; split <;> omega
    rw [this]; rfl
  · intro j y hy
    rw [V1.out.cell, Nat.zero_add]; simpa using hy
  · have h1 := HO'.out; have h2 := LZ1.out; have h3 := LZ2.out
    rw [HCC.out]
    simp only [List.length_append, h1, h2, h3, List.length_cons, List.length_nil]; omega
  · intro y hy
    exact file_enc1 [x] y (by simpa [fileF] using hy)
  intro u hu hx
  have hu : Cs u N 82 (O ++ [S x.1, S x.2] ++ Z1.drop 2 ++ Z2).toArray := by
    rw [← grow_cells1 O Z1 Z2 [S x.1, S x.2] i 2 HO'.out rfl (by rw [LZ1.out]; omega), ← HCC.out]
    simpa using hu
  have C2 := Lib.hid hu
  have E2 := Lib.hid hx
  have D2 : Hid (∀ j u', D[j]? = some u' → u.cell? ⟨g, i * 2 + j, none⟩ = some u') := fun j u' hu' => by
    rw [hx.cell (Nat.lt_of_lt_of_le hgw E1.out.size) hgN]; exact D1.out j u' hu'
  clear hu hx C1 V1 D1 HCC
  go_wp2_with fail
  refine Mix.wp_draw [8] 100 (Cl u (fun b => b = N)) (by kernel_rfl) (by kernel_rfl) (Cl.of (Only.refl _ _).drew) ?_
  (repeat' (refine Mix.lex_quiet0 rfl rfl rfl ?_; intro K hK; go_big_quiet_op; go_big_quiet_on))
  refine Mix.lex_goes0 rfl rfl ?_
  intro K hK
  refine goes_copy_k Try.underlying40 (k := 2) (by kernel_rfl) rfl rfl rfl (cur := O ++ [S x.1, S x.2] ++ Z1.drop 2 ++ Z2) (cs := D) C2.out.drew ?_ ?_ ?_ ?_ ?_
  · rw [HD'.out]; congr 1; simp only [Nat.min_def]; split <;> omega
  · exact D2.out
  · have h1 := HO'.out; have h2 := LZ1.out; have h3 := LZ2.out; have h4 := HD'.out
    simp only [List.length_append, List.length_drop, h1, h2, h3, h4, List.length_cons, List.length_nil]; omega
  · intro y hy
    rw [hDe.out] at hy
    exact file_enc1 _ y hy
  rw [grow_cells2 O Z1 Z2 [S x.1, S x.2] D i 2 HO'.out rfl (by rw [LZ1.out, HD'.out]; omega)]
  intro v hv hx
  have C3 : Hid (Cs v N 82 ((insAt i x xs).flatMap fileF.enc ++ Z2).toArray) := by rw [Hid, HIe.out]; exact hv
  have LC : Hid (((insAt i x xs).flatMap fileF.enc ++ Z2).length = cap * 2) := by
    have h1 := HO'.out; have h3 := LZ2.out; have h4 := HD'.out
    rw [Hid, HIe.out]
    simp only [List.length_append, h1, h3, h4, List.length_cons, List.length_nil]; omega
  have E3 : Hid (Ext w v) := by
    have := E1.out.trans (G := fun b => b = N) (E2.out.trans ((Only.refl _ u).drew.trans hx fun _ _ h => h) fun _ _ h => h) fun b hb e => by have := HN.out; omega
    exact this
  refine hK _ _ (fun _ => Cl.of ((Only.refl _ u).drew.trans hx fun _ _ h => h)) ?_
  clear hK K hv hx C2 D2 HIe HO' HD' LZ1 LZ2 E1 E2
  simp only [Act.put, List.setIfInBounds_toArray, List.set_cons_succ, List.set_cons_zero]
  (repeat' (refine Mix.lex_quiet0 rfl rfl rfl ?_; intro K hK; go_big_quiet_op; go_big_quiet_on))
  refine Mix.lex_nil ?_
  go_wp2
  go_ret
  have hNe := HN.out
  subst hNe
  exact ⟨cap, Z2, rfl, C3.out, LC.out, hc1, hc2, E3.out⟩
theorem InsFile_c {w : World} {A : Option Addr} {n c i : Nat} {xs : List File} (h : w.ownsRow 0 82 2 (.slice A n c) n (xs.flatMap fileF.enc)) (hi : i ≤ n) (x : File) {vb : Nat} (hv : Cs w vb 82 #[S x.1, S x.2]) (hne : (Value.slice A n c).ownBlock ≠ some vb) (hn : n ≤ 1000000) :
    Calls Try.prog 103 #[.slice A n c, .int .i64 i, .slice (some ⟨vb, 0, none⟩) 1 1] w fun e w' =>
      ∃ A' c', e = .returned (.slice A' (n + 1 : Nat) c') ∧ w'.ownsRow 0 82 2 (.slice A' (n + 1 : Nat) c') (n + 1) ((insAt i x xs).flatMap fileF.enc) ∧ Turned w w' (.slice A n c) (.slice A' (n + 1 : Nat) c') := by
  have hl := (SlR.of_own (T := fileF) (by decide) h).1
  by_cases e : i = n
  · subst e
    rcases h.2 with ⟨hv', h0⟩ | ⟨g, cap, cur, hv', hb, hh, hnc, hc, _⟩
    · injection hv' with h1 h2 h3
      exact InsFile_end h (by omega) (by rw [h3]; exact Nat.zero_le _) x hv hn
    · injection hv' with h1 h2 h3
      exact InsFile_end h (by omega) (by rw [h3]; exact hc) x hv hn
  · obtain ⟨g, rest, rfl, hg, hX, hr, hnc, hm⟩ := own_block h (by omega) (by decide)
    have hI : ((insAt i x xs).flatMap fileF.enc).length = (n + 1) * 2 := by
      rw [length_flatMap_enc]
      simp only [insAt, List.length_append, List.length_take, List.length_cons, List.length_drop, hl, fileF]
      omega
    by_cases hroom : n + 1 ≤ c
    · refine (InsFile_room hg hl hr (by omega) hroom hm x hv (fun e => hne (by rw [e]; rfl)) hn).mono ?_
      rintro e w' ⟨rest', rfl, h1, h2, h3⟩
      exact ⟨_, _, rfl, own_of_block h1 (Nat.zero_le _) hI h2 hroom hm, ⟨h3.weak fun b _ e => by subst e; rfl, fun g' hg' => .inl hg'⟩⟩
    · obtain rfl : c = n := by omega
      refine (InsFile_grow hg hl (by omega) x hv hn).mono ?_
      rintro e w' ⟨c', rest', rfl, h1, h2, h3, h4, h5⟩
      refine ⟨_, _, rfl, own_of_block h1 (Nat.zero_le _) hI h2 h3 h4, ⟨h5.any, fun g' hg' => .inr ?_⟩⟩
      simp [Value.ownBlock] at hg'
      omega
theorem CloneFiles_c {w : World} {A : Option Addr} {n c : Nat} {cs : List Value} (h : Rd w A n 2 cs) (h1 : ∀ u ∈ cs, u.oneCell' = true) (hA : A = none → n = 0) (hn : n ≤ 1000000) :
    Calls Try.prog 87 #[.slice A n c] w fun e w' => ∃ A' c', e = .returned (.slice A' n c') ∧ w'.ownsRow 0 82 2 (.slice A' n c') n cs ∧ Ext w w' ∧ ∀ g, (Value.slice A' n c').ownBlock = some g → w.heap.size ≤ g := by
  have h2 := fun (W : World) => Lib.run_eql_slice_nil (P := Try.prog) W 40 82 A n c 0 0 Try.underlying40
  rcases A with _ | ad
  · obtain rfl := hA rfl
    obtain rfl : cs = [] := List.eq_nil_of_length_eq_zero (by simpa using h.1)
    go_enter Try.func87, Try.ntmps87
    go_wp2
    go_ret
    exact ⟨none, 0, rfl, World.ownsRow_nil _ _ _ _, Only.refl _ _, fun g hg => by simp [Value.ownBlock] at hg⟩
  · have H := Lib.hid h
    clear h
    go_enter Try.func87, Try.ntmps87
    go_wp2_with (at_builtin; go_must (refine wpList_append (v := .slice (some ⟨w.heap.size, 0, none⟩) 0 0) (n := 0) (xs := []) rfl file_ty rfl rfl rfl (own_empty w _ _) (H.out.alloc _) h1 (by omega) ?_); intro A' c' w5 hown5 hg5 hb5)
    go_ret
    rw [Nat.zero_add] at hown5 hb5
    have hx : Ext w w5 := ((Only.refl _ _).alloc (.cells #[] 82)).grown hg5 (fun g hg => by simp [Value.ownBlock] at hg; left; omega)
    refine ⟨A', c', ?_, by simpa using hown5, hx, fun g hg => ?_⟩
    · simp [Nat.zero_add]
    · rcases hb5 with h | h <;> rw [h] at hg <;> simp [Value.ownBlock] at hg <;> omega
theorem CloneFiles_f {w : World} {A : Option Addr} {n c : Nat} {xs : List File} (h : SlR fileF w A n xs) (hA : A = none → n = 0) (hn : n ≤ 1000000) :
    Calls Try.prog 87 #[.slice A n c] w fun e w' => ∃ A' c', e = .returned (.slice A' xs.length c') ∧ Fresh fileF 82 w w' A' c' xs := by
  have hl := h.1
  refine (CloneFiles_c (h.rd (by decide)) (file_enc1 xs) hA hn).mono ?_
  rintro e w' ⟨A', c', rfl, h1, h2, h3⟩
  subst hl
  exact ⟨A', c', rfl, h1, h2, h3⟩
theorem file_set : ∀ (xs : List File) (p : Nat) (f : File), p < xs.length → (xs.set p f).flatMap fileF.enc = ((xs.flatMap fileF.enc).set (p * 2) (S f.1)).set (p * 2 + 1) (S f.2)
  | [], p, f, h => by simp at h
  | x :: xs, 0, f, h => by simp [fileF]
  | x :: xs, p + 1, f, h => by
    have ih := file_set xs p f (by simpa using h)
    rw [List.set_cons_succ, List.flatMap_cons, ih, List.flatMap_cons]
    simp only [fileF, List.cons_append, List.nil_append, Nat.succ_mul, List.set_cons_succ]
theorem SlR.none_len {α : Type} {T : Flat α} {w : World} {A : Option Addr} {n : Nat} {xs : List α} (h : SlR T w A n xs) (hA : A = none) : n = 0 := by
  rcases Nat.eq_zero_or_pos n with h0 | h0
  · exact h0
  · obtain ⟨b, o, e, _⟩ := h.2 h0
    rw [hA] at e; cases e
set_option maxRecDepth 100000 in
set_option maxHeartbeats 1000000 in
theorem Put_c {w : World} {A : Option Addr} {n c : Nat} {xs : List File} (h : SlR fileF w A n xs) (hn : n ≤ 100000) (f : File) (hr : Rise fk xs) :
    Calls Try.prog 83 #[.slice A n c, .agg #[S f.1, S f.2]] w fun e w' => ∃ A' c', e = .returned (.slice A' (putL fk f xs).length c') ∧ Fresh fileF 82 w w' A' c' (putL fk f xs) := by
  obtain ⟨w0, hw0⟩ : ∃ w0, w0 = w.alloc (.cells #[S f.1, S f.2] 82) := ⟨_, rfl⟩
  have hx0 : Ext w w0 := by rw [hw0]; exact (Only.refl No w).alloc _
  have hC := CloneFiles_f (c := c) (h.ext hx0) h.none_len (by omega)
  have hP := posOf_le (key := fk) xs f.1
  have hl := h.1
  have hPA := putL_at hr f
  have hB : Cs w0 w.heap.size 82 #[S f.1, S f.2] := by rw [hw0]; exact Cs.new _ _ _
  have hbs : w.heap.size < w0.heap.size := hB.lt
  obtain ⟨b, hb⟩ : ∃ b, b = hasAt fk xs f.1 := ⟨_, rfl⟩
  obtain ⟨p, hp⟩ : ∃ p, p = posOf fk xs f.1 := ⟨_, rfl⟩
  have hF : ∀ {v : World} {A' : Option Addr} {c' : Nat}, Fresh fileF 82 w0 v A' c' xs → Calls Try.prog 102 #[.slice A' xs.length c', S f.1] v fun e w' => e = .returned (.tuple #[.int .i64 (p : Nat), .bool b]) ∧ Ext v w' := fun hf => by
    rw [hp, hb]
    exact find_c (hf.row (by decide)) (by omega) f.1 hr
  rw [← hb, ← hp] at hPA
  rw [← hp] at hP
  have HPB : Hid (b = true → p < xs.length) := fun e => by
    rw [e] at hb
    unfold hasAt at hb
    rw [← hp] at hb
    by_cases hlt : p < xs.length
    · exact hlt
    · rw [List.getElem?_eq_none (by omega)] at hb; cases hb
  have HPA := Lib.hid hPA
  have HF : Hid (∀ {v : World} {A' : Option Addr} {c' : Nat}, Fresh fileF 82 w0 v A' c' xs → Calls Try.prog 102 #[.slice A' xs.length c', S f.1] v fun e w' => e = .returned (.tuple #[.int .i64 (p : Nat), .bool b]) ∧ Ext v w') := @hF
  have HB := Lib.hid hB
  have HX0 := Lib.hid hx0
  have HL := Lib.hid hl
  have c0 : ∀ ξ : X w0 No, ξ.v.cell? ⟨w.heap.size, 0, none⟩ = some (S f.1) := hB.x id 0
  have c1 : ∀ ξ : X w0 No, ξ.v.cell? ⟨w.heap.size, 1, none⟩ = some (S f.2) := hB.x id 1
  clear hPA hF hb hp hB hx0 hl
  go_enter Try.func83, Try.ntmps83
  go_upto_region 1 with fail
  rw [← hw0]
  clear hw0
  go_wp2_with fail
  refine hC.mono ?_
  clear hC
  rintro e u ⟨A', c', rfl, hf⟩
  have F1 := Lib.hid hf
  obtain ⟨ξ, rfl⟩ : ∃ ξ : X w0 No, u = ξ.v := ⟨⟨u, hf.ext⟩, rfl⟩
  clear hf
  go_wp2_with fail
  refine (HF.out F1.out).mono ?_
  rintro e u ⟨rfl, hu⟩
  have F2 := Lib.hid (F1.out.on hu)
  obtain ⟨ξ, rfl⟩ : ∃ ξ : X w0 No, u = ξ.v := ⟨⟨u, F2.out.ext⟩, rfl⟩
  clear hu F1 HF
  cases b with
  | true =>
    have hp := HPB.out rfl
    obtain ⟨g, rest, rfl, hg, hX, hR, hnc, hm⟩ := own_block F2.out.own (by omega) (by decide)
    have hy : xs[p]? = some xs[p] := List.getElem?_eq_getElem hp
    have hcell : ∀ j, j < 2 → (ξ.v.cell? ⟨g, p * 2 + j, none⟩) = some (((fileF.enc xs[p]))[j]?.getD undef) := fun j hj => by
      obtain ⟨b', o', x', he, _, hx', hc'⟩ := (F2.out.row (by decide)).get hp
      injection he with he
      injection he with he1 he2
      subst he1; subst he2
      rw [hy] at hx'
      injection hx' with hx'
      subst hx'
      have := hc' j ((fileF.enc xs[p])[j]'(by rw [fileF.len]; exact hj)) (List.getElem?_eq_getElem _)
      rw [Nat.zero_add] at this
      rw [List.getElem?_eq_getElem (by rw [fileF.len]; exact hj)]
      exact this
    have d0 : ξ.v.cell? ⟨g, p * 2, none⟩ = some (S (xs[p]).1) := hcell 0 (by omega)
    have d1 : ξ.v.cell? ⟨g, p * 2 + 1, none⟩ = some (S (xs[p]).2) := hcell 1 (by omega)
    have f0 := hg.frozen (p * 2)
    have f1 := hg.frozen (p * 2 + 1)
    have hgn : w0.heap.size ≤ g := F2.out.new g rfl
    have hbg : g ≠ w.heap.size := by omega
    have HG := Lib.hid hg
    have HR := Lib.hid hR
    have HX := Lib.hid hX
    clear hg hR hX hcell hy
    go_wp2_with fail
    go_ret
    have hS := (HG.out.set_ (p * 2) (S f.1)).set_ (p * 2 + 1) (S f.2)
    have e1 : putL fk f xs = xs.set p f := HPA.out
    have e2 : (xs.set p f).length = xs.length := List.length_set
    have e3 : (((xs.flatMap fileF.enc ++ rest).toArray.setIfInBounds (p * 2) (S f.1)).setIfInBounds (p * 2 + 1) (S f.2)) = ((xs.set p f).flatMap fileF.enc ++ rest).toArray := by
      have hX := HX.out
      rw [show fileF.size = 2 from rfl] at hX
      rw [List.setIfInBounds_toArray, List.setIfInBounds_toArray, file_set xs p f hp, List.set_append_left _ _ (by omega), List.set_append_left _ _ (by rw [List.length_set]; omega)]
    rw [e3] at hS
    have hR := HR.out
    have hO : Only (fun b => b = g) ξ.v ((ξ.v.setCell ⟨g, p * 2, none⟩ (S f.1)).setCell ⟨g, p * 2 + 1, none⟩ (S f.2)) := ((Only.refl _ _).at_ _ _).at_ _ _
    refine ⟨some ⟨g, 0, none⟩, c', by rw [e1, e2]; rfl, ?_⟩
    rw [e1]
    refine Fresh.from (w := w0) ⟨?_, F2.out.ext.trans hO fun b hb e => by omega, fun g' hg' => ?_⟩ HX0.out
    · refine own_of_block hS (Nat.zero_le _) (length_flatMap_enc _ _) ?_ (by rw [e2]; exact hnc) hm
      simp only [List.length_append, length_flatMap_enc, e2] at hR ⊢
      exact hR
    · simp [Value.ownBlock] at hg'
      omega
  | false =>
    obtain ⟨w1, hw1⟩ : ∃ w1, w1 = ξ.v.alloc (.cells #[S f.1, S f.2] 82) := ⟨_, rfl⟩
    have hv : Cs w1 ξ.v.heap.size 82 #[S f.1, S f.2] := by rw [hw1]; exact Cs.new _ _ _
    have hx1 : Ext ξ.v w1 := by rw [hw1]; exact (Only.refl No ξ.v).alloc _
    have F3 := Lib.hid (F2.out.on hx1)
    have hI := InsFile_c (i := p) F3.out.own hP f hv (fun e => by
      have h1 : ξ.v.heap.size < ξ.v.heap.size := (F2.out.own.lt _ e).2
      omega) (by have := HL.out; omega)
    have HI := Lib.hid hI
    clear hI hv hx1
    go_wp2_with fail
    rw [← hw1]
    refine HI.out.mono ?_
    clear hw1 HI
    rintro e u ⟨A2, c2, rfl, h1, h2⟩
    have H1 := Lib.hid h1
    have H2 := Lib.hid h2
    clear h1 h2
    go_wp2_with fail
    go_ret
    have e1 : putL fk f xs = insAt p f xs := HPA.out
    have e2 : (insAt p f xs).length = xs.length + 1 := by
      simp only [insAt, List.length_append, List.length_take, List.length_cons, List.length_drop]; omega
    refine ⟨A2, c2, by rw [e1, e2]; rfl, ?_⟩
    rw [e1]
    have hs := F3.out.ext.size
    refine Fresh.from (w := w0) ⟨by rw [e2]; exact H1.out, F3.out.ext.trans H2.out.o fun b hb e => ?_, fun g' hg' => ?_⟩ HX0.out
    · have := F3.out.new b e; omega
    · rw [e2] at hg'
      rcases H2.out.b g' hg' with h | h
      · exact F3.out.new g' h
      · omega
def outsF (l : List File) : List Str → List File → Option (List File)
  | [], out => some out
  | t :: ts, out => if getB t l = true then outsF l ts (putL fk (t, getT t l) out) else none
theorem outsF_step {l : List File} {ts : List Str} {k : Nat} {t : Str} {out : List File} (ht : ts[k]? = some t) : outsF l (ts.drop k) out = if getB t l = true then outsF l (ts.drop (k + 1)) (putL fk (t, getT t l) out) else none := by
  obtain ⟨hk, e⟩ := List.getElem?_eq_some_iff.1 ht
  rw [List.drop_eq_getElem_cons hk, e, outsF]
def OutsRes : Option (List File) → Ending → World → Prop
  | some o, e, w' => ∃ (A : Option Addr) (c : Nat), e = .returned (.tuple #[.slice A o.length c, .bool true]) ∧ SlR fileF w' A o.length o
  | none, e, _ => e = .returned (.tuple #[.slice none 0 0, .bool false])
set_option maxRecDepth 100000 in
set_option maxHeartbeats 4000000 in
theorem outs_c {w : World} {a : RulA} {G : Grp} (ht : SlR strF w a.tA G.targets.length G.targets) (h2 : G.targets.length ≤ 100) {lA : Option Addr} {lc : Nat} {l : List File} (hl : SlR fileF w lA l.length l) (hln : l.length ≤ 900000) (hr : Rise fk l) :
    Calls Try.prog 63 #[grpW (a, G), .slice lA l.length lc] w fun e w' => OutsRes (outsF l G.targets []) e w' ∧ Ext w w' := by
  obtain ⟨tA, tc, nA, nc, cA, cc⟩ := a
  obtain ⟨w1, hw1⟩ : ∃ u, u = w.alloc (.cells #[.slice tA G.targets.length tc, .slice nA G.needs.length nc, .slice cA G.cmds.length cc, .bool G.phony] grpT) := ⟨_, rfl⟩
  obtain ⟨b2, hb2⟩ : ∃ b, b = w.heap.size := ⟨_, rfl⟩
  have X1 : Hid (Ext w w1) := by rw [hw1]; exact (Only.refl No w).alloc _
  have C2 : Hid (Cs w1 b2 grpT #[.slice tA G.targets.length tc, .slice nA G.needs.length nc, .slice cA G.cmds.length cc, .bool G.phony]) := by rw [hw1, hb2]; exact Cs.new _ _ _
  have HT : Hid (SlR strF w1 tA G.targets.length G.targets) := SlR.ext ht X1.out
  have HL := Lib.hid (hl.ext X1.out)
  have HR := Lib.hid hr
  have k0 : w1.cell? ⟨b2, 0, none⟩ = some (.slice tA G.targets.length tc) := C2.out.cell 0
  clear ht hl hr
  go_enter Try.func63, Try.ntmps63
  go_upto_region 1 with fail
  rw [← hw1, ← hb2]
  clear hw1 hb2
  go_wp2_with fail
  go_loopw [6, 14] (fun ov i wr => ∃ k : Nat, k ≤ G.targets.length ∧ i = .int .i64 k ∧ ∃ (A : Option Addr) (c : Nat) (o : List File), ov = .slice A o.length c ∧ SlR fileF wr A o.length o ∧ o.length ≤ k ∧ Rise fk o ∧ outsF l (G.targets.drop k) o = outsF l G.targets [] ∧ Ext w1 wr) (fun _ i _ => G.targets.length - (intOf i).toNat)
  case atStart => exact ⟨0, Nat.zero_le _, rfl, none, 0, [], rfl, SlR.none_, Nat.le_refl _, List.Pairwise.nil, rfl, Only.refl _ _⟩
  case round =>
    clear k0
    obtain ⟨k, hk, rfl, A, c, o, rfl, hO, hol, hRo, hE, hx⟩ := hrel
    have HO := Lib.hid hO
    have HRo := Lib.hid hRo
    have HE := Lib.hid hE
    have XR := Lib.hid hx
    clear hO hRo hE hx
    by_cases hlt : k < G.targets.length
    · obtain ⟨bt, ot, t, rfl, hti, ct⟩ := strs_get HT.out hlt
      have e0 : wr.cell? ⟨bt, ot + k, none⟩ = some (S t) := ct ⟨wr, XR.out⟩
      have HS := Lib.hid (outsF_step (l := l) (out := o) hti)
      have HG := Lib.hid (Get_c (c := lc) (HL.out.ext XR.out) (by omega) t HR.out)
      obtain ⟨gt, hgt⟩ : ∃ g, g = getT t l := ⟨_, rfl⟩
      obtain ⟨gb, hgb⟩ : ∃ g, g = getB t l := ⟨_, rfl⟩
      rw [← hgt, ← hgb] at HG HS
      clear hti ct hgt hgb
      go_wp2_with fail
      refine HG.out.mono ?_
      rintro e u ⟨rfl, hu⟩
      have XU := Lib.hid (XR.out.then_ext hu)
      have HO2 := Lib.hid (HO.out.ext hu)
      clear hu HG e0
      cases gb with
      | false =>
        have HN : Hid (outsF l G.targets [] = none) := by rw [Hid, ← HE.out, HS.out]; rfl
        go_wp2_with fail
        go_ret2
        rw [HN.out]
        exact ⟨rfl, X1.out.then_ext XU.out⟩
      | true =>
        have HP := Lib.hid (Put_c (c := c) HO2.out (by omega) (t, gt) HRo.out)
        have hpl := length_putL (key := fk) (t, gt) o
        have HRp := Lib.hid (rise_putL HRo.out (t, gt))
        have HE2 : Hid (outsF l (G.targets.drop (k + 1)) (putL fk (t, gt) o) = outsF l G.targets []) := by rw [Hid, ← HE.out, HS.out]; rfl
        obtain ⟨P, hP⟩ : ∃ P, P = putL fk (t, gt) o := ⟨_, rfl⟩
        rw [← hP] at HP hpl HRp HE2
        clear hP
        go_wp2_with fail
        refine HP.out.mono ?_
        rintro e z ⟨A', c', rfl, hF⟩
        have HF := Lib.hid hF
        clear hF HP
        have hpl2 : P.length ≤ k + 1 := by omega
        clear hpl
        go_wp2_with fail
        go_roundw
        case rel => exact ⟨k + 1, by omega, by go_num, A', c', P, rfl, HF.out.row (by decide), hpl2, HRp.out, HE2.out, XU.out.then_ext HF.out.ext⟩
        case measure => simp [intOf]; omega
    · obtain rfl : k = G.targets.length := by omega
      have HN : Hid (outsF l G.targets [] = some o) := by rw [Hid, ← HE.out, List.drop_of_length_le (Nat.le_refl _)]; rfl
      go_wp2_with fail
      go_ret2
      rw [HN.out]
      exact ⟨⟨A, c, rfl, HO.out⟩, X1.out.then_ext XR.out⟩
end Go.Proofs.Ytnhaekifcieeoaa
