/- What a row lists of the library's variables gives the environment of the record layer. -/
import Derived.Test.YtfbpiafhgkhoiaaDoorEnv
import Derived.Lib.LaidTab
import Derived.MakeChecks
import GoSem.ClaimJoined
namespace Go.Proofs.YtfbpiafhgkhoiaaDoor
open Go Go.RowKit
theorem laid_mem {P : Program} {w : World} : ∀ {L : List (String × DataW Unit)} {ps : List MemPlace}, DataW.LaidVars P w L ps → ∀ {n : String} {d : DataW Unit}, (n, d) ∈ L →
    ∃ g t cs fuel p, P.globalNamed n = some g ∧ (P.globals[g]?).map (·.type) = some t ∧ w.var? P n = some cs ∧ DataW.trod (fun _ => ()) P w 0 (fun _ => true) false fuel t cs.toList = some (d, p)
  | [], _, _, _, _, hm => by cases hm
  | (n', d') :: r, ps, h, n, d, hm => by
    obtain ⟨g, t, cs, fuel, p, q, h1, h2, h3, h4, h5, _⟩ := h
    rcases List.mem_cons.1 hm with e | hm
    · obtain ⟨rfl, rfl⟩ := Prod.mk.inj e
      exact ⟨g, t, cs, fuel, p, h1, h2, h3, h4⟩
    · exact laid_mem h5 hm
theorem trod_ifc {H : Type} {enc : TypeId × Value → H} {P : Program} {w : World} {base : Nat} {sp : Nat → Bool} {held : Bool} {fuel : Nat} {t : TypeId} {ms : Array (String × TypeId)} {cs : List Value} {x : DataW H × List MemPlace} (ht : P.underlying t = some (.interface ms))
    (h : DataW.trod enc P w base sp held fuel t cs = some x) : ∃ v, cs = [v] ∧ IfV v := by
  cases fuel with
  | zero => simp [DataW.trod] at h
  | succ fuel =>
    match cs, h with
    | [v], h =>
      cases v <;> first
        | exact ⟨_, rfl, .inl rfl⟩
        | exact ⟨_, rfl, .inr ⟨_, _, rfl⟩⟩
        | (exfalso; simp [DataW.trod, ht] at h; done)
        | (exfalso; rename_i o; cases o <;> simp [DataW.trod, ht] at h; done)
        | (exfalso; rename_i o _ _; cases o <;> simp [DataW.trod, ht] at h; done)
    | [], h => simp [DataW.trod, ht] at h
    | _ :: _ :: _, h => simp [DataW.trod, ht] at h
theorem one_of_toList {cs : Array Value} {v : Value} (h : cs.toList = [v]) : cs = #[v] := by
  cases cs; simp_all
theorem err_of {W : World} {n : String} {g : Nat} {t : TypeId} {ms : Array (String × TypeId)} (hg : Tryd.prog.globalNamed n = some g) (hty : (Tryd.prog.globals[g]?).map (·.type) = some t) (ht : Tryd.prog.underlying t = some (.interface ms)) {L : List (String × DataW Unit)} (h : laidMet Tryd.prog L W) {d : DataW Unit} (hm : (n, d) ∈ L) :
    ∃ ev, W.cell? ⟨g, 0, none⟩ = some ev ∧ IfV ev := by
  obtain ⟨ps, hl, _⟩ := h
  obtain ⟨g', t', cs, fuel, p, h1, h2, h3, h4⟩ := laid_mem hl hm
  obtain rfl := Option.some.inj (hg.symm.trans h1)
  obtain rfl := Option.some.inj (hty.symm.trans h2)
  obtain ⟨v, hv, hi⟩ := trod_ifc ht h4
  refine ⟨v, ?_, hi⟩
  rw [World.var?_cell hg h3 0, one_of_toList hv]
  rfl
theorem tab_of {W : World} {L : List (String × DataW Unit)} (h : laidMet Tryd.prog L W) (hm : (tabName, Lib.tabData .u64 Lib.pow10Tab) ∈ L) : Lib.TabIs Tryd.prog W tabName .u64 Lib.pow10Tab := by
  obtain ⟨ps, hl, _⟩ := h
  obtain ⟨g', t', cs, fuel, p, h1, h2, h3, h4⟩ := laid_mem hl hm
  obtain rfl := Option.some.inj ((show Tryd.prog.globalNamed tabName = some 1 by kernel_rfl).symm.trans h1)
  obtain rfl := Option.some.inj ((show (Tryd.prog.globals[1]?).map (·.type) = some 96 by kernel_rfl).symm.trans h2)
  unfold Lib.TabIs
  rw [h3, ← Lib.cells_of_tab Tryd.underlying96 Tryd.underlying83 (by kernel_rfl) (by kernel_rfl) h4]
theorem env_of {W : World} (hml : Ml W) {L : List (String × DataW Unit)} (h : laidMet Tryd.prog L W) (h1 : (tabName, Lib.tabData .u64 Lib.pow10Tab) ∈ L) {d2 d3 : DataW Unit} (h2 : ("strconv.ErrSyntax", d2) ∈ L) (h3 : ("strconv.ErrRange", d3) ∈ L) : Env W :=
  ⟨hml, tab_of h h1, err_of (t := 36) (by kernel_rfl) (by kernel_rfl) Tryd.underlying36 h h2, err_of (t := 36) (by kernel_rfl) (by kernel_rfl) Tryd.underlying36 h h3⟩
end Go.Proofs.YtfbpiafhgkhoiaaDoor
