/- strings.Replacer: Replace and NewReplacer, put together. -/
import Derived.Test.YtnhaekifcieeoaaRp7
import Derived.Test.YtnhaekifcieeoaaStrs
namespace Go.Proofs.Ytnhaekifcieeoaa
open Go Go.RowKit
theorem mtr_fact : ((Try.prog.info? pgenT).bind fun i => i.methods.find? fun m => m.name == "Replace").map (fun m => (m.path.toList, m.func)) = some ([], some (157, true)) := by kernel_rfl
theorem mtr_c (k b : Nat) (w : World) (hk : k ≠ 0) : (method k pgenT (rpt b) "Replace").run Try.prog w = .ok (157, rpt b) w := by
  obtain ⟨m, hm, he⟩ := Option.map_eq_some_iff.1 mtr_fact
  obtain ⟨i, hi, hf⟩ := Option.bind_eq_some_iff.1 hm
  obtain ⟨n, rfl⟩ : ∃ n, k = n + 1 := ⟨k - 1, by omega⟩
  simp only [Prod.mk.injEq] at he
  simp [method, typeInfo, hi, hf, he.1, he.2, follow, receiverAt, run_underlying Try.underlying159, Place.get]
set_option maxRecDepth 100000 in
set_option maxHeartbeats 1600000 in
theorem Replace_c {w : World} {r cp : Nat} {A : Option Addr} {x2 : Value} {a b c d : Str} (h : Cs w r repT #[.int .u32 0, .int .i32 0, x2, .nilIface, .slice A 8 cp]) (hs : ∀ v, Only (fun x => x = r) w v → SlR strF v A 8 [[36, 64], a, [36, 60], b, [36, 94], c, [36, 42], d])
    (s : Str) (hl : s.length ≤ 1000000) (hL : (autoF (keyV a b c d) s).length ≤ 100000000) :
    Calls Try.prog 36 #[rpt r, S s] w fun e w' => e = .returned (S (autoF (keyV a b c d) s)) ∧ Only (fun x => x = r) w w' := by
  have HD := Lib.hid (do_c h hs)
  have HL := Lib.hid hL
  clear h hs hL
  have hmf : ∀ (fn : Fn) (first cap : Array Value) (w : World), (Instr.makeFunc fn first cap).run Try.prog w = .ok (.func fn first cap) w := fun _ _ _ _ => rfl
  go_enter Try.func36, Try.ntmps36
  go_wp2_with fail
  refine HD.out.mono ?_
  rintro e w1 ⟨rfl, g, hC, ⟨t0, n1, t1, n2, n3, n4, n5, gs, hT⟩, hO⟩
  have c3 : w1.cell? ⟨r, 3, none⟩ = some (.iface pgenT (rpt g)) := hC.cell 3
  have HG := Lib.hid (genReplace_c hT s hl HL.out)
  have HO := Lib.hid hO
  have hmt := fun k u hk => mtr_c k g u hk
  clear hC hT hO HD
  go_wp2_with fail
  refine HG.out.mono ?_
  rintro e w2 ⟨rfl, hx⟩
  have HX := Lib.hid (HO.out.then_ext hx)
  clear hx HG HO
  go_wp2_with fail
  go_ret
  exact ⟨rfl, HX.out⟩
theorem rep_build (A : Option Addr) (n c : Nat) (w : World) : (Instr.build repT #[(2, .slice A n c)]).run Try.prog w = .ok (.agg #[.int .u32 0, .int .i32 0, .int .u32 0, .nilIface, .slice A n c]) w := run_build w repT _ _ (by kernel_rfl)
set_option maxRecDepth 100000 in
set_option maxHeartbeats 1600000 in
theorem NewRep_c {w : World} {A : Option Addr} {cp : Nat} {l : List Str} (h : SlR strF w A 8 l) :
    Calls Try.prog 34 #[.slice A 8 cp] w fun e w' => ∃ r A' c', e = .returned (rpt r) ∧ w.heap.size ≤ r ∧ Cs w' r repT #[.int .u32 0, .int .i32 0, .int .u32 0, .nilIface, .slice A' 8 c'] ∧ (∀ v, Only (fun x => x = r) w' v → SlR strF v A' 8 l) ∧ Ext w w' := by
  have H := Lib.hid h
  have hb := rep_build
  have st_info : (Try.prog.info? 9).map (fun i => (i.zero, i.size, i.bytes)) = some (some (.string ⟨#[]⟩), 1, 16) := by kernel_rfl
  have st_ty : Hid (Ety Try.prog 23 9 1) := Ety.mk' Try.underlying23 st_info rfl (by omega) (by omega)
  clear h st_info
  go_enter Try.func34, Try.ntmps34
  go_wp2_with (at_builtin; go_must (refine wpList_append (v := .slice none 0 0) (n := 0) (xs := []) rfl st_ty.out rfl rfl rfl (World.ownsRow_nil _ _ _ _) (H.out.rd (by decide)) (str_enc1 l) (by omega) ?_); intro A' c' w1 hown hg hb2)
  have F : Fresh strF 9 w w1 A' c' l := (Fresh.nil strF 9 w w (Only.refl _ _)).grow (ys := l) H.out.1 hown hg hb2
  have hl8 := H.out.1
  refine bodyPost_ret (results_tmp rfl _ _ _) rfl ?_
  have hne : ∀ g, (Value.slice A' l.length c').ownBlock = some g → ¬ g = w1.heap.size := fun g hg e => by
    obtain ⟨cur, hc⟩ := own_cs F.own hg
    have := hc.lt
    omega
  refine ⟨w1.heap.size, A', c', rfl, F.ext.size, Cs.new _ _ _, fun v hv => ?_, F.ext.alloc _⟩
  rw [← hl8]
  exact SlR.of_own (T := strF) (by decide) (own_keep (F.on ((Only.refl No w1).alloc _)).own hv hne)
end Go.Proofs.Ytnhaekifcieeoaa
