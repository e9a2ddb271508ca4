/- Put together: Frq, Mpr, Bub, Gx6, Gx7. -/
import Derived.Test.YtnhaekifcieeoaaGreatDoorPk21
import Derived.Test.YtnhaekifcieeoaaGreatDoorPk17
import Derived.Test.YtnhaekifcieeoaaGreatDoorPk19
import Derived.Maps.RangeWalk
import Derived.Test.YtnhaekifcieeoaaGreatDoorPk18
namespace Go.Proofs.YtnhaekifcieeoaaGreatDoor
open Go Go.RowKit
theorem rule_own {m : Mk} {l : List File} {n t : Str} {g : Grp} (h : ruleF m l n = some g) (ht : t ∈ g.targets) : ruleF m l t ≠ none := by
  rcases ruleF_some h with ⟨r, hr, rfl⟩ | ⟨_, r, _, hs, rfl, _⟩
  · rw [groupF_tgt] at ht
    have hm := (explF_some hr).1
    intro h0
    unfold ruleF at h0
    cases he : explF m.rules t with
    | none => exact explF_none he r hm ht
    | some q => rw [he] at h0; cases h0
  · have ht : t ∈ tgtOf r n _ := ht
    unfold tgtOf at ht
    rw [if_neg (stemL_ne hs)] at ht
    obtain rfl := List.mem_singleton.1 ht
    rw [h]
    exact fun e => by cases e
theorem GOk.ok {m : Mk} {l : List File} {gs : List Grp} (h : GOk m l gs) (h1 : ∀ g ∈ gs, 1 ≤ g.targets.length) : GrOk gs := by
  refine ⟨h.ds, h1, fun i g hg n hn j q hq ht => ?_⟩
  rcases h.tp i g hg n hn with ⟨k, p, hk, hp, hnp⟩ | ⟨h0, _⟩
  · have : j = k := (GrOk.apart ⟨h.ds, h1, fun i g hg n hn j q hq ht => ?_⟩ hq hp ht hnp)
    · omega
    · rcases h.tp i g hg n hn with ⟨k, p, hk, hp, hnp⟩ | ⟨h0, _⟩
      · obtain ⟨li, ei⟩ := List.getElem?_eq_some_iff.1 hq
        obtain ⟨lj, ej⟩ := List.getElem?_eq_some_iff.1 hp
        rcases Nat.lt_trichotomy j k with h3 | h3 | h3
        · exact absurd (ej ▸ hnp) (List.pairwise_iff_getElem.1 h.ds j k li lj h3 n (ei ▸ ht))
        · omega
        · exact absurd (ei ▸ ht) (List.pairwise_iff_getElem.1 h.ds k j lj li h3 n (ej ▸ hnp))
      · obtain ⟨x, hx⟩ := h.rl q (List.mem_of_getElem? hq)
        exact absurd h0 (rule_own hx ht)
  · obtain ⟨x, hx⟩ := h.rl q (List.mem_of_getElem? hq)
    exact absurd h0 (rule_own hx ht)
section
variable {gs : List Grp} {st : List Bool} {r : Nat → Nat}
theorem flat_rise (h : LstOk (edgesF gs st) gs.length r) : (unitsF gs st r).flatten.Pairwise fun x y => x ≠ y ∧ (r x = r y → x < y) := by
  refine List.pairwise_flatten.2 ⟨fun u hu => ?_, ?_⟩
  · obtain ⟨p, _, rfl, _⟩ := units_at hu
    exact (unit_sorted _ _ _ _).imp fun h => ⟨by omega, fun _ => h⟩
  · refine List.pairwise_iff_getElem.2 fun i j hi hj hij x hx y hy => ?_
    have key : r x ≠ r y := fun e => by
      have hu := List.getElem_mem hi
      have hv := List.getElem_mem hj
      obtain ⟨p, _, e1, _⟩ := units_at hu
      obtain ⟨q, _, e2, _⟩ := units_at hv
      have hy' := hy
      rw [e1] at hx
      rw [e2] at hy
      have a1 := (unit_mem.1 hx).2.2
      have a2 := (unit_mem.1 hy).2.2
      have hpq : p = q := by omega
      have := units_apart h (rfl : unitsF gs st r = unitsF gs st r) (List.getElem?_eq_getElem hi) (List.getElem?_eq_getElem hj) (k := y) (by rw [e1, hpq]; exact hy) hy'
      omega
    exact ⟨fun e => key (by rw [e]), fun e => absurd e key⟩
theorem flat_whole (h : LstOk (edgesF gs st) gs.length r) (hst : ∀ k, nphB gs k = true → stB st k = true) {k : Nat} {g : Grp} (hg : gs[k]? = some g) (hp : g.phony = false) : k ∈ (unitsF gs st r).flatten := by
  have hn : nphB gs k = true := by unfold nphB; rw [hg]; simp [hp]
  have hk := (List.getElem?_eq_some_iff.1 hg).1
  exact List.mem_flatten.2 ⟨_, units_whole h hk (hst k hn) hn, unit_mem.2 ⟨hk, hst k hn, rfl⟩⟩
theorem flat_ord (hok : GrOk gs) (h : LstOk (edgesF gs st) gs.length r) (hst : ∀ k, nphB gs k = true → stB st k = true) : OrdS gs (unitsF gs st r).flatten := by
  intro a i b hS g hg hp n hn j q hq hqp ht
  have hji := hok.od i g hg n hn j q hq ht
  have hmem := flat_whole h hst hq hqp
  have hmk : makerF gs n = some j := makerF_at hok.ds hq ht
  have hi1 : stB st i = true := hst i (by unfold nphB; rw [hg]; simp [hp])
  have hj1 : stB st j = true := hst j (by unfold nphB; rw [hq]; simp [hqp])
  have he := edge_in hg hn hmk hji hi1 hj1
  have hr : r i = r j := lst_conn h (List.getElem?_eq_some_iff.1 hg).1 (List.getElem?_eq_some_iff.1 hq).1 (Conn.here.down he)
  rw [hS] at hmem
  have hpw := flat_rise h
  rw [hS] at hpw
  rcases List.mem_append.1 hmem with hm | hm
  · exact hm
  · rcases List.mem_cons.1 hm with rfl | hm
    · omega
    · have := (List.pairwise_cons.1 (List.pairwise_append.1 hpw).2.1).1 j hm
      have := this.2 hr
      omega
theorem fresh_all (hok : GrOk gs) (h : LstOk (edgesF gs st) gs.length r) (hst : ∀ k, nphB gs k = true → stB st k = true) {l l' : List File} {K K' : Str → Option Rcd} (hrun : runG gs (unitsF gs st r).flatten l K = some (l', K')) : ∀ g ∈ gs, g.phony = false → freshK l' K' g = true := by
  intro g hg hp
  obtain ⟨k, hk⟩ := List.getElem?_of_mem hg
  have hd := runG_fresh hok (unitsF gs st r).flatten [] l K l' K' (by rw [List.nil_append]; exact (flat_rise h).imp fun h => h.1) (by rw [List.nil_append]; exact flat_ord hok h hst) (fun i hi => by cases hi) hrun
  exact hd k (by rw [List.nil_append]; exact flat_whole h hst hk hp) g hk hp
end
theorem staleTo_get (l : List File) (F : Str → Option (RcdV × Rcd)) (gs : List Grp) : ∀ (i k : Nat), k < i → (staleTo l F gs i).getD k false = match gs[k]? with
    | some G => staleAt l F gs (staleTo l F gs k) k G
    | none => false
  | 0, k, h => absurd h (Nat.not_lt_zero k)
  | i + 1, k, h => by
    rw [staleTo]
    rcases Nat.lt_or_ge k i with h1 | h1
    · rw [mid_low (by rw [staleTo_len]; exact h1)]
      exact staleTo_get l F gs i k h1
    · have e : k = i := by omega
      subst e
      have := staleTo_len l F gs k
      rw [List.getD_eq_getElem?_getD, List.getElem?_append_right (by omega), this, Nat.sub_self]
      rfl
theorem stale_none (l : List File) (gs : List Grp) : ∀ k, nphB gs k = true → stB (staleF l (fun _ => none) gs) k = true := by
  intro k hk
  unfold nphB at hk
  cases hg : gs[k]? with
  | none => rw [hg] at hk; cases hk
  | some g =>
    rw [hg] at hk
    show (staleTo l (fun _ => none) gs gs.length).getD k false = true
    rw [staleTo_get _ _ _ _ _ (List.getElem?_eq_some_iff.1 hg).1, hg]
    show staleAt _ _ _ _ _ _ = true
    unfold staleAt
    have h1 : freshF l (fun _ => none) g = false := by unfold freshF; cases outsF l g.targets [] <;> rfl
    have h2 : (!g.phony) = true := hk
    rw [h1, h2]
    rfl
theorem stale_all {l : List File} {F : Str → Option (RcdV × Rcd)} {gs : List Grp} (h : ∀ g ∈ gs, g.phony = false → freshF l F g = true) : ∀ i, staleTo l F gs i = List.replicate i false
  | 0 => rfl
  | i + 1 => by
    rw [staleTo, stale_all h i, List.replicate_succ']
    congr 2
    cases hg : gs[i]? with
    | none => rfl
    | some g =>
      show staleAt l F gs (List.replicate i false) i g = false
      unfold staleAt
      have h1 : (!g.phony && !freshF l F g) = false := by
        cases hp : g.phony with
        | true => rfl
        | false => rw [h g (List.mem_of_getElem? hg) hp]; rfl
      rw [h1, Bool.false_or]
      refine List.any_eq_false.2 fun n _ => ?_
      unfold nedB
      cases makerF (gs.take i) n with
      | none => simp
      | some k =>
        show ¬ (List.replicate i false).getD k false = true
        rw [List.getD_eq_getElem?_getD, List.getElem?_replicate]
        split <;> simp
theorem units_none (gs : List Grp) (n : Nat) (r : Nat → Nat) : unitsF gs (List.replicate n false) r = [] := by
  have hu : ∀ i, unitAt gs.length (List.replicate n false) r i = [] := fun i => by
    refine List.filter_eq_nil_iff.2 fun k _ => ?_
    have : stB (List.replicate n false) k = false := by
      show (List.replicate n false).getD k false = false
      rw [List.getD_eq_getElem?_getD, List.getElem?_replicate]
      split <;> rfl
    rw [this]
    simp
  show unitsTo gs _ r gs.length = []
  unfold unitsTo
  refine List.filterMap_eq_nil_iff.2 fun i _ => ?_
  unfold unit1
  rw [hu i]
  rfl
def overL (D : DataW Value) (left : Lit → Bool) (Fu Fk : Str → Option (RcdV × Rcd)) : Str → Option (RcdV × Rcd) := fun s => if Go.Maps.has D (.string s) = true ∧ left (.string s) = false then Fu s else Fk s
theorem overL_start (D : DataW Value) (Fu Fk : Str → Option (RcdV × Rcd)) : overL D (Go.Maps.has D) Fu Fk = Fk := by
  funext s
  unfold overL
  rw [if_neg]
  rintro ⟨h1, h2⟩
  rw [h1] at h2; cases h2
theorem overL_end {D : DataW Value} {left : Lit → Bool} (h : ∀ kl, left kl = false) (Fu Fk : Str → Option (RcdV × Rcd)) : overL D left Fu Fk = fun s => if Go.Maps.has D (.string s) = true then Fu s else Fk s := by
  funext s
  unfold overL
  by_cases hd : Go.Maps.has D (.string s) = true
  · rw [if_pos hd, if_pos ⟨hd, h _⟩]
  · rw [if_neg hd, if_neg (fun e => hd e.1)]
theorem overL_step {D : DataW Value} {left : Lit → Bool} {s : Str} (hd : Go.Maps.has D (.string s) = true) {Fu Fk : Str → Option (RcdV × Rcd)} {p : RcdV × Rcd} (hp : Fu s = some p) :
    overL D (fun z => left z && !z.sameKey (.string s)) Fu Fk = fun k => if k = s then some p else overL D left Fu Fk k := by
  funext k
  show (if Go.Maps.has D (.string k) = true ∧ (left (.string k) && !(Lit.string k).sameKey (.string s)) = false then Fu k else Fk k) = _
  by_cases hk : k = s
  · subst hk
    rw [if_pos rfl, if_pos, hp]
    refine ⟨hd, ?_⟩
    have : (Lit.string k).sameKey (.string k) = true := by simp [Lit.sameKey]
    rw [this]
    simp
  · rw [if_neg hk]
    have : (Lit.string k).sameKey (.string s) = false := Go.Maps.sameKey_ne fun e => hk (by injection e)
    rw [this]
    simp [overL]
theorem groupsF_gb {m : Mk} {l : List File} (hb : GBd m l) (goal : Str) : ∀ g ∈ (groupsF m l goal).1, GB3 g := by
  have h1 := visitF_all (ruleF_b3 hb) 100 [] [] goal (fun g hg => by cases hg)
  unfold groupsF
  split
  · intro g hg; cases hg
  · split
    · intro g hg; cases hg
    · exact h1
theorem oneF_len (l : List File) (G : Grp) : (oneF l G).1.1.length ≤ G.cmds.length := by
  have := (allF_fit l G).2.1
  unfold oneF
  split
  · exact Nat.zero_le _
  · split
    · exact Nat.zero_le _
    · exact this
theorem oneF_fit2 {l : List File} {G : Grp} (hb : GBu G) : Rise fk (oneF l G).1.1 ∧ ∀ f ∈ (oneF l G).1.1, f.1.length ≤ 10000 ∧ f.2.length ≤ 1000 := by
  have h1 := allF_fit l G
  have h2 := allF_names (xs := l) hb.lt
  unfold oneF
  split
  · exact ⟨List.Pairwise.nil, fun f hf => by cases hf⟩
  · split
    · exact ⟨List.Pairwise.nil, fun f hf => by cases hf⟩
    · exact ⟨h1.1, h2⟩
theorem unitM_len {gs : List Grp} (hb : ∀ g ∈ gs, g.cmds.length ≤ 3) : ∀ (u : List Nat) (l out : List File) (K : List (Str × Rcd)), (unitM gs u l out K).1.1.length ≤ out.length + 3 * u.length
  | [], _, _, _ => Nat.le_refl _
  | k :: ks, l, out, K => by
    rw [unitM, List.length_cons]
    cases hg : gs[k]? with
    | none => have := unitM_len hb ks l out K; simp only; omega
    | some g =>
      simp only
      split
      · have := unitM_len hb ks l out K; omega
      · split
        · exact Nat.zero_le _
        · have h1 := unitM_len hb ks (putAll (oneF l g).1.1 l) (putAll (oneF l g).1.1 out) (K ++ [(g.targets.headD [], (oneF l g).1.2)])
          have h2 := putAll_len (oneF l g).1.1 out
          have h3 := oneF_len l g
          have h4 := hb g (List.mem_of_getElem? hg)
          omega
theorem unitM_fit {gs : List Grp} (hb : ∀ g ∈ gs, GBu g) : ∀ (u : List Nat) (l out : List File) (K : List (Str × Rcd)), Rise fk out → (∀ f ∈ out, f.1.length ≤ 10000 ∧ f.2.length ≤ 1000) → Rise fk (unitM gs u l out K).1.1 ∧ ∀ f ∈ (unitM gs u l out K).1.1, f.1.length ≤ 10000 ∧ f.2.length ≤ 1000
  | [], _, _, _, h1, h2 => ⟨h1, h2⟩
  | k :: ks, l, out, K, h1, h2 => by
    rw [unitM]
    cases hg : gs[k]? with
    | none => exact unitM_fit hb ks l out K h1 h2
    | some g =>
      simp only
      split
      · exact unitM_fit hb ks l out K h1 h2
      · split
        · exact ⟨List.Pairwise.nil, fun f hf => by cases hf⟩
        · have h3 := (oneF_fit2 (l := l) (hb g (List.mem_of_getElem? hg))).2
          exact unitM_fit hb ks _ _ _ (putAll_rise _ h1) fun f hf => (putAll_mem _ hf).elim (h3 f) (h2 f)
abbrev grwT : TypeId := 83
structure GrwA where
  wA : Option Addr
  wc : Nat
  dA : Option Addr
  dc : Nat
  oA : Option Addr
  oc : Nat
def Gfp (g : Nat) (a : GrwA) (wn dn on : Nat) : Nat → Prop := fun b => b = g ∨ (Value.slice a.wA wn a.wc).ownBlock = some b ∨ (Value.slice a.dA dn a.dc).ownBlock = some b ∨ (Value.slice a.oA on a.oc).ownBlock = some b
def RbS (F : Nat → Prop) (u : World) (A : Option Addr) (xs : List Str) : Prop := ∀ v, Only F u v → SlR strF v A xs.length xs
section
variable {F F' : Nat → Prop} {u u' : World} {A : Option Addr} {xs : List Str} {c : Nat}
theorem RbS.step (h : RbS F u A xs) (hx : Only F u u') (hf : ∀ b, F' b → F b ∨ u.heap.size ≤ b) : RbS F' u' A xs := fun v hv => h v (hx.trans hv fun b hb e => by
  rcases hf b e with h1 | h1
  · exact h1
  · omega)
theorem RbS.ext (h : RbS F u A xs) (hx : Ext u u') : RbS F u' A xs := h.step (Only.any hx) fun _ e => .inl e
theorem RbS.here (h : RbS F u A xs) : SlR strF u A xs.length xs := h u (Only.refl _ _)
theorem RbS.fresh (h : Fresh strF 9 u u' A c xs) (hF : ∀ b, F b → b < u.heap.size) : RbS F u' A xs := fun v hv => SlR.of_own (T := strF) (by decide) (own_keep h.own hv fun g hg e => by
  have := h.new g hg
  have := hF g e
  omega)
end
structure Gw (w u : World) (g : Nat) (v : MkV) (m : Mk) (lA : Option Addr) (lc ll : Nat) (a : GrwA) (way done : List Str) (gs : List (RulA × Grp)) : Prop where
  cs : Cs u g grwT #[.slice v.vA m.vars.length v.vc, .slice v.rA m.rules.length v.rc, .slice v.pA m.phony.length v.pc, .slice lA ll lc, .slice a.wA way.length a.wc, .slice a.dA done.length a.dc, .slice a.oA gs.length a.oc]
  fw : Fresh strF 9 w u a.wA a.wc way
  fd : Fresh strF 9 w u a.dA a.dc done
  fo : Fresh grpF grpT w u a.oA a.oc gs
  hg : w.heap.size ≤ g
  wd : ∀ b, (Value.slice a.wA way.length a.wc).ownBlock = some b → (Value.slice a.dA done.length a.dc).ownBlock ≠ some b
  rw : ∀ x ∈ gs, RbS (Gfp g a way.length done.length gs.length) u x.1.tA x.2.targets ∧ RbS (Gfp g a way.length done.length gs.length) u x.1.nA x.2.needs ∧ RbS (Gfp g a way.length done.length gs.length) u x.1.cA x.2.cmds
section
variable {w u u' : World} {g : Nat} {v : MkV} {m : Mk} {lA : Option Addr} {lc ll : Nat} {a : GrwA} {way done : List Str} {gs : List (RulA × Grp)}
theorem Gw.x (h : Gw w u g v m lA lc ll a way done gs) : Ext w u := h.fw.ext
theorem Gw.ext (h : Gw w u g v m lA lc ll a way done gs) (hx : Ext u u') : Gw w u' g v m lA lc ll a way done gs :=
  ⟨h.cs.keep hx id, h.fw.on hx, h.fd.on hx, h.fo.on hx, h.hg, h.wd, fun x hm => ⟨(h.rw x hm).1.ext hx, (h.rw x hm).2.1.ext hx, (h.rw x hm).2.2.ext hx⟩⟩
theorem Gw.growW (h : Gw w u g v m lA lc ll a way done gs) {A' : Option Addr} {c' : Nat} {w5 : World} {ts : List Str}
    (hown : w5.ownsRow 0 9 1 (.slice A' (way.length + ts.length : Nat) c') (way.length + ts.length) (way.flatMap strF.enc ++ ts.flatMap strF.enc)) (hg : u.grownBy w5 (Value.slice a.wA way.length a.wc).ownBlock)
    (hb : (Value.slice A' (way.length + ts.length : Nat) c').ownBlock = (Value.slice a.wA way.length a.wc).ownBlock ∨ (Value.slice A' (way.length + ts.length : Nat) c').ownBlock = some u.heap.size) :
    Gw w (w5.setCell ⟨g, 4, none⟩ (.slice A' (way.length + ts.length : Nat) c')) g v m lA lc ll { a with wA := A', wc := c' } (way ++ ts) done gs := by
  have O5 : Only (fun q => (Value.slice a.wA way.length a.wc).ownBlock = some q) u w5 := (Only.refl _ _).grown hg fun q e => .inr e
  have F5 := h.fw.grow (ys := ts) rfl hown hg hb
  have D5 := h.fd.keep O5 F5.ext (fun q h1 h2 => h.wd q h2 h1)
  have G5 := h.fo.keep O5 F5.ext (fun q h1 h2 => own_ne_own h.fw.own h.fo.own (by decide) q h2 h1)
  have c5 := h.cs.keep O5 (fun e => own_ne_cs h.fw.own h.cs (by decide) _ e rfl)
  have O6 : Only (fun q => q = g) w5 (w5.setCell ⟨g, 4, none⟩ (.slice A' (way.length + ts.length : Nat) c')) := (Only.refl _ _).at_ 4 _
  have E6 : Ext w (w5.setCell ⟨g, 4, none⟩ (.slice A' (way.length + ts.length : Nat) c')) := F5.ext.trans O6 fun q hq e => by have e : q = g := e; have := h.hg; omega
  have OA : Only (Gfp g a way.length done.length gs.length) u (w5.setCell ⟨g, 4, none⟩ (.slice A' (way.length + ts.length : Nat) c')) := (O5.weak fun q _ e => .inr (.inl e)).trans O6 fun q _ e => .inl e
  have hst : ∀ q, Gfp g { a with wA := A', wc := c' } (way ++ ts).length done.length gs.length q → Gfp g a way.length done.length gs.length q ∨ u.heap.size ≤ q := by
    rintro q (e | e | e | e)
    · exact .inl (.inl e)
    · rw [List.length_append] at e
      rcases hb with hb | hb
      · exact .inl (.inr (.inl (hb.symm.trans e)))
      · have h3 : some u.heap.size = some q := hb.symm.trans e
        injection h3 with h3
        exact .inr (by omega)
    · exact .inl (.inr (.inr (.inl e)))
    · exact .inl (.inr (.inr (.inr e)))
  refine ⟨?_, F5.keep O6 E6 (own_ne_cs F5.own c5 (by decide)), D5.keep O6 E6 (own_ne_cs D5.own c5 (by decide)), G5.keep O6 E6 (own_ne_cs G5.own c5 (by decide)), h.hg, fun q h1 h2 => ?_, fun x hm => ⟨(h.rw x hm).1.step OA hst, (h.rw x hm).2.1.step OA hst, (h.rw x hm).2.2.step OA hst⟩⟩
  · have := c5.set_ 4 (.slice A' (way.length + ts.length : Nat) c')
    rw [List.length_append]
    exact this
  · rw [List.length_append] at h1
    rcases hb with hb | hb
    · exact h.wd q (hb.symm.trans h1) h2
    · have h3 : some u.heap.size = some q := hb.symm.trans h1
      injection h3 with h3
      obtain ⟨cur, hc⟩ := own_cs h.fd.own h2
      have := hc.lt
      omega
theorem Gw.growD (h : Gw w u g v m lA lc ll a way done gs) {A' : Option Addr} {c' : Nat} {w5 : World} {ts : List Str}
    (hown : w5.ownsRow 0 9 1 (.slice A' (done.length + ts.length : Nat) c') (done.length + ts.length) (done.flatMap strF.enc ++ ts.flatMap strF.enc)) (hg : u.grownBy w5 (Value.slice a.dA done.length a.dc).ownBlock)
    (hb : (Value.slice A' (done.length + ts.length : Nat) c').ownBlock = (Value.slice a.dA done.length a.dc).ownBlock ∨ (Value.slice A' (done.length + ts.length : Nat) c').ownBlock = some u.heap.size) :
    Gw w (w5.setCell ⟨g, 5, none⟩ (.slice A' (done.length + ts.length : Nat) c')) g v m lA lc ll { a with dA := A', dc := c' } way (done ++ ts) gs := by
  have O5 : Only (fun q => (Value.slice a.dA done.length a.dc).ownBlock = some q) u w5 := (Only.refl _ _).grown hg fun q e => .inr e
  have F5 := h.fd.grow (ys := ts) rfl hown hg hb
  have D5 := h.fw.keep O5 F5.ext (fun q h1 h2 => h.wd q h1 h2)
  have G5 := h.fo.keep O5 F5.ext (fun q h1 h2 => own_ne_own h.fd.own h.fo.own (by decide) q h2 h1)
  have c5 := h.cs.keep O5 (fun e => own_ne_cs h.fd.own h.cs (by decide) _ e rfl)
  have O6 : Only (fun q => q = g) w5 (w5.setCell ⟨g, 5, none⟩ (.slice A' (done.length + ts.length : Nat) c')) := (Only.refl _ _).at_ 5 _
  have E6 : Ext w (w5.setCell ⟨g, 5, none⟩ (.slice A' (done.length + ts.length : Nat) c')) := F5.ext.trans O6 fun q hq e => by have e : q = g := e; have := h.hg; omega
  have OA : Only (Gfp g a way.length done.length gs.length) u (w5.setCell ⟨g, 5, none⟩ (.slice A' (done.length + ts.length : Nat) c')) := (O5.weak fun q _ e => .inr (.inr (.inl e))).trans O6 fun q _ e => .inl e
  have hst : ∀ q, Gfp g { a with dA := A', dc := c' } way.length (done ++ ts).length gs.length q → Gfp g a way.length done.length gs.length q ∨ u.heap.size ≤ q := by
    rintro q (e | e | e | e)
    · exact .inl (.inl e)
    · exact .inl (.inr (.inl e))
    · rw [List.length_append] at e
      rcases hb with hb | hb
      · exact .inl (.inr (.inr (.inl (hb.symm.trans e))))
      · have h3 : some u.heap.size = some q := hb.symm.trans e
        injection h3 with h3
        exact .inr (by omega)
    · exact .inl (.inr (.inr (.inr e)))
  refine ⟨?_, D5.keep O6 E6 (own_ne_cs D5.own c5 (by decide)), F5.keep O6 E6 (own_ne_cs F5.own c5 (by decide)), G5.keep O6 E6 (own_ne_cs G5.own c5 (by decide)), h.hg, fun q h1 h2 => ?_, fun x hm => ⟨(h.rw x hm).1.step OA hst, (h.rw x hm).2.1.step OA hst, (h.rw x hm).2.2.step OA hst⟩⟩
  · have := c5.set_ 5 (.slice A' (done.length + ts.length : Nat) c')
    rw [List.length_append]
    exact this
  · rw [List.length_append] at h2
    rcases hb with hb | hb
    · exact h.wd q h1 (hb.symm.trans h2)
    · have h3 : some u.heap.size = some q := hb.symm.trans h2
      injection h3 with h3
      obtain ⟨cur, hc⟩ := own_cs h.fw.own h1
      have := hc.lt
      omega
theorem Gw.growO (h : Gw w u g v m lA lc ll a way done gs) {A' : Option Addr} {c' : Nat} {w5 : World} {t : RulA × Grp}
    (hown : w5.ownsRow 0 grpT 4 (.slice A' (gs.length + 1 : Nat) c') (gs.length + 1) (gs.flatMap grpF.enc ++ [t].flatMap grpF.enc)) (hg : u.grownBy w5 (Value.slice a.oA gs.length a.oc).ownBlock)
    (hb : (Value.slice A' (gs.length + 1 : Nat) c').ownBlock = (Value.slice a.oA gs.length a.oc).ownBlock ∨ (Value.slice A' (gs.length + 1 : Nat) c').ownBlock = some u.heap.size)
    (ht : RbS (Gfp g a way.length done.length gs.length) u t.1.tA t.2.targets ∧ RbS (Gfp g a way.length done.length gs.length) u t.1.nA t.2.needs ∧ RbS (Gfp g a way.length done.length gs.length) u t.1.cA t.2.cmds) :
    Gw w (w5.setCell ⟨g, 6, none⟩ (.slice A' (gs.length + 1 : Nat) c')) g v m lA lc ll { a with oA := A', oc := c' } way done (gs ++ [t]) := by
  have O5 : Only (fun q => (Value.slice a.oA gs.length a.oc).ownBlock = some q) u w5 := (Only.refl _ _).grown hg fun q e => .inr e
  have F5 := h.fo.grow (ys := [t]) rfl hown hg hb
  have D5 := h.fw.keep O5 F5.ext (fun q h1 h2 => own_ne_own h.fw.own h.fo.own (by decide) q h1 h2)
  have G5 := h.fd.keep O5 F5.ext (fun q h1 h2 => own_ne_own h.fd.own h.fo.own (by decide) q h1 h2)
  have c5 := h.cs.keep O5 (fun e => own_ne_cs h.fo.own h.cs (by decide) _ e rfl)
  have O6 : Only (fun q => q = g) w5 (w5.setCell ⟨g, 6, none⟩ (.slice A' (gs.length + 1 : Nat) c')) := (Only.refl _ _).at_ 6 _
  have E6 : Ext w (w5.setCell ⟨g, 6, none⟩ (.slice A' (gs.length + 1 : Nat) c')) := F5.ext.trans O6 fun q hq e => by have e : q = g := e; have := h.hg; omega
  have OA : Only (Gfp g a way.length done.length gs.length) u (w5.setCell ⟨g, 6, none⟩ (.slice A' (gs.length + 1 : Nat) c')) := (O5.weak fun q _ e => .inr (.inr (.inr e))).trans O6 fun q _ e => .inl e
  have hst : ∀ q, Gfp g { a with oA := A', oc := c' } way.length done.length (gs ++ [t]).length q → Gfp g a way.length done.length gs.length q ∨ u.heap.size ≤ q := by
    rintro q (e | e | e | e)
    · exact .inl (.inl e)
    · exact .inl (.inr (.inl e))
    · exact .inl (.inr (.inr (.inl e)))
    · rw [List.length_append] at e
      rcases hb with hb | hb
      · exact .inl (.inr (.inr (.inr (hb.symm.trans e))))
      · have h3 : some u.heap.size = some q := hb.symm.trans e
        injection h3 with h3
        exact .inr (by omega)
  have hall : ∀ x ∈ gs ++ [t], RbS (Gfp g a way.length done.length gs.length) u x.1.tA x.2.targets ∧ RbS (Gfp g a way.length done.length gs.length) u x.1.nA x.2.needs ∧ RbS (Gfp g a way.length done.length gs.length) u x.1.cA x.2.cmds := fun x hm => by
    rcases List.mem_append.1 hm with hm | hm
    · exact h.rw x hm
    · simp at hm; rw [hm]; exact ht
  refine ⟨?_, D5.keep O6 E6 (own_ne_cs D5.own c5 (by decide)), G5.keep O6 E6 (own_ne_cs G5.own c5 (by decide)), F5.keep O6 E6 (own_ne_cs F5.own c5 (by decide)), h.hg, h.wd, fun x hm => ⟨(hall x hm).1.step OA hst, (hall x hm).2.1.step OA hst, (hall x hm).2.2.step OA hst⟩⟩
  have := c5.set_ 6 (.slice A' (gs.length + 1 : Nat) c')
  rw [List.length_append]
  exact this
theorem own_take {w : World} {B : Nat} {e : TypeId} {A : Option Addr} {n c k : Nat} {xs : List Value} (h : w.ownsRow B e 1 (.slice A n c) n xs) (hk : k ≤ n) : w.ownsRow B e 1 (.slice A k c) k (xs.take k) := by
  obtain ⟨hl, h⟩ := h
  refine ⟨by rw [List.length_take]; omega, ?_⟩
  rcases h with ⟨h1, h2⟩ | ⟨g, cap, cur, h1, h3, h4, h5, h6, h7, h8⟩
  · injection h1 with h1 _ h3
    subst h1
    obtain rfl : k = 0 := by omega
    have h9 : c = 0 := by omega
    subst h9
    exact .inl ⟨rfl, rfl⟩
  · injection h1 with h1 _ h2
    subst h1
    have h9 : c = cap := by omega
    subst h9
    refine .inr ⟨g, c, cur, rfl, h3, h4, by omega, h6, h7, ?_⟩
    rw [← h8, List.take_take]
    congr 1
    omega
theorem Gw.cutW {k : Nat} (h : Gw w u g v m lA lc ll a way done gs) (hk : k ≤ way.length) : Gw w (u.setCell ⟨g, 4, none⟩ (.slice a.wA k a.wc)) g v m lA lc ll a (way.take k) done gs := by
  have hl : (way.take k).length = k := by rw [List.length_take]; omega
  have O6 : Only (fun q => q = g) u (u.setCell ⟨g, 4, none⟩ (.slice a.wA k a.wc)) := (Only.refl _ _).at_ 4 _
  have E6 : Ext w (u.setCell ⟨g, 4, none⟩ (.slice a.wA k a.wc)) := h.x.trans O6 fun q hq e => by have e : q = g := e; have := h.hg; omega
  have hob : ∀ n, (Value.slice a.wA n a.wc).ownBlock = (Value.slice a.wA way.length a.wc).ownBlock := fun n => by cases a.wA <;> rfl
  have OA : Only (Gfp g a way.length done.length gs.length) u (u.setCell ⟨g, 4, none⟩ (.slice a.wA k a.wc)) := O6.weak fun q _ e => .inl e
  have hst : ∀ q, Gfp g a (way.take k).length done.length gs.length q → Gfp g a way.length done.length gs.length q ∨ u.heap.size ≤ q := by
    rintro q (e | e | e)
    · exact .inl (.inl e)
    · exact .inl (.inr (.inl ((hob _).symm.trans e)))
    · exact .inl (.inr (.inr e))
  have hF : Fresh strF 9 w u a.wA a.wc (way.take k) := by
    refine ⟨?_, h.x, fun q hq => h.fw.new q ((hob _).symm.trans hq)⟩
    have h1 := own_take h.fw.own hk
    rw [hl]
    have h2 : (way.take k).flatMap strF.enc = (way.flatMap strF.enc).take k := by
      have : ∀ l : List Str, l.flatMap strF.enc = l.map S := fun l => by induction l with
        | nil => rfl
        | cons x xs ih => rw [List.flatMap_cons, ih]; rfl
      rw [this, this, List.map_take]
    rw [h2]
    exact h1
  refine ⟨?_, hF.keep O6 E6 (own_ne_cs hF.own h.cs (by decide)), h.fd.keep O6 E6 (own_ne_cs h.fd.own h.cs (by decide)), h.fo.keep O6 E6 (own_ne_cs h.fo.own h.cs (by decide)), h.hg, fun q h1 h2 => h.wd q ((hob _).symm.trans h1) h2, fun x hm => ⟨(h.rw x hm).1.step OA hst, (h.rw x hm).2.1.step OA hst, (h.rw x hm).2.2.step OA hst⟩⟩
  have := h.cs.set_ 4 (.slice a.wA k a.wc)
  rw [hl]
  exact this
end
def DoneOk (m : Mk) (l : List File) (done : List Str) (out : List Grp) : Prop :=
  ∃ fs : List Str, fs.Nodup ∧ (∀ x ∈ fs, isF l x = true ∧ ruleF m l x = none) ∧ done.length = fs.length + (out.flatMap (·.targets)).length ∧ ∀ n, n ∈ done ↔ n ∈ fs ∨ n ∈ out.flatMap (·.targets)
section
variable {m : Mk} {l : List File} {done way : List Str} {out : List Grp} {n : Str}
theorem DoneOk.nil : DoneOk m l [] [] := ⟨[], by simp, (fun x hx => by cases hx), rfl, by simp⟩
theorem DoneOk.file (h : DoneOk m l done out) (hn : n ∉ done) (hf : isF l n = true) (hr : ruleF m l n = none) : DoneOk m l (done ++ [n]) out := by
  obtain ⟨fs, h1, h2, h3, h4⟩ := h
  refine ⟨fs ++ [n], ?_, ?_, ?_, ?_⟩
  · rw [List.nodup_append]
    refine ⟨h1, by simp, ?_⟩
    intro a ha b hb e
    simp at hb
    subst e; subst hb
    exact hn ((h4 _).2 (.inl ha))
  · intro x hx
    rcases List.mem_append.1 hx with hx | hx
    · exact h2 x hx
    · simp at hx; rw [hx]; exact ⟨hf, hr⟩
  · simp only [List.length_append, List.length_cons, List.length_nil]; omega
  · intro k
    simp only [List.mem_append, h4, List.mem_cons, List.not_mem_nil, or_false]
    constructor
    · rintro ((h | h) | h)
      · exact .inl (.inl h)
      · exact .inr h
      · exact .inl (.inr h)
    · rintro ((h | h) | h)
      · exact .inl (.inl h)
      · exact .inr h
      · exact .inl (.inr h)
theorem DoneOk.grp {g : Grp} (h : DoneOk m l done out) : DoneOk m l (done ++ g.targets) (out ++ [g]) := by
  obtain ⟨fs, h1, h2, h3, h4⟩ := h
  refine ⟨fs, h1, h2, ?_, ?_⟩
  · simp only [List.length_append, List.flatMap_append, List.flatMap_cons, List.flatMap_nil, List.append_nil]; omega
  · intro k
    simp only [List.mem_append, h4, List.flatMap_append, List.flatMap_cons, List.flatMap_nil, List.append_nil]
    constructor
    · rintro ((h | h) | h)
      · exact .inl h
      · exact .inr (.inl h)
      · exact .inr (.inr h)
    · rintro (h | h | h)
      · exact .inl (.inl h)
      · exact .inl (.inr h)
      · exact .inr h
theorem maker_some {n : Str} : (makerF out n).isSome = true ↔ n ∈ out.flatMap (·.targets) := by
  unfold makerF
  rw [List.findIdx?_isSome, List.any_eq_true, List.mem_flatMap]
  constructor
  · rintro ⟨g, h1, h2⟩; exact ⟨g, h1, by simpa [inS] using h2⟩
  · rintro ⟨g, h1, h2⟩; exact ⟨g, h1, by simpa [inS] using h2⟩
theorem visit_done (h : DoneOk m l done out) (hw : inS way n = false) (hd : inS done n = true) (f : Nat) : visitF m l (f + 1) way out n = (out, 0) := by
  obtain ⟨fs, h1, h2, h3, h4⟩ := h
  have hd : n ∈ done := by simpa [inS] using hd
  rw [visitF, if_neg (by rw [hw]; decide)]
  by_cases hm : (makerF out n).isSome = true
  · rw [if_pos hm]
  · rw [if_neg hm]
    rcases (h4 n).1 hd with hx | hx
    · obtain ⟨q1, q2⟩ := h2 n hx
      rw [q2]
      show (if isF l n = true then (out, (0 : Int)) else (out, 5)) = _
      rw [if_pos q1]
    · exact absurd (maker_some.2 hx) hm
theorem not_done (h : DoneOk m l done out) (hd : inS done n = false) : (makerF out n).isSome = false := by
  obtain ⟨fs, h1, h2, h3, h4⟩ := h
  have hd : ¬ n ∈ done := by simpa [inS] using hd
  rw [← Bool.not_eq_true, maker_some]
  exact fun e => hd ((h4 n).2 (.inr e))
theorem nodup_sub : ∀ {a b : List Str}, a.Nodup → (∀ x ∈ a, x ∈ b) → a.length ≤ b.length
  | [], _, _, _ => Nat.zero_le _
  | x :: xs, b, hn, hs => by
    have hx := hs x (by simp)
    rw [List.nodup_cons] at hn
    have := nodup_sub (b := b.erase x) hn.2 fun y hy => (List.mem_erase_of_ne (show y ≠ x from fun e => hn.1 (by rw [← e]; exact hy))).2 (hs y (List.mem_cons_of_mem _ hy))
    rw [List.length_erase_of_mem hx] at this
    have := List.length_pos_of_mem hx
    simp only [List.length_cons]
    omega
theorem flat_le : ∀ {out : List Grp}, (∀ g ∈ out, g.targets.length ≤ 2) → (out.flatMap (·.targets)).length ≤ 2 * out.length
  | [], _ => by simp
  | g :: gs, h => by
    have h1 := h g (by simp)
    have h2 := flat_le (out := gs) fun x hx => h x (List.mem_cons_of_mem _ hx)
    simp only [List.flatMap_cons, List.length_append, List.length_cons]
    omega
theorem DoneOk.len (h : DoneOk m l done out) (ho : out.length ≤ 10) (ht : ∀ g ∈ out, g.targets.length ≤ 2) : done.length ≤ l.length + 20 := by
  obtain ⟨fs, h1, h2, h3, h4⟩ := h
  have a1 := flat_le ht
  have a2 : fs.length ≤ (l.map (·.1)).length := by
    refine nodup_sub h1 fun x hx => ?_
    obtain ⟨y, hy⟩ := Option.isSome_iff_exists.1 (h2 x hx).1
    unfold getL at hy
    have e := List.find?_some hy
    simp only [decide_eq_true_eq] at e
    exact e ▸ List.mem_map_of_mem (List.mem_of_find?_eq_some hy)
  rw [List.length_map] at a2
  omega
end
end Go.Proofs.YtnhaekifcieeoaaGreatDoor
