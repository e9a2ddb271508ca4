/- record.Parse: its memory. -/
import Derived.Test.YtfbpiafhgkhoiaaDoorRcd
import Derived.Test.YtfbpiafhgkhoiaaDoorRdr
import Derived.Test.YtfbpiafhgkhoiaaDoorName
namespace Go.Proofs.YtfbpiafhgkhoiaaDoor
open Go Go.RowKit
theorem own_cs {w : World} {B : Nat} {e : TypeId} {size n : Nat} {x : Value} {xs : List Value} (h : w.ownsRow B e size x n xs) {g : Nat} (hg : x.ownBlock = some g) : ∃ cur, Cs w g e cur := by
  rcases h.2 with ⟨rfl, _⟩ | ⟨g', cap, cur, rfl, hb, hh, _⟩
  · simp [Value.ownBlock] at hg
  · simp [Value.ownBlock] at hg
    subst hg
    exact ⟨cur, hh⟩
theorem own_ne_cs {w : World} {B : Nat} {e t : TypeId} {size n g : Nat} {x : Value} {xs : List Value} {cs : Array Value} (h : w.ownsRow B e size x n xs) (hc : Cs w g t cs) (hne : e ≠ t) : ∀ b, x.ownBlock = some b → ¬ b = g := by
  rintro b hb rfl
  obtain ⟨cur, h1⟩ := own_cs h hb
  exact Cs.ne_ h1 hc hne rfl
theorem own_ne_own {w : World} {B B' : Nat} {e t : TypeId} {size size' n n' : Nat} {x y : Value} {xs ys : List Value} (h : w.ownsRow B e size x n xs) (h' : w.ownsRow B' t size' y n' ys) (hne : e ≠ t) : ∀ b, x.ownBlock = some b → y.ownBlock ≠ some b := by
  intro b hb hb'
  obtain ⟨cur, h1⟩ := own_cs h hb
  obtain ⟨cur', h2⟩ := own_cs h' hb'
  exact Cs.ne_ h1 h2 hne rfl
theorem Fresh.keep {α : Type} {T : Flat α} {t : TypeId} {w wr u : World} {A : Option Addr} {c : Nat} {xs : List α} {F : Nat → Prop} (h : Fresh T t w wr A c xs) (hx : Only F wr u) (hE : Ext w u) (hn : ∀ g, (Value.slice A xs.length c).ownBlock = some g → ¬ F g) : Fresh T t w u A c xs := ⟨own_keep h.own hx hn, hE, h.new⟩
structure PAt (w wr : World) (g2 g4 g8 : Nat) (s : Str) (bad : Bool) (v : RcdV) (cs : List Str) (nd od : List File) : Prop where
  rd : RdAt wr g4 s bad
  rc : Cs wr g8 rcT #[.slice v.cA cs.length v.cc, .slice v.nA nd.length v.nc, .slice v.oA od.length v.oc]
  rs : Cs wr g2 rcT #[.slice none 0 0, .slice none 0 0, .slice none 0 0]
  fc : Fresh strF 9 w wr v.cA v.cc cs
  fn : Fresh fileF 45 w wr v.nA v.nc nd
  fo : Fresh fileF 45 w wr v.oA v.oc od
  ne : ∀ g, (Value.slice v.nA nd.length v.nc).ownBlock = some g → (Value.slice v.oA od.length v.oc).ownBlock ≠ some g
  n2 : w.heap.size ≤ g2
  n4 : w.heap.size ≤ g4
  n8 : w.heap.size ≤ g8
  n28 : g2 ≠ g8
section
variable {w wr u : World} {g2 g4 g8 : Nat} {s s' : Str} {bad bad' : Bool} {v : RcdV} {cs : List Str} {nd od : List File}
theorem PAt.x (h : PAt w wr g2 g4 g8 s bad v cs nd od) : Ext w wr := h.fc.ext
theorem PAt.ext (h : PAt w wr g2 g4 g8 s bad v cs nd od) (hx : Ext wr u) : PAt w u g2 g4 g8 s bad v cs nd od :=
  ⟨h.rd.ext hx, h.rc.keep hx id, h.rs.keep hx id, h.fc.on hx, h.fn.on hx, h.fo.on hx, h.ne, h.n2, h.n4, h.n8, h.n28⟩
/-- The reader has been turned. -/
theorem PAt.read (h : PAt w wr g2 g4 g8 s bad v cs nd od) (hr : RdAt u g4 s' bad') (hx : Only (fun b => b = g4) wr u) : PAt w u g2 g4 g8 s' bad' v cs nd od := by
  have hE : Ext w u := h.x.trans hx fun b hb e => by have e : b = g4 := e; have := h.n4; omega
  exact ⟨hr, h.rc.keep hx (fun e => Cs.ne_ h.rc h.rd (by decide) e), h.rs.keep hx (fun e => Cs.ne_ h.rs h.rd (by decide) e),
    h.fc.keep hx hE (own_ne_cs h.fc.own h.rd (by decide)), h.fn.keep hx hE (own_ne_cs h.fn.own h.rd (by decide)), h.fo.keep hx hE (own_ne_cs h.fo.own h.rd (by decide)), h.ne, h.n2, h.n4, h.n8, h.n28⟩
/-- Another block of the call's own has been written. -/
theorem PAt.away (h : PAt w wr g2 g4 g8 s bad v cs nd od) {g : Nat} (hx : Only (fun b => b = g) wr u) (hw : w.heap.size ≤ g) (h2 : g2 ≠ g) (h4 : g4 ≠ g) (h8 : g8 ≠ g)
    (hc : ∀ b, (Value.slice v.cA cs.length v.cc).ownBlock = some b → ¬ b = g) (hn : ∀ b, (Value.slice v.nA nd.length v.nc).ownBlock = some b → ¬ b = g) (ho : ∀ b, (Value.slice v.oA od.length v.oc).ownBlock = some b → ¬ b = g) : PAt w u g2 g4 g8 s bad v cs nd od := by
  have hE : Ext w u := h.x.trans hx fun b hb e => by have e : b = g := e; omega
  exact ⟨Cs.keep h.rd hx h4, h.rc.keep hx h8, h.rs.keep hx h2, h.fc.keep hx hE hc, h.fn.keep hx hE hn, h.fo.keep hx hE ho, h.ne, h.n2, h.n4, h.n8, h.n28⟩
theorem PAt.own_lt (h : PAt w wr g2 g4 g8 s bad v cs nd od) : (∀ b, (Value.slice v.cA cs.length v.cc).ownBlock = some b → b < wr.heap.size) ∧ (∀ b, (Value.slice v.nA nd.length v.nc).ownBlock = some b → b < wr.heap.size) ∧ (∀ b, (Value.slice v.oA od.length v.oc).ownBlock = some b → b < wr.heap.size) := by
  refine ⟨fun b hb => ?_, fun b hb => ?_, fun b hb => ?_⟩
  · obtain ⟨_, hc⟩ := own_cs h.fc.own hb; exact hc.lt
  · obtain ⟨_, hc⟩ := own_cs h.fn.own hb; exact hc.lt
  · obtain ⟨_, hc⟩ := own_cs h.fo.own hb; exact hc.lt
/-- A part of the record has grown, and is laid. -/
theorem PAt.growC (h : PAt w u g2 g4 g8 s bad v cs nd od) {A' : Option Addr} {c' : Nat} {w5 : World} {t : Str}
    (hown : w5.ownsRow 0 9 1 (.slice A' (cs.length + 1 : Nat) c') (cs.length + 1) (cs.flatMap strF.enc ++ [t].flatMap strF.enc)) (hg : u.grownBy w5 (Value.slice v.cA cs.length v.cc).ownBlock)
    (hb : (Value.slice A' (cs.length + 1 : Nat) c').ownBlock = (Value.slice v.cA cs.length v.cc).ownBlock ∨ (Value.slice A' (cs.length + 1 : Nat) c').ownBlock = some u.heap.size) :
    PAt w (w5.setCell ⟨g8, 0, none⟩ (.slice A' (cs.length + 1 : Nat) c')) g2 g4 g8 s bad { v with cA := A', cc := c' } (cs ++ [t]) nd od := by
  have O5 : Only (fun b => (Value.slice v.cA cs.length v.cc).ownBlock = some b) u w5 := (Only.refl _ _).grown hg fun g e => .inr e
  have F5 := h.fc.grow (ys := [t]) rfl hown hg hb
  have N5 := h.fn.keep O5 F5.ext (fun g h1 h2 => own_ne_own h.fn.own h.fc.own (by decide) g h1 h2)
  have P5 := h.fo.keep O5 F5.ext (fun g h1 h2 => own_ne_own h.fo.own h.fc.own (by decide) g h1 h2)
  have c5 := h.rc.keep O5 (fun e => own_ne_cs h.fc.own h.rc (by decide) _ e rfl)
  have s5 := h.rs.keep O5 (fun e => own_ne_cs h.fc.own h.rs (by decide) _ e rfl)
  have r5 : RdAt w5 g4 s bad := Cs.keep h.rd O5 (fun e => own_ne_cs h.fc.own h.rd (by decide) _ e rfl)
  have O6 : Only (fun b => b = g8) w5 (w5.setCell ⟨g8, 0, none⟩ (.slice A' (cs.length + 1 : Nat) c')) := (Only.refl _ _).at_ 0 _
  have E6 : Ext w (w5.setCell ⟨g8, 0, none⟩ (.slice A' (cs.length + 1 : Nat) c')) := F5.ext.trans O6 fun b hb e => by have e : b = g8 := e; have := h.n8; omega
  refine ⟨Cs.keep r5 O6 (fun e => Cs.ne_ c5 r5 (by decide) e.symm), ?_, s5.keep O6 h.n28, F5.keep O6 E6 (own_ne_cs F5.own c5 (by decide)), N5.keep O6 E6 (own_ne_cs N5.own c5 (by decide)), P5.keep O6 E6 (own_ne_cs P5.own c5 (by decide)), h.ne, h.n2, h.n4, h.n8, h.n28⟩
  have := c5.set_ 0 (.slice A' (cs.length + 1 : Nat) c')
  rw [List.length_append]
  exact this
theorem PAt.growN (h : PAt w u g2 g4 g8 s bad v cs nd []) (ho : v.oA = none) {A' : Option Addr} {c' : Nat} {w5 : World} {t : File}
    (hown : w5.ownsRow 0 45 2 (.slice A' (nd.length + 1 : Nat) c') (nd.length + 1) (nd.flatMap fileF.enc ++ [t].flatMap fileF.enc)) (hg : u.grownBy w5 (Value.slice v.nA nd.length v.nc).ownBlock)
    (hb : (Value.slice A' (nd.length + 1 : Nat) c').ownBlock = (Value.slice v.nA nd.length v.nc).ownBlock ∨ (Value.slice A' (nd.length + 1 : Nat) c').ownBlock = some u.heap.size) :
    PAt w (w5.setCell ⟨g8, 1, none⟩ (.slice A' (nd.length + 1 : Nat) c')) g2 g4 g8 s bad { v with nA := A', nc := c' } cs (nd ++ [t]) [] := by
  have O5 : Only (fun b => (Value.slice v.nA nd.length v.nc).ownBlock = some b) u w5 := (Only.refl _ _).grown hg fun g e => .inr e
  have F5 := h.fn.grow (ys := [t]) rfl hown hg hb
  have N5 := h.fc.keep O5 F5.ext (fun g h1 h2 => own_ne_own h.fc.own h.fn.own (by decide) g h1 h2)
  have P5 := h.fo.keep O5 F5.ext (fun g h1 h2 => by rw [ho] at h1; simp [Value.ownBlock] at h1)
  have c5 := h.rc.keep O5 (fun e => own_ne_cs h.fn.own h.rc (by decide) _ e rfl)
  have s5 := h.rs.keep O5 (fun e => own_ne_cs h.fn.own h.rs (by decide) _ e rfl)
  have r5 : RdAt w5 g4 s bad := Cs.keep h.rd O5 (fun e => own_ne_cs h.fn.own h.rd (by decide) _ e rfl)
  have O6 : Only (fun b => b = g8) w5 (w5.setCell ⟨g8, 1, none⟩ (.slice A' (nd.length + 1 : Nat) c')) := (Only.refl _ _).at_ 1 _
  have E6 : Ext w (w5.setCell ⟨g8, 1, none⟩ (.slice A' (nd.length + 1 : Nat) c')) := F5.ext.trans O6 fun b hb e => by have e : b = g8 := e; have := h.n8; omega
  refine ⟨Cs.keep r5 O6 (fun e => Cs.ne_ c5 r5 (by decide) e.symm), ?_, s5.keep O6 h.n28, N5.keep O6 E6 (own_ne_cs N5.own c5 (by decide)), F5.keep O6 E6 (own_ne_cs F5.own c5 (by decide)), P5.keep O6 E6 (own_ne_cs P5.own c5 (by decide)), fun g _ h2 => by simp [ho, Value.ownBlock] at h2, h.n2, h.n4, h.n8, h.n28⟩
  have := c5.set_ 1 (.slice A' (nd.length + 1 : Nat) c')
  rw [List.length_append]
  exact this
theorem PAt.growO (h : PAt w u g2 g4 g8 s bad v cs nd od) {A' : Option Addr} {c' : Nat} {w5 : World} {t : File}
    (hown : w5.ownsRow 0 45 2 (.slice A' (od.length + 1 : Nat) c') (od.length + 1) (od.flatMap fileF.enc ++ [t].flatMap fileF.enc)) (hg : u.grownBy w5 (Value.slice v.oA od.length v.oc).ownBlock)
    (hb : (Value.slice A' (od.length + 1 : Nat) c').ownBlock = (Value.slice v.oA od.length v.oc).ownBlock ∨ (Value.slice A' (od.length + 1 : Nat) c').ownBlock = some u.heap.size) :
    PAt w (w5.setCell ⟨g8, 2, none⟩ (.slice A' (od.length + 1 : Nat) c')) g2 g4 g8 s bad { v with oA := A', oc := c' } cs nd (od ++ [t]) := by
  have O5 : Only (fun b => (Value.slice v.oA od.length v.oc).ownBlock = some b) u w5 := (Only.refl _ _).grown hg fun g e => .inr e
  have F5 := h.fo.grow (ys := [t]) rfl hown hg hb
  have N5 := h.fc.keep O5 F5.ext (fun g h1 h2 => own_ne_own h.fc.own h.fo.own (by decide) g h1 h2)
  have P5 := h.fn.keep O5 F5.ext (fun g h1 h2 => h.ne g h1 h2)
  have c5 := h.rc.keep O5 (fun e => own_ne_cs h.fo.own h.rc (by decide) _ e rfl)
  have s5 := h.rs.keep O5 (fun e => own_ne_cs h.fo.own h.rs (by decide) _ e rfl)
  have r5 : RdAt w5 g4 s bad := Cs.keep h.rd O5 (fun e => own_ne_cs h.fo.own h.rd (by decide) _ e rfl)
  have O6 : Only (fun b => b = g8) w5 (w5.setCell ⟨g8, 2, none⟩ (.slice A' (od.length + 1 : Nat) c')) := (Only.refl _ _).at_ 2 _
  have E6 : Ext w (w5.setCell ⟨g8, 2, none⟩ (.slice A' (od.length + 1 : Nat) c')) := F5.ext.trans O6 fun b hb e => by have e : b = g8 := e; have := h.n8; omega
  refine ⟨Cs.keep r5 O6 (fun e => Cs.ne_ c5 r5 (by decide) e.symm), ?_, s5.keep O6 h.n28, N5.keep O6 E6 (own_ne_cs N5.own c5 (by decide)), P5.keep O6 E6 (own_ne_cs P5.own c5 (by decide)), F5.keep O6 E6 (own_ne_cs F5.own c5 (by decide)), fun g h1 h2 => ?_, h.n2, h.n4, h.n8, h.n28⟩
  · have := c5.set_ 2 (.slice A' (od.length + 1 : Nat) c')
    rw [List.length_append]
    exact this
  · rw [List.length_append] at h2
    rcases hb with hb | hb
    · exact h.ne g h1 (hb.symm.trans h2)
    · have h3 : some u.heap.size = some g := hb.symm.trans h2
      injection h3 with h3
      obtain ⟨cur, hc⟩ := own_cs h.fn.own h1
      have := hc.lt
      omega
end
def cmdsF : Nat → Str → Bool → Str × Bool × List Str
  | 0, s, b => (s, b, [])
  | k + 1, s, b => ((cmdsF k (txtF s b 300).1 (txtF s b 300).2.1).1, (cmdsF k (txtF s b 300).1 (txtF s b 300).2.1).2.1, (txtF s b 300).2.2 :: (cmdsF k (txtF s b 300).1 (txtF s b 300).2.1).2.2)
/-- One file of a record. -/
def filF (s : Str) (b : Bool) : Str × Bool × File :=
  ((txtF (uptoF s b 32).1 (uptoF s b 32).2.1 20).1, (txtF (uptoF s b 32).1 (uptoF s b 32).2.1 20).2.1 || !nameB (uptoF s b 32).2.2, ((uptoF s b 32).2.2, (txtF (uptoF s b 32).1 (uptoF s b 32).2.1 20).2.2))
def filsF : Nat → Str → Bool → Str × Bool × List File
  | 0, s, b => (s, b, [])
  | k + 1, s, b => ((filsF k (filF s b).1 (filF s b).2.1).1, (filsF k (filF s b).1 (filF s b).2.1).2.1, (filF s b).2.2 :: (filsF k (filF s b).1 (filF s b).2.1).2.2)
theorem txtF_len (s : Str) (b : Bool) (most : Int) (hm : 0 ≤ most) : (txtF s b most).1.length ≤ s.length ∧ (txtF s b most).2.2.length ≤ s.length ∧ ((txtF s b most).2.2.length : Int) ≤ most := by
  obtain ⟨h1, h2, h3⟩ := numF_facts s b 58 most hm
  unfold txtF
  split
  · refine ⟨?_, ?_, ?_⟩
    · simp only [List.length_drop]; omega
    · simp only [List.length_take]; omega
    · simp only [List.length_take]; omega
  · exact ⟨h1, Nat.zero_le _, by simpa using hm⟩
theorem filF_len (s : Str) (b : Bool) : (filF s b).1.length ≤ s.length ∧ (filF s b).2.2.1.length ≤ s.length ∧ (filF s b).2.2.2.length ≤ 20 := by
  have h1 := uptoF_len s b 32
  have h2 := txtF_len (uptoF s b 32).1 (uptoF s b 32).2.1 20 (by omega)
  exact ⟨Nat.le_trans h2.1 h1.1, h1.2, by have := h2.2.2; show (txtF (uptoF s b 32).1 (uptoF s b 32).2.1 20).2.2.length ≤ 20; omega⟩
end Go.Proofs.YtfbpiafhgkhoiaaDoor
