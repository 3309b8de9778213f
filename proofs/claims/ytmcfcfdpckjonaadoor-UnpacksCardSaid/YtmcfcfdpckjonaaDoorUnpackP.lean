/- wire.Unpack, rollback.Unpack and plain.Unpack of any bytes. Condition for plain.Unpack's refusal: errors.errorType holds reflectlite's handle of the type error. -/
import Derived.Test.YtmcfcfdpckjonaaDoorUnpackN
import Derived.Test.YtmcfcfdpckjonaaDoorUnpackY
import Derived.Test.YtmcfcfdpckjonaaDoorTold
namespace Go.Proofs.YtmcfcfdpckjonaaDoor
open Go.RowKit

/-- Are they a packet's bytes? -/
def valid (l : List UInt8) : Prop :=
  8 ≤ l.length ∧ l.length ≤ 72 ∧ l.getD 0 0 = 82 ∧ (l.getD 1 0).toNat < 4 ∧ (l.getD 6 0).toNat = l.length - 8 ∧ chk (l.take (l.length - 1)) = l.getD (l.length - 1) 0
instance (l : List UInt8) : Decidable (valid l) := by unfold valid; infer_instance
def inner (l : List UInt8) : List UInt8 := (l.take (l.length - 1)).drop 7
def startOf (l : List UInt8) : Nat := 256 * (l.getD 2 0).toNat + (l.getD 3 0).toNat
def ackOf (l : List UInt8) : Nat := 256 * (l.getD 4 0).toNat + (l.getD 5 0).toNat

theorem Holds.take {w : World} {g off : Nat} {l : List UInt8} (h : Holds w g off l) (k : Nat) : Holds w g off (l.take k) := fun j hj => by
  have h1 : j < k ∧ j < l.length := by simp at hj; omega
  rw [h j h1.2, List.getD_eq_getElem?_getD, List.getD_eq_getElem?_getD, List.getElem?_take, if_pos h1.1]
theorem Holds.drop {w : World} {g off : Nat} {l : List UInt8} (h : Holds w g off l) (k : Nat) : Holds w g (off + k) (l.drop k) := fun j hj => by
  have h1 : k + j < l.length := by simp at hj; omega
  rw [Nat.add_assoc, h (k + j) h1, List.getD_eq_getElem?_getD, List.getD_eq_getElem?_getD, List.getElem?_drop]

theorem bne_of {a b : Int} (h : a ≠ b) : (a != b) = true ∧ (a == b) = false := ⟨by rw [bne_iff_ne]; exact h, by rw [beq_eq_false_iff_ne]; exact h⟩
theorem beq_of {a b : Int} (h : a = b) : (a != b) = false ∧ (a == b) = true := ⟨by subst h; simp, by subst h; simp⟩
theorem toNat_ne {a b : UInt8} (h : a ≠ b) : (a.toNat : Int) ≠ (b.toNat : Int) := fun e => h (UInt8.toNat_inj.1 (by omega))

theorem cellZ {w : World} {g : Nat} {l : List UInt8} (hg : g < w.heap.size) (h : Holds w g 0 l) (j : Nat) (hj : j < l.length) :
    (w.alloc (.cells #[.int .i64 0, .int .i64 0, .int .i64 0, .slice none 0 0] 28)).cell? ⟨g, j, none⟩ = some (.int .u8 ((l.getD j 0).toNat : Int)) := by
  rw [World.cell?_alloc_lt _ _ _ hg]
  have := h j hj
  rwa [Nat.zero_add] at this

theorem wireUnpack_no (g cap : Nat) (l : List UInt8) (w : World) (hl : l.length ≤ 65600) (hc : l.length ≤ cap) (hcap : cap ≤ 9223372036854775807) (hg : g < w.heap.size) (hh : Holds w g 0 l) (h : ¬ valid l) :
    Calls Tryd.prog 29 #[.slice (some ⟨g, 0, none⟩) l.length cap] w (NonePost w (.tuple #[noPacket, .iface 23 (.int .i64 5)])) := by
  unfold valid at h
  by_cases h1 : l.length < 8
  · exact wireUnpack_no1 g cap l.length w hl (decide_eq_true (by omega))
  have d0 : decide (((l.length : Nat) : Int) - 7 - 1 < 0) = false := decide_eq_false (by omega)
  by_cases h2 : 72 < l.length
  · exact wireUnpack_no2 g cap l.length w hl (by omega) d0 (decide_eq_true (by omega))
  have d1 : decide (64 < ((l.length : Nat) : Int) - 7 - 1) = false := decide_eq_false (by omega)
  have z0 := cellZ hg hh 0 (by omega)
  have z1 := cellZ hg hh 1 (by omega)
  have z6 := cellZ hg hh 6 (by omega)
  by_cases h3 : l.getD 0 0 = 82
  case neg =>
    have e := bne_of (toNat_ne h3)
    exact wireUnpack_no3 g cap l.length w hl (by omega) _ z0 d0 d1 e.1 e.2
  have e3 := beq_of (show ((l.getD 0 0).toNat : Int) = 82 by rw [h3]; rfl)
  by_cases h4 : (l.getD 1 0).toNat < 4
  case neg => exact wireUnpack_no4 g cap l.length w hl (by omega) _ _ z0 z1 d0 d1 e3.1 e3.2 (decide_eq_true (by omega))
  have d3 : decide ((4 : Int) ≤ ((l.getD 1 0).toNat : Int)) = false := decide_eq_false (by omega)
  by_cases h5 : (l.getD 6 0).toNat = l.length - 8
  case neg =>
    have e := bne_of (show ((l.getD 6 0).toNat : Int) ≠ ((l.length : Nat) : Int) - 7 - 1 by omega)
    exact wireUnpack_no5 g cap l.length w hl (by omega) _ _ _ z0 z1 z6 d0 d1 e3.1 e3.2 d3 e.1 e.2
  have e5 := beq_of (show ((l.getD 6 0).toNat : Int) = ((l.length : Nat) : Int) - 7 - 1 by omega)
  have h6 : chk (l.take (l.length - 1)) ≠ l.getD (l.length - 1) 0 := fun e => h ⟨by omega, by omega, h3, h4, h5, e⟩
  have e6 := bne_of (toNat_ne h6)
  exact wireUnpack_no6 g cap l.length w hl (by omega) _ _ _ (l.take (l.length - 1)) _ z0 z1 z6 (cellZ hg hh _ (by omega)) (by simp) hc hcap (hh.take _) hg d0 d1 e3.1 e3.2 d3 e5.1 e5.2 e6.1 e6.2

theorem wireUnpack_ok (g cap : Nat) (l : List UInt8) (w : World) (hc : l.length ≤ cap) (hcap : cap ≤ 9223372036854775807) (hg : g < w.heap.size) (hh : Holds w g 0 l) (h : valid l) :
    Calls Tryd.prog 29 #[.slice (some ⟨g, 0, none⟩) l.length cap] w (YesPost w.heap.size w (l.getD 1 0).toNat (startOf l) (ackOf l) (inner l) .nilIface) := by
  obtain ⟨h1, h2, h3, h4, h5, h6⟩ := h
  have d0 : decide (((l.length : Nat) : Int) - 7 - 1 < 0) = false := decide_eq_false (by omega)
  have d1 : decide (64 < ((l.length : Nat) : Int) - 7 - 1) = false := decide_eq_false (by omega)
  have e3 := beq_of (show ((l.getD 0 0).toNat : Int) = 82 by rw [h3]; rfl)
  have d3 : decide ((4 : Int) ≤ ((l.getD 1 0).toNat : Int)) = false := decide_eq_false (by omega)
  have e5 := beq_of (show ((l.getD 6 0).toNat : Int) = ((l.length : Nat) : Int) - 7 - 1 by omega)
  have e6 := beq_of (show ((chk (l.take (l.length - 1))).toNat : Int) = ((l.getD (l.length - 1) 0).toNat : Int) by rw [h6])
  have hM : Holds w g 7 (inner l) := by have := (hh.take (l.length - 1)).drop 7; rwa [Nat.zero_add] at this
  have es : ((startOf l : Nat) : Int) = 256 * ((l.getD 2 0).toNat : Int) + ((l.getD 3 0).toNat : Int) := by unfold startOf; omega
  have ea : ((ackOf l : Nat) : Int) = 256 * ((l.getD 4 0).toNat : Int) + ((l.getD 5 0).toNat : Int) := by unfold ackOf; omega
  rw [es, ea]
  exact wireUnpack_yes g cap l.length w (by omega) h1 _ _ _ (l.take (l.length - 1)) _ (cellZ hg hh 0 (by omega)) (cellZ hg hh 1 (by omega)) (cellZ hg hh 6 (by omega)) (cellZ hg hh _ (by omega)) (l.getD 2 0) (l.getD 3 0) (l.getD 4 0) (l.getD 5 0) (inner l) (by simp [inner]; omega) hM
    (cellZ hg hh 2 (by omega)) (cellZ hg hh 3 (by omega)) (cellZ hg hh 4 (by omega)) (cellZ hg hh 5 (by omega)) (by simp) hc hcap (hh.take _) hg d0 d1 e3.1 e3.2 d3 e5.1 e5.2 e6.1 e6.2

theorem holds_zalloc {w : World} {g : Nat} {l : List UInt8} (hg : g < w.heap.size) (h : Holds w g 0 l) (o : Obj) : Holds (w.alloc o) g 0 l := h.below ((Below.refl _ _).alloc (Nat.le_refl _) o) hg

set_option maxHeartbeats 1000000 in
set_option maxRecDepth 100000 in
theorem rbUnpack_no (g cap : Nat) (l : List UInt8) (w : World) (hl : l.length ≤ 65600) (hc : l.length ≤ cap) (hcap : cap ≤ 9223372036854775807) (hg : g < w.heap.size) (hh : Holds w g 0 l) (h : ¬ valid l) :
    Calls Tryd.prog 23 #[.slice (some ⟨g, 0, none⟩) l.length cap] w (NonePost w (.tuple #[noPacket, .iface 23 (.int .i64 5)])) := by
  have HH := Lib.hid (holds_zalloc hg hh (.cells #[.int .i64 0, .int .i64 0, .int .i64 0, .slice none 0 0] 28))
  have HV := Lib.hid h
  clear hh h
  go_enter Tryd.func23, Tryd.ntmps23
  go_wp2_with fail
  refine Calls.mono (wireUnpack_no g cap l _ hl hc hcap (by simp; omega) HH.out HV.out) ?_
  rintro e w1 ⟨rfl, hb⟩
  have hr : Row w1 w.heap.size 28 #[.int .i64 0, .int .i64 0, .int .i64 0, .slice none 0 0] := (Row.made w 28 _).under hb (by simp)
  have HB := Lib.hid (((Below.refl _ _).alloc (Nat.le_refl _) _).trans (hb.mono (by simp)) : Below w.heap.size w w1)
  have HR := Lib.hid hr
  unfold noPacket
  have r0 := hr.cellAt 0
  have r1 := hr.cellAt 1
  have r2 := hr.cellAt 2
  have r3 := hr.cellAt 3
  have f0 := hr.notFrozen 0
  have f1 := hr.notFrozen 1
  have f2 := hr.notFrozen 2
  have f3 := hr.notFrozen 3
  simp at r0 r1 r2 r3
  clear hr hb
  go_wp2
  have hfr := set4_row HR.out (.int .i64 0) (.int .i64 0) (.int .i64 0) (.slice none 0 0)
  have hfb := set4_below HB.out (Nat.le_refl _) (.int .i64 0) (.int .i64 0) (.int .i64 0) (.slice none 0 0)
  clear r0 r1 r2 r3 f0 f1 f2 f3
  generalize ((((w1.setCell ⟨w.heap.size, 0, none⟩ (.int .i64 0)).setCell ⟨w.heap.size, 1, none⟩ (.int .i64 0)).setCell ⟨w.heap.size, 2, none⟩ (.int .i64 0)).setCell ⟨w.heap.size, 3, none⟩ (.slice none 0 0)) = wf at *
  have q0 := hfr.cellAt 0
  have q1 := hfr.cellAt 1
  have q2 := hfr.cellAt 2
  have q3 := hfr.cellAt 3
  simp at q0 q1 q2 q3
  refine bodyPost_ret (v := .tuple #[noPacket, .iface 23 (.int .i64 5)]) ?_ rfl ⟨rfl, hfb⟩
  simp [results, Tryd.results23, go_sem, q0, q1, q2, q3, noPacket]

set_option maxHeartbeats 1000000 in
set_option maxRecDepth 100000 in
theorem rbUnpack_ok (g cap : Nat) (l : List UInt8) (w : World) (hc : l.length ≤ cap) (hcap : cap ≤ 9223372036854775807) (hg : g < w.heap.size) (hh : Holds w g 0 l) (h : valid l) :
    Calls Tryd.prog 23 #[.slice (some ⟨g, 0, none⟩) l.length cap] w (YesPost w.heap.size w (l.getD 1 0).toNat (startOf l) (ackOf l) (inner l) .nilIface) := by
  have HH := Lib.hid (holds_zalloc hg hh (.cells #[.int .i64 0, .int .i64 0, .int .i64 0, .slice none 0 0] 28))
  have HV := Lib.hid h
  clear hh h
  obtain ⟨x, hx⟩ : ∃ x : Int, x = ((l.getD 1 0).toNat : Int) := ⟨_, rfl⟩
  obtain ⟨y, hy⟩ : ∃ x : Int, x = ((startOf l : Nat) : Int) := ⟨_, rfl⟩
  obtain ⟨z, hz⟩ : ∃ x : Int, x = ((ackOf l : Nat) : Int) := ⟨_, rfl⟩
  obtain ⟨M, hM⟩ : ∃ M, M = inner l := ⟨_, rfl⟩
  have HX := Lib.hid (And.intro hx (And.intro hy (And.intro hz hM)))
  rw [← hx, ← hy, ← hz, ← hM]
  clear hx hy hz hM
  go_enter Tryd.func23, Tryd.ntmps23
  go_wp2_with fail
  have c1 := wireUnpack_ok g cap l (w.alloc (.cells #[.int .i64 0, .int .i64 0, .int .i64 0, .slice none 0 0] 28)) hc hcap (by simp; omega) HH.out HV.out
  rw [← HX.out.1, ← HX.out.2.1, ← HX.out.2.2.1, ← HX.out.2.2.2] at c1
  refine Calls.mono c1 ?_
  clear c1
  rintro e w1 ⟨g1, cap1, rfl, ho, hb⟩
  have hr : Row w1 w.heap.size 28 #[.int .i64 0, .int .i64 0, .int .i64 0, .slice none 0 0] := (Row.made w 28 _).under hb (by simp)
  have HB := Lib.hid (((Below.refl _ _).alloc (Nat.le_refl _) _).trans (hb.mono (by simp)) : Below w.heap.size w w1)
  have HR := Lib.hid hr
  have HO := Lib.hid ho
  have r0 := hr.cellAt 0
  have r1 := hr.cellAt 1
  have r2 := hr.cellAt 2
  have r3 := hr.cellAt 3
  have f0 := hr.notFrozen 0
  have f1 := hr.notFrozen 1
  have f2 := hr.notFrozen 2
  have f3 := hr.notFrozen 3
  simp at r0 r1 r2 r3
  have hgb : g1 ≠ w.heap.size := by have := ho.1; simp at this; omega
  clear hr hb ho
  go_wp2
  have hfr := set4_row HR.out (.int .i64 x) (.int .i64 y) (.int .i64 z) (.slice (some ⟨g1, 0, none⟩) M.length cap1)
  have hfo := set4_own HO.out hgb (.int .i64 x) (.int .i64 y) (.int .i64 z) (.slice (some ⟨g1, 0, none⟩) M.length cap1)
  have hfb := set4_below HB.out (Nat.le_refl _) (.int .i64 x) (.int .i64 y) (.int .i64 z) (.slice (some ⟨g1, 0, none⟩) M.length cap1)
  clear r0 r1 r2 r3 f0 f1 f2 f3
  generalize ((((w1.setCell ⟨w.heap.size, 0, none⟩ (.int .i64 x)).setCell ⟨w.heap.size, 1, none⟩ (.int .i64 y)).setCell ⟨w.heap.size, 2, none⟩ (.int .i64 z)).setCell ⟨w.heap.size, 3, none⟩ (.slice (some ⟨g1, 0, none⟩) M.length cap1)) = wf at *
  have q0 := hfr.cellAt 0
  have q1 := hfr.cellAt 1
  have q2 := hfr.cellAt 2
  have q3 := hfr.cellAt 3
  simp at q0 q1 q2 q3
  refine bodyPost_ret (v := .tuple #[.agg #[.int .i64 x, .int .i64 y, .int .i64 z, .slice (some ⟨g1, 0, none⟩) M.length cap1], .nilIface]) ?_ rfl ⟨g1, cap1, rfl, hfo.more (by simp), hfb⟩
  simp [results, Tryd.results23, go_sem, q0, q1, q2, q3]
end Go.Proofs.YtmcfcfdpckjonaaDoor
