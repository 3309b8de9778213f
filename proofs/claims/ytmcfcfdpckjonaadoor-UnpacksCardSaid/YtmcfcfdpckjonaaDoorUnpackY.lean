/- wire.Unpack of a packet's bytes. -/
import Derived.Test.YtmcfcfdpckjonaaDoorUnpack
import Derived.Deep.RegionHeld3
namespace Go.Proofs.YtmcfcfdpckjonaaDoor
open Go.RowKit

theorem wraps_i64 (n : Int) (h₀ : 0 ≤ n) (h₁ : n < 2 ^ 63) : IntKind.i64.wrap n = n := by rw [IntKind.wrap_i64]; omega
theorem or_256 (a b : UInt8) : bits .or .i64 ((a.toNat : Int) * 256) (b.toNat : Int) = 256 * (a.toNat : Int) + (b.toNat : Int) := by
  have h1 := a.toNat_lt
  have h2 := b.toNat_lt
  rw [bits_join .i64 63 (by decide) wraps_i64 8 _ _ (by omega) (by omega) (by omega) (by omega) (by omega) (by omega)]
  omega
theorem set4_far (w : World) {b g : Nat} (hne : b ≠ g) (i : Nat) (v0 v1 v2 v3 : Value) : ((((w.setCell ⟨b, 0, none⟩ v0).setCell ⟨b, 1, none⟩ v1).setCell ⟨b, 2, none⟩ v2).setCell ⟨b, 3, none⟩ v3).cell? ⟨g, i, none⟩ = w.cell? ⟨g, i, none⟩ := by
  have h : ∀ j : Nat, (⟨b, j, none⟩ : Addr) ≠ ⟨g, i, none⟩ := fun j e => hne (by injection e)
  rw [World.cell?_setCell_other _ _ _ _ (h 3), World.cell?_setCell_other _ _ _ _ (h 2), World.cell?_setCell_other _ _ _ _ (h 1), World.cell?_setCell_other _ _ _ _ (h 0)]
theorem set4_own {w : World} {b base g cap : Nat} {l : List UInt8} (h : Own w base g cap l) (hne : g ≠ b) (v0 v1 v2 v3 : Value) : Own ((((w.setCell ⟨b, 0, none⟩ v0).setCell ⟨b, 1, none⟩ v1).setCell ⟨b, 2, none⟩ v2).setCell ⟨b, 3, none⟩ v3) base g cap l := by
  obtain ⟨h1, h2, h3, cur, hr, h4⟩ := h
  exact ⟨h1, h2, h3, cur, (((hr.past (p := ⟨b, 0, none⟩) hne v0).past (p := ⟨b, 1, none⟩) hne v1).past (p := ⟨b, 2, none⟩) hne v2).past (p := ⟨b, 3, none⟩) hne v3, h4⟩
theorem set4_below {a w : World} {b B : Nat} (h : Below B a w) (hb : B ≤ b) (v0 v1 v2 v3 : Value) : Below B a ((((w.setCell ⟨b, 0, none⟩ v0).setCell ⟨b, 1, none⟩ v1).setCell ⟨b, 2, none⟩ v2).setCell ⟨b, 3, none⟩ v3) :=
  (((h.setCell (p := ⟨b, 0, none⟩) hb v0).setCell (p := ⟨b, 1, none⟩) hb v1).setCell (p := ⟨b, 2, none⟩) hb v2).setCell (p := ⟨b, 3, none⟩) hb v3
theorem set4_row {w : World} {b : Nat} {t : TypeId} {c0 c1 c2 c3 : Value} (hr : Row w b t #[c0, c1, c2, c3]) (v0 v1 v2 v3 : Value) : Row ((((w.setCell ⟨b, 0, none⟩ v0).setCell ⟨b, 1, none⟩ v1).setCell ⟨b, 2, none⟩ v2).setCell ⟨b, 3, none⟩ v3) b t #[v0, v1, v2, v3] :=
  (((hr.stored 0 v0).stored 1 v1).stored 2 v2).stored 3 v3
theorem keepCell {W w1 : World} (hb : Below W.heap.size W w1) {b i : Nat} {v : Value} (h : W.cell? ⟨b, i, none⟩ = some v) : w1.cell? ⟨b, i, none⟩ = some v := (hb.cell (World.block_lt_of_cell? _ _ h)).trans h
def YesPost (B : Nat) (w : World) (a b c : Int) (l : List UInt8) (u : Value) (e : Ending) (w' : World) : Prop :=
  ∃ g cap, e = .returned (.tuple #[.agg #[.int .i64 a, .int .i64 b, .int .i64 c, .slice (some ⟨g, 0, none⟩) l.length cap], u]) ∧ Own w' B g cap l ∧ Below w.heap.size w w'

set_option maxHeartbeats 8000000 in
set_option maxRecDepth 100000 in
theorem wireUnpack_yes (g cap n : Nat) (w : World) (hn : n ≤ 65600) (hp : 8 ≤ n) (x0 : UInt8) (x1 : UInt8) (x6 : UInt8) (L : List UInt8) (z : UInt8) (hc0 : (w.alloc (.cells #[.int .i64 0, .int .i64 0, .int .i64 0, .slice none 0 0] 28)).cell? ⟨g, 0, none⟩ = some (.int .u8 (x0.toNat : Int))) (hc1 : (w.alloc (.cells #[.int .i64 0, .int .i64 0, .int .i64 0, .slice none 0 0] 28)).cell? ⟨g, 1, none⟩ = some (.int .u8 (x1.toNat : Int))) (hc6 : (w.alloc (.cells #[.int .i64 0, .int .i64 0, .int .i64 0, .slice none 0 0] 28)).cell? ⟨g, 6, none⟩ = some (.int .u8 (x6.toNat : Int))) (hz : (w.alloc (.cells #[.int .i64 0, .int .i64 0, .int .i64 0, .slice none 0 0] 28)).cell? ⟨g, n - 1, none⟩ = some (.int .u8 (z.toNat : Int))) (x2 x3 x4 x5 : UInt8) (M : List UInt8) (hM : M.length = n - 8) (hhM : Holds w g 7 M) (hc2 : (w.alloc (.cells #[.int .i64 0, .int .i64 0, .int .i64 0, .slice none 0 0] 28)).cell? ⟨g, 2, none⟩ = some (.int .u8 (x2.toNat : Int))) (hc3 : (w.alloc (.cells #[.int .i64 0, .int .i64 0, .int .i64 0, .slice none 0 0] 28)).cell? ⟨g, 3, none⟩ = some (.int .u8 (x3.toNat : Int))) (hc4 : (w.alloc (.cells #[.int .i64 0, .int .i64 0, .int .i64 0, .slice none 0 0] 28)).cell? ⟨g, 4, none⟩ = some (.int .u8 (x4.toNat : Int))) (hc5 : (w.alloc (.cells #[.int .i64 0, .int .i64 0, .int .i64 0, .slice none 0 0] 28)).cell? ⟨g, 5, none⟩ = some (.int .u8 (x5.toNat : Int))) (hL : L.length = n - 1) (hc : n ≤ cap) (hcap : cap ≤ 9223372036854775807) (hh : Holds w g 0 L) (hg : g < w.heap.size) (d0 : (decide (((n : Int) - 7 - 1) < 0)) = false) (d1 : (decide (64 < ((n : Int) - 7 - 1))) = false) (d2 : (((x0.toNat : Int) != 82)) = false) (q2 : (((x0.toNat : Int) == 82)) = true) (d3 : (decide (4 ≤ (x1.toNat : Int))) = false) (d4 : (((x6.toNat : Int) != ((n : Int) - 7 - 1))) = false) (q4 : (((x6.toNat : Int) == ((n : Int) - 7 - 1))) = true) (d5 : (((chk L).toNat : Int) != (z.toNat : Int)) = false) (q5 : (((chk L).toNat : Int) == (z.toNat : Int)) = true) :
    Calls Tryd.prog 29 #[.slice (some ⟨g, 0, none⟩) n cap] w (YesPost w.heap.size w x1.toNat (256 * x2.toNat + x3.toNat) (256 * x4.toNat + x5.toNat) M .nilIface) := by
  have e6 : IntKind.i64.wrap (x6.toNat : Int) = (x6.toNat : Int) := by have := x6.toNat_lt; rw [IntKind.wrap_i64]; omega
  have p0 : 0 < n := by omega
  have p1 : (1 : Int) < (n : Int) := by omega
  have p6 : (6 : Int) < (n : Int) := by omega
  have s1 : IntKind.i64.wrap (7 + ((n : Int) - 7 - 1)) = (n : Int) - 1 := by rw [IntKind.wrap_i64]; omega
  have s2 : 0 ≤ (n : Int) - 1 := by omega
  have s3 : ((n : Int) - 1).toNat = n - 1 := by omega
  have s4 : (n : Int) - 1 < (n : Int) := by omega
  have s5 : (n : Int) - 1 ≤ (cap : Int) := by omega
  have hH := Lib.hid (hh.below ((Below.refl _ _).alloc (Nat.le_refl _) (.cells #[.int .i64 0, .int .i64 0, .int .i64 0, .slice none 0 0] 28)) hg)
  have HL := Lib.hid hL
  clear hh hL
  have HM := Lib.hid hM
  have HHM := Lib.hid hhM
  clear hM hhM
  have p2 : (2 : Int) < (n : Int) := by omega
  have p3 : (3 : Int) < (n : Int) := by omega
  have p4 : (4 : Int) < (n : Int) := by omega
  have p5 : (5 : Int) < (n : Int) := by omega
  have e1 : IntKind.i64.wrap (x1.toNat : Int) = (x1.toNat : Int) := by have := x1.toNat_lt; rw [IntKind.wrap_i64]; omega
  have e2 : IntKind.i64.wrap (x2.toNat : Int) = (x2.toNat : Int) := by have := x2.toNat_lt; rw [IntKind.wrap_i64]; omega
  have e3 : IntKind.i64.wrap (x3.toNat : Int) = (x3.toNat : Int) := by have := x3.toNat_lt; rw [IntKind.wrap_i64]; omega
  have e4 : IntKind.i64.wrap (x4.toNat : Int) = (x4.toNat : Int) := by have := x4.toNat_lt; rw [IntKind.wrap_i64]; omega
  have e5 : IntKind.i64.wrap (x5.toNat : Int) = (x5.toNat : Int) := by have := x5.toNat_lt; rw [IntKind.wrap_i64]; omega
  have w2 : IntKind.i64.wrap ((x2.toNat : Int) * 256) = (x2.toNat : Int) * 256 := by have := x2.toNat_lt; rw [IntKind.wrap_i64]; omega
  have w4 : IntKind.i64.wrap ((x4.toNat : Int) * 256) = (x4.toNat : Int) * 256 := by have := x4.toNat_lt; rw [IntKind.wrap_i64]; omega
  have o23 := or_256 x2 x3
  have o45 := or_256 x4 x5
  have hne : w.heap.size ≠ g := by omega
  have hc7 : ¬ cap = 7 := by omega
  have r7 : (7 : Int) ≤ (n : Int) - 1 := by omega
  go_enter Tryd.func29, Tryd.ntmps29
  go_wp2
  go_quiet ((go_at_call 32; exact Calls.quiet_of_same (check_at g 0 cap _ L _ HL.out.symm (by have := HL.out; omega) hH.out)))
  go_wp2
  generalize hW : (w.alloc (.cells #[.int .i64 0, .int .i64 0, .int .i64 0, .slice none 0 0] 28)).drewN nq = W
  have c1 : W.cell? ⟨g, 1, none⟩ = some (.int .u8 (x1.toNat : Int)) := by rw [← hW]; exact hc1
  have c2 : W.cell? ⟨g, 2, none⟩ = some (.int .u8 (x2.toNat : Int)) := by rw [← hW]; exact hc2
  have c3 : W.cell? ⟨g, 3, none⟩ = some (.int .u8 (x3.toNat : Int)) := by rw [← hW]; exact hc3
  have c4 : W.cell? ⟨g, 4, none⟩ = some (.int .u8 (x4.toNat : Int)) := by rw [← hW]; exact hc4
  have c5 : W.cell? ⟨g, 5, none⟩ = some (.int .u8 (x5.toNat : Int)) := by rw [← hW]; exact hc5
  have hWb : Below w.heap.size w W := by rw [← hW]; exact below_drewN ((Below.refl _ _).alloc (Nat.le_refl _) _) _
  have hWs : W.heap.size = w.heap.size + 1 := by rw [← hW]; simp
  have hWr : Row W w.heap.size 28 #[.int .i64 0, .int .i64 0, .int .i64 0, .slice none 0 0] := by rw [← hW]; exact Row.made w 28 _
  have HWb := Lib.hid hWb
  have HWs := Lib.hid hWs
  have HWr := Lib.hid hWr
  have HMW := Lib.hid (HHM.out.below hWb hg)
  clear hWb hWs hWr hW hc0 hc1 hc2 hc3 hc4 hc5 hc6 hz d0 d1 d2 q2 d3 d4 q4 d5 q5 e6
  go_region_held3 (fun w' => w'.cell? ⟨g, 1, none⟩ = some (.int .u8 (x1.toNat : Int)) ∧ w'.cell? ⟨g, 2, none⟩ = some (.int .u8 (x2.toNat : Int)) ∧ w'.cell? ⟨g, 3, none⟩ = some (.int .u8 (x3.toNat : Int)) ∧ w'.cell? ⟨g, 4, none⟩ = some (.int .u8 (x4.toNat : Int)) ∧ w'.cell? ⟨g, 5, none⟩ = some (.int .u8 (x5.toNat : Int))) (first | exact ⟨c1, c2, c3, c4, c5⟩ | exact ⟨k1, k2, k3, k4, k5⟩ | exact ⟨(set4_far _ hne _ _ _ _ _).trans k1, (set4_far _ hne _ _ _ _ _).trans k2, (set4_far _ hne _ _ _ _ _).trans k3, (set4_far _ hne _ _ _ _ _).trans k4, (set4_far _ hne _ _ _ _ _).trans k5⟩)
    ((go_at_call 37; refine Calls.mono (clone_any g 7 _ _ M _ (by have := HM.out; omega) (by have := HM.out; omega) HMW.out) ?_; rintro e w1 ⟨g1, cap1, rfl, ho, hb⟩; have hb' : Below W.heap.size W w1 := ⟨hb.os, hb.tape, hb.output, hb.size, hb.block⟩; have HO := Lib.hid ho; have HB := Lib.hid hb'; clear ho hb hb'; have k1 : w1.cell? ⟨g, 1, none⟩ = some (.int .u8 (x1.toNat : Int)) := keepCell HB.out c1; have k2 : w1.cell? ⟨g, 2, none⟩ = some (.int .u8 (x2.toNat : Int)) := keepCell HB.out c2; have k3 : w1.cell? ⟨g, 3, none⟩ = some (.int .u8 (x3.toNat : Int)) := keepCell HB.out c3; have k4 : w1.cell? ⟨g, 4, none⟩ = some (.int .u8 (x4.toNat : Int)) := keepCell HB.out c4; have k5 : w1.cell? ⟨g, 5, none⟩ = some (.int .u8 (x5.toNat : Int)) := keepCell HB.out c5; have r0 : w1.cell? ⟨w.heap.size, 0, none⟩ = some (.int .i64 0) := (HWr.out.under HB.out HWr.out.isLt).cellAt 0; have r1 : w1.cell? ⟨w.heap.size, 1, none⟩ = some (.int .i64 0) := (HWr.out.under HB.out HWr.out.isLt).cellAt 1; have r2 : w1.cell? ⟨w.heap.size, 2, none⟩ = some (.int .i64 0) := (HWr.out.under HB.out HWr.out.isLt).cellAt 2; have r3 : w1.cell? ⟨w.heap.size, 3, none⟩ = some (.slice none 0 0) := (HWr.out.under HB.out HWr.out.isLt).cellAt 3; have f0 : w1.frozen? ⟨w.heap.size, 0, none⟩ = false := (HWr.out.under HB.out HWr.out.isLt).notFrozen 0; have f1 : w1.frozen? ⟨w.heap.size, 1, none⟩ = false := (HWr.out.under HB.out HWr.out.isLt).notFrozen 1; have f2 : w1.frozen? ⟨w.heap.size, 2, none⟩ = false := (HWr.out.under HB.out HWr.out.isLt).notFrozen 2; have f3 : w1.frozen? ⟨w.heap.size, 3, none⟩ = false := (HWr.out.under HB.out HWr.out.isLt).notFrozen 3))
  go_wp2
  clear k1 k2 k3 k4 k5 r0 r1 r2 r3 f0 f1 f2 f3
  have hfr := set4_row (HWr.out.under HB.out HWr.out.isLt) (.int .i64 (x1.toNat : Int)) (.int .i64 (256 * (x2.toNat : Int) + (x3.toNat : Int))) (.int .i64 (256 * (x4.toNat : Int) + (x5.toNat : Int))) (.slice (some ⟨g1, 0, none⟩) M.length cap1)
  have hfo := set4_own (b := w.heap.size) HO.out (by have := HO.out.1; have := HWs.out; simp at *; omega) (.int .i64 (x1.toNat : Int)) (.int .i64 (256 * (x2.toNat : Int) + (x3.toNat : Int))) (.int .i64 (256 * (x4.toNat : Int) + (x5.toNat : Int))) (.slice (some ⟨g1, 0, none⟩) M.length cap1)
  have hfb := set4_below (b := w.heap.size) (HWb.out.trans (HB.out.mono (by have := HWs.out; omega))) (Nat.le_refl _) (.int .i64 (x1.toNat : Int)) (.int .i64 (256 * (x2.toNat : Int) + (x3.toNat : Int))) (.int .i64 (256 * (x4.toNat : Int) + (x5.toNat : Int))) (.slice (some ⟨g1, 0, none⟩) M.length cap1)
  have hlo : w.heap.size ≤ W.drew.heap.size := by have := HWs.out; simp; omega
  generalize ((((w1.setCell ⟨w.heap.size, 0, none⟩ (.int .i64 (x1.toNat : Int))).setCell ⟨w.heap.size, 1, none⟩ (.int .i64 (256 * (x2.toNat : Int) + (x3.toNat : Int)))).setCell ⟨w.heap.size, 2, none⟩ (.int .i64 (256 * (x4.toNat : Int) + (x5.toNat : Int)))).setCell ⟨w.heap.size, 3, none⟩ (.slice (some ⟨g1, 0, none⟩) M.length cap1)) = wf at *
  have q0 := hfr.cellAt 0
  have q1 := hfr.cellAt 1
  have q2 := hfr.cellAt 2
  have q3 := hfr.cellAt 3
  refine bodyPost_ret (v := .tuple #[.agg #[.int .i64 x1.toNat, .int .i64 (256 * x2.toNat + x3.toNat), .int .i64 (256 * x4.toNat + x5.toNat), .slice (some ⟨g1, 0, none⟩) M.length cap1], .nilIface]) ?_ rfl ⟨g1, cap1, rfl, hfo.more hlo, hfb⟩
  simp at q0 q1 q2 q3
  simp [results, Tryd.results29, go_sem, q0, q1, q2, q3]
end Go.Proofs.YtmcfcfdpckjonaaDoor
