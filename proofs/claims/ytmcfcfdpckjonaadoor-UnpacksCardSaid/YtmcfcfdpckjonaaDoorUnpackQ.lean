/- plain.Unpack of any bytes. Condition for the refusal: errors.errorType holds reflectlite's handle of the type error. -/
import Derived.Test.YtmcfcfdpckjonaaDoorUnpackP
namespace Go.Proofs.YtmcfcfdpckjonaaDoor
open Go.RowKit

set_option maxHeartbeats 1000000 in
set_option maxRecDepth 100000 in
theorem plainUnpack_no (g cap : Nat) (l : List UInt8) (w : World) (hE : ErrVar w) (hl : l.length ≤ 65600) (hc : l.length ≤ cap) (hcap : cap ≤ 9223372036854775807) (hg : g < w.heap.size) (hh : Holds w g 0 l) (h : ¬ valid l) :
    Calls Tryd.prog 15 #[.slice (some ⟨g, 0, none⟩) l.length cap] w (NonePost w (.tuple #[noPacket, .int .i64 5])) := by
  have HE := Lib.hid hE
  have HH := Lib.hid (holds_zalloc hg hh (.cells #[.int .i64 0, .int .i64 0, .int .i64 0, .slice none 0 0] 28))
  have HV := Lib.hid h
  clear hh h hE
  go_enter Tryd.func15, Tryd.ntmps15
  go_wp2_with fail
  refine Calls.mono (rbUnpack_no g cap l _ hl hc hcap (by simp; omega) HH.out HV.out) ?_
  rintro e w1 ⟨rfl, hb⟩
  have hr : Row w1 w.heap.size 28 #[.int .i64 0, .int .i64 0, .int .i64 0, .slice none 0 0] := (Row.made w 28 _).under hb (by simp)
  have HB := Lib.hid (((Below.refl _ _).alloc (Nat.le_refl _) _).trans (hb.mono (by simp)) : Below w.heap.size w w1)
  have HR := Lib.hid hr
  unfold noPacket
  clear hr hb
  go_wp2_with fail
  refine Calls.mono (told_kind 5 _ ((HE.out.below HB.out).alloc _)) ?_
  rintro e w2 ⟨rfl, hb2⟩
  have hr4 : Row w2 w1.heap.size 28 #[.int .i64 0, .int .i64 0, .int .i64 0, .slice none 0 0] := (Row.made w1 28 _).under hb2 (by simp)
  have hr2 : Row w2 w.heap.size 28 #[.int .i64 0, .int .i64 0, .int .i64 0, .slice none 0 0] := (HR.out.later _).under hb2 (by have := HR.out.isLt; simp; omega)
  have HB2 := Lib.hid (HB.out.trans ((((Below.refl _ _).alloc (Nat.le_refl _) _).trans (hb2.mono (by simp)) : Below w1.heap.size w1 w2).mono HB.out.size))
  have HR2 := Lib.hid hr2
  have s0 := hr4.cellAt 0
  have s1 := hr4.cellAt 1
  have s2 := hr4.cellAt 2
  have s3 := hr4.cellAt 3
  have r0 := hr2.cellAt 0
  have r1 := hr2.cellAt 1
  have r2 := hr2.cellAt 2
  have r3 := hr2.cellAt 3
  have f0 := hr2.notFrozen 0
  have f1 := hr2.notFrozen 1
  have f2 := hr2.notFrozen 2
  have f3 := hr2.notFrozen 3
  simp at r0 r1 r2 r3 s0 s1 s2 s3
  clear hr4 hr2 hb2
  go_wp2
  have hfr := set4_row HR2.out (.int .i64 0) (.int .i64 0) (.int .i64 0) (.slice none 0 0)
  have hfb := set4_below HB2.out (Nat.le_refl _) (.int .i64 0) (.int .i64 0) (.int .i64 0) (.slice none 0 0)
  clear r0 r1 r2 r3 f0 f1 f2 f3
  generalize ((((w2.setCell ⟨w.heap.size, 0, none⟩ (.int .i64 0)).setCell ⟨w.heap.size, 1, none⟩ (.int .i64 0)).setCell ⟨w.heap.size, 2, none⟩ (.int .i64 0)).setCell ⟨w.heap.size, 3, none⟩ (.slice none 0 0)) = wf at *
  have q0 := hfr.cellAt 0
  have q1 := hfr.cellAt 1
  have q2 := hfr.cellAt 2
  have q3 := hfr.cellAt 3
  simp at q0 q1 q2 q3
  refine bodyPost_ret (v := .tuple #[noPacket, .int .i64 5]) ?_ rfl ⟨rfl, hfb⟩
  simp [results, Tryd.results15, go_sem, q0, q1, q2, q3, noPacket]

set_option maxHeartbeats 1000000 in
set_option maxRecDepth 100000 in
theorem plainUnpack_ok (g cap : Nat) (l : List UInt8) (w : World) (hc : l.length ≤ cap) (hcap : cap ≤ 9223372036854775807) (hg : g < w.heap.size) (hh : Holds w g 0 l) (h : valid l) :
    Calls Tryd.prog 15 #[.slice (some ⟨g, 0, none⟩) l.length cap] w (YesPost w.heap.size w (l.getD 1 0).toNat (startOf l) (ackOf l) (inner l) (.int .i64 0)) := by
  have HH := Lib.hid (holds_zalloc hg hh (.cells #[.int .i64 0, .int .i64 0, .int .i64 0, .slice none 0 0] 28))
  have HV := Lib.hid h
  clear hh h
  obtain ⟨x, hx⟩ : ∃ x : Int, x = ((l.getD 1 0).toNat : Int) := ⟨_, rfl⟩
  obtain ⟨y, hy⟩ : ∃ x : Int, x = ((startOf l : Nat) : Int) := ⟨_, rfl⟩
  obtain ⟨z, hz⟩ : ∃ x : Int, x = ((ackOf l : Nat) : Int) := ⟨_, rfl⟩
  obtain ⟨M, hM⟩ : ∃ M, M = inner l := ⟨_, rfl⟩
  have HX := Lib.hid (And.intro hx (And.intro hy (And.intro hz hM)))
  rw [← hx, ← hy, ← hz, ← hM]
  clear hx hy hz hM
  go_enter Tryd.func15, Tryd.ntmps15
  go_wp2_with fail
  have c1 := rbUnpack_ok g cap l (w.alloc (.cells #[.int .i64 0, .int .i64 0, .int .i64 0, .slice none 0 0] 28)) hc hcap (by simp; omega) HH.out HV.out
  rw [← HX.out.1, ← HX.out.2.1, ← HX.out.2.2.1, ← HX.out.2.2.2] at c1
  refine Calls.mono c1 ?_
  clear c1
  rintro e w1 ⟨g1, cap1, rfl, ho, hb⟩
  have hr : Row w1 w.heap.size 28 #[.int .i64 0, .int .i64 0, .int .i64 0, .slice none 0 0] := (Row.made w 28 _).under hb (by simp)
  have HB := Lib.hid (((Below.refl _ _).alloc (Nat.le_refl _) _).trans (hb.mono (by simp)) : Below w.heap.size w w1)
  have HR := Lib.hid hr
  have HO := Lib.hid ho
  have hgb : g1 ≠ w.heap.size := by have := ho.1; simp at this; omega
  clear hr hb ho
  go_wp2_with fail
  refine Calls.mono (told_nil _) ?_
  rintro e w2 ⟨rfl, hb2⟩
  have hr4 : Row w2 w1.heap.size 28 #[.int .i64 x, .int .i64 y, .int .i64 z, .slice (some ⟨g1, 0, none⟩) M.length cap1] := (Row.made w1 28 _).under hb2 (by simp)
  have hr2 : Row w2 w.heap.size 28 #[.int .i64 0, .int .i64 0, .int .i64 0, .slice none 0 0] := (HR.out.later _).under hb2 (by have := HR.out.isLt; simp; omega)
  have hb12 : Below w1.heap.size w1 w2 := ((Below.refl _ _).alloc (Nat.le_refl _) _).trans (hb2.mono (by simp))
  have HB2 := Lib.hid (HB.out.trans (hb12.mono HB.out.size))
  have HO2 := Lib.hid (HO.out.below hb12)
  have HR2 := Lib.hid hr2
  have s0 := hr4.cellAt 0
  have s1 := hr4.cellAt 1
  have s2 := hr4.cellAt 2
  have s3 := hr4.cellAt 3
  have r0 := hr2.cellAt 0
  have r1 := hr2.cellAt 1
  have r2 := hr2.cellAt 2
  have r3 := hr2.cellAt 3
  have f0 := hr2.notFrozen 0
  have f1 := hr2.notFrozen 1
  have f2 := hr2.notFrozen 2
  have f3 := hr2.notFrozen 3
  simp at r0 r1 r2 r3 s0 s1 s2 s3
  have hne : w1.heap.size ≠ w.heap.size := by have := HR.out.isLt; omega
  clear hr4 hr2 hb2 hb12
  go_wp2
  have hfr := set4_row HR2.out (.int .i64 x) (.int .i64 y) (.int .i64 z) (.slice (some ⟨g1, 0, none⟩) M.length cap1)
  have hfo := set4_own HO2.out hgb (.int .i64 x) (.int .i64 y) (.int .i64 z) (.slice (some ⟨g1, 0, none⟩) M.length cap1)
  have hfb := set4_below HB2.out (Nat.le_refl _) (.int .i64 x) (.int .i64 y) (.int .i64 z) (.slice (some ⟨g1, 0, none⟩) M.length cap1)
  clear r0 r1 r2 r3 f0 f1 f2 f3
  generalize ((((w2.setCell ⟨w.heap.size, 0, none⟩ (.int .i64 x)).setCell ⟨w.heap.size, 1, none⟩ (.int .i64 y)).setCell ⟨w.heap.size, 2, none⟩ (.int .i64 z)).setCell ⟨w.heap.size, 3, none⟩ (.slice (some ⟨g1, 0, none⟩) M.length cap1)) = wf at *
  have q0 := hfr.cellAt 0
  have q1 := hfr.cellAt 1
  have q2 := hfr.cellAt 2
  have q3 := hfr.cellAt 3
  simp at q0 q1 q2 q3
  refine bodyPost_ret (v := .tuple #[.agg #[.int .i64 x, .int .i64 y, .int .i64 z, .slice (some ⟨g1, 0, none⟩) M.length cap1], .int .i64 0]) ?_ rfl ⟨g1, cap1, rfl, hfo.more (by simp), hfb⟩
  simp [results, Tryd.results15, go_sem, q0, q1, q2, q3]
end Go.Proofs.YtmcfcfdpckjonaaDoor
