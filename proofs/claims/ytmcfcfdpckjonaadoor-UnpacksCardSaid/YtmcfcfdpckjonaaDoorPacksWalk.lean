/- The law Packs answers true at every input. Condition: errors.errorType holds reflectlite's handle of the type error. -/
import Derived.Test.YtmcfcfdpckjonaaDoorPackB
import Derived.Lib.SliceRun
namespace Go.Proofs.YtmcfcfdpckjonaaDoor
open Go.RowKit

theorem eq_nil (w : World) : (binOp .eql 25 (.slice none 0 0) (.slice none 0 0)).run Tryd.prog w = .ok (.bool true) w := Lib.run_eql_slice_nil w 25 5 none 0 0 0 0 Tryd.underlying25
theorem holds_bytesWorld (w : World) (s : ByteArray) : Holds (Lib.bytesWorld w 5 s) w.heap.size 0 s.data.toList := fun j hj => by
  rw [Nat.zero_add]; exact Lib.bytesWorld_cell w 5 s j (by rw [Lib.size_eq]; exact hj)
theorem below_bytesWorld (w : World) (s : ByteArray) : Below w.heap.size w (Lib.bytesWorld w 5 s) :=
  ⟨rfl, rfl, rfl, by rw [Lib.bytesWorld_size]; omega, fun k hk => Lib.bytesWorld_at_old w 5 s k hk⟩
theorem src_rm {w : World} {g : Nat} {s : ByteArray} (h : Row w g 5 (rm s)) (c : Nat) : Src w (some ⟨g, 0, none⟩) c s.data.toList :=
  .inr ⟨g, 0, rfl, h.holds 0 _ (fun j hj => by rw [Nat.zero_add]; exact rm_pre s j (by rw [Lib.size_eq]; exact hj))⟩

set_option maxHeartbeats 400000 in
set_option maxRecDepth 100000 in
theorem packs_long (fr st ak : Int) (s : ByteArray) (w : World) (hl : s.size ≤ 9223372036854775807) (h : 65536 < s.size) :
    Calls Tryd.prog 4 #[.int .i64 fr, .int .i64 st, .int .i64 ak, .string s] w fun e w' => e = .returned (.bool true) ∧ Below w.heap.size w w' := by
  go_enter Tryd.func4, Tryd.ntmps4
  go_wp2
  go_ret
  exact ⟨rfl, Below.refl _ _⟩

set_option maxHeartbeats 1000000 in
set_option maxRecDepth 100000 in
theorem packs_no (fr st ak : Int) (s : ByteArray) (w : World) (hg : ErrVar w) (hs : s.size ≤ 65536) (h1 : i64 st) (h2 : i64 ak) (h : ¬ fits fr st ak s.size) :
    Calls Tryd.prog 4 #[.int .i64 fr, .int .i64 st, .int .i64 ak, .string s] w fun e w' => e = .returned (.bool true) ∧ Below w.heap.size w w' := by
  have HG := Lib.hid hg
  have H1 := Lib.hid h1
  have H2 := Lib.hid h2
  have HF := Lib.hid h
  clear hg h1 h2 h
  go_enter Tryd.func4, Tryd.ntmps4
  go_wp2_with fail
  refine (roomy_any s _ hs).mono ?_
  rintro e w1 ⟨rfl, hb1, hr1⟩
  have HB1 := Lib.hid hb1
  have HR1 := Lib.hid hr1
  clear hb1 hr1
  go_wp2_with fail
  refine (plainPack_no fr st ak _ s.size _ _ ((HG.out.below HB1.out).alloc _) H1.out H2.out HF.out).mono ?_
  rintro e w3 ⟨rfl, hb3⟩
  have hbb : Below w1.heap.size w1 w3 := ((Below.refl _ _).alloc (Nat.le_refl _) _).trans (hb3.mono (by simp))
  have hbase : w.heap.size < w1.heap.size := HR1.out.isLt
  have hr3 : Row w3 w.heap.size 5 (rm s) := HR1.out.under hbb hbase
  have hx3 : w3.cell? ⟨w1.heap.size, 3, none⟩ = some (.slice (some ⟨w.heap.size, 0, none⟩) s.size (s.size + 2)) := (hb3.cell (p := ⟨w1.heap.size, 3, none⟩) (by simp)).trans (by simp)
  have HB3 := Lib.hid (HB1.out.trans (hbb.mono (by omega)))
  have HR3 := Lib.hid hr3
  clear hb3 hbb hr3
  go_wp2_with fail
  refine (still_yes s _ _ hs HR3.out).mono ?_
  rintro e w4 ⟨rfl, rfl⟩
  have hcv := Lib.run_convert_string_bytes (P := Tryd.prog) w3 9 25 5 s Tryd.underlying9 Tryd.underlying25 Tryd.underlying5
  go_wp2_with fail
  refine (refPack_no fr st ak _ s.size _ _ HF.out).mono ?_
  rintro e w5 ⟨rfl, hb5⟩
  have HB5 := Lib.hid (HB3.out.trans ((below_bytesWorld w3 s).mono HB3.out.size |>.trans (hb5.mono (by have := HB3.out.size; rw [Lib.bytesWorld_size]; omega))))
  clear hb5 hcv
  have hnil := eq_nil w5
  go_wp2
  go_ret
  exact ⟨rfl, HB5.out⟩

set_option maxHeartbeats 1000000 in
set_option maxRecDepth 100000 in
theorem packs_yes (fr st ak : Nat) (s : ByteArray) (w : World) (hg : ErrVar w) (h1 : fr < 4) (h3 : st ≤ 65535) (h5 : ak ≤ 65535) (hs : s.size ≤ 64) :
    Calls Tryd.prog 4 #[.int .i64 fr, .int .i64 st, .int .i64 ak, .string s] w fun e w' => e = .returned (.bool true) ∧ Below w.heap.size w w' := by
  have HG := Lib.hid hg
  clear hg
  have hsl : s.data.toList.length = s.size := (Lib.size_eq s).symm
  have HSL := Lib.hid hsl
  obtain ⟨M, hM⟩ : ∃ M, M = pk fr st ak s.data.toList := ⟨_, rfl⟩
  have HM := Lib.hid hM
  clear hM hsl
  go_enter Tryd.func4, Tryd.ntmps4
  go_wp2_with fail
  refine (roomy_any s _ (by omega)).mono ?_
  rintro e w1 ⟨rfl, hb1, hr1⟩
  have HB1 := Lib.hid hb1
  have HR1 := Lib.hid hr1
  clear hb1 hr1
  go_wp2_with fail
  have c1 := plainPack_yes fr st ak (some ⟨w.heap.size, 0, none⟩) (s.size + 2) s.data.toList (w1.alloc (.cells #[.int .i64 fr, .int .i64 st, .int .i64 ak, .slice (some ⟨w.heap.size, 0, none⟩) s.size (s.size + 2)] 28)) h1 h3 h5 (by rw [HSL.out]; exact hs) ((src_rm HR1.out _).below ((Below.refl _ _).alloc (Nat.le_refl _) _))
  rw [HSL.out, ← HM.out] at c1
  refine c1.mono ?_
  clear c1
  rintro e w3 ⟨g, cap, rfl, ho3, hb3⟩
  have hbb : Below w1.heap.size w1 w3 := ((Below.refl _ _).alloc (Nat.le_refl _) _).trans (hb3.mono (by simp))
  have hbase : w.heap.size < w1.heap.size := HR1.out.isLt
  have hr3 : Row w3 w.heap.size 5 (rm s) := HR1.out.under hbb hbase
  have hpp : Row w3 w1.heap.size 28 #[.int .i64 fr, .int .i64 st, .int .i64 ak, .slice (some ⟨w.heap.size, 0, none⟩) s.size (s.size + 2)] := (Row.made w1 28 _).under hb3 (by simp)
  have hx3 : w3.cell? ⟨w1.heap.size, 3, none⟩ = some (.slice (some ⟨w.heap.size, 0, none⟩) s.size (s.size + 2)) := hpp.cellAt 3
  have HB3 := Lib.hid (HB1.out.trans (hbb.mono (by omega)))
  have HR3 := Lib.hid hr3
  have HO3 := Lib.hid ho3
  have HP3 := Lib.hid hpp
  have hgP : w1.heap.size < g := by have := ho3.1; simp at this; omega
  have hg3 : g < w3.heap.size := ho3.lt
  clear hb3 hbb hr3 ho3 hpp
  go_wp2_with fail
  refine (still_yes s _ _ (by omega) HR3.out).mono ?_
  rintro e w4 ⟨rfl, rfl⟩
  have hcv := Lib.run_convert_string_bytes (P := Tryd.prog) w3 9 25 5 s Tryd.underlying9 Tryd.underlying25 Tryd.underlying5
  go_wp2_with fail
  have c2 := refPack_yes fr st ak (some ⟨w3.heap.size, 0, none⟩) (grownCap w3 s.size 0 5) s.data.toList (Lib.bytesWorld w3 5 s) h1 h3 h5 (by rw [HSL.out]; exact hs) (.inr ⟨w3.heap.size, 0, rfl, holds_bytesWorld w3 s⟩)
  rw [HSL.out, ← HM.out] at c2
  refine c2.mono ?_
  clear c2 hcv
  rintro e w5 ⟨g2, cap2, rfl, ho5, hb5⟩
  have hb35 : Below w3.heap.size w3 w5 := (below_bytesWorld w3 s).trans (hb5.mono (by rw [Lib.bytesWorld_size]; omega))
  have HB5 := Lib.hid (HB3.out.trans (hb35.mono HB3.out.size))
  have HR5 := Lib.hid (HR3.out.under hb35 HR3.out.isLt)
  have HO5 := Lib.hid (HO3.out.below hb35)
  have HP5 := Lib.hid (HP3.out.under hb35 HP3.out.isLt)
  have HW5 := Lib.hid ho5
  have hg25 : g < g2 := by have := ho5.1; rw [Lib.bytesWorld_size] at this; omega
  clear hb35 hb5 ho5 hx3
  have v1 := conv_back w5 g 0 cap M HO5.out.holds
  have v2 := conv_back w5 g2 0 cap2 M HW5.out.holds
  go_wp2_with fail
  obtain ⟨hq1, hq2, hq3, cur, hrow, hcur, _⟩ := HO5.out
  refine (spoilt_any g M.length cap cur _ hq2 hq3 hrow hcur).mono ?_
  rintro e w6 ⟨rfl, hb6, hr6⟩
  clear v1 v2 hrow hcur hq1
  have hne : (some w.heap.size : Option Nat) ≠ some g := by intro e; injection e with e; omega
  have hneP : (some w1.heap.size : Option Nat) ≠ some g := by intro e; injection e with e; omega
  have hne2 : (some g2 : Option Nat) ≠ some g := by intro e; injection e with e; omega
  have HR6 := Lib.hid (HR5.out.other hb6 hne)
  have HP6 := Lib.hid (HP5.out.other hb6 hneP)
  have HW6 := Lib.hid (HW5.out.other hb6 hne2)
  have HN6 := Lib.hid hr6
  have HB6 := Lib.hid (HB5.out.grown hb6 HB5.out.size (by intro k hk; injection hk with hk; omega))
  have hgl6 : g < w6.heap.size := hr6.isLt
  have p0 : w6.cell? ⟨w1.heap.size, 0, none⟩ = some (.int .i64 fr) := HP6.out.cellAt 0
  have p1 : w6.cell? ⟨w1.heap.size, 1, none⟩ = some (.int .i64 st) := HP6.out.cellAt 1
  have p2 : w6.cell? ⟨w1.heap.size, 2, none⟩ = some (.int .i64 ak) := HP6.out.cellAt 2
  have p3 : w6.cell? ⟨w1.heap.size, 3, none⟩ = some (.slice (some ⟨w.heap.size, 0, none⟩) s.size (s.size + 2)) := HP6.out.cellAt 3
  clear hb6 hr6 hne hneP hne2
  go_wp2_with fail
  have c3 := plainPack_yes fr st ak (some ⟨w.heap.size, 0, none⟩) (s.size + 2) s.data.toList w6 h1 h3 h5 (by rw [HSL.out]; exact hs) (src_rm HR6.out _)
  rw [HSL.out, ← HM.out] at c3
  refine c3.mono ?_
  clear c3
  rintro e w7 ⟨g3, cap3, rfl, ho7, hb7⟩
  have HN7 := Lib.hid (HN6.out.under hb7 hgl6)
  have HW7 := Lib.hid (HW6.out.below hb7)
  have HO7 := Lib.hid ho7
  have HB7 := Lib.hid (HB6.out.trans (hb7.mono HB6.out.size))
  clear p0 p1 p2 p3 hb7 ho7
  go_wp2_with fail
  refine (stays_yes g M.length cap _ hq2 hq3 HN7.out).mono ?_
  rintro e w8 ⟨rfl, rfl⟩
  have v3 := conv_back w7 g3 0 cap3 M HO7.out.holds
  have v4 := conv_back w7 g2 0 cap2 M HW7.out.holds
  go_wp2
  go_ret
  exact ⟨rfl, HB7.out⟩
end Go.Proofs.YtmcfcfdpckjonaaDoor
