/- The law Unpacks answers true at every input. Condition: errors.errorType holds reflectlite's handle of the type error. -/
import Derived.Test.YtmcfcfdpckjonaaDoorRefUnpackF
import Derived.Test.YtmcfcfdpckjonaaDoorRepackedWalk
namespace Go.Proofs.YtmcfcfdpckjonaaDoor
open Go.RowKit

theorem refUnpack_any (g cap n : Nat) (l : List UInt8) (w : World) (hn : n = l.length) (hl : l.length ≤ 65600) (hc : l.length ≤ cap) (hcap : cap ≤ 9223372036854775807) (hg : g < w.heap.size) (hh : Holds w g 0 l) :
    Calls Tryd.prog 16 #[.slice (some ⟨g, 0, none⟩) n cap] w (RefPost l w) := by
  subst hn
  by_cases h8 : 8 ≤ l.length
  · by_cases hf : (l.getD 1 0).toNat < 4 ∧ l.length ≤ 72
    · exact refUnpack_fit g cap l w h8 hl hc hcap hg hh hf
    · exact refUnpack_nofit g cap l w h8 hl hc hcap hg hh hf
  · refine (refUnpack_short g cap l.length w (by omega)).mono ?_
    rintro e w' ⟨h1, h2⟩
    exact .inr ⟨fun hv => h8 hv.1, h1, h2⟩

set_option maxHeartbeats 400000 in
set_option maxRecDepth 100000 in
theorem unpacks_long (s : ByteArray) (w : World) (hl : s.size ≤ 9223372036854775807) (h : 65536 < s.size) :
    Calls Tryd.prog 5 #[.string s] w fun e w' => e = .returned (.bool true) ∧ Below w.heap.size w w' := by
  go_enter Tryd.func5, Tryd.ntmps5
  go_wp2
  go_ret
  exact ⟨rfl, Below.refl _ _⟩

/-- The bytes of a text, as a world of its own. -/
theorem bytes_facts (s : ByteArray) (w : World) (hs : s.size ≤ 65536) :
    Below w.heap.size w (Lib.bytesWorld w 5 s) ∧ w.heap.size < (Lib.bytesWorld w 5 s).heap.size ∧ Holds (Lib.bytesWorld w 5 s) w.heap.size 0 s.data.toList ∧ s.data.toList.length ≤ grownCap w s.size 0 5 ∧ grownCap w s.size 0 5 ≤ 9223372036854775807 := by
  refine ⟨below_bytesWorld w s, by rw [Lib.bytesWorld_size]; omega, holds_bytesWorld w s, ?_, ?_⟩
  · rw [← Lib.size_eq]; exact grownCap_ge _ _ _ _
  · exact Nat.le_trans (grownCap_le_maxLen w s.size 0 5 (by unfold maxLen; omega)) (by unfold maxLen; omega)

set_option maxHeartbeats 1000000 in
set_option maxRecDepth 100000 in
theorem unpacks_no (s : ByteArray) (w : World) (hg : ErrVar w) (hs : s.size ≤ 65536) (h : ¬ valid s.data.toList) :
    Calls Tryd.prog 5 #[.string s] w fun e w' => e = .returned (.bool true) ∧ Below w.heap.size w w' := by
  have HG := Lib.hid hg
  have HF := Lib.hid h
  have hsl : s.data.toList.length = s.size := (Lib.size_eq s).symm
  have HSL := Lib.hid hsl
  clear hg h hsl
  go_enter Tryd.func5, Tryd.ntmps5
  go_wp2_with fail
  refine Calls.mono (roomy_any s _ hs) ?_
  rintro e w1 ⟨rfl, hb1, hr1⟩
  have HB1 := Lib.hid hb1
  have HR1 := Lib.hid hr1
  clear hb1 hr1
  go_wp2_with fail
  refine Calls.mono (plainUnpack_at w.heap.size (s.size + 2) s.size s.data.toList w1 HSL.out.symm (HG.out.below HB1.out) (by rw [HSL.out]; omega) (by rw [HSL.out]; omega) (by omega) HR1.out.isLt (HR1.out.holds 0 _ (fun j hj => by rw [Nat.zero_add]; exact rm_pre s j (by rw [Lib.size_eq]; exact hj))) HF.out) ?_
  rintro e w2 ⟨rfl, hb2⟩
  have hbase : w.heap.size < w1.heap.size := HR1.out.isLt
  have HR2 := Lib.hid (HR1.out.under hb2 hbase)
  have HB2 := Lib.hid (HB1.out.trans (hb2.mono HB1.out.size))
  clear hb2
  unfold noPacket
  go_wp2_with fail
  have hP3 : Row (w2.alloc (.cells #[.int .i64 0, .int .i64 0, .int .i64 0, .slice none 0 0] 28)) w2.heap.size 28 #[.int .i64 0, .int .i64 0, .int .i64 0, .slice none 0 0] := Row.made w2 28 _
  have hR3 : Row (w2.alloc (.cells #[.int .i64 0, .int .i64 0, .int .i64 0, .slice none 0 0] 28)) w.heap.size 5 (rm s) := HR2.out.later _
  have hB3 : Below w.heap.size w (w2.alloc (.cells #[.int .i64 0, .int .i64 0, .int .i64 0, .slice none 0 0] 28)) := HB2.out.alloc HB2.out.size _
  generalize (w2.alloc (.cells #[.int .i64 0, .int .i64 0, .int .i64 0, .slice none 0 0] 28)) = w3 at hP3 hR3 hB3 ⊢
  have HP3 := Lib.hid hP3
  have HR3 := Lib.hid hR3
  have HB3 := Lib.hid hB3
  clear hP3 hR3 hB3
  refine Calls.mono (still_yes s _ _ hs HR3.out) ?_
  rintro e w4 ⟨rfl, rfl⟩
  have hcv := Lib.run_convert_string_bytes (P := Tryd.prog) w3 9 25 5 s Tryd.underlying9 Tryd.underlying25 Tryd.underlying5
  obtain ⟨hb4, hl4, hh4, hc4, hc4'⟩ := bytes_facts s w3 hs
  generalize grownCap w3 s.size 0 5 = cap4 at hcv hc4 hc4'
  generalize Lib.bytesWorld w3 5 s = w4 at hcv hb4 hl4 hh4
  have HL4 := Lib.hid hl4
  have HH4 := Lib.hid hh4
  have HC4 := Lib.hid (And.intro hc4 hc4')
  have HP4 := Lib.hid (HP3.out.under hb4 HP3.out.isLt)
  have HB4 := Lib.hid (HB3.out.trans (hb4.mono HB3.out.size))
  clear hb4 hl4 hh4 hc4 hc4'
  go_wp2_with fail
  refine Calls.mono (refUnpack_any w3.heap.size cap4 s.size s.data.toList w4 HSL.out.symm (by rw [HSL.out]; omega) HC4.out.1 HC4.out.2 HL4.out HH4.out) ?_
  rintro e w5 hpost
  rcases hpost with ⟨hv, _⟩ | ⟨_, rfl, hb5⟩
  · exact absurd hv HF.out
  clear hcv
  have hP5 := HP4.out.under hb5 HP4.out.isLt
  have HB5 := Lib.hid (HB4.out.trans (hb5.mono HB4.out.size))
  clear hb5
  have hP6 := hP5.later (.cells #[.int .i64 0, .int .i64 0, .int .i64 0, .slice none 0 0] 28)
  have q0 : (w5.alloc (.cells #[.int .i64 0, .int .i64 0, .int .i64 0, .slice none 0 0] 28)).cell? ⟨w2.heap.size, 0, none⟩ = some (.int .i64 0) := hP6.cellAt 0
  have q1 : (w5.alloc (.cells #[.int .i64 0, .int .i64 0, .int .i64 0, .slice none 0 0] 28)).cell? ⟨w2.heap.size, 1, none⟩ = some (.int .i64 0) := hP6.cellAt 1
  have q2 : (w5.alloc (.cells #[.int .i64 0, .int .i64 0, .int .i64 0, .slice none 0 0] 28)).cell? ⟨w2.heap.size, 2, none⟩ = some (.int .i64 0) := hP6.cellAt 2
  have q3 : (w5.alloc (.cells #[.int .i64 0, .int .i64 0, .int .i64 0, .slice none 0 0] 28)).cell? ⟨w2.heap.size, 3, none⟩ = some (.slice none 0 0) := hP6.cellAt 3
  have hnil := eq_nil (w5.alloc (.cells #[.int .i64 0, .int .i64 0, .int .i64 0, .slice none 0 0] 28))
  clear hP5 hP6
  unfold noPacket
  go_wp2
  go_ret
  exact ⟨rfl, HB5.out.alloc HB5.out.size _⟩

theorem plainUnpack_yesat (g cap m : Nat) (l : List UInt8) (w : World) (hm : m = l.length) (hc : l.length ≤ cap) (hcap : cap ≤ 9223372036854775807) (hg : g < w.heap.size) (hh : Holds w g 0 l) (h : valid l) :
    Calls Tryd.prog 15 #[.slice (some ⟨g, 0, none⟩) m cap] w (YesPost w.heap.size w (l.getD 1 0).toNat (startOf l) (ackOf l) (inner l) (.int .i64 0)) := by
  subst hm; exact plainUnpack_ok g cap l w hc hcap hg hh h

theorem conv_src {w : World} {A : Option Addr} {c : Nat} {l : List UInt8} (h : Src w A c l) : (convert 25 9 (.slice A l.length c)).run Tryd.prog w = .ok (.string ⟨l.toArray⟩) w := by
  rcases h with ⟨rfl, rfl, rfl⟩ | ⟨g, off, rfl, hh⟩
  · exact run_convert_bytes_nil (P := Tryd.prog) (w := w) 25 5 Tryd.underlying25 Tryd.underlying5 0 0 9 Tryd.underlying9
  · exact conv_back w g off c l hh

set_option maxHeartbeats 2000000 in
set_option maxRecDepth 100000 in
theorem unpacks_yes (s : ByteArray) (w : World) (hs : s.size ≤ 65536) (h : valid s.data.toList) :
    Calls Tryd.prog 5 #[.string s] w fun e w' => e = .returned (.bool true) ∧ Below w.heap.size w w' := by
  have HF := Lib.hid h
  have hsl : s.data.toList.length = s.size := (Lib.size_eq s).symm
  have HSL := Lib.hid hsl
  obtain ⟨x, hx⟩ : ∃ x : Int, x = ((s.data.toList.getD 1 0).toNat : Int) := ⟨_, rfl⟩
  obtain ⟨y, hy⟩ : ∃ x : Int, x = ((startOf s.data.toList : Nat) : Int) := ⟨_, rfl⟩
  obtain ⟨z, hz⟩ : ∃ x : Int, x = ((ackOf s.data.toList : Nat) : Int) := ⟨_, rfl⟩
  obtain ⟨M, hM⟩ : ∃ M, M = inner s.data.toList := ⟨_, rfl⟩
  have HX := Lib.hid (And.intro hx (And.intro hy (And.intro hz hM)))
  clear h hsl hx hy hz hM
  go_enter Tryd.func5, Tryd.ntmps5
  go_wp2_with fail
  refine Calls.mono (roomy_any s _ hs) ?_
  rintro e w1 ⟨rfl, hb1, hr1⟩
  have HB1 := Lib.hid hb1
  have HR1 := Lib.hid hr1
  clear hb1 hr1
  go_wp2_with fail
  have c1 := plainUnpack_yesat w.heap.size (s.size + 2) s.size s.data.toList w1 HSL.out.symm (by rw [HSL.out]; omega) (by omega) HR1.out.isLt (HR1.out.holds 0 _ (fun j hj => by rw [Nat.zero_add]; exact rm_pre s j (by rw [Lib.size_eq]; exact hj))) HF.out
  rw [← HX.out.1, ← HX.out.2.1, ← HX.out.2.2.1, ← HX.out.2.2.2] at c1
  refine Calls.mono c1 ?_
  clear c1
  rintro e w2 ⟨g1, cap1, rfl, ho2, hb2⟩
  have hbase : w.heap.size < w1.heap.size := HR1.out.isLt
  have HR2 := Lib.hid (HR1.out.under hb2 hbase)
  have HB2 := Lib.hid (HB1.out.trans (hb2.mono HB1.out.size))
  have HO2 := Lib.hid ho2
  clear hb2 ho2
  go_wp2_with fail
  have hP3 : Row (w2.alloc (.cells #[.int .i64 x, .int .i64 y, .int .i64 z, .slice (some ⟨g1, 0, none⟩) M.length cap1] 28)) w2.heap.size 28 #[.int .i64 x, .int .i64 y, .int .i64 z, .slice (some ⟨g1, 0, none⟩) M.length cap1] := Row.made w2 28 _
  have hR3 : Row (w2.alloc (.cells #[.int .i64 x, .int .i64 y, .int .i64 z, .slice (some ⟨g1, 0, none⟩) M.length cap1] 28)) w.heap.size 5 (rm s) := HR2.out.later _
  have hB3 : Below w.heap.size w (w2.alloc (.cells #[.int .i64 x, .int .i64 y, .int .i64 z, .slice (some ⟨g1, 0, none⟩) M.length cap1] 28)) := HB2.out.alloc HB2.out.size _
  have hO3 : Own (w2.alloc (.cells #[.int .i64 x, .int .i64 y, .int .i64 z, .slice (some ⟨g1, 0, none⟩) M.length cap1] 28)) w1.heap.size g1 cap1 M := HO2.out.below ((Below.refl _ _).alloc (Nat.le_refl _) _)
  have hg12 : g1 < w2.heap.size := HO2.out.lt
  generalize (w2.alloc (.cells #[.int .i64 x, .int .i64 y, .int .i64 z, .slice (some ⟨g1, 0, none⟩) M.length cap1] 28)) = w3 at hP3 hR3 hB3 hO3 ⊢
  have HP3 := Lib.hid hP3
  have HR3 := Lib.hid hR3
  have HB3 := Lib.hid hB3
  have HO3 := Lib.hid hO3
  clear hP3 hR3 hB3 hO3
  refine Calls.mono (still_yes s _ _ hs HR3.out) ?_
  rintro e w4 ⟨rfl, rfl⟩
  have hcv := Lib.run_convert_string_bytes (P := Tryd.prog) w3 9 25 5 s Tryd.underlying9 Tryd.underlying25 Tryd.underlying5
  obtain ⟨hb4, hl4, hh4, hc4, hc4'⟩ := bytes_facts s w3 hs
  generalize grownCap w3 s.size 0 5 = cap4 at hcv hc4 hc4'
  generalize Lib.bytesWorld w3 5 s = w4 at hcv hb4 hl4 hh4
  have HL4 := Lib.hid hl4
  have HH4 := Lib.hid hh4
  have HC4 := Lib.hid (And.intro hc4 hc4')
  have HP4 := Lib.hid (HP3.out.under hb4 HP3.out.isLt)
  have HR4 := Lib.hid (HR3.out.under hb4 HR3.out.isLt)
  have HO4 := Lib.hid (HO3.out.below hb4)
  have HB4 := Lib.hid (HB3.out.trans (hb4.mono HB3.out.size))
  have h2lt4 : w2.heap.size < w4.heap.size := HP4.out.isLt
  clear hb4 hl4 hh4 hc4 hc4'
  go_wp2_with fail
  refine Calls.mono (refUnpack_any w3.heap.size cap4 s.size s.data.toList w4 HSL.out.symm (by rw [HSL.out]; omega) HC4.out.1 HC4.out.2 HL4.out HH4.out) ?_
  rintro e w5 hpost
  rcases hpost with ⟨_, A, cA, rfl, hn5, hb5⟩ | ⟨hv, _⟩
  case inr => exact absurd HF.out hv
  clear hcv
  rw [← HX.out.1, ← HX.out.2.1, ← HX.out.2.2.1, ← HX.out.2.2.2]
  rw [← HX.out.2.2.2] at hn5
  have HP5 := Lib.hid (HP4.out.under hb5 HP4.out.isLt)
  have HR5 := Lib.hid (HR4.out.under hb5 HR4.out.isLt)
  have HO5 := Lib.hid (HO4.out.below hb5)
  have HB5 := Lib.hid (HB4.out.trans (hb5.mono HB4.out.size))
  have HN5 := Lib.hid hn5
  have h2lt5 : w2.heap.size < w5.heap.size := HP5.out.isLt
  clear hb5 hn5
  have HP6 := Lib.hid (HP5.out.later (.cells #[.int .i64 x, .int .i64 y, .int .i64 z, .slice A M.length cA] 28))
  have HR6 := Lib.hid (HR5.out.later (.cells #[.int .i64 x, .int .i64 y, .int .i64 z, .slice A M.length cA] 28))
  have HQ6 := Lib.hid (Row.made w5 28 #[.int .i64 x, .int .i64 y, .int .i64 z, .slice A M.length cA])
  have HO6 := Lib.hid (HO5.out.below ((Below.refl _ _).alloc (Nat.le_refl _) (.cells #[.int .i64 x, .int .i64 y, .int .i64 z, .slice A M.length cA] 28)))
  have HN6 := Lib.hid (HN5.out.below ((Below.refl _ _).alloc (Nat.le_refl _) (.cells #[.int .i64 x, .int .i64 y, .int .i64 z, .slice A M.length cA] 28)))
  have HB6 := Lib.hid (HB5.out.alloc HB5.out.size (.cells #[.int .i64 x, .int .i64 y, .int .i64 z, .slice A M.length cA] 28))
  have q0 : (w5.alloc (.cells #[.int .i64 x, .int .i64 y, .int .i64 z, .slice A M.length cA] 28)).cell? ⟨w2.heap.size, 0, none⟩ = some (.int .i64 x) := HP6.out.cellAt 0
  have q1 : (w5.alloc (.cells #[.int .i64 x, .int .i64 y, .int .i64 z, .slice A M.length cA] 28)).cell? ⟨w2.heap.size, 1, none⟩ = some (.int .i64 y) := HP6.out.cellAt 1
  have q2 : (w5.alloc (.cells #[.int .i64 x, .int .i64 y, .int .i64 z, .slice A M.length cA] 28)).cell? ⟨w2.heap.size, 2, none⟩ = some (.int .i64 z) := HP6.out.cellAt 2
  have q3 : (w5.alloc (.cells #[.int .i64 x, .int .i64 y, .int .i64 z, .slice A M.length cA] 28)).cell? ⟨w2.heap.size, 3, none⟩ = some (.slice (some ⟨g1, 0, none⟩) M.length cap1) := HP6.out.cellAt 3
  have r0 : (w5.alloc (.cells #[.int .i64 x, .int .i64 y, .int .i64 z, .slice A M.length cA] 28)).cell? ⟨w5.heap.size, 0, none⟩ = some (.int .i64 x) := HQ6.out.cellAt 0
  have r1 : (w5.alloc (.cells #[.int .i64 x, .int .i64 y, .int .i64 z, .slice A M.length cA] 28)).cell? ⟨w5.heap.size, 1, none⟩ = some (.int .i64 y) := HQ6.out.cellAt 1
  have r2 : (w5.alloc (.cells #[.int .i64 x, .int .i64 y, .int .i64 z, .slice A M.length cA] 28)).cell? ⟨w5.heap.size, 2, none⟩ = some (.int .i64 z) := HQ6.out.cellAt 2
  have r3 : (w5.alloc (.cells #[.int .i64 x, .int .i64 y, .int .i64 z, .slice A M.length cA] 28)).cell? ⟨w5.heap.size, 3, none⟩ = some (.slice A M.length cA) := HQ6.out.cellAt 3
  have v1 := conv_back (w5.alloc (.cells #[.int .i64 x, .int .i64 y, .int .i64 z, .slice A M.length cA] 28)) g1 0 cap1 M HO6.out.holds
  have v2 := conv_src HN6.out.src
  go_wp2_with fail
  clear q0 q1 q2 q3 r0 r1 r2 r3 v1 v2
  have h25 : w2.heap.size < (w5.alloc (.cells #[.int .i64 x, .int .i64 y, .int .i64 z, .slice A M.length cA] 28)).heap.size := HP6.out.isLt
  generalize (w5.alloc (.cells #[.int .i64 x, .int .i64 y, .int .i64 z, .slice A M.length cA] 28)) = w6 at HP6 HR6 HQ6 HO6 HN6 HB6 h25 ⊢
  refine Calls.mono (spoilt_any w.heap.size s.size (s.size + 2) (rm s) w6 (by omega) (by omega) HR6.out (by rw [rm]; simp [Lib.byteCells_length, HSL.out])) ?_
  rintro e w7 ⟨rfl, hb7, hr7⟩
  have hn1 : (some w2.heap.size : Option Nat) ≠ some w.heap.size := by intro e; injection e with e; have := HB2.out.size; have := HO2.out.1; omega
  have hn2 : (some w5.heap.size : Option Nat) ≠ some w.heap.size := by intro e; injection e with e; have := HO2.out.1; omega
  have hn3 : (some g1 : Option Nat) ≠ some w.heap.size := by intro e; injection e with e; have := HO2.out.1; omega
  have HP7 := Lib.hid (HP6.out.other hb7 hn1)
  have HQ7 := Lib.hid (HQ6.out.other hb7 hn2)
  have HO7 := Lib.hid (HO6.out.other hb7 hn3)
  have hs7 : Src w7 A cA M := by
    rcases HN6.out with h | ⟨g2, hA, ho2⟩
    · exact .inl h
    · rw [hA]
      exact src_own (ho2.other hb7 (by intro e; injection e with e; have := ho2.1; have := HR4.out.isLt; omega)) _
  have HS7 := Lib.hid hs7
  have HR7 := Lib.hid hr7
  have HB7 := Lib.hid (HB6.out.grown hb7 HB6.out.size (by intro k hk; injection hk with hk; omega))
  clear hb7 hs7 hr7
  have q3 : w7.cell? ⟨w2.heap.size, 3, none⟩ = some (.slice (some ⟨g1, 0, none⟩) M.length cap1) := HP7.out.cellAt 3
  have r3 : w7.cell? ⟨w5.heap.size, 3, none⟩ = some (.slice A M.length cA) := HQ7.out.cellAt 3
  have v1 := conv_back w7 g1 0 cap1 M HO7.out.holds
  have v2 := conv_src HS7.out
  go_wp2_with fail
  clear q3 r3 v1 v2
  obtain ⟨hq1, hq2, hq3, cur, hrow, hcur, _⟩ := HO7.out
  refine Calls.mono (spoilt_any g1 M.length cap1 cur w7 hq2 hq3 hrow hcur) ?_
  rintro e w8 ⟨rfl, hb8, hr8⟩
  have HR8 := Lib.hid (HR7.out.other hb8 hn3.symm)
  have HB8 := Lib.hid (HB7.out.grown hb8 HB7.out.size (by intro k hk; injection hk with hk; omega))
  clear hrow hcur hq1 hb8 hr8
  go_wp2_with fail
  refine Calls.mono (stays_yes w.heap.size s.size (s.size + 2) w8 (by omega) (by omega) HR8.out) ?_
  rintro e w9 ⟨rfl, rfl⟩
  go_wp2
  go_ret
  exact ⟨rfl, HB8.out⟩
end Go.Proofs.YtmcfcfdpckjonaaDoor
