/- The law Digests answers true at every input. Condition: errors.errorType holds reflectlite's handle of the type error. -/
import Derived.Test.YtmcfcfdpckjonaaDoorRefDigest
import Derived.Test.YtmcfcfdpckjonaaDoorArena
namespace Go.Proofs.YtmcfcfdpckjonaaDoor
open Go.RowKit

/-- The bytes of a text, as a world of its own. -/
theorem text_facts (s : ByteArray) (w : World) (hs : s.size ≤ 65536) :
    Below w.heap.size w (Lib.bytesWorld w 5 s) ∧ w.heap.size < (Lib.bytesWorld w 5 s).heap.size ∧ Holds (Lib.bytesWorld w 5 s) w.heap.size 0 s.data.toList ∧ s.size ≤ grownCap w s.size 0 5 ∧ grownCap w s.size 0 5 ≤ 9223372036854775807 := by
  refine ⟨⟨rfl, rfl, rfl, by rw [Lib.bytesWorld_size]; omega, fun k hk => Lib.bytesWorld_at_old w 5 s k hk⟩, by rw [Lib.bytesWorld_size]; omega, fun j hj => by rw [Nat.zero_add]; exact Lib.bytesWorld_cell w 5 s j (by rw [Lib.size_eq]; exact hj), grownCap_ge _ _ _ _, ?_⟩
  exact Nat.le_trans (grownCap_le_maxLen w s.size 0 5 (by unfold maxLen; omega)) (by unfold maxLen; omega)

theorem refDigest_at (g cap n : Nat) (l : List UInt8) (w : World) (hn : n = 288) (hl : l.length = 288) (hc : n ≤ cap) (hcap : cap ≤ 9223372036854775807) (hh : Holds w g 0 l) (hg : g < w.heap.size) :
    Calls Tryd.prog 19 #[.slice (some ⟨g, 0, none⟩) n cap] w fun e w' => e = .returned (.int .u32 ((nodeV l 1).toNat : Int)) ∧ Below w.heap.size w w' := by
  subst hn; exact refDigest_any g cap l w hl hc hcap hh hg

set_option maxHeartbeats 400000 in
set_option maxRecDepth 100000 in
theorem digests_long (s : ByteArray) (w : World) (hl : s.size ≤ 9223372036854775807) (h : 65536 < s.size) :
    Calls Tryd.prog 7 #[.string s] w fun e w' => e = .returned (.bool true) ∧ Below w.heap.size w w' := by
  go_enter Tryd.func7, Tryd.ntmps7
  go_wp2
  go_ret
  exact ⟨rfl, Below.refl _ _⟩

set_option maxHeartbeats 1000000 in
set_option maxRecDepth 100000 in
theorem digests_no (s : ByteArray) (w : World) (hg : ErrVar w) (hs : s.size ≤ 65536) (h : s.size ≠ 288) :
    Calls Tryd.prog 7 #[.string s] w fun e w' => e = .returned (.bool true) ∧ Below w.heap.size w w' := by
  have HG := Lib.hid hg
  have d1 : ((s.size : Int) != 288) = true := by rw [bne_iff_ne]; omega
  have d2 : ((s.size : Int) == 288) = false := by rw [beq_eq_false_iff_ne]; omega
  have HF := Lib.hid h
  clear hg h
  go_enter Tryd.func7, Tryd.ntmps7
  go_wp2_with fail
  refine Calls.mono (roomy_any s _ hs) ?_
  rintro e w1 ⟨rfl, hb1, hr1⟩
  have HB1 := Lib.hid hb1
  have HR1 := Lib.hid hr1
  clear hb1 hr1
  go_wp2_with fail
  refine Calls.mono (plainDigest_no w.heap.size (s.size + 2) s.size w1 (HG.out.below HB1.out) HF.out (by omega)) ?_
  rintro e w2 ⟨rfl, hb2⟩
  have HR2 := Lib.hid (HR1.out.under hb2 HR1.out.isLt)
  have HB2 := Lib.hid (HB1.out.trans (hb2.mono HB1.out.size))
  clear hb2
  go_wp2_with fail
  refine Calls.mono (still_yes s _ _ hs HR2.out) ?_
  rintro e w3 ⟨rfl, rfl⟩
  go_wp2
  go_ret
  exact ⟨rfl, HB2.out⟩

set_option maxHeartbeats 1000000 in
set_option maxRecDepth 100000 in
theorem digests_yes (s : ByteArray) (w : World) (h : s.size = 288) :
    Calls Tryd.prog 7 #[.string s] w fun e w' => e = .returned (.bool true) ∧ Below w.heap.size w w' := by
  have d1 : ((s.size : Int) != 288) = false := by rw [bne_eq_false_iff_eq]; omega
  have d2 : ((s.size : Int) == 288) = true := by rw [beq_iff_eq]; omega
  have hs : s.size ≤ 65536 := by omega
  have hsl : s.data.toList.length = 288 := by rw [← Lib.size_eq]; exact h
  obtain ⟨x, hx⟩ : ∃ x : Int, x = ((nodeV s.data.toList 1).toNat : Int) := ⟨_, rfl⟩
  have HX := Lib.hid hx
  have HF := Lib.hid h
  have HSL := Lib.hid hsl
  clear h hsl hx
  go_enter Tryd.func7, Tryd.ntmps7
  go_wp2_with fail
  refine Calls.mono (roomy_any s _ hs) ?_
  rintro e w1 ⟨rfl, hb1, hr1⟩
  have HB1 := Lib.hid hb1
  have HR1 := Lib.hid hr1
  clear hb1 hr1
  go_wp2_with fail
  have c1 := plainDigest_ok w.heap.size (s.size + 2) s.size s.data.toList w1 HF.out HSL.out (HR1.out.holds 0 _ (fun j hj => by rw [Nat.zero_add]; exact rm_pre s j (by rw [Lib.size_eq]; exact hj))) HR1.out.isLt
  rw [← HX.out] at c1
  refine Calls.mono c1 ?_
  clear c1
  rintro e w2 ⟨rfl, hb2⟩
  have HR2 := Lib.hid (HR1.out.under hb2 HR1.out.isLt)
  have HB2 := Lib.hid (HB1.out.trans (hb2.mono HB1.out.size))
  clear hb2
  go_wp2_with fail
  refine Calls.mono (still_yes s _ _ hs HR2.out) ?_
  rintro e w3 ⟨rfl, rfl⟩
  have hcv := Lib.run_convert_string_bytes (P := Tryd.prog) w2 9 25 5 s Tryd.underlying9 Tryd.underlying25 Tryd.underlying5
  obtain ⟨hb4, hl4, hh4, hc4, hc4'⟩ := text_facts s w2 hs
  generalize grownCap w2 s.size 0 5 = cap4 at hcv hc4 hc4'
  generalize Lib.bytesWorld w2 5 s = w4 at hcv hb4 hl4 hh4
  have HL4 := Lib.hid hl4
  have HH4 := Lib.hid hh4
  have HC4 := Lib.hid (And.intro hc4 hc4')
  have HB4 := Lib.hid (HB2.out.trans (hb4.mono HB2.out.size))
  clear hb4 hl4 hh4 hc4 hc4'
  go_wp2_with fail
  have c2 := refDigest_at w2.heap.size cap4 s.size s.data.toList w4 HF.out HSL.out HC4.out.1 HC4.out.2 HH4.out HL4.out
  rw [← HX.out] at c2
  refine Calls.mono c2 ?_
  clear c2 hcv
  rintro e w5 ⟨rfl, hb5⟩
  have HB5 := Lib.hid (HB4.out.trans (hb5.mono HB4.out.size))
  clear hb5
  go_wp2
  go_ret
  exact ⟨rfl, HB5.out⟩

theorem digests_any (s : ByteArray) (w : World) (hg : ErrVar w) (hs : s.size ≤ 9223372036854775807) :
    Calls Tryd.prog 7 #[.string s] w fun e w' => e = .returned (.bool true) ∧ Below w.heap.size w w' := by
  by_cases hl : 65536 < s.size
  · exact digests_long s w hs hl
  by_cases hf : s.size = 288
  · exact digests_yes s w hf
  · exact digests_no s w hg (by omega) hf
end Go.Proofs.YtmcfcfdpckjonaaDoor
