/- The law Repacked answers true at every input. Condition: errors.errorType holds reflectlite's handle of the type error. -/
import Derived.Test.YtmcfcfdpckjonaaDoorPlain
import Derived.Test.YtmcfcfdpckjonaaDoorPackB
import Derived.Test.YtmcfcfdpckjonaaDoorPacksWalk
import Derived.Test.YtmcfcfdpckjonaaDoorUnpackQ
namespace Go.Proofs.YtmcfcfdpckjonaaDoor
open Go.RowKit

/-- Which of n things the raw number c speaks of. -/
def pickN (c : Int) (n : Nat) : Nat := (if c < 0 then -(c + 1) else c).toNat % n
theorem pickN_lt (c : Int) (n : Nat) (h : 0 < n) : pickN c n < n := Nat.mod_lt _ h

set_option maxHeartbeats 400000 in
set_option maxRecDepth 100000 in
theorem pick_any (c : Int) (n : Nat) (w : World) (h1 : -9223372036854775808 ≤ c) (h2 : c ≤ 9223372036854775807) (h0 : 0 < n) (hn : n ≤ 65536) :
    Calls Tryd.prog 17 #[.int .i64 c, .int .i64 (n : Int)] w fun e w' => e = .returned (.int .i64 (pickN c n)) ∧ w = w' := by
  by_cases hc : c < 0
  · have e : ((pickN c n : Nat) : Int) = -((c + 1).tmod (n : Int)) := by
      unfold pickN; rw [if_pos hc, Int.natCast_emod, Int.toNat_of_nonneg (by omega), ← Int.neg_tmod, Int.tmod_eq_emod_of_nonneg (by omega)]
    have H := Lib.hid e
    clear e
    go_enter Tryd.func17, Tryd.ntmps17
    go_wp2
    go_ret
    exact ⟨by rw [H.out]; rfl, rfl⟩
  · have e : ((pickN c n : Nat) : Int) = c % (n : Int) := by
      unfold pickN; rw [if_neg hc, Int.natCast_emod, Int.toNat_of_nonneg (by omega)]
    have H := Lib.hid e
    clear e
    go_enter Tryd.func17, Tryd.ntmps17
    go_wp2
    go_ret
    exact ⟨by rw [H.out]; rfl, rfl⟩

theorem pick_at (c m : Int) (n : Nat) (w : World) (hm : m = (n : Int)) (h1 : -9223372036854775808 ≤ c) (h2 : c ≤ 9223372036854775807) (h0 : 0 < n) (hn : n ≤ 65536) :
    Calls Tryd.prog 17 #[.int .i64 c, .int .i64 m] w fun e w' => e = .returned (.int .i64 (pickN c n)) ∧ w = w' := by
  subst hm; exact pick_any c n w h1 h2 h0 hn
theorem bit_of (k : Nat) : ∃ b : UInt8, b ≠ 0 ∧ ((b.toNat : Nat) : Int) = 2 ^ (k % 8) % 256 := by
  have h : k % 8 < 8 := Nat.mod_lt _ (by omega)
  generalize k % 8 = j at h
  match j, h with
  | 0, _ => exact ⟨1, by decide, by decide⟩
  | 1, _ => exact ⟨2, by decide, by decide⟩
  | 2, _ => exact ⟨4, by decide, by decide⟩
  | 3, _ => exact ⟨8, by decide, by decide⟩
  | 4, _ => exact ⟨16, by decide, by decide⟩
  | 5, _ => exact ⟨32, by decide, by decide⟩
  | 6, _ => exact ⟨64, by decide, by decide⟩
  | 7, _ => exact ⟨128, by decide, by decide⟩
theorem plainUnpack_at (g cap m : Nat) (l : List UInt8) (w : World) (hm : m = l.length) (hE : ErrVar w) (hl : l.length ≤ 65600) (hc : l.length ≤ cap) (hcap : cap ≤ 9223372036854775807) (hg : g < w.heap.size) (hh : Holds w g 0 l) (h : ¬ valid l) :
    Calls Tryd.prog 15 #[.slice (some ⟨g, 0, none⟩) m cap] w (NonePost w (.tuple #[noPacket, .int .i64 5])) := by
  subst hm; exact plainUnpack_no g cap l w hE hl hc hcap hg hh h
theorem byte_of (n : Int) : ∃ x : UInt8, ((x.toNat : Nat) : Int) = n % 256 := ⟨UInt8.ofNat (n % 256).toNat, by rw [ofNat_toNat _ (by omega)]; omega⟩
theorem own_store {w : World} {base g cap : Nat} {l : List UInt8} (h : Own w base g cap l) (i : Nat) (x : UInt8) : Own (w.setCell ⟨g, i, none⟩ (.int .u8 (x.toNat : Int))) base g cap (l.set i x) := by
  obtain ⟨h1, h2, h3, cur, hr, h4, h5⟩ := h
  refine ⟨h1, by simpa using h2, h3, _, hr.stored i _, by simpa using h4, fun j hj => ?_⟩
  have hj' : j < l.length := by simpa using hj
  rw [Array.getElem?_setIfInBounds, List.getD_eq_getElem?_getD]
  by_cases e : i = j
  · subst e; rw [if_pos rfl, if_pos (by omega), List.getElem?_set_self hj']; rfl
  · rw [if_neg e, List.getElem?_set_ne e, h5 j hj', List.getD_eq_getElem?_getD]

set_option maxHeartbeats 4000000 in
set_option maxRecDepth 100000 in
theorem repacked_short (a b c n : Int) (s : ByteArray) (w : World) (hE : ErrVar w) (ha : i64 a) (hb : i64 b) (hc : i64 c) (hn : i64 n) (hs : s.size ≤ 64) :
    Calls Tryd.prog 6 #[.int .i64 a, .int .i64 b, .int .i64 c, .string s, .int .i64 n] w fun e w' => e = .returned (.bool true) ∧ Below w.heap.size w w' := by
  have HE := Lib.hid hE
  have hsl : s.data.toList.length = s.size := (Lib.size_eq s).symm
  have HSL := Lib.hid hsl
  have HA := Lib.hid ha
  have HB0 := Lib.hid hb
  have HC := Lib.hid hc
  have HN := Lib.hid hn
  obtain ⟨fr, hfr⟩ : ∃ x, x = pickN a 4 := ⟨_, rfl⟩
  obtain ⟨st, hst⟩ : ∃ x, x = pickN b 65536 := ⟨_, rfl⟩
  obtain ⟨ak, hak⟩ : ∃ x, x = pickN c 65536 := ⟨_, rfl⟩
  have f4 : fr < 4 := by rw [hfr]; exact pickN_lt _ _ (by omega)
  have s6 : st ≤ 65535 := by have := pickN_lt b 65536 (by omega); omega
  have a6 : ak ≤ 65535 := by have := pickN_lt c 65536 (by omega); omega
  have HP := Lib.hid (And.intro hfr (And.intro hst hak))
  obtain ⟨M, hM⟩ : ∃ M, M = pk fr st ak s.data.toList := ⟨_, rfl⟩
  have hML : M.length = s.size + 8 := by rw [hM, pk_len, hsl]
  have HM := Lib.hid hM
  have HML := Lib.hid hML
  have m1 : 8 ≤ M.length := by omega
  have m2 : M.length ≤ 72 := by omega
  have hv : valid M := by rw [hM]; exact pk_valid _ _ _ _ f4 (by omega)
  have HV := Lib.hid hv
  have HI := Lib.hid (And.intro (show (M.getD 1 0).toNat = fr by rw [hM]; exact pk_from _ _ _ _ f4) (And.intro (show startOf M = st by rw [hM]; exact pk_start _ _ _ _ s6) (And.intro (show ackOf M = ak by rw [hM]; exact pk_ack _ _ _ _ a6) (show inner M = s.data.toList by rw [hM]; exact pk_inner _ _ _ _))))
  obtain ⟨k, hk⟩ : ∃ x, x = pickN n (8 * M.length) := ⟨_, rfl⟩
  have HK := Lib.hid hk
  have k8 : k < 8 * M.length := by rw [hk]; exact pickN_lt _ _ (by omega)
  have hcv := Lib.run_convert_string_bytes (P := Tryd.prog) w 9 25 5 s Tryd.underlying9 Tryd.underlying25 Tryd.underlying5
  clear hsl hfr hst hak hM hML hv hk ha hb hc hn hE
  go_enter Tryd.func6, Tryd.ntmps6
  go_wp2_with fail
  refine Calls.mono (pick_any a 4 _ HA.out.1 HA.out.2 (by omega) (by omega)) ?_
  rintro e w0 ⟨rfl, rfl⟩
  rw [← HP.out.1]
  go_wp2_with fail
  refine Calls.mono (pick_any b 65536 _ HB0.out.1 HB0.out.2 (by omega) (by omega)) ?_
  rintro e w0 ⟨rfl, rfl⟩
  rw [← HP.out.2.1]
  go_wp2_with fail
  refine Calls.mono (pick_any c 65536 _ HC.out.1 HC.out.2 (by omega) (by omega)) ?_
  rintro e w0 ⟨rfl, rfl⟩
  rw [← HP.out.2.2]
  go_wp2_with fail
  have hwb1 := below_bytesWorld w s
  have hwb2 := holds_bytesWorld w s
  have hwb3 := Lib.bytesWorld_size w 5 s
  clear hcv
  generalize Lib.bytesWorld w 5 s = wb at hwb1 hwb2 hwb3 ⊢
  generalize grownCap w s.size 0 5 = gc
  have HWB1 := Lib.hid hwb1
  have HWB3 := Lib.hid hwb3
  have c1 := plainPack_yes fr st ak (some ⟨w.heap.size, 0, none⟩) gc s.data.toList (wb.alloc (.cells #[.int .i64 fr, .int .i64 st, .int .i64 ak, .slice (some ⟨w.heap.size, 0, none⟩) s.size gc] 28)) f4 s6 a6 (by rw [HSL.out]; exact hs) (Src.below (.inr ⟨w.heap.size, 0, rfl, hwb2⟩) ((Below.refl _ _).alloc (Nat.le_refl _) _))
  rw [HSL.out, ← HM.out] at c1
  clear hwb1 hwb2 hwb3
  refine Calls.mono c1 ?_
  clear c1
  rintro e w3 ⟨g, cap, rfl, ho3, hb3⟩
  have HO3 := Lib.hid ho3
  have HP3 := Lib.hid ((Row.made wb 28 _).under hb3 (by simp))
  have HB3 := Lib.hid ((HWB1.out.alloc HWB1.out.size _).trans (hb3.mono (by have := HWB3.out; simp; omega)))
  have gwb : wb.heap.size < g := by have := ho3.1; simp at this; omega
  obtain ⟨_, hc1, hc2, _⟩ := ho3
  clear hb3
  go_wp2_with fail
  have c2 := plainUnpack_ok g cap M w3 hc1 hc2 HO3.out.lt HO3.out.holds HV.out
  rw [HI.out.1, HI.out.2.1, HI.out.2.2.1, HI.out.2.2.2] at c2
  refine Calls.mono c2 ?_
  clear c2
  rintro e w4 ⟨g2, cap2, rfl, ho4, hb4⟩
  have HO4 := Lib.hid (HO3.out.below hb4)
  have HP4 := Lib.hid (HP3.out.under hb4 HP3.out.isLt)
  have HQ4 := Lib.hid ho4
  have HB4 := Lib.hid (HB3.out.trans (hb4.mono HB3.out.size))
  have HP4' := HP4.out.later (.cells #[.int .i64 fr, .int .i64 st, .int .i64 ak, .slice (some ⟨g2, 0, none⟩) s.size cap2] 28)
  have p0 := HP4'.cellAt 0
  have p1 := HP4'.cellAt 1
  have p2 := HP4'.cellAt 2
  have gw3 : g < w4.heap.size := HO4.out.lt
  have hPne : wb.heap.size ≠ w4.heap.size := by omega
  simp at p0 p1 p2
  clear ho4 hb4 HP4'
  rw [HSL.out]
  have hq := conv_back (w4.alloc (.cells #[.int .i64 fr, .int .i64 st, .int .i64 ak, .slice (some ⟨g2, 0, none⟩) s.size cap2] 28)) g2 0 cap2 s.data.toList (HQ4.out.holds.below ((Below.refl _ _).alloc (Nat.le_refl _) _) HQ4.out.lt)
  rw [str_eta, HSL.out] at hq
  go_wp2_with fail
  refine Calls.mono (pick_at n _ (8 * M.length) _ (by omega) HN.out.1 HN.out.2 (by omega) (by omega)) ?_
  rintro e w5 ⟨rfl, rfl⟩
  rw [← HK.out]
  have HB5 := Lib.hid (HB4.out.alloc HB4.out.size (.cells #[.int .i64 fr, .int .i64 st, .int .i64 ak, .slice (some ⟨g2, 0, none⟩) s.size cap2] 28))
  have HO5 := Lib.hid (HO4.out.below ((Below.refl _ _).alloc (Nat.le_refl _) (.cells #[.int .i64 fr, .int .i64 st, .int .i64 ak, .slice (some ⟨g2, 0, none⟩) s.size cap2] 28)))
  clear p0 p1 p2 hq hPne
  generalize w4.alloc (.cells #[.int .i64 fr, .int .i64 st, .int .i64 ak, .slice (some ⟨g2, 0, none⟩) s.size cap2] 28) = w5 at HB5 HO5 ⊢
  go_wp2_with fail
  have b1 : (0 : Int) ≤ (k : Int) / 8 := by omega
  have b2 : (k : Int) / 8 < (M.length : Int) := by omega
  have b3 : k / 8 < M.length := by omega
  have hx := HO5.out.holds (k / 8) b3
  rw [Nat.zero_add] at hx
  obtain ⟨x, hxx⟩ : ∃ x, x = M.getD (k / 8) 0 := ⟨_, rfl⟩
  rw [← hxx] at hx
  have HXX := Lib.hid hxx
  have hf : w5.frozen? ⟨g, k / 8, none⟩ = false := by obtain ⟨_, _, _, cur, hr, _⟩ := HO5.out; exact hr.notFrozen _
  clear hxx
  obtain ⟨bit, hbit, hbe⟩ := bit_of k
  obtain ⟨y, hy⟩ : ∃ y, y = x ^^^ bit := ⟨_, rfl⟩
  have ev : bits .xor .u8 (x.toNat : Int) (2 ^ (k % 8) % 256) = (y.toNat : Int) := by rw [← hbe, hy]; exact u8_xor' x bit
  have ew : bits .xor .u8 (y.toNat : Int) (2 ^ (k % 8) % 256) = (x.toNat : Int) := by rw [← hbe, hy, u8_xor', xor_back]
  have HY := Lib.hid hy
  have HEV := Lib.hid ev
  have HEW := Lib.hid ew
  have HBit := Lib.hid hbit
  clear ev ew hbe hbit hy
  go_region
  rw [HEV.out]
  have h6a := own_store HO5.out (k / 8) y
  have h6b := HB5.out.setCell (p := ⟨g, k / 8, none⟩) (by have := HWB1.out.size; simp; omega) (.int .u8 (y.toNat : Int))
  have HO6 := Lib.hid (show Own ((w5.setCell ⟨g, k / 8, none⟩ (.int .u8 (y.toNat : Int))).drew) _ g cap _ from h6a)
  have HB6 := Lib.hid h6b.drew
  clear h6a h6b hx hf
  generalize (w5.setCell ⟨g, k / 8, none⟩ (.int .u8 (y.toNat : Int))).drew = w6 at HO6 HB6 ⊢
  go_wp2_with fail
  refine Calls.mono (plainUnpack_at g cap _ (M.set (k / 8) y) _ (by simp) (HE.out.below HB6.out) (by simp; omega) (by simpa using hc1) hc2 HO6.out.lt HO6.out.holds (by rw [HY.out, HXX.out]; exact valid_turned M HV.out _ b3 bit HBit.out)) ?_
  rintro e w7 ⟨rfl, hb7⟩
  unfold noPacket
  have h7a := HO6.out.below hb7
  have HO7 := Lib.hid (h7a.below ((Below.refl _ _).alloc (Nat.le_refl _) (.cells #[.int .i64 0, .int .i64 0, .int .i64 0, .slice none 0 0] 28)))
  have HB7 := Lib.hid ((HB6.out.trans (hb7.mono HB6.out.size)).alloc (by have := HB6.out.size; have := hb7.size; omega) (.cells #[.int .i64 0, .int .i64 0, .int .i64 0, .slice none 0 0] 28))
  have hx : (w7.alloc (.cells #[.int .i64 0, .int .i64 0, .int .i64 0, .slice none 0 0] 28)).cell? ⟨g, k / 8, none⟩ = some (.int .u8 (y.toNat : Int)) := by
    have := HO7.out.holds (k / 8) (by simpa using b3)
    rw [Nat.zero_add, List.getD_eq_getElem?_getD, List.getElem?_set_self b3] at this
    exact this
  have hf : (w7.alloc (.cells #[.int .i64 0, .int .i64 0, .int .i64 0, .slice none 0 0] 28)).frozen? ⟨g, k / 8, none⟩ = false := by obtain ⟨_, _, _, cur, hr, _⟩ := HO7.out; exact hr.notFrozen _
  clear hb7 h7a
  go_wp2_with fail
  generalize w7.alloc (.cells #[.int .i64 0, .int .i64 0, .int .i64 0, .slice none 0 0] 28) = w7a at HO7 HB7 hx hf ⊢
  go_region
  rw [HEW.out]
  have h8a := own_store HO7.out (k / 8) x
  rw [List.set_set, HXX.out, List.getD_eq_getElem?_getD, List.getElem?_eq_getElem b3, Option.getD_some, List.set_getElem_self b3, ← Option.getD_some (a := M[k / 8]) (b := 0), ← List.getElem?_eq_getElem b3, ← List.getD_eq_getElem?_getD, ← HXX.out] at h8a
  have HO8 := Lib.hid (show Own ((w7a.setCell ⟨g, k / 8, none⟩ (.int .u8 (x.toNat : Int))).drew) _ g cap M from h8a)
  have HB8 := Lib.hid (HB7.out.setCell (p := ⟨g, k / 8, none⟩) (by have := HWB1.out.size; simp; omega) (.int .u8 (x.toNat : Int))).drew
  clear hx hf h8a
  generalize (w7a.setCell ⟨g, k / 8, none⟩ (.int .u8 (x.toNat : Int))).drew = w8 at HO8 HB8 ⊢
  go_wp2_with fail
  refine Calls.mono (plainUnpack_at g cap _ (M.take (M.length - 1)) _ (by simp) (HE.out.below HB8.out) (by simp; omega) (by simp; omega) hc2 HO8.out.lt (HO8.out.holds.take _) (valid_less M HV.out)) ?_
  rintro e w9 ⟨rfl, hb9⟩
  unfold noPacket
  have h9a := HO8.out.below hb9
  have HO9 := Lib.hid (h9a.below ((Below.refl _ _).alloc (Nat.le_refl _) (.cells #[.int .i64 0, .int .i64 0, .int .i64 0, .slice none 0 0] 28)))
  have HB9 := Lib.hid ((HB8.out.trans (hb9.mono HB8.out.size)).alloc (by have := HB8.out.size; have := hb9.size; omega) (.cells #[.int .i64 0, .int .i64 0, .int .i64 0, .slice none 0 0] 28))
  clear hb9 h9a
  obtain ⟨xn, hxn⟩ := byte_of n
  have on := own_new (w9.alloc (.cells #[.int .i64 0, .int .i64 0, .int .i64 0, .slice none 0 0] 28)) (w9.alloc (.cells #[.int .i64 0, .int .i64 0, .int .i64 0, .slice none 0 0] 28)).heap.size #[.int .u8 (n % 256)] [xn] (by rw [← hxn]; rfl) (Nat.le_refl _) (by simp)
  have o9 := HO9.out.below ((Below.refl _ _).alloc (Nat.le_refl _) (.cells #[.int .u8 (n % 256)] 5))
  obtain ⟨ga, capa, wa, hra, hoa, hga⟩ := app_own _ _ _ _ _ _ _ _ o9 (src_own on 1) (by simp; omega) (by have := HO9.out.lt; have := HO9.out.1; simp at *; omega)
  have e1 : ([xn] : List UInt8).length = 1 := rfl
  rw [e1] at hra
  simp only [World.size_alloc] at hra
  obtain ⟨N, hN⟩ : ∃ N, N = M ++ [xn] := ⟨_, rfl⟩
  rw [← hN] at hra hoa
  have HNN := Lib.hid hN
  have HOA := Lib.hid hoa
  have HBA := Lib.hid ((HB9.out.alloc HB9.out.size (.cells #[.int .u8 (n % 256)] 5)).grown hga (by have := HB9.out.size; simp at *; omega) (by intro j hj; injection hj with hj; have := HWB1.out.size; omega))
  have hNc : N.length ≤ capa := hoa.2.1
  have hNc2 : capa ≤ 9223372036854775807 := hoa.2.2.1
  have hNl : N.length ≤ 65600 := by rw [hN]; simp; omega
  have HNl := Lib.hid hNl
  clear on o9 hoa hga hN e1 hxn hNl
  go_wp2_with (first | (at_builtin; refine wpList_append_known rfl (.tmp 126) (.tmp 129) rfl rfl rfl hra ?_; clear hra))
  refine Calls.mono (plainUnpack_at ga capa _ N _ rfl (HE.out.below HBA.out) HNl.out hNc hNc2 HOA.out.lt HOA.out.holds (by rw [HNN.out]; exact valid_more M HV.out xn)) ?_
  rintro e w10 ⟨rfl, hb10⟩
  unfold noPacket
  have HB10 := Lib.hid ((HBA.out.trans (hb10.mono HBA.out.size)).alloc (by have := HBA.out.size; have := hb10.size; omega) (.cells #[.int .i64 0, .int .i64 0, .int .i64 0, .slice none 0 0] 28))
  clear hb10
  go_wp2
  go_ret
  exact ⟨rfl, HB10.out⟩
set_option maxHeartbeats 4000000 in
set_option maxRecDepth 100000 in
theorem repacked_long (a b c n : Int) (s0 : ByteArray) (w : World) (hE : ErrVar w) (ha : i64 a) (hb : i64 b) (hc : i64 c) (hn : i64 n) (hl0 : 64 < s0.size) (hl1 : s0.size ≤ 9223372036854775807) :
    Calls Tryd.prog 6 #[.int .i64 a, .int .i64 b, .int .i64 c, .string s0, .int .i64 n] w fun e w' => e = .returned (.bool true) ∧ Below w.heap.size w w' := by
  obtain ⟨s, hS⟩ : ∃ s : ByteArray, s = s0.extract 0 64 := ⟨_, rfl⟩
  have hs : s.size ≤ 64 := by rw [hS, ByteArray.size_extract]; omega
  have HSS := Lib.hid hS
  clear hS
  have HE := Lib.hid hE
  have hsl : s.data.toList.length = s.size := (Lib.size_eq s).symm
  have HSL := Lib.hid hsl
  have HA := Lib.hid ha
  have HB0 := Lib.hid hb
  have HC := Lib.hid hc
  have HN := Lib.hid hn
  obtain ⟨fr, hfr⟩ : ∃ x, x = pickN a 4 := ⟨_, rfl⟩
  obtain ⟨st, hst⟩ : ∃ x, x = pickN b 65536 := ⟨_, rfl⟩
  obtain ⟨ak, hak⟩ : ∃ x, x = pickN c 65536 := ⟨_, rfl⟩
  have f4 : fr < 4 := by rw [hfr]; exact pickN_lt _ _ (by omega)
  have s6 : st ≤ 65535 := by have := pickN_lt b 65536 (by omega); omega
  have a6 : ak ≤ 65535 := by have := pickN_lt c 65536 (by omega); omega
  have HP := Lib.hid (And.intro hfr (And.intro hst hak))
  obtain ⟨M, hM⟩ : ∃ M, M = pk fr st ak s.data.toList := ⟨_, rfl⟩
  have hML : M.length = s.size + 8 := by rw [hM, pk_len, hsl]
  have HM := Lib.hid hM
  have HML := Lib.hid hML
  have m1 : 8 ≤ M.length := by omega
  have m2 : M.length ≤ 72 := by omega
  have hv : valid M := by rw [hM]; exact pk_valid _ _ _ _ f4 (by omega)
  have HV := Lib.hid hv
  have HI := Lib.hid (And.intro (show (M.getD 1 0).toNat = fr by rw [hM]; exact pk_from _ _ _ _ f4) (And.intro (show startOf M = st by rw [hM]; exact pk_start _ _ _ _ s6) (And.intro (show ackOf M = ak by rw [hM]; exact pk_ack _ _ _ _ a6) (show inner M = s.data.toList by rw [hM]; exact pk_inner _ _ _ _))))
  obtain ⟨k, hk⟩ : ∃ x, x = pickN n (8 * M.length) := ⟨_, rfl⟩
  have HK := Lib.hid hk
  have k8 : k < 8 * M.length := by rw [hk]; exact pickN_lt _ _ (by omega)
  have hcv := Lib.run_convert_string_bytes (P := Tryd.prog) w 9 25 5 s Tryd.underlying9 Tryd.underlying25 Tryd.underlying5
  clear hsl hfr hst hak hM hML hv hk ha hb hc hn hE
  go_enter Tryd.func6, Tryd.ntmps6
  go_wp2_with fail
  rw [← HSS.out]
  refine Calls.mono (pick_any a 4 _ HA.out.1 HA.out.2 (by omega) (by omega)) ?_
  rintro e w0 ⟨rfl, rfl⟩
  rw [← HP.out.1]
  go_wp2_with fail
  refine Calls.mono (pick_any b 65536 _ HB0.out.1 HB0.out.2 (by omega) (by omega)) ?_
  rintro e w0 ⟨rfl, rfl⟩
  rw [← HP.out.2.1]
  go_wp2_with fail
  refine Calls.mono (pick_any c 65536 _ HC.out.1 HC.out.2 (by omega) (by omega)) ?_
  rintro e w0 ⟨rfl, rfl⟩
  rw [← HP.out.2.2]
  go_wp2_with fail
  have hwb1 := below_bytesWorld w s
  have hwb2 := holds_bytesWorld w s
  have hwb3 := Lib.bytesWorld_size w 5 s
  clear hcv
  generalize Lib.bytesWorld w 5 s = wb at hwb1 hwb2 hwb3 ⊢
  generalize grownCap w s.size 0 5 = gc
  have HWB1 := Lib.hid hwb1
  have HWB3 := Lib.hid hwb3
  have c1 := plainPack_yes fr st ak (some ⟨w.heap.size, 0, none⟩) gc s.data.toList (wb.alloc (.cells #[.int .i64 fr, .int .i64 st, .int .i64 ak, .slice (some ⟨w.heap.size, 0, none⟩) s.size gc] 28)) f4 s6 a6 (by rw [HSL.out]; exact hs) (Src.below (.inr ⟨w.heap.size, 0, rfl, hwb2⟩) ((Below.refl _ _).alloc (Nat.le_refl _) _))
  rw [HSL.out, ← HM.out] at c1
  clear hwb1 hwb2 hwb3
  refine Calls.mono c1 ?_
  clear c1
  rintro e w3 ⟨g, cap, rfl, ho3, hb3⟩
  have HO3 := Lib.hid ho3
  have HP3 := Lib.hid ((Row.made wb 28 _).under hb3 (by simp))
  have HB3 := Lib.hid ((HWB1.out.alloc HWB1.out.size _).trans (hb3.mono (by have := HWB3.out; simp; omega)))
  have gwb : wb.heap.size < g := by have := ho3.1; simp at this; omega
  obtain ⟨_, hc1, hc2, _⟩ := ho3
  clear hb3
  go_wp2_with fail
  have c2 := plainUnpack_ok g cap M w3 hc1 hc2 HO3.out.lt HO3.out.holds HV.out
  rw [HI.out.1, HI.out.2.1, HI.out.2.2.1, HI.out.2.2.2] at c2
  refine Calls.mono c2 ?_
  clear c2
  rintro e w4 ⟨g2, cap2, rfl, ho4, hb4⟩
  have HO4 := Lib.hid (HO3.out.below hb4)
  have HP4 := Lib.hid (HP3.out.under hb4 HP3.out.isLt)
  have HQ4 := Lib.hid ho4
  have HB4 := Lib.hid (HB3.out.trans (hb4.mono HB3.out.size))
  have HP4' := HP4.out.later (.cells #[.int .i64 fr, .int .i64 st, .int .i64 ak, .slice (some ⟨g2, 0, none⟩) s.size cap2] 28)
  have p0 := HP4'.cellAt 0
  have p1 := HP4'.cellAt 1
  have p2 := HP4'.cellAt 2
  have gw3 : g < w4.heap.size := HO4.out.lt
  have hPne : wb.heap.size ≠ w4.heap.size := by omega
  simp at p0 p1 p2
  clear ho4 hb4 HP4'
  rw [HSL.out]
  have hq := conv_back (w4.alloc (.cells #[.int .i64 fr, .int .i64 st, .int .i64 ak, .slice (some ⟨g2, 0, none⟩) s.size cap2] 28)) g2 0 cap2 s.data.toList (HQ4.out.holds.below ((Below.refl _ _).alloc (Nat.le_refl _) _) HQ4.out.lt)
  rw [str_eta, HSL.out] at hq
  go_wp2_with fail
  refine Calls.mono (pick_at n _ (8 * M.length) _ (by omega) HN.out.1 HN.out.2 (by omega) (by omega)) ?_
  rintro e w5 ⟨rfl, rfl⟩
  rw [← HK.out]
  have HB5 := Lib.hid (HB4.out.alloc HB4.out.size (.cells #[.int .i64 fr, .int .i64 st, .int .i64 ak, .slice (some ⟨g2, 0, none⟩) s.size cap2] 28))
  have HO5 := Lib.hid (HO4.out.below ((Below.refl _ _).alloc (Nat.le_refl _) (.cells #[.int .i64 fr, .int .i64 st, .int .i64 ak, .slice (some ⟨g2, 0, none⟩) s.size cap2] 28)))
  clear p0 p1 p2 hq hPne
  generalize w4.alloc (.cells #[.int .i64 fr, .int .i64 st, .int .i64 ak, .slice (some ⟨g2, 0, none⟩) s.size cap2] 28) = w5 at HB5 HO5 ⊢
  go_wp2_with fail
  have b1 : (0 : Int) ≤ (k : Int) / 8 := by omega
  have b2 : (k : Int) / 8 < (M.length : Int) := by omega
  have b3 : k / 8 < M.length := by omega
  have hx := HO5.out.holds (k / 8) b3
  rw [Nat.zero_add] at hx
  obtain ⟨x, hxx⟩ : ∃ x, x = M.getD (k / 8) 0 := ⟨_, rfl⟩
  rw [← hxx] at hx
  have HXX := Lib.hid hxx
  have hf : w5.frozen? ⟨g, k / 8, none⟩ = false := by obtain ⟨_, _, _, cur, hr, _⟩ := HO5.out; exact hr.notFrozen _
  clear hxx
  obtain ⟨bit, hbit, hbe⟩ := bit_of k
  obtain ⟨y, hy⟩ : ∃ y, y = x ^^^ bit := ⟨_, rfl⟩
  have ev : bits .xor .u8 (x.toNat : Int) (2 ^ (k % 8) % 256) = (y.toNat : Int) := by rw [← hbe, hy]; exact u8_xor' x bit
  have ew : bits .xor .u8 (y.toNat : Int) (2 ^ (k % 8) % 256) = (x.toNat : Int) := by rw [← hbe, hy, u8_xor', xor_back]
  have HY := Lib.hid hy
  have HEV := Lib.hid ev
  have HEW := Lib.hid ew
  have HBit := Lib.hid hbit
  clear ev ew hbe hbit hy
  go_region
  rw [HEV.out]
  have h6a := own_store HO5.out (k / 8) y
  have h6b := HB5.out.setCell (p := ⟨g, k / 8, none⟩) (by have := HWB1.out.size; simp; omega) (.int .u8 (y.toNat : Int))
  have HO6 := Lib.hid (show Own ((w5.setCell ⟨g, k / 8, none⟩ (.int .u8 (y.toNat : Int))).drew) _ g cap _ from h6a)
  have HB6 := Lib.hid h6b.drew
  clear h6a h6b hx hf
  generalize (w5.setCell ⟨g, k / 8, none⟩ (.int .u8 (y.toNat : Int))).drew = w6 at HO6 HB6 ⊢
  go_wp2_with fail
  refine Calls.mono (plainUnpack_at g cap _ (M.set (k / 8) y) _ (by simp) (HE.out.below HB6.out) (by simp; omega) (by simpa using hc1) hc2 HO6.out.lt HO6.out.holds (by rw [HY.out, HXX.out]; exact valid_turned M HV.out _ b3 bit HBit.out)) ?_
  rintro e w7 ⟨rfl, hb7⟩
  unfold noPacket
  have h7a := HO6.out.below hb7
  have HO7 := Lib.hid (h7a.below ((Below.refl _ _).alloc (Nat.le_refl _) (.cells #[.int .i64 0, .int .i64 0, .int .i64 0, .slice none 0 0] 28)))
  have HB7 := Lib.hid ((HB6.out.trans (hb7.mono HB6.out.size)).alloc (by have := HB6.out.size; have := hb7.size; omega) (.cells #[.int .i64 0, .int .i64 0, .int .i64 0, .slice none 0 0] 28))
  have hx : (w7.alloc (.cells #[.int .i64 0, .int .i64 0, .int .i64 0, .slice none 0 0] 28)).cell? ⟨g, k / 8, none⟩ = some (.int .u8 (y.toNat : Int)) := by
    have := HO7.out.holds (k / 8) (by simpa using b3)
    rw [Nat.zero_add, List.getD_eq_getElem?_getD, List.getElem?_set_self b3] at this
    exact this
  have hf : (w7.alloc (.cells #[.int .i64 0, .int .i64 0, .int .i64 0, .slice none 0 0] 28)).frozen? ⟨g, k / 8, none⟩ = false := by obtain ⟨_, _, _, cur, hr, _⟩ := HO7.out; exact hr.notFrozen _
  clear hb7 h7a
  go_wp2_with fail
  generalize w7.alloc (.cells #[.int .i64 0, .int .i64 0, .int .i64 0, .slice none 0 0] 28) = w7a at HO7 HB7 hx hf ⊢
  go_region
  rw [HEW.out]
  have h8a := own_store HO7.out (k / 8) x
  rw [List.set_set, HXX.out, List.getD_eq_getElem?_getD, List.getElem?_eq_getElem b3, Option.getD_some, List.set_getElem_self b3, ← Option.getD_some (a := M[k / 8]) (b := 0), ← List.getElem?_eq_getElem b3, ← List.getD_eq_getElem?_getD, ← HXX.out] at h8a
  have HO8 := Lib.hid (show Own ((w7a.setCell ⟨g, k / 8, none⟩ (.int .u8 (x.toNat : Int))).drew) _ g cap M from h8a)
  have HB8 := Lib.hid (HB7.out.setCell (p := ⟨g, k / 8, none⟩) (by have := HWB1.out.size; simp; omega) (.int .u8 (x.toNat : Int))).drew
  clear hx hf h8a
  generalize (w7a.setCell ⟨g, k / 8, none⟩ (.int .u8 (x.toNat : Int))).drew = w8 at HO8 HB8 ⊢
  go_wp2_with fail
  refine Calls.mono (plainUnpack_at g cap _ (M.take (M.length - 1)) _ (by simp) (HE.out.below HB8.out) (by simp; omega) (by simp; omega) hc2 HO8.out.lt (HO8.out.holds.take _) (valid_less M HV.out)) ?_
  rintro e w9 ⟨rfl, hb9⟩
  unfold noPacket
  have h9a := HO8.out.below hb9
  have HO9 := Lib.hid (h9a.below ((Below.refl _ _).alloc (Nat.le_refl _) (.cells #[.int .i64 0, .int .i64 0, .int .i64 0, .slice none 0 0] 28)))
  have HB9 := Lib.hid ((HB8.out.trans (hb9.mono HB8.out.size)).alloc (by have := HB8.out.size; have := hb9.size; omega) (.cells #[.int .i64 0, .int .i64 0, .int .i64 0, .slice none 0 0] 28))
  clear hb9 h9a
  obtain ⟨xn, hxn⟩ := byte_of n
  have on := own_new (w9.alloc (.cells #[.int .i64 0, .int .i64 0, .int .i64 0, .slice none 0 0] 28)) (w9.alloc (.cells #[.int .i64 0, .int .i64 0, .int .i64 0, .slice none 0 0] 28)).heap.size #[.int .u8 (n % 256)] [xn] (by rw [← hxn]; rfl) (Nat.le_refl _) (by simp)
  have o9 := HO9.out.below ((Below.refl _ _).alloc (Nat.le_refl _) (.cells #[.int .u8 (n % 256)] 5))
  obtain ⟨ga, capa, wa, hra, hoa, hga⟩ := app_own _ _ _ _ _ _ _ _ o9 (src_own on 1) (by simp; omega) (by have := HO9.out.lt; have := HO9.out.1; simp at *; omega)
  have e1 : ([xn] : List UInt8).length = 1 := rfl
  rw [e1] at hra
  simp only [World.size_alloc] at hra
  obtain ⟨N, hN⟩ : ∃ N, N = M ++ [xn] := ⟨_, rfl⟩
  rw [← hN] at hra hoa
  have HNN := Lib.hid hN
  have HOA := Lib.hid hoa
  have HBA := Lib.hid ((HB9.out.alloc HB9.out.size (.cells #[.int .u8 (n % 256)] 5)).grown hga (by have := HB9.out.size; simp at *; omega) (by intro j hj; injection hj with hj; have := HWB1.out.size; omega))
  have hNc : N.length ≤ capa := hoa.2.1
  have hNc2 : capa ≤ 9223372036854775807 := hoa.2.2.1
  have hNl : N.length ≤ 65600 := by rw [hN]; simp; omega
  have HNl := Lib.hid hNl
  clear on o9 hoa hga hN e1 hxn hNl
  go_wp2_with (first | (at_builtin; refine wpList_append_known rfl (.tmp 126) (.tmp 129) rfl rfl rfl hra ?_; clear hra))
  refine Calls.mono (plainUnpack_at ga capa _ N _ rfl (HE.out.below HBA.out) HNl.out hNc hNc2 HOA.out.lt HOA.out.holds (by rw [HNN.out]; exact valid_more M HV.out xn)) ?_
  rintro e w10 ⟨rfl, hb10⟩
  unfold noPacket
  have HB10 := Lib.hid ((HBA.out.trans (hb10.mono HBA.out.size)).alloc (by have := HBA.out.size; have := hb10.size; omega) (.cells #[.int .i64 0, .int .i64 0, .int .i64 0, .slice none 0 0] 28))
  clear hb10
  go_wp2
  go_ret
  exact ⟨rfl, HB10.out⟩
end Go.Proofs.YtmcfcfdpckjonaaDoor
