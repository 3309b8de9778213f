/- plain.Pack and the reference's Pack: what they make of any packet. Condition: errors.errorType holds reflectlite's handle of the type error. -/
import Derived.Test.YtmcfcfdpckjonaaDoorPack
import Derived.Test.YtmcfcfdpckjonaaDoorTold
namespace Go.Proofs.YtmcfcfdpckjonaaDoor
open Go.RowKit

set_option maxHeartbeats 400000 in
set_option maxRecDepth 100000 in
theorem plainPack_yes (fr st ak : Nat) (A : Option Addr) (c : Nat) (l : List UInt8) (w : World) (h1 : fr < 4) (h3 : st ≤ 65535) (h5 : ak ≤ 65535) (h : l.length ≤ 64) (hs : Src w A c l) :
    Calls Tryd.prog 10 #[.agg #[.int .i64 fr, .int .i64 st, .int .i64 ak, .slice A l.length c]] w (PackPost w.heap.size w (pk fr st ak l) (.int .i64 0)) := by
  have HS := Lib.hid (hs.below ((Below.refl _ _).alloc (Nat.le_refl _) (.cells #[.int .i64 fr, .int .i64 st, .int .i64 ak, .slice A l.length c] 28)))
  clear hs
  go_enter Tryd.func10, Tryd.ntmps10
  go_wp2_with fail
  refine (rbPack_yes fr st ak A c l _ h1 h3 h5 h HS.out).mono ?_
  rintro e w1 ⟨g, cap, rfl, ho, hb⟩
  have H1 := Lib.hid ho
  have H2 := Lib.hid hb
  clear ho hb
  obtain ⟨M, hM⟩ : ∃ M, M = pk fr st ak l := ⟨_, rfl⟩
  have HM := Lib.hid hM
  rw [← hM]
  clear hM
  go_wp2_with fail
  refine (told_nil _).mono ?_
  rintro e w2 ⟨rfl, hb2⟩
  have H3 := Lib.hid hb2
  clear hb2
  go_wp2
  go_ret2
  exact ⟨g, cap, by rw [← HM.out]; rfl, (H1.out.more (by simp)).below H3.out, (((Below.refl _ _).alloc (Nat.le_refl _) _).trans (H2.out.mono (by simp))).trans (H3.out.mono (by have := H2.out.size; simp at this; omega))⟩

set_option maxHeartbeats 400000 in
set_option maxRecDepth 100000 in
theorem plainPack_no (fr st ak : Int) (A : Option Addr) (n c : Nat) (w : World) (hg : ErrVar w) (hs : i64 st) (ha : i64 ak) (h : ¬ fits fr st ak n) :
    Calls Tryd.prog 10 #[.agg #[.int .i64 fr, .int .i64 st, .int .i64 ak, .slice A n c]] w (NonePost w (.tuple #[.slice none 0 0, .int .i64 5])) := by
  have H1 := Lib.hid hs
  have H2 := Lib.hid ha
  have H3 := Lib.hid h
  have HG := Lib.hid hg
  clear hs ha h hg
  go_enter Tryd.func10, Tryd.ntmps10
  go_wp2_with fail
  refine (rbPack_no fr st ak A n c _ H1.out H2.out H3.out).mono ?_
  rintro e w1 ⟨rfl, hb⟩
  have hb1 : Below w.heap.size w w1 := ((Below.refl _ _).alloc (Nat.le_refl _) _).trans (hb.mono (by simp))
  have HB := Lib.hid hb1
  clear hb hb1
  go_wp2_with fail
  refine (told_kind 5 _ (HG.out.below HB.out)).mono ?_
  rintro e w2 ⟨rfl, hb2⟩
  go_wp2
  go_ret2
  exact ⟨rfl, HB.out.trans (hb2.mono HB.out.size)⟩

/-! the reference's Pack -/
set_option maxHeartbeats 400000 in
set_option maxRecDepth 100000 in
theorem refPack_no (fr st ak : Int) (A : Option Addr) (n c : Nat) (w : World) (h : ¬ fits fr st ak n) :
    Calls Tryd.prog 12 #[.agg #[.int .i64 fr, .int .i64 st, .int .i64 ak, .slice A n c]] w (NonePost w (.tuple #[.slice none 0 0, .bool false])) := by
  unfold fits at h
  by_cases h1 : fr < 0
  · clear h
    go_enter Tryd.func12, Tryd.ntmps12
    go_wp2
    go_ret2
    exact ⟨rfl, (Below.refl _ _).alloc (Nat.le_refl _) _⟩
  by_cases h2 : 3 < fr
  · clear h
    go_enter Tryd.func12, Tryd.ntmps12
    go_wp2
    go_ret2
    exact ⟨rfl, (Below.refl _ _).alloc (Nat.le_refl _) _⟩
  by_cases h3 : st < 0
  · clear h
    go_enter Tryd.func12, Tryd.ntmps12
    go_wp2
    go_ret2
    exact ⟨rfl, (Below.refl _ _).alloc (Nat.le_refl _) _⟩
  by_cases h4 : 65535 < st
  · clear h
    go_enter Tryd.func12, Tryd.ntmps12
    go_wp2
    go_ret2
    exact ⟨rfl, (Below.refl _ _).alloc (Nat.le_refl _) _⟩
  by_cases h5 : ak < 0
  · clear h
    go_enter Tryd.func12, Tryd.ntmps12
    go_wp2
    go_ret2
    exact ⟨rfl, (Below.refl _ _).alloc (Nat.le_refl _) _⟩
  by_cases h6 : 65535 < ak
  · clear h
    go_enter Tryd.func12, Tryd.ntmps12
    go_wp2
    go_ret2
    exact ⟨rfl, (Below.refl _ _).alloc (Nat.le_refl _) _⟩
  have h7 : 64 < n := by omega
  clear h
  go_enter Tryd.func12, Tryd.ntmps12
  go_wp2
  go_ret2
  exact ⟨rfl, (Below.refl _ _).alloc (Nat.le_refl _) _⟩

set_option maxHeartbeats 1000000 in
set_option maxRecDepth 100000 in
theorem refPack_yes (fr st ak : Nat) (A : Option Addr) (c : Nat) (l : List UInt8) (w : World) (h1 : fr < 4) (h3 : st ≤ 65535) (h5 : ak ≤ 65535) (h : l.length ≤ 64) (hs : Src w A c l) :
    Calls Tryd.prog 12 #[.agg #[.int .i64 fr, .int .i64 st, .int .i64 ak, .slice A l.length c]] w (PackPost w.heap.size w (pk fr st ak l) (.bool true)) := by
  have hs2 : Src ((w.alloc (.cells #[.int .i64 fr, .int .i64 st, .int .i64 ak, .slice A l.length c] 28)).alloc (.cells #[.int .u8 82, .int .u8 (fr : Int), .int .u8 ((st : Int) / 256), .int .u8 ((st : Int) % 256), .int .u8 ((ak : Int) / 256), .int .u8 ((ak : Int) % 256), .int .u8 (l.length : Int)] 5)) A c l :=
    hs.below (((Below.refl _ _).alloc (Nat.le_refl _) _).alloc (by simp) _)
  have ho := own_new (w.alloc (.cells #[.int .i64 fr, .int .i64 st, .int .i64 ak, .slice A l.length c] 28)) w.heap.size _ _ (hdr_cells fr st ak l.length h1 h3 h5 h) (by simp) (by simp [hdr])
  obtain ⟨g1, cap1, w1, hr1, ho1, hg1⟩ := app_own _ _ _ _ l A c _ ho hs2 (by simp [hdr]; omega) (by simp; omega)
  have hb1 : Below w.heap.size w w1 := (((Below.refl _ _).alloc (Nat.le_refl _) _).alloc (by simp) _).grown hg1 (by simp; omega) (by intro k hk; injection hk with hk; subst hk; simp)
  have hbx : ∀ a : Nat, w1.cell? ⟨w.heap.size, a, none⟩ = (#[.int .i64 fr, .int .i64 st, .int .i64 ak, .slice A l.length c] : Array Value)[a]? := fun a => by
    have hr : Row (w.alloc (.cells #[.int .i64 fr, .int .i64 st, .int .i64 ak, .slice A l.length c] 28)) w.heap.size 28 #[.int .i64 fr, .int .i64 st, .int .i64 ak, .slice A l.length c] := Row.made _ _ _
    exact ((hr.later _).other hg1 (by simp)).cellAt a
  have hx3 := hbx 3
  have e7 : (hdr fr st ak l.length).length = 7 := rfl
  rw [e7] at hr1
  simp only [World.size_alloc] at hr1
  clear hs2 ho hg1 hs e7 hbx
  obtain ⟨L, hL⟩ : ∃ L, L = body fr st ak l := ⟨_, rfl⟩
  have hL7 : L.length = 7 + l.length := by rw [hL]; simp [body, hdr]; omega
  have hLL : hdr fr st ak l.length ++ l = L := hL.symm
  rw [hLL] at hr1 ho1
  have ho2 : Own (w1.alloc (.cells #[.int .u8 ((chk L).toNat : Int)] 5)) w1.heap.size w1.heap.size 1 [chk L] := own_new w1 _ _ _ rfl (Nat.le_refl _) (by simp)
  obtain ⟨g2, cap2, w2, hr2, ho3, hg2⟩ := app_own _ _ _ _ _ _ _ _ (ho1.below ((Below.refl _ _).alloc (Nat.le_refl _) (.cells #[.int .u8 ((chk L).toNat : Int)] 5))) (src_own ho2 1) (by simp; omega) (by have := hb1.size; simp; omega)
  have hb2 : Below w.heap.size w w2 := (hb1.alloc hb1.size _).grown hg2 (by have := hb1.size; simp; omega) (by intro k hk; injection hk with hk; subst hk; exact ho1.1)
  obtain ⟨M, hM⟩ : ∃ M, M = L ++ [chk L] := ⟨_, rfl⟩
  rw [← hM] at hr2 ho3
  have hMp : M = pk fr st ak l := by rw [hM, hL]; rfl
  have e1 : ([chk L] : List UInt8).length = 1 := rfl
  rw [e1] at hr2
  have hh := ho1.holds
  have H1 := Lib.hid hh
  have H2 := Lib.hid ho3
  have H3 := Lib.hid hb2
  have H4 := Lib.hid hMp
  have hLs : L.length ≤ 65600 := by omega
  clear hg2 ho2 hh ho3 hb1 hb2 hM hMp hL7 hLL hL ho1 e1
  go_enter Tryd.func12, Tryd.ntmps12
  go_wp2_with (first | (at_builtin; refine wpList_append_known rfl (.tmp 65) (.tmp 67) rfl rfl rfl hr1 ?_; clear hr1))
  go_loop [5, 6] (fun c i => ∃ k : Nat, k ≤ L.length ∧ i = .int .i64 k ∧ c = .int .u8 ((chk (L.take k)).toNat : Int)) (fun _ i => L.length - (intOf i).toNat)
  case atStart => exact ⟨0, Nat.zero_le _, rfl, rfl⟩
  case round =>
    obtain ⟨k, hk, rfl, rfl⟩ := hrel
    by_cases hlt : k < L.length
    · have hcell : w1.cell? ⟨g1, k, none⟩ = some (.int .u8 ((L.getD k 0).toNat : Int)) := by have := H1.out k hlt; rwa [Nat.zero_add] at this
      have HS := Lib.hid (chk_snoc L k hlt)
      go_wp2
      go_round
      case rel => exact ⟨k + 1, by omega, by go_num, by rw [HS.out, u8_xor']; congr 4; simp [hlt]⟩
      case measure => simp [intOf]; omega
    · have e : L.take k = L := List.take_of_length_le (by omega)
      rw [e]
      clear e
      go_wp2_with (first | (at_builtin; refine wpList_append_known rfl (.tmp 81) (.tmp 83) rfl rfl rfl hr2 ?_; clear hr2))
      go_ret2
      exact ⟨g2, cap2, by rw [← H4.out]; rfl, by rw [← H4.out]; exact H2.out, H3.out⟩
end Go.Proofs.YtmcfcfdpckjonaaDoor
