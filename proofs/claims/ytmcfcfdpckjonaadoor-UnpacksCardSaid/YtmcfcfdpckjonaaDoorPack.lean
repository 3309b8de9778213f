/- wire.Pack: what it makes of any packet. -/
import Derived.Test.YtmcfcfdpckjonaaDoorApp
namespace Go.Proofs.YtmcfcfdpckjonaaDoor
open Go.RowKit

set_option maxHeartbeats 400000 in
set_option maxRecDepth 100000 in
theorem wirePack_no1 (fr st ak : Int) (A : Option Addr) (n c : Nat) (w : World) (h : fr < 0) :
    Calls Tryd.prog 27 #[.agg #[.int .i64 fr, .int .i64 st, .int .i64 ak, .slice A n c]] w fun e w' => e = .returned (.tuple #[.slice none 0 0, .iface 23 (.int .i64 5)]) ∧ Below w.heap.size w w' := by
  go_enter Tryd.func27, Tryd.ntmps27
  go_wp2
  go_ret2
  exact ⟨rfl, (Below.refl _ _).alloc (Nat.le_refl _) _⟩
set_option maxHeartbeats 400000 in
set_option maxRecDepth 100000 in
theorem wirePack_no2 (fr st ak : Int) (A : Option Addr) (n c : Nat) (w : World) (h0 : 0 ≤ fr) (h : 4 ≤ fr) :
    Calls Tryd.prog 27 #[.agg #[.int .i64 fr, .int .i64 st, .int .i64 ak, .slice A n c]] w fun e w' => e = .returned (.tuple #[.slice none 0 0, .iface 23 (.int .i64 5)]) ∧ Below w.heap.size w w' := by
  go_enter Tryd.func27, Tryd.ntmps27
  go_wp2
  go_ret2
  exact ⟨rfl, (Below.refl _ _).alloc (Nat.le_refl _) _⟩
set_option maxHeartbeats 400000 in
set_option maxRecDepth 100000 in
theorem wirePack_no3 (fr st ak : Int) (A : Option Addr) (n c : Nat) (w : World) (h0 : 0 ≤ fr) (h1 : fr < 4) (h : 65535 < IntKind.u64.wrap st) :
    Calls Tryd.prog 27 #[.agg #[.int .i64 fr, .int .i64 st, .int .i64 ak, .slice A n c]] w fun e w' => e = .returned (.tuple #[.slice none 0 0, .iface 23 (.int .i64 5)]) ∧ Below w.heap.size w w' := by
  go_enter Tryd.func27, Tryd.ntmps27
  go_wp2
  go_ret2
  exact ⟨rfl, (Below.refl _ _).alloc (Nat.le_refl _) _⟩
set_option maxHeartbeats 400000 in
set_option maxRecDepth 100000 in
theorem wirePack_no4 (fr st ak : Int) (A : Option Addr) (n c : Nat) (w : World) (h0 : 0 ≤ fr) (h1 : fr < 4) (h2 : 0 ≤ st) (h3 : st ≤ 65535) (h : 65535 < IntKind.u64.wrap ak) :
    Calls Tryd.prog 27 #[.agg #[.int .i64 fr, .int .i64 st, .int .i64 ak, .slice A n c]] w fun e w' => e = .returned (.tuple #[.slice none 0 0, .iface 23 (.int .i64 5)]) ∧ Below w.heap.size w w' := by
  go_enter Tryd.func27, Tryd.ntmps27
  go_wp2
  go_ret2
  exact ⟨rfl, (Below.refl _ _).alloc (Nat.le_refl _) _⟩
set_option maxHeartbeats 400000 in
set_option maxRecDepth 100000 in
theorem wirePack_no5 (fr st ak : Int) (A : Option Addr) (n c : Nat) (w : World) (h0 : 0 ≤ fr) (h1 : fr < 4) (h2 : 0 ≤ st) (h3 : st ≤ 65535) (h4 : 0 ≤ ak) (h5 : ak ≤ 65535) (h : 64 < n) :
    Calls Tryd.prog 27 #[.agg #[.int .i64 fr, .int .i64 st, .int .i64 ak, .slice A n c]] w fun e w' => e = .returned (.tuple #[.slice none 0 0, .iface 23 (.int .i64 5)]) ∧ Below w.heap.size w w' := by
  go_enter Tryd.func27, Tryd.ntmps27
  go_wp2
  go_ret2
  exact ⟨rfl, (Below.refl _ _).alloc (Nat.le_refl _) _⟩

def hdr (fr st ak n : Nat) : List UInt8 := [82, UInt8.ofNat fr, UInt8.ofNat (st / 256), UInt8.ofNat (st % 256), UInt8.ofNat (ak / 256), UInt8.ofNat (ak % 256), UInt8.ofNat n]
def body (fr st ak : Nat) (l : List UInt8) : List UInt8 := hdr fr st ak l.length ++ l
/-- What a packet's bytes are. -/
def pk (fr st ak : Nat) (l : List UInt8) : List UInt8 := body fr st ak l ++ [chk (body fr st ak l)]

theorem ofNat_cast (n : Nat) (h : n < 256) : ((UInt8.ofNat n).toNat : Int) = (n : Int) := by rw [UInt8.toNat_ofNat_of_lt' h]
theorem hdr_cells (fr st ak n : Nat) (h1 : fr < 4) (h3 : st ≤ 65535) (h5 : ak ≤ 65535) (h : n ≤ 64) :
    (#[.int .u8 82, .int .u8 (fr : Int), .int .u8 ((st : Int) / 256), .int .u8 ((st : Int) % 256), .int .u8 ((ak : Int) / 256), .int .u8 ((ak : Int) % 256), .int .u8 (n : Int)] : Array Value) = (Lib.byteCells (hdr fr st ak n)).toArray := by
  unfold hdr Lib.byteCells
  simp only [List.map_cons, List.map_nil]
  rw [ofNat_cast fr (by omega), ofNat_cast (st / 256) (by omega), ofNat_cast (st % 256) (by omega), ofNat_cast (ak / 256) (by omega), ofNat_cast (ak % 256) (by omega), ofNat_cast n (by omega)]
  rfl

/-- What wire.Pack leaves where there is a packet. -/
def PackPost (B : Nat) (w : World) (l : List UInt8) (u : Value) (e : Ending) (w' : World) : Prop :=
  ∃ g cap, e = .returned (.tuple #[.slice (some ⟨g, 0, none⟩) l.length cap, u]) ∧ Own w' B g cap l ∧ Below w.heap.size w w'

set_option maxHeartbeats 1000000 in
set_option maxRecDepth 100000 in
theorem wirePack_yes (fr st ak : Nat) (A : Option Addr) (c : Nat) (l : List UInt8) (w : World) (h1 : fr < 4) (h3 : st ≤ 65535) (h5 : ak ≤ 65535) (h : l.length ≤ 64) (hs : Src w A c l) :
    Calls Tryd.prog 27 #[.agg #[.int .i64 fr, .int .i64 st, .int .i64 ak, .slice A l.length c]] w (PackPost w.heap.size w (pk fr st ak l) .nilIface) := by
  have hs2 : Src ((w.alloc (.cells #[.int .i64 fr, .int .i64 st, .int .i64 ak, .slice A l.length c] 28)).alloc (.cells #[.int .u8 82, .int .u8 (fr : Int), .int .u8 ((st : Int) / 256), .int .u8 ((st : Int) % 256), .int .u8 ((ak : Int) / 256), .int .u8 ((ak : Int) % 256), .int .u8 (l.length : Int)] 5)) A c l :=
    hs.below (((Below.refl _ _).alloc (Nat.le_refl _) _).alloc (by simp) _)
  have ho := own_new (w.alloc (.cells #[.int .i64 fr, .int .i64 st, .int .i64 ak, .slice A l.length c] 28)) w.heap.size _ _ (hdr_cells fr st ak l.length h1 h3 h5 h) (by simp) (by simp [hdr])
  obtain ⟨g1, cap1, w1, hr1, ho1, hg1⟩ := app_own _ _ _ _ l A c _ ho hs2 (by simp [hdr]; omega) (by simp; omega)
  have hb1 : Below w.heap.size w w1 := (((Below.refl _ _).alloc (Nat.le_refl _) _).alloc (by simp) _).grown hg1 (by simp; omega) (by intro k hk; injection hk with hk; subst hk; simp)
  have e7 : (hdr fr st ak l.length).length = 7 := rfl
  rw [e7] at hr1
  simp only [World.size_alloc] at hr1
  clear hs2 ho hg1 hs e7
  obtain ⟨L, hL⟩ : ∃ L, L = body fr st ak l := ⟨_, rfl⟩
  have hL7 : L.length = 7 + l.length := by rw [hL]; simp [body, hdr]; omega
  have hLL : hdr fr st ak l.length ++ l = L := hL.symm
  rw [hLL] at hr1 ho1
  have ho2 : Own (w1.alloc (.cells #[.int .u8 ((chk L).toNat : Int)] 5)) w1.heap.size w1.heap.size 1 [chk L] := own_new w1 _ _ _ rfl (Nat.le_refl _) (by simp)
  obtain ⟨g2, cap2, w2, hr2, ho3, hg2⟩ := app_own _ _ _ _ _ _ _ _ (ho1.below ((Below.refl _ _).alloc (Nat.le_refl _) (.cells #[.int .u8 ((chk L).toNat : Int)] 5))) (src_own ho2 1) (by simp; omega) (by have := hb1.size; simp; omega)
  have hb2 : Below w.heap.size w w2 := (hb1.alloc hb1.size _).grown hg2 (by have := hb1.size; simp; omega) (by intro k hk; injection hk with hk; subst hk; exact ho1.1)
  obtain ⟨M, hM⟩ : ∃ M, M = L ++ [chk L] := ⟨_, rfl⟩
  rw [← hM] at hr2 ho3
  have hMp : M = pk fr st ak l := by rw [hM, hL]; rfl
  have e1 : ([chk L] : List UInt8).length = 1 := rfl
  rw [e1] at hr2
  have hh := ho1.holds
  have H1 := Lib.hid hh
  have H2 := Lib.hid ho3
  have H3 := Lib.hid hb2
  have H4 := Lib.hid hMp
  have hLs : L.length ≤ 65600 := by omega
  clear hg2 ho2 hh ho3 hb1 hb2 hM hMp hL7 hLL hL ho1 e1
  go_enter Tryd.func27, Tryd.ntmps27
  go_wp2_with (first | (at_builtin; refine wpList_append_known rfl (.tmp 53) (.tmp 55) rfl rfl rfl hr1 ?_; clear hr1) | (at_builtin; refine wpList_append_known rfl (.tmp 57) (.tmp 60) rfl rfl rfl hr2 ?_; clear hr2) | (go_at_call 32; refine (check_any g1 0 cap1 L w1 hLs H1.out).mono ?_; rintro e w' ⟨rfl, rfl⟩))
  go_ret2
  exact ⟨g2, cap2, by rw [← H4.out]; rfl, by rw [← H4.out]; exact H2.out, H3.out⟩

/-- May it be packed? -/
def fits (fr st ak : Int) (n : Nat) : Prop := 0 ≤ fr ∧ fr < 4 ∧ 0 ≤ st ∧ st ≤ 65535 ∧ 0 ≤ ak ∧ ak ≤ 65535 ∧ n ≤ 64
instance (fr st ak : Int) (n : Nat) : Decidable (fits fr st ak n) := by unfold fits; infer_instance
def i64 (x : Int) : Prop := -9223372036854775808 ≤ x ∧ x ≤ 9223372036854775807
theorem u64_out (x : Int) (h : i64 x) (hn : ¬ (0 ≤ x ∧ x ≤ 65535)) : 65535 < IntKind.u64.wrap x := by
  unfold i64 at h
  have e : IntKind.u64.wrap x = x % 18446744073709551616 := by simp [IntKind.wrap, IntKind.bits, IntKind.signed]
  rw [e]; omega
/-- What wire.Pack leaves where there is none. -/
def NonePost (w : World) (v : Value) (e : Ending) (w' : World) : Prop := e = .returned v ∧ Below w.heap.size w w'

theorem wirePack_no (fr st ak : Int) (A : Option Addr) (n c : Nat) (w : World) (hs : i64 st) (ha : i64 ak) (h : ¬ fits fr st ak n) :
    Calls Tryd.prog 27 #[.agg #[.int .i64 fr, .int .i64 st, .int .i64 ak, .slice A n c]] w (NonePost w (.tuple #[.slice none 0 0, .iface 23 (.int .i64 5)])) := by
  unfold fits at h
  by_cases h1 : fr < 0
  · exact wirePack_no1 fr st ak A n c w h1
  by_cases h2 : 4 ≤ fr
  · exact wirePack_no2 fr st ak A n c w (by omega) h2
  by_cases h3 : 0 ≤ st ∧ st ≤ 65535
  · by_cases h4 : 0 ≤ ak ∧ ak ≤ 65535
    · exact wirePack_no5 fr st ak A n c w (by omega) (by omega) h3.1 h3.2 h4.1 h4.2 (by omega)
    · exact wirePack_no4 fr st ak A n c w (by omega) (by omega) h3.1 h3.2 (u64_out ak ha h4)
  · exact wirePack_no3 fr st ak A n c w (by omega) (by omega) (u64_out st hs h3)

theorem PackPost.wrap {B : Nat} {w w1 : World} {l : List UInt8} {u : Value} {e : Ending} {w' : World} (h : PackPost B w1 l u e w') (hb : Below w.heap.size w w1) : PackPost B w l u e w' := by
  obtain ⟨g, cap, he, ho, hb2⟩ := h
  exact ⟨g, cap, he, ho, hb.trans (hb2.mono hb.size)⟩

set_option maxHeartbeats 400000 in
set_option maxRecDepth 100000 in
theorem rbPack_yes (fr st ak : Nat) (A : Option Addr) (c : Nat) (l : List UInt8) (w : World) (h1 : fr < 4) (h3 : st ≤ 65535) (h5 : ak ≤ 65535) (h : l.length ≤ 64) (hs : Src w A c l) :
    Calls Tryd.prog 21 #[.agg #[.int .i64 fr, .int .i64 st, .int .i64 ak, .slice A l.length c]] w (PackPost w.heap.size w (pk fr st ak l) .nilIface) := by
  have HS := Lib.hid (hs.below ((Below.refl _ _).alloc (Nat.le_refl _) (.cells #[.int .i64 fr, .int .i64 st, .int .i64 ak, .slice A l.length c] 28)))
  clear hs
  go_enter Tryd.func21, Tryd.ntmps21
  go_wp2_with fail
  refine (wirePack_yes fr st ak A c l _ h1 h3 h5 h HS.out).mono ?_
  rintro e w1 ⟨g, cap, rfl, ho, hb⟩
  have H1 := Lib.hid ho
  have H2 := Lib.hid hb
  clear ho hb
  obtain ⟨M, hM⟩ : ∃ M, M = pk fr st ak l := ⟨_, rfl⟩
  have HM := Lib.hid hM
  rw [← hM]
  clear hM
  go_wp2
  go_ret2
  exact ⟨g, cap, by rw [← HM.out]; rfl, H1.out.more (by simp), ((Below.refl _ _).alloc (Nat.le_refl _) _).trans (H2.out.mono (by simp))⟩

set_option maxHeartbeats 400000 in
set_option maxRecDepth 100000 in
theorem rbPack_no (fr st ak : Int) (A : Option Addr) (n c : Nat) (w : World) (hs : i64 st) (ha : i64 ak) (h : ¬ fits fr st ak n) :
    Calls Tryd.prog 21 #[.agg #[.int .i64 fr, .int .i64 st, .int .i64 ak, .slice A n c]] w (NonePost w (.tuple #[.slice none 0 0, .iface 23 (.int .i64 5)])) := by
  have H1 := Lib.hid hs
  have H2 := Lib.hid ha
  have H3 := Lib.hid h
  clear hs ha h
  go_enter Tryd.func21, Tryd.ntmps21
  go_wp2_with fail
  refine (wirePack_no fr st ak A n c _ H1.out H2.out H3.out).mono ?_
  rintro e w1 ⟨rfl, hb⟩
  go_wp2
  go_ret2
  exact ⟨rfl, ((Below.refl _ _).alloc (Nat.le_refl _) _).trans (hb.mono (by simp))⟩
end Go.Proofs.YtmcfcfdpckjonaaDoor
