/- roomy, still, spoilt, stays: the bytes of a text with two of spare room behind; are they as they were; the caller writes into them. Condition: texts of at most 65,600 bytes. -/
import Derived.Test.YtmcfcfdpckjonaaDoorBytes
import Derived.Deep.DeepFit
namespace Go.Proofs.YtmcfcfdpckjonaaDoor
open Go.RowKit

/-- Block g is just the cells cs of element type t. -/
def Row (w : World) (g : Nat) (t : TypeId) (cs : Array Value) : Prop := w.heap[g]? = some (.cells cs t (0, 0))
section
variable {w w' : World} {g : Nat} {t : TypeId} {cs : Array Value}
theorem Row.isLt (h : Row w g t cs) : g < w.heap.size := (Array.getElem?_eq_some_iff.1 h).1
theorem Row.cellAt (h : Row w g t cs) (i : Nat) : w.cell? ⟨g, i, none⟩ = cs[i]? := cell_of_row w g i cs t (0, 0) h
theorem Row.notFrozen (h : Row w g t cs) (i : Nat) : w.frozen? ⟨g, i, none⟩ = false := by
  unfold Row at h; simp [World.frozen?, h]
theorem Row.made (w : World) (t : TypeId) (cs : Array Value) : Row (w.alloc (.cells cs t)) w.heap.size t cs := heap_alloc_new w _
theorem Row.later (h : Row w g t cs) (o : Obj) : Row (w.alloc o) g t cs := (Below.heap_alloc w o g h.isLt).trans h
theorem Row.stored (h : Row w g t cs) (i : Nat) (u : Value) : Row (w.setCell ⟨g, i, none⟩ u) g t (cs.setIfInBounds i u) := by
  unfold Row at h ⊢
  simp [World.setCell, Array.getElem?_modify, h]
theorem Row.past (h : Row w g t cs) {p : Addr} (hp : g ≠ p.block) (u : Value) : Row (w.setCell p u) g t cs := (Below.heap_setCell w p u g hp).trans h
theorem Row.under {B : Nat} (h : Row w g t cs) (hb : Below B w w') (hg : g < B) : Row w' g t cs := (hb.block g hg).trans h
theorem Row.other {row : Option Nat} (h : Row w g t cs) (hb : w.grownBy w' row) (hg : some g ≠ row) : Row w' g t cs := (hb.block g h.isLt hg).trans h
theorem Row.drew (h : Row w g t cs) : Row w.drew g t cs := h
theorem Row.holds (h : Row w g t cs) (off : Nat) (l : List UInt8) (hl : ∀ j, j < l.length → cs[off + j]? = some (.int .u8 ((l.getD j 0).toNat : Int))) : Holds w g off l :=
  fun j hj => (h.cellAt _).trans (hl j hj)
end
theorem byteCells_get (l : List UInt8) (j : Nat) (hj : j < l.length) : (Lib.byteCells l)[j]? = some (.int .u8 ((l.getD j 0).toNat : Int)) := by
  simp [Lib.byteCells, hj]

theorem u8_info : (Tryd.prog.info? 5).map (fun i => (i.zero, i.size, i.bytes)) = some (some (.int .u8 0), 1, 1) := by kernel_rfl
theorem u8_size : (Tryd.prog.info? 5).map (·.size) = some 1 := by kernel_rfl

/-- make([]byte, n), n a number of the walk's. -/
theorem make_bytes (n : Nat) (hn : n ≤ 65700) (w : World) : ∃ Z : Array Value, Z.size = n ∧
    (Instr.makeSlice 25 (.int .i64 (n : Int)) (.int .i64 (n : Int))).run Tryd.prog w = .ok (.slice (some ⟨w.heap.size, 0, none⟩) n n) (w.alloc (.cells Z 5)) := by
  obtain ⟨i0, hi, hz0, hz1, hz2⟩ := info_parts u8_info
  have hr := run_make (P := Tryd.prog) w 25 5 i0 (.int .u8 0) Tryd.underlying25 hi hz0 .i64 .i64 n n (by omega) (by omega) (by rw [hz2]; omega) (by omega)
  simp only [Int.toNat_natCast, hz1, Nat.mul_one] at hr
  exact ⟨_, size_madeCells _ _, hr⟩

def rm (s : ByteArray) : Array Value := (Lib.byteCells (s.data.toList ++ [77, 88])).toArray

theorem setRow_alloc (w : World) (cs ds : Array Value) (t : TypeId) : (w.alloc (.cells cs t)).setRow w.heap.size ds = w.alloc (.cells ds t) := by
  simp only [World.setRow, World.alloc]
  congr 1
  apply Array.ext_getElem?
  intro i
  rw [Array.getElem?_modify]
  by_cases hi : w.heap.size = i
  · subst hi; simp
  · simp [hi, Ne.symm hi, Array.getElem?_push]

theorem take_of_copy (Z : Array Value) (l : List UInt8) : (Z.toList.take 0 ++ Lib.byteCells l ++ Z.toList.drop (0 + l.length)) = Lib.byteCells l ++ Z.toList.drop l.length := by
  simp
theorem copied_len (Z : Array Value) (l : List UInt8) (h : Z.size = l.length + 2) : (Lib.byteCells l ++ Z.toList.drop l.length).toArray.size = l.length + 2 := by
  simp [Lib.byteCells_length]; omega
theorem copied_row (Z : Array Value) (l : List UInt8) (h : Z.size = l.length + 2) :
    ((Lib.byteCells l ++ Z.toList.drop l.length).toArray.setIfInBounds l.length (.int .u8 77)).setIfInBounds (l.length + 1) (.int .u8 88) = (Lib.byteCells (l ++ [77, 88])).toArray := by
  have e1 : Lib.byteCells (l ++ [77, 88]) = Lib.byteCells l ++ [.int .u8 77, .int .u8 88] := by unfold Lib.byteCells; rw [List.map_append]; rfl
  have e2 := Lib.byteCells_length l
  have e3 := copied_len Z l h
  rw [e1]
  apply Array.ext_getElem?
  intro j
  rw [Array.getElem?_setIfInBounds, Array.getElem?_setIfInBounds, Array.size_setIfInBounds, e3]
  by_cases h1 : j < l.length
  · rw [if_neg (by omega), if_neg (by omega), List.getElem?_toArray, List.getElem?_toArray, List.getElem?_append_left (by omega), List.getElem?_append_left (by omega)]
  · by_cases h2 : j = l.length
    · subst h2
      rw [if_neg (by omega), if_pos rfl, if_pos (by omega), List.getElem?_toArray, List.getElem?_append_right (by omega), e2, Nat.sub_self]; rfl
    · by_cases h3 : j = l.length + 1
      · subst h3
        rw [if_pos rfl, if_pos (by omega), List.getElem?_toArray, List.getElem?_append_right (by omega), e2, show l.length + 1 - l.length = 1 by omega]; rfl
      · rw [if_neg (by omega), if_neg (by omega), Array.getElem?_eq_none (by omega), Array.getElem?_eq_none (by rw [List.size_toArray, List.length_append, e2]; simp; omega)]

set_option maxHeartbeats 400000 in
set_option maxRecDepth 100000 in
theorem roomy_any (s : ByteArray) (w : World) (hs : s.size ≤ 65536) :
    Calls Tryd.prog 9 #[.string s] w fun e w' => e = .returned (.slice (some ⟨w.heap.size, 0, none⟩) s.size (s.size + 2)) ∧ Below w.heap.size w w' ∧ Row w' w.heap.size 5 (rm s) := by
  obtain ⟨Z, hZ, hmk0⟩ := make_bytes (s.size + 2) (by omega) w
  have hmk : (Instr.makeSlice 25 (.int .i64 ((s.size : Int) + 2)) (.int .i64 ((s.size : Int) + 2))).run Tryd.prog w = .ok (.slice (some ⟨w.heap.size, 0, none⟩) (s.size + 2) (s.size + 2)) (w.alloc (.cells Z 5)) := by
    simpa using hmk0
  clear hmk0
  have hsz : s.data.toList.length = s.size := (Lib.size_eq s).symm
  have hcp0 := Lib.run_copy_row_string (P := Tryd.prog) (w.alloc (.cells Z 5)) 25 9 3 5 w.heap.size 0 (s.size + 2) (s.size + 2) s Z 5 Tryd.underlying25 u8_size (heap_alloc_new w _) (by omega) (by omega)
  have hZ' : Z.size = s.data.toList.length + 2 := by omega
  rw [setRow_alloc, show 0 + s.size = 0 + s.data.toList.length by omega, take_of_copy] at hcp0
  have hlen := copied_len Z s.data.toList hZ'
  have hrow := copied_row Z s.data.toList hZ'
  generalize (Lib.byteCells s.data.toList ++ Z.toList.drop s.data.toList.length).toArray = Z1 at hcp0 hlen hrow
  rw [hsz] at hlen hrow
  obtain ⟨za, ha⟩ : ∃ z, Z1[s.size]? = some z := ⟨_, Array.getElem?_eq_getElem (by omega)⟩
  obtain ⟨zb, hb⟩ : ∃ z, Z1[s.size + 1]? = some z := ⟨_, Array.getElem?_eq_getElem (by omega)⟩
  have HR := Lib.hid hrow
  clear hZ hZ' hlen hrow hsz
  go_enter Tryd.func9, Tryd.ntmps9
  go_wp2
  go_ret
  refine ⟨rfl, (Below.refl _ _).alloc (Nat.le_refl _) _, ?_⟩
  rw [HR.out]
  exact Row.made w 5 _

theorem rm_get (s : ByteArray) (j : Nat) (hj : j < s.size + 2) : (rm s)[j]? = some (.int .u8 (((s.data.toList ++ [77, 88]).getD j 0).toNat : Int)) := by
  unfold rm
  rw [List.getElem?_toArray]
  exact byteCells_get _ _ (by rw [List.length_append, ← Lib.size_eq]; exact hj)
theorem rm_pre (s : ByteArray) (j : Nat) (hj : j < s.size) : (rm s)[j]? = some (.int .u8 ((s.data.toList.getD j 0).toNat : Int)) := by
  rw [rm_get s j (by omega)]
  have h : j < s.data.toList.length := by rw [← Lib.size_eq]; exact hj
  rw [List.getD_eq_getElem?_getD, List.getElem?_append_left h, ← List.getD_eq_getElem?_getD]
theorem rm_a (s : ByteArray) : (rm s)[s.size]? = some (.int .u8 77) := by
  rw [rm_get s _ (by omega), List.getD_eq_getElem?_getD, List.getElem?_append_right (by rw [← Lib.size_eq]; exact Nat.le_refl _), ← Lib.size_eq, Nat.sub_self]; rfl
theorem rm_b (s : ByteArray) : (rm s)[s.size + 1]? = some (.int .u8 88) := by
  rw [rm_get s _ (by omega), List.getD_eq_getElem?_getD, List.getElem?_append_right (by rw [← Lib.size_eq]; omega), ← Lib.size_eq, Nat.add_sub_cancel_left]; rfl
theorem str_eta (s : ByteArray) : (⟨s.data.toList.toArray⟩ : ByteArray) = s := by cases s; simp

/-- string(b), b's bytes being l. -/
theorem conv_back (w : World) (g off cap : Nat) (l : List UInt8) (h : Holds w g off l) :
    (convert 25 9 (.slice (some ⟨g, off, none⟩) l.length cap)).run Tryd.prog w = .ok (.string ⟨l.toArray⟩) w :=
  run_convert_bytes_back (P := Tryd.prog) w 25 9 5 ⟨g, off, none⟩ cap l Tryd.underlying25 Tryd.underlying5 Tryd.underlying9 (fun j hj => by
    have h2 : (⟨g, off, none⟩ : Addr).add j = ⟨g, off + j, none⟩ := by unfold Addr.add; split <;> simp_all
    rw [h2, h j hj, List.getD_eq_getElem?_getD, List.getElem?_eq_getElem hj]; rfl)

set_option maxHeartbeats 400000 in
set_option maxRecDepth 100000 in
theorem still_yes (s : ByteArray) (g : Nat) (w : World) (hs : s.size ≤ 65536) (hr : Row w g 5 (rm s)) :
    Calls Tryd.prog 11 #[.slice (some ⟨g, 0, none⟩) s.size (s.size + 2), .string s] w fun e w' => e = .returned (.bool true) ∧ w = w' := by
  have hca : w.cell? ⟨g, s.size, none⟩ = some (.int .u8 77) := (hr.cellAt _).trans (rm_a s)
  have hcb : w.cell? ⟨g, s.size + 1, none⟩ = some (.int .u8 88) := (hr.cellAt _).trans (rm_b s)
  have hcv := conv_back w g 0 (s.size + 2) s.data.toList (hr.holds 0 _ (fun j hj => by rw [Nat.zero_add]; exact rm_pre s j (by rw [Lib.size_eq]; exact hj)))
  rw [str_eta, ← Lib.size_eq] at hcv
  clear hr
  go_enter Tryd.func11, Tryd.ntmps11
  go_wp2
  go_ret
  exact ⟨rfl, rfl⟩

/-- Of a world only block g has turned. -/
def nines (n : Nat) : Array Value := Array.replicate n (.int .u8 99)
theorem grown_set {a w : World} {g : Nat} (h : a.grownBy w (some g)) (j : Nat) (u : Value) : a.grownBy (w.setCell ⟨g, j, none⟩ u) (some g) :=
  ⟨h.os, h.tape, h.output, by simpa [World.setCell] using h.size, fun i hi hne => (Below.heap_setCell w _ u i (by rintro rfl; exact hne rfl)).trans (h.block i hi hne)⟩
theorem grown_refl (w : World) (r : Option Nat) : w.grownBy w r := ⟨rfl, rfl, rfl, Nat.le_refl _, fun _ _ _ => rfl⟩

set_option maxHeartbeats 400000 in
set_option maxRecDepth 100000 in
theorem spoilt_any (g n cap : Nat) (cs : Array Value) (w : World) (hn : n ≤ cap) (hc : cap ≤ 9223372036854775807) (hr : Row w g 5 cs) (hsz : cs.size = cap) :
    Calls Tryd.prog 13 #[.slice (some ⟨g, 0, none⟩) n cap] w fun e w' => e = .returned (.tuple #[]) ∧ w.grownBy w' (some g) ∧ Row w' g 5 (nines cap) := by
  have HZ := Lib.hid hsz
  have HR := Lib.hid hr
  clear hsz hr
  go_enter Tryd.func13, Tryd.ntmps13
  go_wp2
  go_loopw [3] (fun i wr => ∃ k : Nat, ∃ cur : Array Value, k ≤ cap ∧ i = .int .i64 k ∧ cur.size = cap ∧ Row wr g 5 cur ∧ w.grownBy wr (some g) ∧ (∀ j, j < k → cur[j]? = some (.int .u8 99))) (fun i _ => cap - (intOf i).toNat)
  case atStart => exact ⟨0, cs, Nat.zero_le _, rfl, HZ.out, HR.out, grown_refl _ _, fun _ h => absurd h (by omega)⟩
  case round =>
    obtain ⟨k, cur, hk, rfl, hcs, hrow, hgr, hdone⟩ := hrel
    by_cases hlt : k < cap
    · obtain ⟨u, hu⟩ : ∃ u, cur[k]? = some u := ⟨_, Array.getElem?_eq_getElem (by omega)⟩
      have hcell : wr.cell? ⟨g, k, none⟩ = some u := (hrow.cellAt k).trans hu
      have hfro : wr.frozen? ⟨g, k, none⟩ = false := hrow.notFrozen k
      have H1 := Lib.hid hcs
      have H2 := Lib.hid hrow
      have H3 := Lib.hid hdone
      clear hcs hrow hdone hu
      go_wp2
      go_roundw
      case rel =>
        refine ⟨k + 1, cur.setIfInBounds k (.int .u8 99), by omega, by go_num, by rw [Array.size_setIfInBounds]; exact H1.out, H2.out.stored _ _, grown_set hgr _ _, fun j hj => ?_⟩
        rw [Array.getElem?_setIfInBounds]
        by_cases hj2 : j = k
        · subst hj2; rw [if_pos rfl, if_pos (by rw [H1.out]; exact hlt)]
        · rw [if_neg (by omega)]; exact H3.out j (by omega)
      case measure => simp [intOf]; omega
    · have H1 := Lib.hid hcs
      have H2 := Lib.hid hrow
      have H3 := Lib.hid hdone
      clear hcs hrow hdone
      go_wp2
      go_end0
      refine ⟨rfl, hgr, ?_⟩
      have e : cur = nines cap := by
        apply Array.ext_getElem?
        intro j
        unfold nines
        by_cases hj : j < cap
        · rw [H3.out j (by omega)]; simp [hj]
        · rw [Array.getElem?_eq_none (by rw [H1.out]; omega), Array.getElem?_eq_none (by simp; omega)]
      rw [← e]; exact H2.out

set_option maxHeartbeats 400000 in
set_option maxRecDepth 100000 in
theorem stays_yes (g n cap : Nat) (w : World) (hn : n ≤ cap) (hc : cap ≤ 9223372036854775807) (hr : Row w g 5 (nines cap)) :
    Calls Tryd.prog 14 #[.slice (some ⟨g, 0, none⟩) n cap] w fun e w' => e = .returned (.bool true) ∧ w = w' := by
  have HR : ∀ j, j < cap → w.cell? ⟨g, j, none⟩ = some (.int .u8 99) := fun j hj => (hr.cellAt j).trans (by simp [nines, hj])
  have H := Lib.hid HR
  clear HR hr
  go_enter Tryd.func14, Tryd.ntmps14
  go_wp2
  go_loop [4] (fun i => ∃ k : Nat, k ≤ cap ∧ i = .int .i64 k) (fun i => cap - (intOf i).toNat)
  case atStart => exact ⟨0, Nat.zero_le _, rfl⟩
  case round =>
    obtain ⟨k, hk, rfl⟩ := hrel
    by_cases hlt : k < cap
    · have hcell := H.out k hlt
      go_wp2
      go_round
      case rel => exact ⟨k + 1, by omega, by go_num⟩
      case measure => simp [intOf]; omega
    · go_wp2
      go_ret
      exact ⟨rfl, rfl⟩
end Go.Proofs.YtmcfcfdpckjonaaDoor
