/- The reference's Digest: the sums, level by level. -/
import Derived.Test.YtmcfcfdpckjonaaDoorU32
import Derived.Lib.SliceRun
import Derived.Deep.AppendLies
import Derived.Deep.Onto
namespace Go.Proofs.YtmcfcfdpckjonaaDoor
open Go.RowKit


theorem Holds.taken {w : World} {g off : Nat} {l : List UInt8} (h : Holds w g off l) (k : Nat) : Holds w g off (l.take k) := fun j hj => by
  have h1 : j < k ∧ j < l.length := by simp at hj; omega
  rw [h j h1.2, List.getD_eq_getElem?_getD, List.getD_eq_getElem?_getD, List.getElem?_take, if_pos h1.1]
theorem Holds.dropped {w : World} {g off : Nat} {l : List UInt8} (h : Holds w g off l) (k : Nat) : Holds w g (off + k) (l.drop k) := fun j hj => by
  have h1 : k + j < l.length := by simp at hj; omega
  rw [Nat.add_assoc, h (k + j) h1, List.getD_eq_getElem?_getD, List.getD_eq_getElem?_getD, List.getElem?_drop]

theorem make_u32 (w : World) : (Instr.makeSlice 59 (.int .i64 32) (.int .i64 32)).run Tryd.prog w = .ok (.slice (some ⟨w.heap.size, 0, none⟩) 32 32) (w.alloc (.cells (Array.replicate 32 (.int .u32 0)) 44)) := by
  obtain ⟨i0, hi, hz0, hz1, hz2⟩ := info_parts u32_info
  have hr := run_make (P := Tryd.prog) w 59 44 i0 (.int .u32 0) Tryd.underlying59 hi hz0 .i64 .i64 32 32 (by omega) (by omega) (by rw [hz2]; omega) (by omega)
  simp only [hz1, Nat.mul_one] at hr
  rw [show madeCells (Value.int IntKind.u32 0).cells (Int.toNat 32) = Array.replicate 32 (Value.int IntKind.u32 0) by kernel_rfl] at hr
  exact hr

/-- How long a slice is. -/
def lenOf : Value → Nat
  | .slice _ n _ => n
  | _ => 0
theorem fnvRef_at (g off cap m : Nat) (l : List UInt8) (w : World) (hm : m = l.length) (hl : l.length ≤ 65600) (hh : Holds w g off l) :
    Calls Tryd.prog 25 #[.slice (some ⟨g, off, none⟩) m cap] w fun e w' => e = .returned (.int .u32 ((fnv l).toNat : Int)) ∧ w = w' := by
  subst hm; exact fnvRef_any g off cap l w hl hh

set_option maxHeartbeats 1000000 in
set_option maxRecDepth 100000 in
theorem refDigest_any (g cap : Nat) (l : List UInt8) (w : World) (hl : l.length = 288) (hc : 288 ≤ cap) (hcap : cap ≤ 9223372036854775807) (hh : Holds w g 0 l) (hg : g < w.heap.size) :
    Calls Tryd.prog 19 #[.slice (some ⟨g, 0, none⟩) 288 cap] w fun e w' => e = .returned (.int .u32 ((nodeV l 1).toNat : Int)) ∧ Below w.heap.size w w' := by
  have HH := Lib.hid hh
  have HL := Lib.hid hl
  clear hh hl
  go_enter Tryd.func19, Tryd.ntmps19
  have hmk := make_u32 w
  go_wp2
  clear hmk
  go_loopw [4] (fun i wr => ∃ k : Nat, ∃ cs : Array Value, k ≤ 18 ∧ i = .int .i64 k ∧ cs.size = 32 ∧ Row wr w.heap.size 44 cs ∧ Below w.heap.size w wr ∧ (∀ j, j < k → cs[j]? = some (.int .u32 ((leafV l j).toNat : Int))) ∧ (∀ j, k ≤ j → j < 32 → cs[j]? = some (.int .u32 0))) (fun i _ => 18 - (intOf i).toNat)
  case atStart => exact ⟨0, _, Nat.zero_le _, rfl, by simp, Row.made w 44 _, (Below.refl _ _).alloc (Nat.le_refl _) _, fun _ h => absurd h (by omega), fun j _ hj => by rw [Array.getElem?_replicate, if_pos (by omega)]⟩
  case round =>
    obtain ⟨k, cs, hk, rfl, hcs, hrow, hb, hd, hz⟩ := hrel
    have H1 := Lib.hid hcs
    have H2 := Lib.hid hrow
    have H3 := Lib.hid hb
    have H4 := Lib.hid hd
    have H5 := Lib.hid hz
    clear hcs hrow hb hd hz
    by_cases hlt : k < 18
    · obtain ⟨P, hP⟩ : ∃ P, P = (l.drop (16 * k)).take 16 := ⟨_, rfl⟩
      have hPl : P.length = 16 := by rw [hP]; have := HL.out; simp; omega
      have hPh : Holds wr g (16 * k) P := by
        have := ((HH.out.below H3.out hg).dropped (16 * k)).taken 16
        rw [Nat.zero_add, ← hP] at this
        exact this
      have HPP := Lib.hid (And.intro hP hPl)
      have HPH := Lib.hid hPh
      obtain ⟨u, hu⟩ : ∃ u, cs[k]? = some u := ⟨_, Array.getElem?_eq_getElem (by rw [H1.out]; omega)⟩
      have cu : wr.cell? ⟨w.heap.size, k, none⟩ = some u := (H2.out.cellAt _).trans hu
      have fu : wr.frozen? ⟨w.heap.size, k, none⟩ = false := H2.out.notFrozen _
      clear hP hPl hPh hu
      go_wp2_with fail
      refine Calls.mono (fnvRef_at g (16 * k) (cap - 16 * k) 16 P _ (by exact HPP.out.2.symm) (by rw [HPP.out.2]; omega) HPH.out) ?_
      rintro e w' ⟨rfl, rfl⟩
      go_wp2
      go_roundw
      case rel =>
        refine ⟨k + 1, cs.setIfInBounds k (.int .u32 ((fnv P).toNat : Int)), by omega, by go_num, by rw [Array.size_setIfInBounds]; exact H1.out, H2.out.stored _ _, H3.out.setCell (Nat.le_refl _) _, fun j hj => ?_, fun j hj hj2 => ?_⟩
        · rw [Array.getElem?_setIfInBounds]
          by_cases hj2 : k = j
          · subst hj2
            rw [if_pos rfl, if_pos (by rw [H1.out]; omega), leafV, if_pos hlt, HPP.out.1]
          · rw [if_neg hj2]; exact H4.out j (by omega)
        · rw [Array.getElem?_setIfInBounds, if_neg (by omega)]; exact H5.out j (by omega) hj2
      case measure => simp [intOf]; omega
    · have hk18 : k = 18 := by omega
      have hown : wr.ownsRow w.heap.size 44 1 (.slice (some ⟨w.heap.size, 0, none⟩) 32 32) 32 (sumCells (part l 32 32)) := by
        refine ⟨by rw [sumCells_len, part_len], .inr ⟨w.heap.size, 32, cs, rfl, Nat.le_refl _, H2.out, by omega, by unfold maxLen; omega, by rw [H1.out], ?_⟩⟩
        apply List.ext_getElem?
        intro j
        rw [Nat.mul_one, List.getElem?_take]
        by_cases hj : j < 32
        · rw [if_pos hj, part_get l 32 32 j hj, Array.getElem?_toList, nodeV_leaf l _ (by omega), show 32 + j - 32 = j by omega]
          by_cases h18 : j < 18
          · exact H4.out j (by omega)
          · rw [leafV, if_neg h18]; exact H5.out j (by omega) hj
        · rw [if_neg hj, List.getElem?_eq_none (by rw [sumCells_len, part_len]; omega)]
      have HO := Lib.hid hown
      clear hown hk18
      have d18 : decide ((k : Int) < 18) = false := by rw [decide_eq_false_iff_not]; omega
      go_wp2
      go_loopw [3] (fun lv wr2 => ∃ e n g1 c1 : Nat, n = 2 ^ e ∧ e ≤ 5 ∧ lv = .slice (some ⟨g1, 0, none⟩) n c1 ∧ wr2.ownsRow w.heap.size 44 1 lv n (sumCells (part l n n)) ∧ Below w.heap.size w wr2) (fun lv _ => lenOf lv)
      case atStart => exact ⟨5, 32, w.heap.size, 32, rfl, Nat.le_refl _, rfl, HO.out, H3.out⟩
      case round =>
        obtain ⟨e, n, g1, c1, hn, he, rfl, hl2, hb2⟩ := hrel
        have K1 := Lib.hid hl2
        have K2 := Lib.hid hb2
        have KN := Lib.hid (And.intro hn he)
        clear hl2 hb2 hn he
        by_cases h1 : 1 < n
        · obtain ⟨m, hm, hm1, e', he'⟩ : ∃ m, n = 2 * m ∧ 1 ≤ m ∧ ∃ e', m = 2 ^ e' ∧ e' ≤ 5 := by
            obtain ⟨e', rfl⟩ : ∃ e', e = e' + 1 := by
              rcases Nat.eq_zero_or_pos e with h | h
              · have := KN.out.1
                rw [h] at this
                omega
              · exact ⟨e - 1, by omega⟩
            exact ⟨2 ^ e', by rw [KN.out.1, Nat.pow_succ]; omega, Nat.one_le_two_pow, e', rfl, by have := KN.out.2; omega⟩
          have hn32 : n ≤ 32 := by rw [KN.out.1]; exact Nat.pow_le_pow_right (by omega) KN.out.2
          have HM := Lib.hid (And.intro hm (And.intro hm1 he'))
          clear hm hm1 he'
          obtain ⟨B, hB⟩ : ∃ B, B = wr.heap.size := ⟨_, rfl⟩
          have hg1B : g1 < B := by rw [hB]; exact (K1.out.lt g1 rfl).2
          have HB0 := Lib.hid hB
          clear hB
          have hBw : w.heap.size ≤ B := by rw [HB0.out]; exact K2.out.size
          have dn : decide (1 < (n : Int)) = true := by rw [decide_eq_true_iff]; omega
          go_wp2
          go_loopw [6, 7] (fun up i wr3 => ∃ i0 j : Nat, i0 = 2 * j ∧ j ≤ m ∧ i = .int .i64 i0 ∧ wr3.ownsRow B 44 1 up j (sumCells (part l m j)) ∧ wr3.ownsRow w.heap.size 44 1 (.slice (some ⟨g1, 0, none⟩) n c1) n (sumCells (part l n n)) ∧ Below w.heap.size w wr3 ∧ B ≤ wr3.heap.size) (fun _ i _ => n - (intOf i).toNat)
          case atStart => exact ⟨0, 0, rfl, Nat.zero_le _, rfl, World.ownsRow_nil _ _ _ _, K1.out, K2.out, by rw [HB0.out]; exact Nat.le_refl _⟩
          case round =>
            obtain ⟨i0, j, hi0, hj, rfl, hu, hl3, hb3, hB3⟩ := hrel
            have M1 := Lib.hid hu
            have M2 := Lib.hid hl3
            have M3 := Lib.hid hb3
            have M4 := Lib.hid (And.intro hi0 (And.intro hj hB3))
            clear hu hl3 hb3 hi0 hj hB3
            by_cases hlt2 : i0 < n
            · have hjm : j < m := by have := M4.out.1; have := HM.out.1; omega
              obtain ⟨x, hx⟩ : ∃ x, x = nodeV l (n + i0) := ⟨_, rfl⟩
              obtain ⟨y, hy⟩ : ∃ y, y = nodeV l (n + (i0 + 1)) := ⟨_, rfl⟩
              have cL : wr.cell? ⟨g1, i0, none⟩ = some (.int .u32 (x.toNat : Int)) := by rw [hx]; exact (M2.out.cellAt i0 (by omega)).trans (part_get l n n i0 hlt2)
              have hodd : i0 + 1 < n := by have := M4.out.1; have := HM.out.1; omega
              have cR0 : wr.cell? ⟨g1, i0 + 1, none⟩ = some (.int .u32 (y.toNat : Int)) := by rw [hy]; exact (M2.out.cellAt (i0 + 1) (by omega)).trans (part_get l n n (i0 + 1) hodd)
              have hg1w : g1 < wr.heap.size := (M2.out.lt g1 rfl).2
              have CR := Lib.hid cR0
              have HXY := Lib.hid (And.intro hx hy)
              clear hx hy cR0
              go_wp2_with fail
              refine Calls.mono (four_any x _) ?_
              rintro e4 w4 ⟨gA, cA, rfl, hoA, hbA⟩
              have N1 := Lib.hid hoA
              have N2 := Lib.hid hbA
              have cR : w4.cell? ⟨g1, i0 + 1, none⟩ = some (.int .u32 (y.toNat : Int)) := (hbA.cell hg1w).trans CR.out
              clear hoA hbA
              go_wp2_with fail
              refine Calls.mono (four_any y _) ?_
              rintro e5 w5 ⟨gB, cB, rfl, hoB, hbB⟩
              obtain ⟨gC, cC, w6, hr, hoC, hgC⟩ := app_own wr.heap.size gA cA (four x) (four y) (some ⟨gB, 0, none⟩) cB w5 (N1.out.below hbB) (src_own hoB cB) (by rw [four_len, four_len]; omega) (Nat.le_trans N2.out.size hbB.size)
              rw [four_len, four_len, show (four x ++ four y).length = 8 from rfl] at hr
              have N3 := Lib.hid hoC
              have N4 := Lib.hid ((N2.out.trans (hbB.mono N2.out.size)).grown hgC (Nat.le_trans N2.out.size hbB.size) (by intro k hk; injection hk with hk; have := N1.out.1; omega))
              clear hoB hbB hoC hgC cL cR
              go_wp2_with (first | (at_builtin; refine wpList_append_known rfl (.tmp 48) (.tmp 49) rfl rfl rfl hr ?_; clear hr))
              refine Calls.mono (fnvRef_at gC 0 cC 8 (four x ++ four y) _ rfl (by rw [show (four x ++ four y).length = 8 from rfl]; omega) N3.out.holds) ?_
              rintro e7 w7 ⟨rfl, rfl⟩
              have hM1 := (M1.out.kept (below_grown N4.out none) (Classical.em _)).alloc (.cells #[.int .u32 ((pair2 x y).toNat : Int)] 44)
              have hM2 := (M2.out.kept (below_grown N4.out none) (Classical.em _)).alloc (.cells #[.int .u32 ((pair2 x y).toNat : Int)] 44)
              obtain ⟨up', w8, hr2, hu8, hg8, hnn⟩ := appU_any B _ (part l m j) (pair2 x y) w6.heap.size (w6.alloc (.cells #[.int .u32 ((pair2 x y).toNat : Int)] 44)) (by rw [part_len]; exact hM1) ((Row.made w6 44 _).cellAt 0) (by rw [part_len]; have := HM.out.1; omega) (by have := M4.out.2.2; have := N4.out.size; simp; omega)
              have hxy : pair2 x y = nodeV l (m + j) := by
                rw [nodeV_pair l (m + j) (by have := HM.out.2.1; omega) (by have := HM.out.1; omega), HXY.out.1, HXY.out.2]
                congr 2
                · have := HM.out.1; have := M4.out.1; omega
                · have := HM.out.1; have := M4.out.1; omega
              have P1 := Lib.hid (hM2.kept hg8 (.inr (fun e => by have := (M1.out.lt g1 e.symm).1; omega)))
              have P2 := Lib.hid (((M3.out.trans (N4.out.mono M3.out.size)).alloc (Nat.le_trans M3.out.size N4.out.size) (.cells #[.int .u32 ((pair2 x y).toNat : Int)] 44)).grown hg8 (by have := M3.out.size; have := N4.out.size; simp; omega) (by intro k hk; have := (M1.out.lt k hk).1; omega))
              have hsz8 : B ≤ w8.heap.size := by have := hg8.size; have := N4.out.size; have := M4.out.2.2; simp at *; omega
              rw [show (part l m j ++ [pair2 x y]).length = j + 1 by simp [part_len], hxy, ← part_more] at hu8
              have P3 := Lib.hid hu8
              have P4 := Lib.hid hsz8
              unfold pair2 at hr2
              clear hM1 hM2 hu8 hg8 hnn hxy hsz8
              go_wp2_with (first | (at_builtin; refine wpList_appendU_known rfl (.tmp 52) (.tmp 54) rfl rfl rfl hr2 ?_; clear hr2))
              go_roundw
              case rel =>
                exact ⟨i0 + 2, j + 1, by have := M4.out.1; omega, by omega, by go_num, P3.out, P1.out, P2.out, P4.out⟩
              case measure => simp [intOf]; omega
            · have hjm : j = m := by have := M4.out.1; have := M4.out.2.1; have := HM.out.1; omega
              subst hjm
              have hj1 : 1 ≤ j := HM.out.2.1
              obtain ⟨g2, c2, rfl, _, _⟩ := M1.out.form (by omega)
              go_wp2
              go_roundw
              case rel =>
                exact ⟨e', j, g2, c2, HM.out.2.2.1, HM.out.2.2.2, rfl, World.ownsRow.mono M1.out hBw, M3.out⟩
              case measure => have := HM.out.1; simp [lenOf]; omega
        · have hn1 : n = 1 := by have := KN.out.1; have := Nat.one_le_two_pow (n := e); omega
          subst hn1
          have c0 : wr.cell? ⟨g1, 0, none⟩ = some (.int .u32 ((nodeV l 1).toNat : Int)) := (K1.out.cellAt 0 (by omega)).trans (part_get l 1 1 0 (by omega))
          go_wp2
          go_ret
          exact ⟨rfl, K2.out⟩
end Go.Proofs.YtmcfcfdpckjonaaDoor
