/- Plain laws of packets: what is packed is a packet's bytes, and reads as it was; with a bit turned, a byte more or less it is none. -/
import Derived.Test.YtmcfcfdpckjonaaDoorUnpackP
namespace Go.Proofs.YtmcfcfdpckjonaaDoor

theorem body_len (fr st ak : Nat) (l : List UInt8) : (body fr st ak l).length = l.length + 7 := by simp [body, hdr]
theorem pk_len (fr st ak : Nat) (l : List UInt8) : (pk fr st ak l).length = l.length + 8 := by
  unfold pk; rw [List.length_append, body_len]; rfl
theorem pk_take (fr st ak : Nat) (l : List UInt8) : (pk fr st ak l).take ((pk fr st ak l).length - 1) = body fr st ak l := by
  rw [pk_len]
  unfold pk
  rw [List.take_append_of_le_length (by rw [body_len]; omega), List.take_of_length_le (by rw [body_len]; omega)]
theorem pk_get (fr st ak : Nat) (l : List UInt8) (j : Nat) (hj : j < 7) : (pk fr st ak l).getD j 0 = (hdr fr st ak l.length).getD j 0 := by
  have h7 : (hdr fr st ak l.length).length = 7 := rfl
  rw [List.getD_eq_getElem?_getD, List.getD_eq_getElem?_getD]
  unfold pk body
  rw [List.append_assoc, List.getElem?_append_left (by omega)]
theorem pk_last (fr st ak : Nat) (l : List UInt8) : (pk fr st ak l).getD ((pk fr st ak l).length - 1) 0 = chk (body fr st ak l) := by
  rw [List.getD_eq_getElem?_getD, pk_len]
  unfold pk
  rw [List.getElem?_append_right (by rw [body_len]; omega), body_len, show l.length + 8 - 1 - (l.length + 7) = 0 by omega]
  rfl
theorem ofNat_toNat (n : Nat) (h : n < 256) : (UInt8.ofNat n).toNat = n := UInt8.toNat_ofNat_of_lt' h

theorem pk_valid (fr st ak : Nat) (l : List UInt8) (h1 : fr < 4) (hl : l.length ≤ 64) : valid (pk fr st ak l) := by
  refine ⟨by rw [pk_len]; omega, by rw [pk_len]; omega, by rw [pk_get _ _ _ _ 0 (by omega)]; rfl, ?_, ?_, by rw [pk_take, pk_last]⟩
  · rw [pk_get _ _ _ _ 1 (by omega)]
    show (UInt8.ofNat fr).toNat < 4
    rw [ofNat_toNat _ (by omega)]; exact h1
  · rw [pk_get _ _ _ _ 6 (by omega), pk_len]
    show (UInt8.ofNat l.length).toNat = _
    rw [ofNat_toNat _ (by omega)]; omega
theorem pk_from (fr st ak : Nat) (l : List UInt8) (h1 : fr < 4) : ((pk fr st ak l).getD 1 0).toNat = fr := by
  rw [pk_get _ _ _ _ 1 (by omega)]
  show (UInt8.ofNat fr).toNat = fr
  exact ofNat_toNat _ (by omega)
theorem pk_start (fr st ak : Nat) (l : List UInt8) (h : st ≤ 65535) : startOf (pk fr st ak l) = st := by
  unfold startOf
  rw [pk_get _ _ _ _ 2 (by omega), pk_get _ _ _ _ 3 (by omega)]
  show 256 * (UInt8.ofNat (st / 256)).toNat + (UInt8.ofNat (st % 256)).toNat = st
  rw [ofNat_toNat _ (by omega), ofNat_toNat _ (by omega)]; omega
theorem pk_ack (fr st ak : Nat) (l : List UInt8) (h : ak ≤ 65535) : ackOf (pk fr st ak l) = ak := by
  unfold ackOf
  rw [pk_get _ _ _ _ 4 (by omega), pk_get _ _ _ _ 5 (by omega)]
  show 256 * (UInt8.ofNat (ak / 256)).toNat + (UInt8.ofNat (ak % 256)).toNat = ak
  rw [ofNat_toNat _ (by omega), ofNat_toNat _ (by omega)]; omega
theorem pk_inner (fr st ak : Nat) (l : List UInt8) : inner (pk fr st ak l) = l := by
  unfold inner
  rw [pk_take]
  unfold body
  exact List.drop_left' rfl

/-! xors -/
theorem chk_from (l : List UInt8) (c : UInt8) : l.foldl (fun c x => c ^^^ x) c = c ^^^ l.foldl (fun c x => c ^^^ x) 0 := by
  induction l generalizing c with
  | nil => simp
  | cons x l ih =>
    simp only [List.foldl_cons]
    rw [ih (c ^^^ x), ih (0 ^^^ x), UInt8.zero_xor, UInt8.xor_assoc]
theorem fold_set (l : List UInt8) (b : UInt8) : ∀ (i : Nat) (c : UInt8), i < l.length → (l.set i (l.getD i 0 ^^^ b)).foldl (fun c x => c ^^^ x) c = l.foldl (fun c x => c ^^^ x) c ^^^ b := by
  induction l with
  | nil => intro i c h; simp at h
  | cons x l ih =>
    intro i c h
    cases i with
    | zero =>
      simp only [List.set_cons_zero, List.foldl_cons, List.getD_cons_zero]
      rw [chk_from l (c ^^^ (x ^^^ b)), chk_from l (c ^^^ x)]
      generalize l.foldl (fun c x => c ^^^ x) 0 = y
      rw [← UInt8.xor_assoc c x b, UInt8.xor_assoc (c ^^^ x) b y, UInt8.xor_comm b y, ← UInt8.xor_assoc]
    | succ i =>
      simp only [List.set_cons_succ, List.foldl_cons, List.getD_cons_succ]
      exact ih i (c ^^^ x) (by simpa using h)
theorem chk_set (l : List UInt8) (b : UInt8) (i : Nat) (h : i < l.length) : chk (l.set i (l.getD i 0 ^^^ b)) = chk l ^^^ b := fold_set l b i _ h
theorem xor_self_ne (x b : UInt8) (hb : b ≠ 0) : x ^^^ b ≠ x := by
  intro e
  apply hb
  have h := congrArg (fun y => x ^^^ y) e
  simp only [← UInt8.xor_assoc, UInt8.xor_self, UInt8.zero_xor] at h
  exact h
theorem xor_back (x b : UInt8) : x ^^^ b ^^^ b = x := by rw [UInt8.xor_assoc, UInt8.xor_self, UInt8.xor_zero]

theorem valid_turned (l : List UInt8) (h : valid l) (i : Nat) (hi : i < l.length) (b : UInt8) (hb : b ≠ 0) : ¬ valid (l.set i (l.getD i 0 ^^^ b)) := by
  intro h2
  have e1 := h.2.2.2.2.2
  have e2 := h2.2.2.2.2.2
  have h8 := h.1
  rw [List.length_set] at e2
  by_cases hl : i = l.length - 1
  · subst hl
    have eq : (l.set (l.length - 1) (l.getD (l.length - 1) 0 ^^^ b)).getD (l.length - 1) 0 = l.getD (l.length - 1) 0 ^^^ b := by
      rw [List.getD_eq_getElem?_getD, List.getElem?_set_self (by omega)]; rfl
    rw [eq, List.take_set, List.set_eq_of_length_le (by simp), e1] at e2
    exact xor_self_ne _ _ hb e2.symm
  · have hlt : i < l.length - 1 := by omega
    have hg : l.getD i 0 = (l.take (l.length - 1)).getD i 0 := by rw [List.getD_eq_getElem?_getD, List.getD_eq_getElem?_getD, List.getElem?_take, if_pos hlt]
    rw [List.take_set, hg, chk_set _ _ _ (by simp; omega), e1, List.getD_eq_getElem?_getD (l := l.set _ _), List.getElem?_set_ne (by omega), ← List.getD_eq_getElem?_getD] at e2
    exact xor_self_ne _ _ hb e2
theorem valid_less (l : List UInt8) (h : valid l) : ¬ valid (l.take (l.length - 1)) := by
  intro h2
  have e1 := h.2.2.2.2.1
  have e2 := h2.2.2.2.2.1
  have h8 := h.1
  have h9 := h2.1
  have hl : (l.take (l.length - 1)).length = l.length - 1 := by simp
  rw [hl] at e2 h9
  have hg : (l.take (l.length - 1)).getD 6 0 = l.getD 6 0 := by rw [List.getD_eq_getElem?_getD, List.getD_eq_getElem?_getD, List.getElem?_take, if_pos (by omega)]
  rw [hg, e1] at e2
  omega
theorem valid_more (l : List UInt8) (h : valid l) (x : UInt8) : ¬ valid (l ++ [x]) := by
  intro h2
  have e1 := h.2.2.2.2.1
  have e2 := h2.2.2.2.2.1
  have h8 := h.1
  have hl : (l ++ [x]).length = l.length + 1 := by simp
  rw [hl] at e2
  have hg : (l ++ [x]).getD 6 0 = l.getD 6 0 := by rw [List.getD_eq_getElem?_getD, List.getD_eq_getElem?_getD, List.getElem?_append_left (by omega)]
  rw [hg, e1] at e2
  omega
end Go.Proofs.YtmcfcfdpckjonaaDoor
