/- The reference's Unpack of any bytes (at most 65,600). -/
import Derived.Test.YtmcfcfdpckjonaaDoorPackB
import Derived.Test.YtmcfcfdpckjonaaDoorPlain
import Derived.Deep.RegionLaw
namespace Go.Proofs.YtmcfcfdpckjonaaDoor
open Go.RowKit

/-- A slice of bytes that the call made, or nil. -/
def NilOrOwn (w : World) (base : Nat) (A : Option Addr) (c : Nat) (l : List UInt8) : Prop := (A = none ∧ l = [] ∧ c = 0) ∨ ∃ g, A = some ⟨g, 0, none⟩ ∧ Own w base g c l
theorem NilOrOwn.src {w : World} {base : Nat} {A : Option Addr} {c : Nat} {l : List UInt8} (h : NilOrOwn w base A c l) : Src w A c l := by
  rcases h with h | ⟨g, hA, ho⟩
  · exact .inl h
  · exact .inr ⟨g, 0, hA, ho.holds⟩
theorem NilOrOwn.below {w w' : World} {base : Nat} {A : Option Addr} {c : Nat} {l : List UInt8} (h : NilOrOwn w base A c l) (hb : Below w.heap.size w w') : NilOrOwn w' base A c l := by
  rcases h with h | ⟨g, hA, ho⟩
  · exact .inl h
  · exact .inr ⟨g, hA, ho.below hb⟩
theorem app_nil (base : Nat) (l : List UInt8) (A : Option Addr) (c : Nat) (w : World) (hs : Src w A c l) (hsm : l.length ≤ 1000000) (hb : base ≤ w.heap.size) :
    ∃ A' c' w', (Builtin.append_ #[25, 25] 25 #[.slice none 0 0, .slice A l.length c]).run Tryd.prog w = .ok (.slice A' l.length c') w' ∧ NilOrOwn w' base A' c' l ∧ Below w.heap.size w w' := by
  obtain ⟨v', w', h1, h2, h3, h4⟩ := app_any base (.slice none 0 0) [] l A c w (World.ownsRow_nil _ _ _ _) hs (by simpa using hsm) hb
  rw [List.nil_append] at h2
  have hbl : Below w.heap.size w w' := grown_below h3
  by_cases hl : l.length = 0
  · have hv : v' = .slice none 0 0 := h4.2 ⟨rfl, hl⟩
    subst hv
    have : l = [] := List.eq_nil_of_length_eq_zero hl
    subst this
    exact ⟨none, 0, w', h1, .inl ⟨rfl, rfl, rfl⟩, hbl⟩
  · obtain ⟨g, cap, rfl, ho⟩ := own_of h2 (by rw [Ne, h4]; simp [hl])
    exact ⟨some ⟨g, 0, none⟩, cap, w', h1, .inr ⟨g, rfl, ho⟩, hbl⟩

/-- An append whose run is known, as one step of a region that draws its order. -/
theorem step_append_known {ops : Array Oper} {o : Oper} {a : Act} {w w' : World} {v sv xv : Value} {K : Act → World → Prop} {Q : Exit → Act → World → Prop} {E : Prop} (hgd : o.guard = none) (s x : Operand)
    (ho : o.op = .call { callee := .builtin .append, args := #[s, x], argTypes := #[25, 25] }) (hs : a.eval s = sv) (hx : a.eval x = xv)
    (hr : (Builtin.append_ #[25, 25] o.type #[sv, xv]).run Tryd.prog w = .ok v w') (h : K (a.put o.dst v) w') :
    if Region.wanted o (yielded ops a.tmps) = true then Oper.wp Tryd.prog o a w K Q else E := by
  have hw : Region.wanted o (yielded ops a.tmps) = true := by simp [Region.wanted, hgd]
  rw [if_pos hw]
  unfold Oper.wp execOp
  simp only [ho, resolve, invoke, builtin, Sem.run_bind, Sem.run_pure, Result.andThen_ok, List.map_toArray, List.map_cons, List.map_nil, hs, hx, hr]
  exact h

theorem valid_iff_pk (l : List UInt8) (h8 : 8 ≤ l.length) (h72 : l.length ≤ 72) (h4 : (l.getD 1 0).toNat < 4) : valid l ↔ pk (l.getD 1 0).toNat (startOf l) (ackOf l) (inner l) = l := by
  have hil : (inner l).length = l.length - 8 := by simp [inner]; omega
  constructor
  · rintro ⟨_, _, h0, _, h6, hc⟩
    have hb : body (l.getD 1 0).toNat (startOf l) (ackOf l) (inner l) = l.take (l.length - 1) := by
      have e0 : (l.take (l.length - 1)) = (l.take (l.length - 1)).take 7 ++ inner l := by unfold inner; exact (List.take_append_drop 7 _).symm
      rw [e0]
      unfold body
      congr 1
      rw [List.take_take, Nat.min_eq_left (by omega), hil]
      apply List.ext_getElem?
      intro j
      rw [List.getElem?_take]
      have g2 := (l.getD 2 0).toNat_lt
      have g3 := (l.getD 3 0).toNat_lt
      have g4 := (l.getD 4 0).toNat_lt
      have g5 := (l.getD 5 0).toNat_lt
      have hg : ∀ i, i < l.length → l[i]? = some (l.getD i 0) := fun i hi => by rw [List.getD_eq_getElem?_getD, List.getElem?_eq_getElem hi]; rfl
      have ho : ∀ x : UInt8, UInt8.ofNat x.toNat = x := fun x => UInt8.ofNat_toNat
      by_cases hj : j < 7
      · rw [if_pos hj, hg j (by omega)]
        match j, hj with
        | 0, _ => rw [h0]; rfl
        | 1, _ => show some (UInt8.ofNat (l.getD 1 0).toNat) = _; rw [ho]
        | 2, _ => show some (UInt8.ofNat (startOf l / 256)) = _; rw [show startOf l / 256 = (l.getD 2 0).toNat by unfold startOf; omega, ho]
        | 3, _ => show some (UInt8.ofNat (startOf l % 256)) = _; rw [show startOf l % 256 = (l.getD 3 0).toNat by unfold startOf; omega, ho]
        | 4, _ => show some (UInt8.ofNat (ackOf l / 256)) = _; rw [show ackOf l / 256 = (l.getD 4 0).toNat by unfold ackOf; omega, ho]
        | 5, _ => show some (UInt8.ofNat (ackOf l % 256)) = _; rw [show ackOf l % 256 = (l.getD 5 0).toNat by unfold ackOf; omega, ho]
        | 6, _ => show some (UInt8.ofNat (l.length - 8)) = _; rw [← h6, ho]
      · rw [if_neg hj, List.getElem?_eq_none (by simp [hdr]; omega)]
    unfold pk
    rw [hb, hc]
    have e : l = l.take (l.length - 1) ++ l.drop (l.length - 1) := (List.take_append_drop _ _).symm
    have ed : l.drop (l.length - 1) = [l.getD (l.length - 1) 0] := by
      rw [List.drop_eq_getElem_cons (by omega), List.getD_eq_getElem?_getD, List.getElem?_eq_getElem (by omega), show l.length - 1 + 1 = l.length by omega, List.drop_length]
      rfl
    rw [← ed]; exact e.symm
  · intro h
    rw [← h]
    exact pk_valid _ _ _ _ h4 (by omega)
end Go.Proofs.YtmcfcfdpckjonaaDoor
