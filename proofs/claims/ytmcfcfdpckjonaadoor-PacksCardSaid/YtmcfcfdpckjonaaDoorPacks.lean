/- THE LAW Packs HOLDS at every input: the call returns true and each argument reads as before. Condition: the listed variable errors.errorType reads as the card ties it. -/
import Derived.Test.YtmcfcfdpckjonaaDoorCards
import Derived.Test.YtmcfcfdpckjonaaDoorTie
import Derived.Test.YtmcfcfdpckjonaaDoorKit
import Derived.Test.YtmcfcfdpckjonaaDoorPacksWalk
import Derived.OpenShut
namespace Go.Proofs.YtmcfcfdpckjonaaDoor
open Go.ChangeShapes Go.WideShapes Go.RowKit
open Go.ChangeMaps (open_string shut_string)

theorem i64_of_wf {n : Int} (h : (Lit.int .i64 n).wf = true) : i64 n := bounds_i64 h

theorem packs_any (fr st ak : Int) (s : ByteArray) (w : World) (hg : ErrVar w) (h1 : i64 fr) (h2 : i64 st) (h3 : i64 ak) (hs : s.size ≤ 9223372036854775807) :
    Calls Tryd.prog 4 #[.int .i64 fr, .int .i64 st, .int .i64 ak, .string s] w fun e w' => e = .returned (.bool true) ∧ Below w.heap.size w w' := by
  by_cases hl : 65536 < s.size
  · exact packs_long fr st ak s w hs hl
  by_cases hf : fits fr st ak s.size
  · obtain ⟨a1, a2, a3, a4, a5, a6, a7⟩ := hf
    obtain ⟨fr, rfl⟩ := Int.eq_ofNat_of_zero_le a1
    obtain ⟨st, rfl⟩ := Int.eq_ofNat_of_zero_le a3
    obtain ⟨ak, rfl⟩ := Int.eq_ofNat_of_zero_le a5
    exact packs_yes fr st ak s w hg (by omega) (by omega) (by omega) a7
  · exact packs_no fr st ak s w hg (by omega) h2 h3 hf

set_option maxRecDepth 100000 in
theorem packs_lifted (os : Os) (started : os.Started) (H : Type) (enc : TypeId × Value → H) :
    ReturnsInHanded {} Tryd.checked os 4 .any (fun w args => (Rows.packsSpec.pre enc Tryd.prog Tryd.f4 [] false w args ∧ laidMetH Tryd.prog laid w) ∧ sizedMet enc Tryd.prog Tryd.f4 (OpenSpec.ofChange Rows.packsSpec) false w args)
      (Rows.packsSpec.post enc Tryd.prog Tryd.f4 false true false false) := by
  refine returnsInHanded_of_change_and (C := Tryd.checked) (X := fun w _ => laidMetH Tryd.prog laid w) (fun _ _ _ hh h => h.of_heap hh) own started (by kernel_rfl) Tryd.func4
    (ChangeSpec.witness_at (enc := enc) (C := Tryd.checked) (os := os) (X := fun w _ => laidMetH Tryd.prog laid w) false (laidWorld os) #[.int .i64 0, .int .i64 0, .int .i64 0, .string ByteArray.empty] 8 rfl (by kernel_rfl) (by kernel_rfl) (by kernel_rfl) (by kernel_rfl) (by kernel_rfl) (laidWorld_met os _)) ?_
  intro W base args ds gs before hval0 hW _ _ hL _
  have hval : ∀ (j : Nat) t v, Tryd.f4.params[j]? = some t → args[j]? = some v → Value.okWide Tryd.prog W .any base t v := hval0
  have hW' := hW
  obtain ⟨p, q, hA0, hV0, rfl, hfz, hnd⟩ := hW
  have hA : DataW.TrodAll enc Tryd.prog W 0 (fun _ => true) true Tryd.f4.params.toList args.toList ds p := hA0
  have hV : DataW.TrodVars enc Tryd.prog W (fun _ => true) [] gs q := hV0
  rw [Tryd.params4] at hA hval
  obtain ⟨v0, v1, v2, v3, d0, d1, d2, d3, p0, p1, p2, p3, hargs, rfl, rfl, h0, h1, h2, h3⟩ := trodAll_four hA
  obtain rfl : args = #[v0, v1, v2, v3] := by first | exact hargs | (cases args; simp_all)
  obtain ⟨rfl, rfl⟩ := trodVars_none hV
  obtain ⟨a, rfl, rfl, rfl, wa⟩ := open_int Tryd.underlying3 (hval 0 3 v0 rfl rfl) h0
  obtain ⟨b, rfl, rfl, rfl, wb⟩ := open_int Tryd.underlying3 (hval 1 3 v1 rfl rfl) h1
  obtain ⟨c, rfl, rfl, rfl, wc⟩ := open_int Tryd.underlying3 (hval 2 3 v2 rfl rfl) h2
  obtain ⟨s, rfl, rfl, rfl, ws⟩ := open_string Tryd.underlying9 (hval 3 9 v3 rfl rfl) h3
  have hg := errVar_of_laid hL
  have e1 : Rows.packsSpec.fn H ([.lit (.int .i64 a), .lit (.int .i64 b), .lit (.int .i64 c), .lit (.string s.data.toList)] ++ []) = { results := [.lit (.bool true)], args := [.lit (.int .i64 a), .lit (.int .i64 b), .lit (.int .i64 c), .lit (.string s.data.toList)] } := by simp [Rows.packsSpec]
  refine (packs_any a b c s W hg (i64_of_wf wa) (i64_of_wf wb) (i64_of_wf wc) (by unfold maxLen at ws; omega)).mono fun e W' ⟨he, hb⟩ => ?_
  subst he
  refine ⟨_, rfl, _, _, _, [], [], [], hW', ?_, ?_, ?_, hb.frame _, fun h => by cases h⟩
  · rw [e1]; exact trodAll_mk1 (shut_bool Tryd.underlying4 true)
  · rw [e1]; exact trodAll_cons_mk (shut_int Tryd.underlying3 wa) (trodAll_cons_mk (shut_int Tryd.underlying3 wb) (trodAll_cons_mk (shut_int Tryd.underlying3 wc) (trodAll_cons_mk (shut_string Tryd.underlying9 ws) trodAll_mk0)))
  · rw [e1]; rfl

theorem packs_said : Rows.PacksSaid :=
  OpenClaim.holds_of_wide 4 Tryd.f4 rfl rfl rfl rfl rfl rfl rfl ⟨rfl, rfl, rfl, rfl, rfl⟩ rfl rfl rfl rfl rfl (by kernel_rfl) Tryd.func4 (by kernel_rfl)
    (of_decide_eq_true (by kernel_rfl)) (by unfold Func.isWrapper; rw [if_neg (of_decide_eq_false (by kernel_rfl))]; exact ⟨rfl, rfl⟩)
    (fun os started H enc _ => packs_lifted os started H enc)

theorem packs_plain (f : FuncId) (fn : Func) (hf : Tryd.pinned.checked.prog.funcNamed "rollback/rollbacklaw.Packs" = some f) (hfn : Tryd.pinned.checked.prog.funcs[f]? = some fn) :
    true = Tryd.pinned.checked.prog.looks [] ∧ ∀ (j : Nat) t, fn.params[j]? = some t → Tryd.pinned.checked.prog.wantsStandIn t = false := by
  obtain rfl : f = 4 := Option.some.inj ((show Tryd.prog.funcNamed "rollback/rollbacklaw.Packs" = some 4 by kernel_rfl).symm.trans hf) |>.symm
  obtain rfl : fn = Tryd.f4 := (Option.some.inj (Tryd.func4.symm.trans hfn)).symm
  refine ⟨by kernel_rfl, fun j t ht => ?_⟩
  rw [Tryd.params4] at ht
  have hm : t = 3 ∨ t = 9 := by have := Array.mem_of_getElem? ht; simp at this; exact this
  rcases hm with rfl | rfl
  · exact (show Tryd.prog.wantsStandIn 3 = false by kernel_rfl)
  · exact (show Tryd.prog.wantsStandIn 9 = false by kernel_rfl)

theorem packs_card : Rows.PacksCardSaid :=
  Claim7.holds_tied_plain_at .later [] _ _ _ _ packs_said (fun _ h => by cases h) (by kernel_rfl) (fun _ h => by cases h) packs_row_tie rfl ⟨rfl, rfl⟩ (by kernel_rfl) rfl packs_plain (by kernel_rfl)
#print axioms packs_card
end Go.Proofs.YtmcfcfdpckjonaaDoor
