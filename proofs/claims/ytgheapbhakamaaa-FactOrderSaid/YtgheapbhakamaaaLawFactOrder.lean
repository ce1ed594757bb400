/- PROVED HERE: for every input the law FactOrder (Go package comptrollerlaw09) answers true, does not panic, and leaves its arguments as they were: where all fits the facts' order does not count, and joining cubes of parts is the cube of all, within the bounds that the law itself sets.
   CONDITIONS: none but the given row's own.
   Printed by a program of this session (wip/tools/pr.sh), this head by wip/tools/heads.py: not a print of the kit. -/
import Derived.Test.YtgheapbhakamaaaRows
import Derived.Test.YtgheapbhakamaaaQx18
import Derived.Test.YtgheapbhakamaaaPureFactOrder
import Derived.Test.YtgheapbhakamaaaROpen
import Derived.WalkKit
import Derived.ProofKit
import Derived.OpenShut
import Derived.ShutString
import Derived.ChangeOld
import Derived.Below
import Derived.SizedLaws
import Derived.Carry
namespace Go.Proofs.Ytgheapbhakamaaa.factOrder
open Go.ChangeShapes Go.WideShapes Go.ChangeAt Go.RowKit Go.Proofs.YtgheapbhakamaaaW.PrintWords
open Go.ChangeMaps (open_string shut_string)
set_option linter.unusedVariables false
theorem own : ownKnob Try.prog.godebug = none := by kernel_rfl
theorem laidOut : laidOutB Try.prog = true := by kernel_rfl
theorem opn24 : R.Opn Try.prog 24 Q.k24 Q.g24 := by
  unfold Q.k24
  exact R.opn_struct (f := fun (p : ByteArray × ByteArray × ByteArray × ByteArray × Int) => (⟨p.1, p.2.1, p.2.2.1, p.2.2.2.1, p.2.2.2.2⟩ : Q.S24)) Try.underlying24 (by kernel_rfl) (fun _ => rfl) (R.opnFs_cons (i := 0) rfl rfl (by kernel_rfl) (R.opn_string Try.underlying9) (R.opnFs_cons (i := 1) rfl rfl (by kernel_rfl) (R.opn_string Try.underlying9) (R.opnFs_cons (i := 2) rfl rfl (by kernel_rfl) (R.opn_string Try.underlying9) (R.opnFs_cons (i := 3) rfl rfl (by kernel_rfl) (R.opn_string Try.underlying9) (R.opnFs_last (i := 4) rfl rfl (by kernel_rfl) rfl (R.opn_int Try.underlying3))))))
theorem opn28 : R.Opn Try.prog 28 Q.k28 Q.g28 := by
  unfold Q.k28
  exact R.opn_struct (f := fun (p : Q.S24 × Int) => (⟨p.1, p.2⟩ : Q.S28)) Try.underlying28 (by kernel_rfl) (fun _ => rfl) (R.opnFs_cons (i := 0) rfl rfl (by kernel_rfl) opn24 (R.opnFs_last (i := 1) rfl rfl (by kernel_rfl) rfl (R.opn_int Try.underlying2)))
set_option maxRecDepth 100000 in
theorem lifted (os : Os) (started : os.Started) (H : Type) (enc : TypeId × Value → H) :
    ReturnsInHanded {} Try.checked os 5 .any (Rows.factOrderSpec.pre6 enc Try.prog Try.f5 Rows.factOrderRow.domain false) (Rows.factOrderSpec.post enc Try.prog Try.f5 false true false false) := by
  refine returnsInHanded_of_change_sized (C := Try.checked) own started (by kernel_rfl) Try.func5
    (ChangeSpec.witness6 (enc := enc) (C := Try.checked) false ⟨#[], #[.slice none 0 0, .int .u8 0, .bool false], []⟩ 8 (by kernel_rfl) (by kernel_rfl) (by kernel_rfl) (by kernel_rfl)) ?_
  intro W base args ds gs before hval0 hW hcnd hsz0 _
  have hsz : (DataW.weightsEach Try.prog (Try.f5.params.toList ++ Rows.factOrderSpec.plain.varTypes Try.prog) (ds ++ gs)).all (· ≤ reachBytes) = true := hsz0
  have hval : ∀ (j : Nat) t v, Try.f5.params[j]? = some t → args[j]? = some v → Value.okWide Try.prog W .any base t v := hval0
  have hW' := hW
  obtain ⟨p, q, hA0, hV, rfl, hfz, hnd⟩ := hW
  have hA : DataW.TrodAll enc Try.prog W 0 (fun _ => true) true Try.f5.params.toList args.toList ds p := hA0
  rw [Try.params5] at hA hval hsz
  obtain ⟨v0, vs0, d0, ds0, p0, q0, hargs, rfl, rfl, h0, r0⟩ := trodAll_cons hA
  obtain ⟨v1, vs1, d1, ds1, p1, q1, rfl, rfl, rfl, h1, r1⟩ := trodAll_cons r0
  obtain ⟨v2, vs2, d2, ds2, p2, q2, rfl, rfl, rfl, h2, r2⟩ := trodAll_cons r1
  obtain ⟨rfl, rfl, rfl⟩ := trodAll_nil r2
  obtain rfl : args = #[v0, v1, v2] := by cases args; simp_all
  obtain ⟨rfl, rfl⟩ := trodVars_none hV
  have k0 := h0
  have lt0 : ∀ x ∈ p0, x.block < W.heap.size := by obtain ⟨m, hm⟩ := k0; exact DataW.trod_lt m _ _ _ hm
  obtain ⟨A0, l0, c0, rfl, hr0, hc0, hm0, hw0⟩ := R.arg_slice Try.underlying22 (by kernel_rfl) opn28 (hval 0 22 v0 rfl rfl) h0
  obtain ⟨a1, rfl, rfl, rfl, w1⟩ := open_int Try.underlying5 (hval 1 5 v1 rfl rfl) h1
  obtain ⟨a2, rfl, rfl, rfl⟩ := open_bool Try.underlying4 (hval 2 4 v2 rfl rfl) h2
  clear hA0 hval0 hsz0 hsz
  obtain ⟨k, hF⟩ := Pure.FactOrder l0 a1 a2 hm0 hw0 w1
  refine (Q.law09_FactOrder.calls k A0 c0 l0 a1 a2 true W hr0 hc0 hF).mono fun e W' ⟨he, bel0⟩ => ?_
  have bel : Below W.heap.size W W' := bel0
  subst he
  exact ⟨_, rfl, _, _, _, [], _, [], hW', trodAll_mk1 (shut_bool Try.underlying4 _), (trodAll_cons_mk (Below.trod laidOut (by kernel_rfl) (of_decide_eq_true (by kernel_rfl)) k0 bel lt0) (trodAll_cons_mk (shut_int Try.underlying5 w1) (trodAll_cons_mk (shut_bool Try.underlying4 _) trodAll_mk0))), rfl, bel.frame _, fun h => by cases h⟩
theorem over : Rows.factOrderRow.holds Try.pinned (OpenSpec.ofChange Rows.factOrderSpec) :=
  OpenClaim.holds_of_wide 5 Try.f5 rfl rfl rfl rfl rfl rfl rfl ⟨rfl, rfl, rfl, rfl, rfl⟩ rfl rfl rfl rfl rfl (by kernel_rfl) Try.func5 (by kernel_rfl)
    (of_decide_eq_true (by kernel_rfl)) (by unfold Func.isWrapper; first | (rw [if_pos (by decide +kernel)]; kernel_rfl) | (rw [if_neg (by decide +kernel)]; exact ⟨rfl, rfl⟩))
    (fun os started H enc _ => lifted os started H enc)
theorem proved : Rows.FactOrderSaid := over
#print axioms proved
end Go.Proofs.Ytgheapbhakamaaa.factOrder
namespace Go.Proofs.Ytgheapbhakamaaa
/-- The row, under a short name, for the claim. -/
theorem factOrder_holds : Rows.FactOrderSaid := factOrder.proved
end Go.Proofs.Ytgheapbhakamaaa
