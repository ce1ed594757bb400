/- PROVED HERE: for every input the law FactTells (Go package comptrollerlaw09) answers true, does not panic, and leaves its arguments as they were: Of, Cmp and Right are the reference's cube, order and test, or its error, within the bounds that the law itself sets.
   CONDITIONS: none but the given row's own.
   Printed by a program of this session (wip/tools/pr.sh), this head by wip/tools/heads.py: not a print of the kit. -/
import Derived.Test.YtgheapbhakamaaaRows
import Derived.Test.YtgheapbhakamaaaQx13
import Derived.Test.YtgheapbhakamaaaPureFactTells
import Derived.Test.YtgheapbhakamaaaROpen
import Derived.WalkKit
import Derived.ProofKit
import Derived.OpenShut
import Derived.ShutString
import Derived.ChangeOld
import Derived.Below
import Derived.SizedLaws
import Derived.Carry
namespace Go.Proofs.Ytgheapbhakamaaa.factTells
open Go.ChangeShapes Go.WideShapes Go.ChangeAt Go.RowKit Go.Proofs.YtgheapbhakamaaaW.PrintWords
open Go.ChangeMaps (open_string shut_string)
set_option linter.unusedVariables false
theorem own : ownKnob Try.prog.godebug = none := by kernel_rfl
theorem laidOut : laidOutB Try.prog = true := by kernel_rfl
theorem opn24 : R.Opn Try.prog 24 Q.k24 Q.g24 := by
  unfold Q.k24
  exact R.opn_struct (f := fun (p : ByteArray × ByteArray × ByteArray × ByteArray × Int) => (⟨p.1, p.2.1, p.2.2.1, p.2.2.2.1, p.2.2.2.2⟩ : Q.S24)) Try.underlying24 (by kernel_rfl) (fun _ => rfl) (R.opnFs_cons (i := 0) rfl rfl (by kernel_rfl) (R.opn_string Try.underlying9) (R.opnFs_cons (i := 1) rfl rfl (by kernel_rfl) (R.opn_string Try.underlying9) (R.opnFs_cons (i := 2) rfl rfl (by kernel_rfl) (R.opn_string Try.underlying9) (R.opnFs_cons (i := 3) rfl rfl (by kernel_rfl) (R.opn_string Try.underlying9) (R.opnFs_last (i := 4) rfl rfl (by kernel_rfl) rfl (R.opn_int Try.underlying3))))))
theorem opn28 : R.Opn Try.prog 28 Q.k28 Q.g28 := by
  unfold Q.k28
  exact R.opn_struct (f := fun (p : Q.S24 × Int) => (⟨p.1, p.2⟩ : Q.S28)) Try.underlying28 (by kernel_rfl) (fun _ => rfl) (R.opnFs_cons (i := 0) rfl rfl (by kernel_rfl) opn24 (R.opnFs_last (i := 1) rfl rfl (by kernel_rfl) rfl (R.opn_int Try.underlying2)))
set_option maxRecDepth 100000 in
theorem lifted (os : Os) (started : os.Started) (H : Type) (enc : TypeId × Value → H) :
    ReturnsInHanded {} Try.checked os 3 .any (Rows.factTellsSpec.pre6 enc Try.prog Try.f3 Rows.factTellsRow.domain false) (Rows.factTellsSpec.post enc Try.prog Try.f3 false true false false) := by
  refine returnsInHanded_of_change_sized (C := Try.checked) own started (by kernel_rfl) Try.func3
    (ChangeSpec.witness6 (enc := enc) (C := Try.checked) false ⟨#[], #[.slice none 0 0, .agg #[.string ByteArray.empty, .string ByteArray.empty, .string ByteArray.empty, .string ByteArray.empty, .int .i64 0], .agg #[.string ByteArray.empty, .string ByteArray.empty, .string ByteArray.empty, .string ByteArray.empty, .int .i64 0]], []⟩ 8 (by kernel_rfl) (by kernel_rfl) (by kernel_rfl) (by kernel_rfl)) ?_
  intro W base args ds gs before hval0 hW hcnd hsz0 _
  have hsz : (DataW.weightsEach Try.prog (Try.f3.params.toList ++ Rows.factTellsSpec.plain.varTypes Try.prog) (ds ++ gs)).all (· ≤ reachBytes) = true := hsz0
  have hval : ∀ (j : Nat) t v, Try.f3.params[j]? = some t → args[j]? = some v → Value.okWide Try.prog W .any base t v := hval0
  have hW' := hW
  obtain ⟨p, q, hA0, hV, rfl, hfz, hnd⟩ := hW
  have hA : DataW.TrodAll enc Try.prog W 0 (fun _ => true) true Try.f3.params.toList args.toList ds p := hA0
  rw [Try.params3] at hA hval hsz
  obtain ⟨v0, vs0, d0, ds0, p0, q0, hargs, rfl, rfl, h0, r0⟩ := trodAll_cons hA
  obtain ⟨v1, vs1, d1, ds1, p1, q1, rfl, rfl, rfl, h1, r1⟩ := trodAll_cons r0
  obtain ⟨v2, vs2, d2, ds2, p2, q2, rfl, rfl, rfl, h2, r2⟩ := trodAll_cons r1
  obtain ⟨rfl, rfl, rfl⟩ := trodAll_nil r2
  obtain rfl : args = #[v0, v1, v2] := by cases args; simp_all
  obtain ⟨rfl, rfl⟩ := trodVars_none hV
  have k0 := h0
  have lt0 : ∀ x ∈ p0, x.block < W.heap.size := by obtain ⟨m, hm⟩ := k0; exact DataW.trod_lt m _ _ _ hm
  obtain ⟨A0, l0, c0, rfl, hr0, hc0, hm0, hw0⟩ := R.arg_slice Try.underlying22 (by kernel_rfl) opn28 (hval 0 22 v0 rfl rfl) h0
  have k1 := h1
  have lt1 : ∀ x ∈ p1, x.block < W.heap.size := by obtain ⟨m, hm⟩ := k1; exact DataW.trod_lt m _ _ _ hm
  obtain ⟨x1, cs1, rfl, hk1, hw1⟩ := R.arg_struct Try.underlying24 opn24 (hval 1 24 v1 rfl rfl) h1
  obtain rfl := Q.k24_open hk1
  have k2 := h2
  have lt2 : ∀ x ∈ p2, x.block < W.heap.size := by obtain ⟨m, hm⟩ := k2; exact DataW.trod_lt m _ _ _ hm
  obtain ⟨x2, cs2, rfl, hk2, hw2⟩ := R.arg_struct Try.underlying24 opn24 (hval 2 24 v2 rfl rfl) h2
  obtain rfl := Q.k24_open hk2
  clear hA0 hval0 hsz0 hsz
  obtain ⟨k, hF⟩ := Pure.FactTells l0 x1.f0 x1.f1 x1.f2 x1.f3 x1.f4 x2.f0 x2.f1 x2.f2 x2.f3 x2.f4 hm0 hw0 hw1.1 hw1.2.1 hw1.2.2.1 hw1.2.2.2.1 hw1.2.2.2.2 hw2.1 hw2.2.1 hw2.2.2.1 hw2.2.2.2.1 hw2.2.2.2.2
  refine (Q.law09_FactTells.calls k A0 c0 l0 x1.f0 x1.f1 x1.f2 x1.f3 x1.f4 x2.f0 x2.f1 x2.f2 x2.f3 x2.f4 true W hr0 hc0 hF).mono fun e W' ⟨he, bel0⟩ => ?_
  have bel : Below W.heap.size W W' := bel0
  subst he
  exact ⟨_, rfl, _, _, _, [], _, [], hW', trodAll_mk1 (shut_bool Try.underlying4 _), (trodAll_cons_mk (Below.trod laidOut (by kernel_rfl) (of_decide_eq_true (by kernel_rfl)) k0 bel lt0) (trodAll_cons_mk (Below.trod laidOut (by kernel_rfl) (of_decide_eq_true (by kernel_rfl)) k1 bel lt1) (trodAll_cons_mk (Below.trod laidOut (by kernel_rfl) (of_decide_eq_true (by kernel_rfl)) k2 bel lt2) trodAll_mk0))), rfl, bel.frame _, fun h => by cases h⟩
theorem over : Rows.factTellsRow.holds Try.pinned (OpenSpec.ofChange Rows.factTellsSpec) :=
  OpenClaim.holds_of_wide 3 Try.f3 rfl rfl rfl rfl rfl rfl rfl ⟨rfl, rfl, rfl, rfl, rfl⟩ rfl rfl rfl rfl rfl (by kernel_rfl) Try.func3 (by kernel_rfl)
    (of_decide_eq_true (by kernel_rfl)) (by unfold Func.isWrapper; first | (rw [if_pos (by decide +kernel)]; kernel_rfl) | (rw [if_neg (by decide +kernel)]; exact ⟨rfl, rfl⟩))
    (fun os started H enc _ => lifted os started H enc)
theorem proved : Rows.FactTellsSaid := over
#print axioms proved
end Go.Proofs.Ytgheapbhakamaaa.factTells
namespace Go.Proofs.Ytgheapbhakamaaa
/-- The row, under a short name, for the claim. -/
theorem factTells_holds : Rows.FactTellsSaid := factTells.proved
end Go.Proofs.Ytgheapbhakamaaa
