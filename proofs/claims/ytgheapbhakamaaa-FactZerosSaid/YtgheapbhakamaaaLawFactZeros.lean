/- PROVED HERE: for every input the law FactZeros (Go package comptrollerlaw09) answers true, does not panic, and leaves its arguments as they were: a cube with its negative is empty, and with nothing it is itself, within the bounds that the law itself sets.
   CONDITIONS: none but the given row's own.
   Printed by a program of this session (wip/tools/pr.sh), this head by wip/tools/heads.py: not a print of the kit. -/
import Derived.Test.YtgheapbhakamaaaRows
import Derived.Test.YtgheapbhakamaaaQx21
import Derived.Test.YtgheapbhakamaaaPureFactZeros
import Derived.Test.YtgheapbhakamaaaROpen
import Derived.WalkKit
import Derived.ProofKit
import Derived.OpenShut
import Derived.ShutString
import Derived.ChangeOld
import Derived.Below
import Derived.SizedLaws
import Derived.Carry
namespace Go.Proofs.Ytgheapbhakamaaa.factZeros
open Go.ChangeShapes Go.WideShapes Go.ChangeAt Go.RowKit Go.Proofs.YtgheapbhakamaaaW.PrintWords
open Go.ChangeMaps (open_string shut_string)
set_option linter.unusedVariables false
theorem own : ownKnob Try.prog.godebug = none := by kernel_rfl
theorem laidOut : laidOutB Try.prog = true := by kernel_rfl
theorem opn24 : R.Opn Try.prog 24 Q.k24 Q.g24 := by
  unfold Q.k24
  exact R.opn_struct (f := fun (p : ByteArray × ByteArray × ByteArray × ByteArray × Int) => (⟨p.1, p.2.1, p.2.2.1, p.2.2.2.1, p.2.2.2.2⟩ : Q.S24)) Try.underlying24 (by kernel_rfl) (fun _ => rfl) (R.opnFs_cons (i := 0) rfl rfl (by kernel_rfl) (R.opn_string Try.underlying9) (R.opnFs_cons (i := 1) rfl rfl (by kernel_rfl) (R.opn_string Try.underlying9) (R.opnFs_cons (i := 2) rfl rfl (by kernel_rfl) (R.opn_string Try.underlying9) (R.opnFs_cons (i := 3) rfl rfl (by kernel_rfl) (R.opn_string Try.underlying9) (R.opnFs_last (i := 4) rfl rfl (by kernel_rfl) rfl (R.opn_int Try.underlying3))))))
theorem opn28 : R.Opn Try.prog 28 Q.k28 Q.g28 := by
  unfold Q.k28
  exact R.opn_struct (f := fun (p : Q.S24 × Int) => (⟨p.1, p.2⟩ : Q.S28)) Try.underlying28 (by kernel_rfl) (fun _ => rfl) (R.opnFs_cons (i := 0) rfl rfl (by kernel_rfl) opn24 (R.opnFs_last (i := 1) rfl rfl (by kernel_rfl) rfl (R.opn_int Try.underlying2)))
set_option maxRecDepth 100000 in
theorem lifted (os : Os) (started : os.Started) (H : Type) (enc : TypeId × Value → H) :
    ReturnsInHanded {} Try.checked os 9 .any (Rows.factZerosSpec.pre6 enc Try.prog Try.f9 Rows.factZerosRow.domain false) (Rows.factZerosSpec.post enc Try.prog Try.f9 false true false false) := by
  refine returnsInHanded_of_change_sized (C := Try.checked) own started (by kernel_rfl) Try.func9
    (ChangeSpec.witness6 (enc := enc) (C := Try.checked) false ⟨#[], #[.slice none 0 0], []⟩ 8 (by kernel_rfl) (by kernel_rfl) (by kernel_rfl) (by kernel_rfl)) ?_
  intro W base args ds gs before hval0 hW hcnd hsz0 _
  have hsz : (DataW.weightsEach Try.prog (Try.f9.params.toList ++ Rows.factZerosSpec.plain.varTypes Try.prog) (ds ++ gs)).all (· ≤ reachBytes) = true := hsz0
  have hval : ∀ (j : Nat) t v, Try.f9.params[j]? = some t → args[j]? = some v → Value.okWide Try.prog W .any base t v := hval0
  have hW' := hW
  obtain ⟨p, q, hA0, hV, rfl, hfz, hnd⟩ := hW
  have hA : DataW.TrodAll enc Try.prog W 0 (fun _ => true) true Try.f9.params.toList args.toList ds p := hA0
  rw [Try.params9] at hA hval hsz
  obtain ⟨v0, vs0, d0, ds0, p0, q0, hargs, rfl, rfl, h0, r0⟩ := trodAll_cons hA
  obtain ⟨rfl, rfl, rfl⟩ := trodAll_nil r0
  obtain rfl : args = #[v0] := by cases args; simp_all
  obtain ⟨rfl, rfl⟩ := trodVars_none hV
  have k0 := h0
  have lt0 : ∀ x ∈ p0, x.block < W.heap.size := by obtain ⟨m, hm⟩ := k0; exact DataW.trod_lt m _ _ _ hm
  obtain ⟨A0, l0, c0, rfl, hr0, hc0, hm0, hw0⟩ := R.arg_slice Try.underlying22 (by kernel_rfl) opn28 (hval 0 22 v0 rfl rfl) h0
  clear hA0 hval0 hsz0 hsz
  obtain ⟨k, hF⟩ := Pure.FactZeros l0 hm0 hw0
  refine (Q.law09_FactZeros.calls k A0 c0 l0 true W hr0 hc0 hF).mono fun e W' ⟨he, bel0⟩ => ?_
  have bel : Below W.heap.size W W' := bel0
  subst he
  exact ⟨_, rfl, _, _, _, [], _, [], hW', trodAll_mk1 (shut_bool Try.underlying4 _), (trodAll_cons_mk (Below.trod laidOut (by kernel_rfl) (of_decide_eq_true (by kernel_rfl)) k0 bel lt0) trodAll_mk0), rfl, bel.frame _, fun h => by cases h⟩
theorem over : Rows.factZerosRow.holds Try.pinned (OpenSpec.ofChange Rows.factZerosSpec) :=
  OpenClaim.holds_of_wide 9 Try.f9 rfl rfl rfl rfl rfl rfl rfl ⟨rfl, rfl, rfl, rfl, rfl⟩ rfl rfl rfl rfl rfl (by kernel_rfl) Try.func9 (by kernel_rfl)
    (of_decide_eq_true (by kernel_rfl)) (by unfold Func.isWrapper; first | (rw [if_pos (by decide +kernel)]; kernel_rfl) | (rw [if_neg (by decide +kernel)]; exact ⟨rfl, rfl⟩))
    (fun os started H enc _ => lifted os started H enc)
theorem proved : Rows.FactZerosSaid := over
#print axioms proved
end Go.Proofs.Ytgheapbhakamaaa.factZeros
namespace Go.Proofs.Ytgheapbhakamaaa
/-- The row, under a short name, for the claim. -/
theorem factZeros_holds : Rows.FactZerosSaid := factZeros.proved
end Go.Proofs.Ytgheapbhakamaaa
