/- PROVED HERE: for every input the law WideStands (Go package comptrollerlaw02) answers true, does not panic, and leaves its arguments as they were: Cmp of any two products, and Gcd of any two numbers, are the reference's, within the bounds that the law itself sets.
   CONDITIONS: none but the given row's own.
   Printed by a program of this session (wip/tools/pr.sh), this head by wip/tools/heads.py: not a print of the kit. -/
import Derived.Test.YtgmajadoklnlnaaRows
import Derived.Test.YtgmajadoklnlnaaQx6
import Derived.Test.YtgmajadoklnlnaaPureWideStands
import Derived.Test.YtgmajadoklnlnaaROpen
import Derived.WalkKit
import Derived.ProofKit
import Derived.OpenShut
import Derived.ShutString
import Derived.ChangeOld
import Derived.Below
import Derived.SizedLaws
import Derived.Carry
namespace Go.Proofs.Ytgmajadoklnlnaa.wideStands
open Go.ChangeShapes Go.WideShapes Go.ChangeAt Go.RowKit Go.Proofs.YtgmajadoklnlnaaW.PrintWords
open Go.ChangeMaps (open_string shut_string)
set_option linter.unusedVariables false
theorem own : ownKnob Try.prog.godebug = none := by kernel_rfl
theorem laidOut : laidOutB Try.prog = true := by kernel_rfl
theorem opn23 : R.Opn Try.prog 23 Q.k23 Q.g23 := by
  unfold Q.k23
  exact R.opn_struct (f := fun (p : Int × Int × Int) => (⟨p.1, p.2.1, p.2.2⟩ : Q.S23)) Try.underlying23 (by kernel_rfl) (fun _ => rfl) (R.opnFs_cons (i := 0) rfl rfl (by kernel_rfl) (R.opn_int Try.underlying2) (R.opnFs_cons (i := 1) rfl rfl (by kernel_rfl) (R.opn_int Try.underlying2) (R.opnFs_last (i := 2) rfl rfl (by kernel_rfl) rfl (R.opn_int Try.underlying2))))
set_option maxRecDepth 100000 in
theorem lifted (os : Os) (started : os.Started) (H : Type) (enc : TypeId × Value → H) :
    ReturnsInHanded {} Try.checked os 4 .any (Rows.wideStandsSpec.pre6 enc Try.prog Try.f4 Rows.wideStandsRow.domain false) (Rows.wideStandsSpec.post enc Try.prog Try.f4 false true false false) := by
  refine returnsInHanded_of_change_sized (C := Try.checked) own started (by kernel_rfl) Try.func4
    (ChangeSpec.witness6 (enc := enc) (C := Try.checked) false ⟨#[], #[.agg #[.int .i64 0, .int .i64 0, .int .i64 0], .int .i64 0], []⟩ 8 (by kernel_rfl) (by kernel_rfl) (by kernel_rfl) (by kernel_rfl)) ?_
  intro W base args ds gs before hval0 hW hcnd hsz0 _
  have hsz : (DataW.weightsEach Try.prog (Try.f4.params.toList ++ Rows.wideStandsSpec.plain.varTypes Try.prog) (ds ++ gs)).all (· ≤ reachBytes) = true := hsz0
  have hval : ∀ (j : Nat) t v, Try.f4.params[j]? = some t → args[j]? = some v → Value.okWide Try.prog W .any base t v := hval0
  have hW' := hW
  obtain ⟨p, q, hA0, hV, rfl, hfz, hnd⟩ := hW
  have hA : DataW.TrodAll enc Try.prog W 0 (fun _ => true) true Try.f4.params.toList args.toList ds p := hA0
  rw [Try.params4] at hA hval hsz
  obtain ⟨v0, vs0, d0, ds0, p0, q0, hargs, rfl, rfl, h0, r0⟩ := trodAll_cons hA
  obtain ⟨v1, vs1, d1, ds1, p1, q1, rfl, rfl, rfl, h1, r1⟩ := trodAll_cons r0
  obtain ⟨rfl, rfl, rfl⟩ := trodAll_nil r1
  obtain rfl : args = #[v0, v1] := by cases args; simp_all
  obtain ⟨rfl, rfl⟩ := trodVars_none hV
  have k0 := h0
  have lt0 : ∀ x ∈ p0, x.block < W.heap.size := by obtain ⟨m, hm⟩ := k0; exact DataW.trod_lt m _ _ _ hm
  obtain ⟨x0, cs0, rfl, hk0, hw0⟩ := R.arg_struct Try.underlying23 opn23 (hval 0 23 v0 rfl rfl) h0
  obtain rfl := Q.k23_open hk0
  obtain ⟨a1, rfl, rfl, rfl, w1⟩ := open_int Try.underlying2 (hval 1 2 v1 rfl rfl) h1
  clear hA0 hval0 hsz0 hsz
  obtain ⟨k, hF⟩ := Pure.WideStands x0.f0 x0.f1 x0.f2 a1 hw0.1 hw0.2.1 hw0.2.2 w1
  refine (Q.comptrollerlaw02_WideStands.calls k x0.f0 x0.f1 x0.f2 a1 true W  hF).mono fun e W' ⟨he, bel0⟩ => ?_
  have bel : Below W.heap.size W W' := bel0
  subst he
  exact ⟨_, rfl, _, _, _, [], _, [], hW', trodAll_mk1 (shut_bool Try.underlying4 _), (trodAll_cons_mk (Below.trod laidOut (by kernel_rfl) (of_decide_eq_true (by kernel_rfl)) k0 bel lt0) (trodAll_cons_mk (shut_int Try.underlying2 w1) trodAll_mk0)), rfl, bel.frame _, fun h => by cases h⟩
theorem over : Rows.wideStandsRow.holds Try.pinned (OpenSpec.ofChange Rows.wideStandsSpec) :=
  OpenClaim.holds_of_wide 4 Try.f4 rfl rfl rfl rfl rfl rfl rfl ⟨rfl, rfl, rfl, rfl, rfl⟩ rfl rfl rfl rfl rfl (by kernel_rfl) Try.func4 (by kernel_rfl)
    (of_decide_eq_true (by kernel_rfl)) (by unfold Func.isWrapper; first | (rw [if_pos (by decide +kernel)]; kernel_rfl) | (rw [if_neg (by decide +kernel)]; exact ⟨rfl, rfl⟩))
    (fun os started H enc _ => lifted os started H enc)
theorem proved : Rows.WideStandsSaid := over
#print axioms proved
end Go.Proofs.Ytgmajadoklnlnaa.wideStands
namespace Go.Proofs.Ytgmajadoklnlnaa
/-- The row, under a short name, for the claim. -/
theorem wideStands_holds : Rows.WideStandsSaid := wideStands.proved
end Go.Proofs.Ytgmajadoklnlnaa
