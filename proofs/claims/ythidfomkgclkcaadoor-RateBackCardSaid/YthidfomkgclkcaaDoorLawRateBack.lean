/- PROVED HERE: for every input the law RateBack (Go package comptrollerlaw03) answers true, does not panic, and leaves its arguments as they were: rates come back from their texts in lowest terms, and a common factor changes nothing, within the bounds that the law itself sets.
   CONDITIONS: those of the given card alone (the variables that it lists hold what the program's text lays in them).
   Printed by a program of this session (wip/tools/pr.sh), this head by wip/tools/heads.py: not a print of the kit. -/
import Derived.Test.YthidfomkgclkcaaDoorGL
import Derived.Test.YthidfomkgclkcaaDoorGL
import Derived.Test.YthidfomkgclkcaaDoorTie
import Derived.Test.YthidfomkgclkcaaDoorCards
import Derived.LaidMore
import Derived.Lay
import Derived.SevenTiedAt
import Derived.LaidLaws
import Derived.Test.YthidfomkgclkcaaDoorRows
import Derived.Test.YthidfomkgclkcaaDoorQx8
import Derived.Test.YthidfomkgclkcaaDoorPureRateBack
import Derived.Test.YthidfomkgclkcaaDoorROpen
import Derived.WalkKit
import Derived.ProofKit
import Derived.OpenShut
import Derived.ShutString
import Derived.ChangeOld
import Derived.Below
import Derived.SizedLaws
import Derived.Carry
namespace Go.Proofs.YthidfomkgclkcaaDoor.rateBack
open Go.ChangeShapes Go.WideShapes Go.ChangeAt Go.RowKit Go.Proofs.YthidfomkgclkcaaDoorW.PrintWords
open Go.ChangeMaps (open_string shut_string)
set_option linter.unusedVariables false
theorem own : ownKnob Tryd.prog.godebug = none := by kernel_rfl
theorem laidOut : laidOutB Tryd.prog = true := by kernel_rfl
theorem opn31 : R.Opn Tryd.prog 31 Q.k31 Q.g31 := by
  unfold Q.k31
  exact R.opn_struct (f := fun (p : Int × Int) => (⟨p.1, p.2⟩ : Q.S31)) Tryd.underlying31 (by kernel_rfl) (fun _ => rfl) (R.opnFs_cons (i := 0) rfl rfl (by kernel_rfl) (R.opn_int Tryd.underlying2) (R.opnFs_last (i := 1) rfl rfl (by kernel_rfl) rfl (R.opn_int Tryd.underlying2)))
set_option maxRecDepth 100000 in
theorem lifted (os : Os) (started : os.Started) (H : Type) (enc : TypeId × Value → H) :
    ReturnsInHanded {} Tryd.checked os 4 .any (fun w args => (Rows.rateBackSpec.pre enc Tryd.prog Tryd.f4 Rows.rateBackRow.domain false w args ∧ laidMetH Tryd.prog Rows.rateBackRow.laid w) ∧ sizedMet enc Tryd.prog Tryd.f4 (OpenSpec.ofChange Rows.rateBackSpec) false w args) (Rows.rateBackSpec.post enc Tryd.prog Tryd.f4 false true false false) := by
  refine XW.wrap (C := Tryd.checked) (X := fun w _ => laidMetH Tryd.prog Rows.rateBackRow.laid w) (fun _ _ _ hh h => h.of_heap hh) own started (by kernel_rfl) Tryd.func4
    (ChangeSpec.witness_shaped (enc := enc) (C := Tryd.checked) (os := os) (X := fun w _ => laidMetH Tryd.prog Rows.rateBackRow.laid w) false (World.laidAll Tryd.prog os Rows.rateBackRow.laid) #[.agg #[.int .i64 0, .int .i64 0], .int .u16 0] 8 (World.laidAll_os _ _ _)
      (World.shaped_of_ZipB (by kernel_rfl) (by kernel_rfl)) (by kernel_rfl) (by kernel_rfl) (by kernel_rfl)
      (by rw [MakeChecks.laidMetH_plain _ _ _ (by kernel_rfl)]; exact laidMet_laidAll _ (by kernel_rfl) (by kernel_rfl))) ?_
  intro W base args ds gs before hval0 hW hcnd hsz0 hL0 hsh_
  have hL1 : laidMetH Tryd.prog Rows.rateBackRow.laid W := hL0
  clear hL0
  rw [MakeChecks.laidMetH_plain _ _ _ (by kernel_rfl)] at hL1
  have hLd_ := XL.laidW_of hL1 hsh_
  clear hL1
  have hsz : (DataW.weightsEach Tryd.prog (Tryd.f4.params.toList ++ Rows.rateBackSpec.plain.varTypes Tryd.prog) (ds ++ gs)).all (· ≤ reachBytes) = true := hsz0
  have hval : ∀ (j : Nat) t v, Tryd.f4.params[j]? = some t → args[j]? = some v → Value.okWide Tryd.prog W .any base t v := hval0
  have hW' := hW
  obtain ⟨p, q, hA0, hV, rfl, hfz, hnd⟩ := hW
  have hA : DataW.TrodAll enc Tryd.prog W 0 (fun _ => true) true Tryd.f4.params.toList args.toList ds p := hA0
  rw [Tryd.params4] at hA hval hsz
  obtain ⟨v0, vs0, d0, ds0, p0, q0, hargs, rfl, rfl, h0, r0⟩ := trodAll_cons hA
  obtain ⟨v1, vs1, d1, ds1, p1, q1, rfl, rfl, rfl, h1, r1⟩ := trodAll_cons r0
  obtain ⟨rfl, rfl, rfl⟩ := trodAll_nil r1
  obtain rfl : args = #[v0, v1] := by cases args; simp_all
  obtain ⟨rfl, rfl⟩ := trodVars_none hV
  have k0 := h0
  have lt0 : ∀ x ∈ p0, x.block < W.heap.size := by obtain ⟨m, hm⟩ := k0; exact DataW.trod_lt m _ _ _ hm
  obtain ⟨x0, cs0, rfl, hk0, hw0⟩ := R.arg_struct Tryd.underlying31 opn31 (hval 0 31 v0 rfl rfl) h0
  obtain rfl := Q.k31_open hk0
  obtain ⟨a1, rfl, rfl, rfl, w1⟩ := open_int Tryd.underlying32 (hval 1 32 v1 rfl rfl) h1
  clear hA0 hval0 hsz0 hsz
  obtain ⟨k, hF⟩ := Pure.RateBack x0.f0 x0.f1 a1 hw0.1 hw0.2 w1
  refine (Q.law03_RateBack.calls k x0.f0 x0.f1 a1 true W  hF hLd_).mono fun e W' ⟨he, bel0⟩ => ?_
  have bel : Below W.heap.size W W' := bel0
  subst he
  exact ⟨_, rfl, _, _, _, [], _, [], hW', trodAll_mk1 (shut_bool Tryd.underlying4 _), (trodAll_cons_mk (Below.trod laidOut (by kernel_rfl) (of_decide_eq_true (by kernel_rfl)) k0 bel lt0) (trodAll_cons_mk (shut_int Tryd.underlying32 w1) trodAll_mk0)), rfl, bel.frame _, fun h => by cases h⟩
theorem over : Rows.rateBackRow.holds Tryd.pinned (OpenSpec.ofChange Rows.rateBackSpec) :=
  OpenClaim.holds_of_wide 4 Tryd.f4 rfl rfl rfl rfl rfl rfl rfl ⟨rfl, rfl, rfl, rfl, rfl⟩ rfl rfl rfl rfl rfl (by kernel_rfl) Tryd.func4 (by kernel_rfl)
    (of_decide_eq_true (by kernel_rfl)) (by unfold Func.isWrapper; first | (rw [if_pos (by decide +kernel)]; kernel_rfl) | (rw [if_neg (by decide +kernel)]; exact ⟨rfl, rfl⟩))
    (fun os started H enc _ => lifted os started H enc)
set_option maxRecDepth 100000 in
theorem card : Rows.RateBackCardSaid :=
  Claim7.holds_tied_plain_at .later [] [.data, .data, .data, .data, .sentinel, .sentinel, .pinned] true (true, "3d0850d6b949a552861cb57aefffb0cce1029ea28c64bd41e0814d8299856f85") true over (fun _ h => by cases h) (by kernel_rfl) (fun _ h => by cases h) rateBack_row_tie rfl ⟨rfl, rfl⟩ (by kernel_rfl) rfl
    (fun f fn hf hfn => by
      obtain rfl : f = 4 := Option.some.inj ((show Tryd.prog.funcNamed "comptroller/comptrollerlaw03.RateBack" = some 4 by kernel_rfl).symm.trans hf) |>.symm
      obtain rfl : fn = Tryd.f4 := (Option.some.inj (Tryd.func4.symm.trans hfn)).symm
      exact ⟨by kernel_rfl, fun j t ht => by
        rw [Tryd.params4] at ht
        have hm : t ∈ [31, 32] := by simpa using Array.mem_of_getElem? ht
        have hall : ([31, 32].all fun u => !Tryd.prog.wantsStandIn u) = true := by kernel_rfl
        exact (show Tryd.prog.wantsStandIn t = false by simpa using List.all_eq_true.1 hall t hm)⟩)
    (by kernel_rfl)
#print axioms card
end Go.Proofs.YthidfomkgclkcaaDoor.rateBack
namespace Go.Proofs.YthidfomkgclkcaaDoor
/-- The card, under a short name, for the claim. -/
theorem rateBack_holds : Rows.RateBackCardSaid := rateBack.card
end Go.Proofs.YthidfomkgclkcaaDoor
