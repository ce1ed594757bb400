/- PROVED HERE: for every input the law CodecTells (Go package comptrollerlaw10) answers true, does not panic, and leaves its arguments as they were: Print of any cube and Parse of any text are the reference's, or its error, within the bounds that the law itself sets.
   CONDITIONS: those of the given card alone (the variables that it lists hold what the program's text lays in them).
   Printed by a program of this session (wip/tools/pr.sh), this head by wip/tools/heads.py: not a print of the kit. -/
import Derived.Test.YtjbdkdmoacdbpaaGreatDoorGL
import Derived.Test.YtjbdkdmoacdbpaaGreatDoorGL
import Derived.Test.YtjbdkdmoacdbpaaGreatDoorTie
import Derived.Test.YtjbdkdmoacdbpaaGreatDoorCards
import Derived.LaidMore
import Derived.Lay
import Derived.SevenTiedAt
import Derived.LaidLaws
import Derived.Test.YtjbdkdmoacdbpaaGreatDoorRows
import Derived.Test.YtjbdkdmoacdbpaaGreatDoorQx9
import Derived.Test.YtjbdkdmoacdbpaaGreatDoorPureCodecTells
import Derived.Test.YtjbdkdmoacdbpaaGreatDoorROpen
import Derived.WalkKit
import Derived.ProofKit
import Derived.OpenShut
import Derived.ShutString
import Derived.ChangeOld
import Derived.Below
import Derived.SizedLaws
import Derived.Carry
namespace Go.Proofs.YtjbdkdmoacdbpaaGreatDoor.codecTells
open Go.ChangeShapes Go.WideShapes Go.ChangeAt Go.RowKit Go.Proofs.YtjbdkdmoacdbpaaGreatDoorW.PrintWords
open Go.ChangeMaps (open_string shut_string)
set_option linter.unusedVariables false
theorem own : ownKnob Tryz.prog.godebug = none := by kernel_rfl
theorem laidOut : laidOutB Tryz.prog = true := by kernel_rfl
theorem opn52 : R.Opn Tryz.prog 52 Q.k52 Q.g52 := by
  unfold Q.k52
  exact R.opn_struct (f := fun (p : ByteArray × ByteArray × ByteArray × ByteArray × Int) => (⟨p.1, p.2.1, p.2.2.1, p.2.2.2.1, p.2.2.2.2⟩ : Q.S52)) Tryz.underlying52 (by kernel_rfl) (fun _ => rfl) (R.opnFs_cons (i := 0) rfl rfl (by kernel_rfl) (R.opn_string Tryz.underlying9) (R.opnFs_cons (i := 1) rfl rfl (by kernel_rfl) (R.opn_string Tryz.underlying9) (R.opnFs_cons (i := 2) rfl rfl (by kernel_rfl) (R.opn_string Tryz.underlying9) (R.opnFs_cons (i := 3) rfl rfl (by kernel_rfl) (R.opn_string Tryz.underlying9) (R.opnFs_last (i := 4) rfl rfl (by kernel_rfl) rfl (R.opn_int Tryz.underlying3))))))
theorem opn54 : R.Opn Tryz.prog 54 Q.k54 Q.g54 := by
  unfold Q.k54
  exact R.opn_struct (f := fun (p : Q.S52 × Int) => (⟨p.1, p.2⟩ : Q.S54)) Tryz.underlying54 (by kernel_rfl) (fun _ => rfl) (R.opnFs_cons (i := 0) rfl rfl (by kernel_rfl) opn52 (R.opnFs_last (i := 1) rfl rfl (by kernel_rfl) rfl (R.opn_int Tryz.underlying2)))
set_option maxRecDepth 100000 in
theorem lifted (os : Os) (started : os.Started) (H : Type) (enc : TypeId × Value → H) :
    ReturnsInHanded {} Tryz.checked os 3 .any (fun w args => (Rows.codecTellsSpec.pre enc Tryz.prog Tryz.f3 Rows.codecTellsRow.domain false w args ∧ laidMetH Tryz.prog Rows.codecTellsRow.laid w) ∧ sizedMet enc Tryz.prog Tryz.f3 (OpenSpec.ofChange Rows.codecTellsSpec) false w args) (Rows.codecTellsSpec.post enc Tryz.prog Tryz.f3 false true false false) := by
  refine XW.wrap (C := Tryz.checked) (X := fun w _ => laidMetH Tryz.prog Rows.codecTellsRow.laid w) (fun _ _ _ hh h => h.of_heap hh) own started (by kernel_rfl) Tryz.func3
    (ChangeSpec.witness_shaped (enc := enc) (C := Tryz.checked) (os := os) (X := fun w _ => laidMetH Tryz.prog Rows.codecTellsRow.laid w) false (World.laidAll Tryz.prog os Rows.codecTellsRow.laid) #[.slice none 0 0, .string ByteArray.empty] 8 (World.laidAll_os _ _ _)
      (World.shaped_of_ZipB (by kernel_rfl) (by kernel_rfl)) (by kernel_rfl) (by kernel_rfl) (by kernel_rfl)
      (by rw [MakeChecks.laidMetH_plain _ _ _ (by kernel_rfl)]; exact laidMet_laidAll _ (by kernel_rfl) (by kernel_rfl))) ?_
  intro W base args ds gs before hval0 hW hcnd hsz0 hL0 hsh_
  have hL1 : laidMetH Tryz.prog Rows.codecTellsRow.laid W := hL0
  clear hL0
  rw [MakeChecks.laidMetH_plain _ _ _ (by kernel_rfl)] at hL1
  have hLd_ := XL.laidW_of hL1 hsh_
  clear hL1
  have hsz : (DataW.weightsEach Tryz.prog (Tryz.f3.params.toList ++ Rows.codecTellsSpec.plain.varTypes Tryz.prog) (ds ++ gs)).all (· ≤ reachBytes) = true := hsz0
  have hval : ∀ (j : Nat) t v, Tryz.f3.params[j]? = some t → args[j]? = some v → Value.okWide Tryz.prog W .any base t v := hval0
  have hW' := hW
  obtain ⟨p, q, hA0, hV, rfl, hfz, hnd⟩ := hW
  have hA : DataW.TrodAll enc Tryz.prog W 0 (fun _ => true) true Tryz.f3.params.toList args.toList ds p := hA0
  rw [Tryz.params3] at hA hval hsz
  obtain ⟨v0, vs0, d0, ds0, p0, q0, hargs, rfl, rfl, h0, r0⟩ := trodAll_cons hA
  obtain ⟨v1, vs1, d1, ds1, p1, q1, rfl, rfl, rfl, h1, r1⟩ := trodAll_cons r0
  obtain ⟨rfl, rfl, rfl⟩ := trodAll_nil r1
  obtain rfl : args = #[v0, v1] := by cases args; simp_all
  obtain ⟨rfl, rfl⟩ := trodVars_none hV
  have k0 := h0
  have lt0 : ∀ x ∈ p0, x.block < W.heap.size := by obtain ⟨m, hm⟩ := k0; exact DataW.trod_lt m _ _ _ hm
  obtain ⟨A0, l0, c0, rfl, hr0, hc0, hm0, hw0⟩ := R.arg_slice Tryz.underlying22 (by kernel_rfl) opn54 (hval 0 22 v0 rfl rfl) h0
  obtain ⟨a1, rfl, rfl, rfl, y1⟩ := open_string Tryz.underlying9 (hval 1 9 v1 rfl rfl) h1
  have w1 : a1.size ≤ 140737488351232 := by
    have z := sized_string hsz (j := 1) (t := 9) rfl rfl
    rw [Array.length_toList] at z
    exact z
  clear hA0 hval0 hsz0 hsz
  obtain ⟨k, hF⟩ := Pure.CodecTells l0 a1 hm0 hw0 w1
  refine (Q.law10_CodecTells.calls k A0 c0 l0 a1 true W hr0 hc0 hF hLd_).mono fun e W' ⟨he, bel0⟩ => ?_
  have bel : Below W.heap.size W W' := bel0
  subst he
  exact ⟨_, rfl, _, _, _, [], _, [], hW', trodAll_mk1 (shut_bool Tryz.underlying4 _), (trodAll_cons_mk (Below.trod laidOut (by kernel_rfl) (of_decide_eq_true (by kernel_rfl)) k0 bel lt0) (trodAll_cons_mk (shut_string Tryz.underlying9 y1) trodAll_mk0)), rfl, bel.frame _, fun h => by cases h⟩
theorem over : Rows.codecTellsRow.holds Tryz.pinned (OpenSpec.ofChange Rows.codecTellsSpec) :=
  OpenClaim.holds_of_wide 3 Tryz.f3 rfl rfl rfl rfl rfl rfl rfl ⟨rfl, rfl, rfl, rfl, rfl⟩ rfl rfl rfl rfl rfl (by kernel_rfl) Tryz.func3 (by kernel_rfl)
    (of_decide_eq_true (by kernel_rfl)) (by unfold Func.isWrapper; first | (rw [if_pos (by decide +kernel)]; kernel_rfl) | (rw [if_neg (by decide +kernel)]; exact ⟨rfl, rfl⟩))
    (fun os started H enc _ => lifted os started H enc)
set_option maxRecDepth 100000 in
theorem card : Rows.CodecTellsCardSaid :=
  Claim7.holds_tied_plain_at .later [] [.data, .data, .data, .data, .sentinel, .sentinel, .pinned] true (true, "c28aee74526a8f9f4954d7c930518c5ddb782e3edf22bc90b28bc890de7fd9fd") true over (fun _ h => by cases h) (by kernel_rfl) (fun _ h => by cases h) codecTells_row_tie rfl ⟨rfl, rfl⟩ (by kernel_rfl) rfl
    (fun f fn hf hfn => by
      obtain rfl : f = 3 := Option.some.inj ((show Tryz.prog.funcNamed "comptroller/comptrollerlaw10.CodecTells" = some 3 by kernel_rfl).symm.trans hf) |>.symm
      obtain rfl : fn = Tryz.f3 := (Option.some.inj (Tryz.func3.symm.trans hfn)).symm
      exact ⟨by kernel_rfl, fun j t ht => by
        rw [Tryz.params3] at ht
        have hm : t ∈ [22, 9] := by simpa using Array.mem_of_getElem? ht
        have hall : ([22, 9].all fun u => !Tryz.prog.wantsStandIn u) = true := by kernel_rfl
        exact (show Tryz.prog.wantsStandIn t = false by simpa using List.all_eq_true.1 hall t hm)⟩)
    (by kernel_rfl)
#print axioms card
end Go.Proofs.YtjbdkdmoacdbpaaGreatDoor.codecTells
namespace Go.Proofs.YtjbdkdmoacdbpaaGreatDoor
/-- The card, under a short name, for the claim. -/
theorem codecTells_holds : Rows.CodecTellsCardSaid := codecTells.card
end Go.Proofs.YtjbdkdmoacdbpaaGreatDoor
