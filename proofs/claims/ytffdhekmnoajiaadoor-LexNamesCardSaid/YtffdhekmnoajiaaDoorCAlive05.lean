import Derived.Test.YtffdhekmnoajiaaDoorQx1
import Derived.Test.YtffdhekmnoajiaaDoorR5j
/- the law's first answers -/
set_option linter.unusedVariables false
set_option linter.unusedSimpArgs false
namespace Go.Proofs.YtffdhekmnoajiaaDoor.M
open Go.RowKit Go.Proofs.YtffdhekmnoajiaaDoorW.PrintWords Go.Proofs.YtffdhekmnoajiaaDoorW.PrintLast Go.Proofs.YtffdhekmnoajiaaDoorW.PrintMore Go.Proofs.YtffdhekmnoajiaaDoor.Q Go.Proofs.YtffdhekmnoajiaaDoor.X
theorem llines_f (s : List UInt8) : lex_Lines.f (bs s) = some ((linesT s).1.map s42, (linesT s).2) := linesF_bs s
theorem lname_f (s : List UInt8) : lex_Name.f (bs s) = some (nameM s) := congrArg some (nameB_bs s)
theorem alive_f : Ev (fun k => law05_alive.f k) true := by
  have e1 := llines_f [97, 32, 98, 32, 35, 32, 99, 10, 10, 32, 100]
  have e2 := llines_f [0]
  have l1 : linesT [97, 32, 98, 32, 35, 32, 99, 10, 10, 32, 100] = ([(1, [[97], [98]]), (3, [[100]])], 0) := by decide +kernel
  have l2 : linesT [0] = ([], 5) := by decide +kernel
  rw [l1] at e1
  rw [l2] at e2
  unfold law05_alive.f
  rw [show (⟨#[97, 32, 98, 32, 35, 32, 99, 10, 10, 32, 100]⟩ : ByteArray) = bs [97, 32, 98, 32, 35, 32, 99, 10, 10, 32, 100] from rfl, show (⟨#[0]⟩ : ByteArray) = bs [0] from rfl, e1, e2]
  simp only [Option.bind_some]
  have hfew : ∀ x ∈ [s49 (1, [[97], [98]]), s49 (3, [[100]])], FewL x := by
    intro x hx
    simp only [List.mem_cons, List.not_mem_nil, or_false] at hx
    rcases hx with rfl | rfl
    · refine ⟨by decide, fun w hw => ?_⟩
      simp only [s49, List.map_cons, List.map_nil, List.mem_cons, List.not_mem_nil, or_false] at hw
      rcases hw with rfl | rfl <;> (rw [bs_size]; decide)
    · refine ⟨by decide, fun w hw => ?_⟩
      simp only [s49, List.map_cons, List.map_nil, List.mem_cons, List.not_mem_nil, or_false] at hw
      rcases hw with rfl
      rw [bs_size]; decide
  have hj : joinF [s42 (1, [[97], [98]]), s42 (3, [[100]])] = some (bs [97, 32, 98, 10, 100, 10]) := by
    have := joinF_few (l := [s49 (1, [[97], [98]]), s49 (3, [[100]])]) (by decide) hfew
    have e : joinTxt (List.map t42 [s49 (1, [[97], [98]]), s49 (3, [[100]])]) = [97, 32, 98, 10, 100, 10] := by decide +kernel
    rw [e] at this
    exact this
  have hs := same_f (l := [s49 (1, [[97], [98]]), s49 (3, [[100]])]) (by decide) (fun x hx => by have := (hfew x hx).1; omega)
  have ho := ours_f (l := [s42 (1, [[97], [98]]), s42 (3, [[100]])]) (by decide)
  have hp := pick_f (bs [98]) (l := [bs [97], bs [98]]) (by decide)
  have n1 := lname_f [97, 98, 45, 49]
  have n2 := lname_f [49, 97]
  rw [show nameM [97, 98, 45, 49] = true from by decide +kernel] at n1
  rw [show nameM [49, 97] = false from by decide +kernel] at n2
  refine Ev.step (f := fun k => (law05_Ours.f k [s42 (1, [[97], [98]]), s42 (3, [[100]])]).bind fun t125 => (ref05_Same.f k t125 [s49 (1, [[97], [98]]), s49 (3, [[100]])]).bind fun t137 => (if t137 = true then (lex_Pick.f k (bs [98]) [bs [97], bs [98]]).bind fun t144 => some (t144 == 1) else some false)) (fun k => ?_) ?_
  · rw [law05_alive.j0.eq_2]
    simp only [List.map_cons, List.map_nil, if_true, show (⟨#[97, 98, 45, 49]⟩ : ByteArray) = bs [97, 98, 45, 49] from rfl, n1, show (⟨#[49, 97]⟩ : ByteArray) = bs [49, 97] from rfl, n2, Option.bind_some, Bool.false_eq_true, if_false, show lex_Join.f [s42 (1, [[97], [98]]), s42 (3, [[100]])] = some (bs [97, 32, 98, 10, 100, 10]) from hj, bs_toList]
    rfl
  · refine ho.bind (hs.bind ?_)
    simp only [if_true]
    refine Ev.bind hp ?_
    rw [show (pickI (bs [98]) [bs [97], bs [98]] 0 == 1) = true from by decide +kernel]
    exact Ev.now _
end Go.Proofs.YtffdhekmnoajiaaDoor.M
