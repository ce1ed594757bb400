/- Proved: for any two cubes of facts and any text: the cube of the text of a cube is that cube, and right; unlike cubes have unlike texts; and the text of the cube of a text is that text. No condition but what Go itself can hold. -/
import Derived.Test.YtjbdkdmoacdbpaaGreatDoorQx11
import Derived.Test.YtjbdkdmoacdbpaaGreatDoorGC
set_option linter.unusedVariables false
set_option linter.unusedSimpArgs false
namespace Go.Proofs.YtjbdkdmoacdbpaaGreatDoor.Pure
open Go Go.RowKit Go.Proofs.YtjbdkdmoacdbpaaGreatDoor.Q Go.Proofs.YtjbdkdmoacdbpaaGreatDoor.M Go.Proofs.YtjbdkdmoacdbpaaGreatDoorW.PrintWords Go.Proofs.YtjbdkdmoacdbpaaGreatDoorW.PrintLast Go.Proofs.YtjbdkdmoacdbpaaGreatDoor.XC
theorem back3 (s : List UInt8) (hs : s.length ≤ 6000) : Ev (fun k => law10_CodecBack.j3 k (bs s)) true := by
  obtain ⟨out, e, hp, h⟩ := parse_is s (by omega)
  refine Ev.step (fun k => by rw [law10_CodecBack.j3.eq_2]) ?_
  rw [hp]
  simp only [Option.bind_some]
  rcases h with ⟨rfl, hg, hsm, ht⟩ | ⟨rfl, rfl, _⟩
  · rw [print_is hsm, if_pos hg.1]
    simp only [if_true, Option.bind_some, bs_toList, ht, beq_self_eq_true]
    exact Ev.now _
  · simp
    exact Ev.now _
theorem CodecBack : law10_CodecBack.Pure := by
  intro l0 l1 a2 hl0 hg0 hl1 hg1 ha2
  refine Ev.rounds (g := fun k => law10_CodecBack.f k l0 l1 a2) ?_
  have yes : Ev (fun k => law10_CodecBack.j0 k l0 l1 a2 true) true := Ev.step (f := fun _ => some true) (fun k => by rw [law10_CodecBack.j0.eq_2, if_pos rfl]) (Ev.now _)
  unfold law10_CodecBack.f
  rw [alive_f]
  simp only [Option.bind_some, if_true]
  obtain ⟨b, h1, h2⟩ := few_is hl0 hg0
  refine Ev.bind h1 ?_
  cases b with
  | false => simp only [Bool.false_eq_true, if_false]; exact yes
  | true =>
  obtain ⟨c, h3, h4⟩ := few_is hl1 hg1
  simp only [if_true]
  refine Ev.bind h3 ?_
  cases c with
  | false => simp only [Bool.false_eq_true, if_false]; exact yes
  | true =>
  simp only [if_true]
  by_cases hs : (a2.size : Int) > 6000
  · rw [decide_eq_true hs]; exact yes
  rw [decide_eq_false hs]
  have f0 := h2 rfl
  have f1 := h4 rfl
  obtain ⟨s, rfl⟩ := bs_eta a2
  rw [bs_size] at hs
  have j3 := back3 s (by omega)
  have t0 := theirs_f (l := l0) (by have := f0.len; omega)
  have t1 := theirs_f (l := l1) (by have := f1.len; omega)
  refine Ev.step (f := fun k => (law09_Theirs.f k l0).bind fun t236 => ((codec_Print.f t236).bind fun bt239 => ((law09_Theirs.f k l1).bind fun t241 => ((codec_Print.f t241).bind fun bt244 => (if bt239.2 = 0 then ((codec_Parse.f bt239.1).bind fun bt246 => (law10_CodecBack.j1 k l0 l1 (bs s) bt239.1 bt244.1 bt244.2 bt246.1 bt246.2)) else (law10_CodecBack.j3 k (bs s))))))) (fun k => by rw [law10_CodecBack.j0.eq_2, if_neg (by simp)]) ?_
  refine Ev.bind t0 ?_
  rw [print_is f0.small]
  simp only [Option.bind_some]
  refine Ev.bind t1 ?_
  rw [print_is f1.small]
  simp only [Option.bind_some]
  by_cases g0 : goodC (l0.map tf) (rightS (l0.map tf)) = true
  case neg =>
    rw [if_neg g0]
    simp only [if_neg (show ¬ ((1 : Int) = 0) by decide)]
    exact j3
  have G0 : M.Good (l0.map tf) := ⟨g0, f0.i64⟩
  rw [if_pos g0]
  simp only [if_true]
  rw [parse_good G0 (by have := good_len G0 (by rw [List.length_map]; exact f0.len); omega)]
  simp only [Option.bind_some]
  have o := ours_f (l := l0.map tf) (by rw [List.length_map]; have := f0.len; omega)
  rw [map_uf_tf] at o
  obtain ⟨r, hr1, hr2⟩ := same_is l0 l0 (by have := f0.len; omega)
  obtain rfl : r = true := hr2.2 rfl
  have rt := right_f (l := l0.map tf) (by rw [List.length_map]; have := f0.len; omega)
  rw [G0.right] at rt
  refine Ev.step (fun k => by rw [law10_CodecBack.j1.eq_2]) ?_
  simp only [if_true]
  refine Ev.bind o (Ev.bind hr1 ?_)
  simp only [if_true]
  refine Ev.bind rt ?_
  simp only [Bool.not_true]
  refine Ev.step (fun k => by rw [law10_CodecBack.j2.eq_2, if_neg (by simp)]) ?_
  by_cases g1 : goodC (l1.map tf) (rightS (l1.map tf)) = true
  case neg =>
    rw [if_neg g1]
    simp only [if_neg (show ¬ ((1 : Int) = 0) by decide)]
    exact j3
  have G1 : M.Good (l1.map tf) := ⟨g1, f1.i64⟩
  rw [if_pos g1]
  simp only [if_true]
  obtain ⟨q, hq1, hq2⟩ := same_is l0 l1 (by have := f0.len; omega)
  refine Ev.bind hq1 ?_
  have e : ((bs (textTx (l0.map tf))).toList == (bs (textTx (l1.map tf))).toList) = q := by
    rw [Bool.eq_iff_iff, beq_iff_eq, bs_toList, bs_toList, hq2]
    exact ⟨fun h => map_tf_inj (text_inj G0 G1 h), fun h => by rw [h]⟩
  rw [e]
  simp only [bne_self_eq_false, Bool.false_eq_true, if_false]
  exact j3
end Go.Proofs.YtjbdkdmoacdbpaaGreatDoor.Pure
