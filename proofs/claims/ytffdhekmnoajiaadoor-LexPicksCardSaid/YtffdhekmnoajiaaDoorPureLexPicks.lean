/- LexPicks: the place that is told is the first one, and there is the word; else it is nowhere. Condition: none beyond the law's own. -/
import Derived.Test.YtffdhekmnoajiaaDoorQx5
import Derived.Test.YtffdhekmnoajiaaDoorCAlive05
set_option linter.unusedVariables false
set_option linter.unusedSimpArgs false
namespace Go.Proofs.YtffdhekmnoajiaaDoor.Pure
open Go.RowKit Go.Proofs.YtffdhekmnoajiaaDoorW.PrintWords Go.Proofs.YtffdhekmnoajiaaDoorW.PrintLast Go.Proofs.YtffdhekmnoajiaaDoorW.PrintMore Go.Proofs.YtffdhekmnoajiaaDoor.Q Go.Proofs.YtffdhekmnoajiaaDoor.X Go.Proofs.YtffdhekmnoajiaaDoor.M
theorem pickI_spec (s : ByteArray) : ∀ (T : List ByteArray) (i : Nat), (pickI s T i = -1 ∧ ∀ y ∈ T, y.toList ≠ s.toList) ∨ ∃ P y R, T = P ++ y :: R ∧ y.toList = s.toList ∧ (∀ z ∈ P, z.toList ≠ s.toList) ∧ pickI s T i = ((i + P.length : Nat) : Int)
  | [], _ => .inl ⟨rfl, by simp⟩
  | y :: T, i => by
    unfold pickI
    by_cases c : y.toList = s.toList
    · rw [if_pos c]; exact .inr ⟨[], y, T, rfl, c, by simp, by simp⟩
    · rw [if_neg c]
      rcases pickI_spec s T (i + 1) with ⟨h1, h2⟩ | ⟨P, z, R, rfl, h2, h3, h4⟩
      · refine .inl ⟨h1, fun z hz => ?_⟩
        rcases List.mem_cons.1 hz with rfl | hz
        · exact c
        · exact h2 z hz
      · refine .inr ⟨y :: P, z, R, rfl, h2, fun w hw => ?_, by rw [h4]; simp; omega⟩
        rcases List.mem_cons.1 hw with rfl | hw
        · exact c
        · exact h3 w hw
theorem picks_l {s : ByteArray} {v : Int} {L : List ByteArray} (hL : L.length ≤ 60) (h : ∀ (P : List ByteArray) (y : ByteArray) (R : List ByteArray), L = P ++ y :: R → y.toList = s.toList → 0 ≤ v ∧ v ≤ P.length) (T : List ByteArray) : ∀ (P : List ByteArray), L = P ++ T →
    Ev (fun k => law05_LexPicks.l0 k s v L (L.length : Int) (P.length : Int)) true := by
  induction T with
  | nil =>
    intro P hP
    have e : L.length = P.length := by rw [hP]; simp
    exact Ev.step (f := fun _ => some _) (fun k => by rw [law05_LexPicks.l0.eq_2, if_neg (by omega)]) (Ev.now _)
  | cons y T ih =>
    intro P hP
    have hlen : L.length = P.length + 1 + T.length := by rw [hP]; simp; omega
    have hn := ih (P ++ [y]) (by rw [hP]; simp)
    have hw : wrap64 ((P.length : Int) + 1) = ((P ++ [y]).length : Int) := by rw [one64 P.length (by omega)]; simp
    refine Ev.step (fun k => ?_) hn
    rw [law05_LexPicks.l0.eq_2, if_pos (by omega), if_pos (by omega), if_pos (by omega), rdS hP rfl, hw]
    by_cases c : y.toList = s.toList
    · have := h P y T hP c
      rw [if_pos c, if_neg (by omega), if_neg (by omega)]
    · rw [if_neg c]
theorem LexPicks : law05_LexPicks.Pure := by
  intro s l h0 h1 _
  refine Ev.rounds ?_
  unfold law05_LexPicks.f
  refine alive_f.bind ?_
  simp only [if_true]
  by_cases c : (l.length : Int) > 60
  · simp only [if_pos c]; exact Ev.now _
  simp only [if_neg c]
  refine (pick_f s (by omega)).bind ?_
  rcases pickI_spec s l 0 with ⟨h2, h3⟩ | ⟨P, y, R, hl, h2, h3, h4⟩
  · rw [h2]
    simp only [if_neg (show ¬ (-1 : Int) < -1 by decide), if_neg (show ¬ (-1 : Int) ≥ (l.length : Int) by omega), if_neg (show ¬ (-1 : Int) ≥ 0 by decide)]
    refine Ev.step (f := fun k => law05_LexPicks.l0 k s (-1) l (l.length : Int) 0) (fun k => by rw [law05_LexPicks.j0.eq_2, if_neg (by simp)]) ?_
    exact picks_l (by omega) (fun P y R hl e => absurd e (h3 y (by rw [hl]; simp))) l [] rfl
  · rw [Nat.zero_add] at h4
    rw [h4]
    have hlen : l.length = P.length + 1 + R.length := by rw [hl]; simp; omega
    have hr : rdOf ByteArray.empty l (P.length : Int) = y := rdS hl rfl
    have hb : (y.toList != s.toList) = false := by rw [h2]; simp
    simp only [if_neg (show ¬ (P.length : Int) < -1 by omega), if_neg (show ¬ (P.length : Int) ≥ (l.length : Int) by omega), if_pos (show (P.length : Int) ≥ 0 by omega), if_pos (show 0 ≤ (P.length : Int) by omega), if_pos (show (P.length : Int) < (l.length : Int) by omega), hr, hb]
    refine Ev.step (f := fun k => law05_LexPicks.l0 k s (P.length : Int) l (l.length : Int) 0) (fun k => by rw [law05_LexPicks.j0.eq_2, if_neg (by simp)]) ?_
    refine picks_l (by omega) (fun P' y' R' hl' e => ⟨by omega, ?_⟩) l [] rfl
    -- no elder place has the word
    rcases Nat.lt_or_ge P'.length P.length with hlt | hge
    · exfalso
      have : y' ∈ P := by
        rw [hl] at hl'
        have h5 := congrArg (fun z => z[P'.length]?) hl'
        simp only [List.getElem?_append_left hlt, List.getElem?_append_right (Nat.le_refl _), Nat.sub_self, List.getElem?_cons_zero] at h5
        exact List.mem_of_getElem? h5
      exact h3 y' this e
    · omega
end Go.Proofs.YtffdhekmnoajiaaDoor.Pure
