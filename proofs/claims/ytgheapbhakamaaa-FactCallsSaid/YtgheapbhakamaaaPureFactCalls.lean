/- Proved: for all facts and every key, what any cube has of any key, with another one, of any account, and of any mark, is the document's, or its error. No condition but what Go itself can hold. -/
import Derived.Test.YtgheapbhakamaaaQx16
import Derived.Test.YtgheapbhakamaaaGC
import Derived.Test.YtgheapbhakamaaaR9c
set_option linter.unusedVariables false
set_option linter.unusedSimpArgs false
namespace Go.Proofs.Ytgheapbhakamaaa.Pure
open Go Go.RowKit Go.Proofs.Ytgheapbhakamaaa.Q Go.Proofs.Ytgheapbhakamaaa.M Go.Proofs.YtgheapbhakamaaaW.PrintWords Go.Proofs.YtgheapbhakamaaaW.PrintLast
theorem FactCalls : law09_FactCalls.Pure := by
 intro a b k0 k1 k2 k3 k4 hal hag hbl hbg wk0 wk1 wk2 wk3 wk4
 refine Ev.rounds (g := fun k => law09_FactCalls.f k a b k0 k1 k2 k3 k4) ?_
 have hI := ints hag
 have hJ := ints hbg
 have yes : ∀ {x0 x1 : List S28}, Ev (fun k => law09_FactCalls.j0 k x0 x1 true k0 k1 k2 k3 k4) true := fun {x0 x1} => Ev.step (f := fun _ => some true) (fun k => by rw [law09_FactCalls.j0.eq_2, if_pos rfl]) (Ev.now _)
 unfold law09_FactCalls.f
 refine Ev.bind alive_f ?_
 simp only [if_true]
 obtain ⟨c1, h1, h2⟩ := few_f hal
 refine Ev.bind h1 ?_
 cases c1 with
 | false => simp only [Bool.false_eq_true, if_false]; exact yes
 | true =>
 simp only [if_true]
 obtain ⟨c2, h3, h4⟩ := few_f hbl
 refine Ev.bind h3 ?_
 cases c2 with
 | false => simp only [Bool.false_eq_true, if_false]; exact yes
 | true =>
 simp only [if_true]
 obtain ⟨c3, h5, _⟩ := few_f (l := [(⟨(⟨k0, k1, k2, k3, k4⟩ : S24), 0⟩ : S28)]) (by simp)
 refine Ev.bind h5 ?_
 cases c3 with
 | false => simp only [Bool.false_eq_true, if_false]; exact yes
 | true =>
 simp only [if_true]
 have hal := h2 rfl
 have hbl := h4 rfl
 have r := rright_f (l := a) (by omega)
 refine Ev.bind r ?_
 by_cases hr : rightS (a.map tf) = true
 case neg =>
  rw [Bool.not_eq_true] at hr
  rw [hr]
  simp only [Bool.not_false]; exact yes
 rw [hr]
 simp only [Bool.not_true]
 have hS : SK ((a.map tf).map (·.f0)) := by
  have := hr
  unfold rightS at this
  rw [Bool.and_eq_true] at this
  exact (rc_none.1 this.1).2
 have ta := theirs_f (l := a) (by omega)
 have tb := theirs_f (l := b) (by omega)
 have o1 := add_f (l := a.map tf) (m := b.map tf) (by simp only [List.length_map]; omega) (ints_tf hI) (ints_tf hJ)
 have o2 := radd_ff (l := a) (m := b) (by omega) hI hJ
 have s1 := sum_f k0 k1 k2 (l := a.map tf) (by rw [List.length_map]; omega) (ints_tf hI)
 have s2 := rsums_f k0 k1 k2 (l := a) (by omega) hI
 have hln : (ofS (a.map tf ++ b.map tf)).1.length < 1759218604441 := by
  have := len_ofS (a.map tf ++ b.map tf)
  rw [List.length_append, List.length_map, List.length_map] at this
  omega
 have o3 := ours_f hln
 have sa := same_f (l := (ofS (a.map tf ++ b.map tf)).1.map uf) (by rw [List.length_map]; omega)
 have g1 := get_f ⟨k0, k1, k2, k3, k4⟩ hS (by simp only [List.length_map]; omega)
 have g2 := rget_f (l := a) ⟨k0, k1, k2, k3, k4⟩ (by omega)
 have p1 := pick_f k0 k4 (l := a.map tf) (by rw [List.length_map]; omega)
 have p2 := rpick_f k0 k4 (l := a) (by omega)
 have hlp : ((a.map tf).filter (pickP k0 k4)).length < 1759218604441 := by
  have := List.length_filter_le (pickP k0 k4) (a.map tf)
  rw [List.length_map] at this
  omega
 have o4 := ours_f hlp
 have sb := same_f (l := ((a.map tf).filter (pickP k0 k4)).map uf) (by rw [List.length_map]; omega)
 refine Ev.step (f := fun k => (law09_Theirs.f k a).bind fun t404 => ((law09_Theirs.f k b).bind fun t407 => ((fact_Add.f k t404 t407).bind fun bt410 => ((ref09_Add.f k a b).bind fun bt414 => ((law09_Theirs.f k a).bind fun t418 => ((fact_Sum.f k t418 k0 k1 k2).bind fun bt421 => ((ref09_Sum.f k a k0 k1 k2).bind fun bt423 => (law09_FactCalls.j1 k a bt410.1 bt410.2 bt414.1 bt414.2 bt421.1 bt421.2 bt423.1 bt423.2 k0 k1 k2 k3 k4)))))))) (fun k => by rw [law09_FactCalls.j0.eq_2, if_neg (by simp)]) ?_
 refine Ev.bind ta (Ev.bind tb (Ev.bind o1 (Ev.bind o2 (Ev.bind ta (Ev.bind s1 (Ev.bind s2 ?_))))))
 refine Ev.step (fun k => by rw [law09_FactCalls.j1.eq_2]) ?_
 refine Ev.bind o3 (Ev.bind sa ?_)
 simp only [if_true]
 refine Ev.bind ta (Ev.bind g1 (Ev.bind g2 ?_))
 simp only [show tk ⟨k0, k1, k2, k3, k4⟩ = (⟨k0, k1, k2, k3, k4⟩ : S40) from rfl, if_true]
 refine Ev.bind ta (Ev.bind p1 (Ev.bind o4 (Ev.bind p2 (Ev.bind sb (Ev.now _)))))
end Go.Proofs.Ytgheapbhakamaaa.Pure
