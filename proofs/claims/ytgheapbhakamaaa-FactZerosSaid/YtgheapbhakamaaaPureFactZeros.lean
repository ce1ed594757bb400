/- Proved: for all facts whose amounts are small, a cube and its other signs together are nothing, and with nothing it is itself. No condition but what Go itself can hold. -/
import Derived.Test.YtgheapbhakamaaaQx21
import Derived.Test.YtgheapbhakamaaaGC
set_option linter.unusedVariables false
set_option linter.unusedSimpArgs false
namespace Go.Proofs.Ytgheapbhakamaaa.Pure
open Go Go.RowKit Go.Proofs.Ytgheapbhakamaaa.Q Go.Proofs.Ytgheapbhakamaaa.M Go.Proofs.YtgheapbhakamaaaW.PrintWords Go.Proofs.YtgheapbhakamaaaW.PrintLast
theorem szs_neg (l : List S60) : szs ((l.map neg).map (·.f1)) = szs (l.map (·.f1)) := by
 induction l with
 | nil => rfl
 | cons x l ih =>
  rw [List.map_cons, List.map_cons, List.map_cons, szs_cons, szs_cons, ih]
  have : ab (neg x).f1 = ab x.f1 := by show ab (-x.f1) = ab x.f1; unfold ab; split <;> split <;> omega
  rw [this]
theorem zeros_l0 {c : List S60} {e : Int} {r : Bool} (hc : c.length < 1000000) (hI : ∀ x ∈ c, -9223372036854775808 < x.f1 ∧ x.f1 ≤ 9223372036854775807)
  (hr : Ev (fun k => (fact_Add.f k c (c.map neg)).bind fun bt572 => ((fact_Add.f k c ([] : List (S60))).bind fun bt576 => ((fact_Of.f k c).bind fun bt580 => (law09_FactZeros.j2 k c e bt572.1 bt572.2 bt576.1 bt576.2 bt580.1 bt580.2)))) r) (T : List S60) :
  ∀ (P : List S60) (i : Nat), c = P ++ T → P.length = i → Ev (fun k => law09_FactZeros.l0 k c e (P.map neg) c (c.length : Int) (i : Int)) r := by
 induction T with
 | nil =>
  intro P i hL hi
  have e1 : P = c := by rw [hL]; simp
  subst e1
  refine Ev.step (fun k => ?_) hr
  rw [law09_FactZeros.l0.eq_2, if_neg (by omega)]
 | cons x T ih =>
  intro P i hL hi
  have hlen : c.length = P.length + 1 + T.length := by rw [hL]; simp; omega
  have hx := hI x (by rw [hL]; simp)
  have := ih (P ++ [x]) (i + 1) (by rw [hL]; simp) (by simp; omega)
  rw [List.map_append] at this
  refine Ev.step (fun k => ?_) this
  rw [law09_FactZeros.l0.eq_2, if_pos (by omega), if_pos (by omega), if_pos (by omega), if_pos (by rw [List.length_map]; omega), rd_at hL hi, w_one i (by omega), w64_in (show I64 (-x.f1) by unfold I64; omega)]
  rfl
theorem FactZeros : law09_FactZeros.Pure := by
 intro l hl hg
 refine Ev.rounds (g := fun k => law09_FactZeros.f k l) ?_
 have hI := ints hg
 have yes : ∀ {x0 : List S28}, Ev (fun k => law09_FactZeros.j0 k x0 true) true := fun {x0} => Ev.step (f := fun _ => some true) (fun k => by rw [law09_FactZeros.j0.eq_2, if_pos rfl]) (Ev.now _)
 unfold law09_FactZeros.f
 refine Ev.bind alive_f ?_
 simp only [if_true]
 obtain ⟨c1, h1, h2⟩ := few_f hl
 refine Ev.bind h1 ?_
 cases c1 with
 | false => simp only [Bool.false_eq_true, if_false]; exact yes
 | true =>
 simp only [if_true]
 obtain ⟨c2, h3, h4⟩ := small_f hl
 refine Ev.bind h3 ?_
 cases c2 with
 | false => simp only [Bool.not_false]; exact yes
 | true =>
 simp only [Bool.not_true]
 have hl := h2 rfl
 have hsm := szs_small (h4 rfl) hl
 have hlm : (l.map tf).length ≤ 150 := by rw [List.length_map]; exact hl
 generalize hL : l.map tf = L at *
 have hIL : ∀ x ∈ L, I64 x.f1 := by rw [← hL]; exact ints_tf hI
 have t := theirs_f (l := l) (by omega)
 rw [hL] at t
 have o1 := of_f (l := L) (by omega) hIL
 rw [ofS_small (by omega) (by omega)] at o1
 generalize hC : cubL L = C at *
 have hCl : C.length ≤ 150 := by rw [← hC]; have := len_cubL L; omega
 have hCs : szs (C.map (·.f1)) ≤ 675539944105574400 := by rw [← hC]; have := szs_cubL L; omega
 have hCm : ∀ x ∈ C, ab x.f1 ≤ 675539944105574400 := by
  have : ∀ (M : List S60) (x : S60), x ∈ M → ab x.f1 ≤ szs (M.map (·.f1)) := by
   intro M
   induction M with
   | nil => intro x hx; simp at hx
   | cons z M ih =>
    intro x hx
    rw [List.map_cons, szs_cons]
    have := szs_nonneg (M.map (·.f1))
    have := ab_nonneg z.f1
    rcases List.mem_cons.1 hx with rfl | hx
    ·omega
    ·have := ih x hx; omega
  intro x hx
  have := this C x hx
  omega
 have hCI : ∀ x ∈ C, -9223372036854775808 < x.f1 ∧ x.f1 ≤ 9223372036854775807 := fun x hx => by
  have := hCm x hx; have := ab_self x.f1; omega
 have hCI' : ∀ x ∈ C, I64 x.f1 := fun x hx => by have := hCI x hx; unfold I64; omega
 have hNI : ∀ x ∈ C.map neg, I64 x.f1 := fun x hx => by
  obtain ⟨y, hy, rfl⟩ := List.mem_map.1 hx
  have := hCI y hy
  show I64 (-y.f1); unfold I64; omega
 have hCC : cubL C = C := by rw [← hC]; exact cubL_cubL L
 have a1 := add_f (l := C) (m := C.map neg) (by rw [List.length_map]; omega) hCI' hNI
 rw [ofS_small (by rw [List.map_append, szs_append, szs_neg]; omega) (by rw [List.length_append, List.length_map]; omega), cubL_nil (fun k => by rw [sm_append, sm_neg]; omega)] at a1
 have a2 := add_f (l := C) (m := []) (by simp; omega) hCI' (by simp)
 rw [List.append_nil, ofS_small (by omega) (by omega), hCC] at a2
 have a3 := of_f (l := C) (by omega) hCI'
 rw [ofS_small (by omega) (by omega), hCC] at a3
 have o3 := ours_f (l := C) (by omega)
 have s := same_f (l := C.map uf) (by rw [List.length_map]; omega)
 refine Ev.step (f := fun k => (law09_Theirs.f k l).bind fun t560 => ((fact_Of.f k t560).bind fun bt563 => (law09_FactZeros.l0 k bt563.1 bt563.2 ([] : List (S60)) bt563.1 (bt563.1.length : Int) 0))) (fun k => by rw [law09_FactZeros.j0.eq_2, if_neg (by simp)]) ?_
 refine Ev.bind t (Ev.bind o1 ?_)
 refine zeros_l0 (by omega) hCI ?_ C [] 0 rfl rfl
 refine Ev.bind a1 (Ev.bind a2 (Ev.bind a3 ?_))
 refine Ev.step (f := fun k => (law09_Ours.f k C).bind fun t584 => ((law09_Ours.f k C).bind fun t587 => ((ref09_Same.f k t584 t587).bind fun t590 => (if t590 = true then ((law09_Ours.f k C).bind fun t591 => ((law09_Ours.f k C).bind fun t594 => ((ref09_Same.f k t591 t594).bind fun t597 => (some t597)))) else (some false))))) (fun k => by
  rw [law09_FactZeros.j2.eq_2, if_pos (by rfl), if_pos (by rfl), if_pos (by rfl), if_pos (by rfl)]
  simp only [if_true]) ?_
 refine Ev.bind o3 (Ev.bind o3 (Ev.bind s ?_))
 simp only [if_true]
 refine Ev.bind o3 (Ev.bind o3 (Ev.bind s (Ev.now _)))
end Go.Proofs.Ytgheapbhakamaaa.Pure
