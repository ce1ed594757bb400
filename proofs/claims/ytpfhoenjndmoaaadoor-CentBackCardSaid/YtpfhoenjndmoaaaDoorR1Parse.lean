import Derived.Test.YtpfhoenjndmoaaaDoorR1Dec
/- what the reference's Parse tells -/
set_option linter.unusedVariables false
set_option linter.unusedSimpArgs false
namespace Go.Proofs.YtpfhoenjndmoaaaDoor.M
open Go.RowKit Go.Proofs.YtpfhoenjndmoaaaDoorW.PrintWords Go.Proofs.YtpfhoenjndmoaaaDoorW.PrintLast Go.Proofs.YtpfhoenjndmoaaaDoorW.PrintMore Go.Proofs.YtpfhoenjndmoaaaDoor.Q
theorem rforml_f (T : List UInt8) : ∀ (P : List UInt8) (i : Int), i = P.length → P.length + T.length ≤ 1000000000000000000 →
    Ev (fun k => ref01_form.l0 k (bs (P ++ T)) i) (T.all isD) := by
  induction T with
  | nil =>
    intro P i hi hL
    refine Ev.step (f := fun _ => some _) (fun k => ?_) (Ev.now _)
    rw [ref01_form.l0.eq_2, if_neg (by rw [bs_size]; simp <;> omega)]; rfl
  | cons c T ih =>
    intro P i hi hL
    simp only [List.length_cons] at hL
    have hb : bt (bs (P ++ c :: T)) i = c.toNat := bt_bs hi
    have ht := ih (P ++ [c]) (i + 1) (by simp; omega) (by simp; omega)
    rw [show P ++ [c] ++ T = P ++ c :: T by simp] at ht
    by_cases h1 : c.toNat < 48
    · refine Ev.step (f := fun _ => some _) (fun k => ?_) (Ev.now _)
      rw [ref01_form.l0.eq_2, if_pos (by rw [bs_size]; simp <;> omega), if_pos (by omega), hb, if_pos (by omega)]
      simp [isD]; omega
    · by_cases h2 : 57 < c.toNat
      · refine Ev.step (f := fun _ => some _) (fun k => ?_) (Ev.now _)
        rw [ref01_form.l0.eq_2, if_pos (by rw [bs_size]; simp <;> omega), if_pos (by omega), hb, if_neg (by omega), if_pos (by omega)]
        simp [isD]; omega
      · rw [List.all_cons, isD_iff.2 ⟨by omega, by omega⟩, Bool.true_and]
        refine Ev.step (fun k => ?_) ht
        rw [ref01_form.l0.eq_2, if_pos (by rw [bs_size]; simp <;> omega), if_pos (by omega), hb, if_neg (by omega), if_neg (by omega), w64_in (by unfold I64; omega)]
theorem rj2 (D : List UInt8) (b : Bool) (hL : D.length ≤ 1000000000000000000) : Ev (fun k => ref01_form.j2 k (bs D) b) (!b && D.all isD) := by
  cases b
  · refine Ev.step (fun k => ?_) (rforml_f D [] 0 rfl (by simpa using hL))
    rw [ref01_form.j2.eq_2]; simp
  · refine Ev.step (f := fun _ => some _) (fun k => ?_) (Ev.now _)
    rw [ref01_form.j2.eq_2]; simp
theorem rj1 (D : List UInt8) (hL : D.length ≤ 1000000000000000000) : Ev (fun k => ref01_form.j1 k (bs D)) (okS false D) := by
  cases D with
  | nil =>
    refine Ev.step (fun k => ?_) (rj2 [] true hL)
    rw [ref01_form.j1.eq_2, if_pos (by rw [bs_size]; rfl)]
  | cons c r =>
    have e48 : (c == (48 : UInt8)) = ((c.toNat : Int) == 48) := by
      rw [Bool.eq_iff_iff, beq_iff_eq, beq_iff_eq]
      exact ⟨fun h => by rw [h]; rfl, fun h => by rw [← ofNat_toNat c, show c.toNat = 48 by omega]; rfl⟩
    have hsz : ((bs (c :: r)).size : Int) = r.length + 1 := by rw [bs_size]; simp
    cases r with
    | nil =>
      have := rj2 [c] false hL
      rw [show okS false [c] = (!false && [c].all isD) by unfold okS; simp]
      refine Ev.step (fun k => ?_) this
      rw [ref01_form.j1.eq_2, if_neg (by rw [hsz]; simp), if_neg (by rw [hsz]; simp)]
    | cons d r =>
      have := rj2 (c :: d :: r) (bt (bs (c :: d :: r)) 0 == 48) hL
      rw [bt0_bs] at this
      rw [show okS false (c :: d :: r) = (!((c.toNat : Int) == 48) && (c :: d :: r).all isD) by simp [okS, e48, Bool.and_comm]]
      refine Ev.step (fun k => ?_) this
      rw [ref01_form.j1.eq_2, if_neg (by rw [hsz]; simp; omega), if_pos (by rw [hsz]; simp; omega), if_pos (by rw [hsz]; omega), bt0_bs]
theorem rj0_neg (c : UInt8) (r : List UInt8) (hL : r.length < 1000000000000000000) : Ev (fun k => ref01_form.j0 k (bs (c :: r)) true) (okS true r) := by
  have he : (bs (c :: r)).extract 1 (bs (c :: r)).size = bs r := by rw [bs_extract, bs_size]; simp
  have hsz : ((bs (c :: r)).size : Int) = r.length + 1 := by rw [bs_size]; simp
  have hj := rj1 r (by omega)
  cases r with
  | nil =>
    refine Ev.step (fun k => ?_) hj
    rw [ref01_form.j0.eq_2, if_pos rfl, if_pos (by rw [hsz]; simp), he, if_neg (by rw [bs_size]; simp)]
  | cons d r =>
    have e48 : (d == (48 : UInt8)) = decide (d.toNat = 48) := by
      rw [Bool.eq_iff_iff, beq_iff_eq, decide_eq_true_iff]
      exact ⟨fun h => by rw [h]; rfl, fun h => by rw [← ofNat_toNat d, h]; rfl⟩
    by_cases h : d.toNat = 48
    · rw [show okS true (d :: r) = false by unfold okS; simp [e48, h]]
      refine Ev.step (f := fun _ => some _) (fun k => ?_) (Ev.now _)
      rw [ref01_form.j0.eq_2, if_pos rfl, if_pos (by rw [hsz]; omega), he, if_pos (by rw [bs_size]; simp <;> omega), if_pos (by rw [bs_size]; simp <;> omega), bt0_bs, if_pos (by omega)]
    · rw [show okS true (d :: r) = okS false (d :: r) by unfold okS; simp [e48, h]]
      refine Ev.step (fun k => ?_) hj
      rw [ref01_form.j0.eq_2, if_pos rfl, if_pos (by rw [hsz]; omega), he, if_pos (by rw [bs_size]; simp <;> omega), if_pos (by rw [bs_size]; simp <;> omega), bt0_bs, if_neg (by omega)]
theorem rj0_pos (D : List UInt8) (hL : D.length ≤ 1000000000000000000) : Ev (fun k => ref01_form.j0 k (bs D) false) (okS false D) := by
  refine Ev.step (fun k => ?_) (rj1 D hL)
  rw [ref01_form.j0.eq_2]; simp
def okP : List UInt8 → Bool
  | [] => false
  | c :: r => if c.toNat = 45 then okS true r else okS false (c :: r)
theorem rform_f (l : List UInt8) (hL : l.length ≤ 1000000000000000000) : Ev (fun k => ref01_form.f k (bs l)) (okP l) := by
  unfold ref01_form.f
  cases l with
  | nil =>
    have := rj0_pos [] hL
    simp only [bs_size, List.length_nil, show ¬ ((0 : Nat) : Int) > 0 by omega, if_false]
    exact this
  | cons c r =>
    have hsz : ((bs (c :: r)).size : Int) > 0 := by rw [bs_size]; simp <;> omega
    simp only [if_pos hsz, if_pos (show 0 < ((bs (c :: r)).size : Int) from hsz), bt0_bs]
    rw [show okP (c :: r) = if c.toNat = 45 then okS true r else okS false (c :: r) from rfl]
    by_cases h : c.toNat = 45
    · rw [if_pos h, show ((c.toNat : Int) == 45) = true by simp; omega]
      exact rj0_neg c r (by simp at hL; omega)
    · rw [if_neg h, show ((c.toNat : Int) == 45) = false by simp; omega]
      exact rj0_pos _ hL
/-! the number -/
def endS (neg : Bool) (v : Nat) : Int × Int := if I64 (if neg then -(v : Int) else v) then ((if neg then -(v : Int) else v), 0) else (0, 2)
theorem rparsel_f (neg : Bool) (T : List UInt8) : ∀ (P : List UInt8) (i : Int) (u : Nat), i = P.length → P.length + T.length ≤ 1000000000000000000 → u ≤ 9223372036854775808 → (∀ c ∈ T, isD c = true) →
    Ev (fun k => ref01_Parse.l0 k (bs (P ++ T)) neg (-(u : Int)) i) (endS neg (vD u T)) := by
  induction T with
  | nil =>
    intro P i u hi hL hu hd
    refine Ev.step (f := fun _ => some _) (fun k => ?_) (Ev.now _)
    rw [ref01_Parse.l0.eq_2, if_neg (by rw [bs_size]; simp <;> omega)]
    unfold endS
    show _ = some (if I64 (if neg then -(u : Int) else u) then ((if neg then -(u : Int) else u), 0) else (0, 2))
    cases neg
    · simp only [Bool.false_eq_true, if_false]
      rw [rneg_f (by unfold I64; omega), Option.bind_some]
      unfold subS
      rw [show 0 - -(u : Int) = u by omega]
    · simp only [if_true]
      rw [if_pos (by unfold I64; omega)]
  | cons c T ih =>
    intro P i u hi hL hu hd
    simp only [List.length_cons] at hL
    have hb : bt (bs (P ++ c :: T)) i = c.toNat := bt_bs hi
    have hc := isD_iff.1 (hd c List.mem_cons_self)
    have hv : vD u (c :: T) = vD (u * 10 + (c.toNat - 48)) T := rfl
    have hle := vD_le T (u * 10 + (c.toNat - 48))
    have hm : ((c.toNat : Int) - 48) % 256 = ((c.toNat - 48 : Nat) : Int) := by omega
    have bad : 9223372036854775808 < u * 10 + (c.toNat - 48) → endS neg (vD u (c :: T)) = (0, 2) := by
      intro h
      unfold endS
      rw [hv]
      cases neg
      · simp only [Bool.false_eq_true, if_false]; rw [if_neg (by unfold I64; omega)]
      · simp only [if_true]; rw [if_neg (by unfold I64; omega)]
    by_cases h1 : u > 922337203685477580
    · rw [bad (by omega)]
      refine Ev.step (f := fun _ => some _) (fun k => ?_) (Ev.now _)
      rw [ref01_Parse.l0.eq_2, if_pos (by rw [bs_size]; simp <;> omega), if_pos (by omega), if_pos (by omega)]
    · have hw : wrap64 (-(u : Int) * 10) = -(u : Int) * 10 := w64_in (by unfold I64; omega)
      by_cases h2 : 9223372036854775808 < u * 10 + (c.toNat - 48)
      · rw [bad h2]
        refine Ev.step (f := fun _ => some _) (fun k => ?_) (Ev.now _)
        rw [ref01_Parse.l0.eq_2, if_pos (by rw [bs_size]; simp <;> omega), if_pos (by omega), if_neg (by omega), hw, hb, hm, if_pos (by omega)]
      · have ht := ih (P ++ [c]) (i + 1) (u * 10 + (c.toNat - 48)) (by simp; omega) (by simp; omega) (by omega) (fun x hx => hd x (List.mem_cons_of_mem _ hx))
        rw [show P ++ [c] ++ T = P ++ c :: T by simp, ← hv] at ht
        refine Ev.step (fun k => ?_) ht
        rw [ref01_Parse.l0.eq_2, if_pos (by rw [bs_size]; simp <;> omega), if_pos (by omega), if_neg (by omega), hw, hb, hm, if_neg (by omega), w64_in (show I64 (i + 1) by unfold I64; omega), w64_in (show I64 (-(u : Int) * 10 - ((c.toNat - 48 : Nat) : Int)) by unfold I64; omega)]
        congr 1; omega
theorem rparse_f (l : List UInt8) (hL : l.length ≤ 1000000000000000000) : Ev (fun k => ref01_Parse.f k (bs l)) (pS l) := by
  unfold ref01_Parse.f
  refine Ev.bind (rform_f l hL) ?_
  cases l with
  | nil => simp only [okP, Bool.false_eq_true, if_false]; exact Ev.now _
  | cons c r =>
    have hsz : (0 : Int) < ((bs (c :: r)).size : Int) := by rw [bs_size]; simp <;> omega
    have he : (bs (c :: r)).extract 1 (bs (c :: r)).size = bs r := by rw [bs_extract, bs_size]; simp
    simp only [List.length_cons] at hL
    rw [show okP (c :: r) = if c.toNat = 45 then okS true r else okS false (c :: r) from rfl]
    show Ev _ (if c.toNat = 45 then sD true r else sD false (c :: r))
    by_cases h : c.toNat = 45
    · rw [if_pos h, if_pos h]
      unfold sD
      by_cases ho : okS true r = true
      · rw [if_pos ho]
        obtain ⟨h1, h2, h3⟩ := okS_iff.1 ho
        have := rparsel_f true r [] 0 0 rfl (by simp; omega) (by omega) h2
        simp only [ho, if_true, if_pos hsz, bt0_bs, if_pos (show (c.toNat : Int) = 45 by omega), if_pos (show 1 ≤ ((bs (c :: r)).size : Int) by omega), he, show ((c.toNat : Int) == 45) = true by simp; omega]
        refine Ev.step (f := fun k => ref01_Parse.l0 k (bs r) true 0 0) (fun k => rfl) ?_
        simpa [endS] using this
      · rw [if_neg ho]; simp only [ho, Bool.false_eq_true, if_false]; exact Ev.now _
    · rw [if_neg h, if_neg h]
      unfold sD
      by_cases ho : okS false (c :: r) = true
      · rw [if_pos ho]
        obtain ⟨h1, h2, h3⟩ := okS_iff.1 ho
        have := rparsel_f false (c :: r) [] 0 0 rfl (by simp; omega) (by omega) h2
        simp only [ho, if_true, if_pos hsz, bt0_bs, if_neg (show ¬ (c.toNat : Int) = 45 by omega), show ((c.toNat : Int) == 45) = false by simp; omega]
        refine Ev.step (f := fun k => ref01_Parse.l0 k (bs (c :: r)) false 0 0) (fun k => rfl) ?_
        simpa [endS] using this
      · rw [if_neg ho]; simp only [ho, Bool.false_eq_true, if_false]; exact Ev.now _
end Go.Proofs.YtpfhoenjndmoaaaDoor.M
