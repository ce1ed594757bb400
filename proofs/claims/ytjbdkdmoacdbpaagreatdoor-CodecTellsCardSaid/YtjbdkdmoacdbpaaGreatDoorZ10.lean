import Derived.Test.YtjbdkdmoacdbpaaGreatDoorQx6
import Derived.Test.YtjbdkdmoacdbpaaGreatDoorQx8
import Derived.Test.YtjbdkdmoacdbpaaGreatDoorQx7
import Derived.Test.YtjbdkdmoacdbpaaGreatDoorGM
import Derived.Test.YtjbdkdmoacdbpaaGreatDoorGY
import Derived.Test.YtjbdkdmoacdbpaaGreatDoorGX
/- what the reference's Print, Parse, Words, Name tell: seats 01's and 05's texts (printed by wip/tools/mk10b.py) -/
set_option linter.unusedVariables false
set_option linter.unusedSimpArgs false
set_option linter.unusedVariables false
set_option linter.unusedSimpArgs false
namespace Go.Proofs.YtjbdkdmoacdbpaaGreatDoor.M
open Go Go.RowKit Go.Proofs.YtjbdkdmoacdbpaaGreatDoorW.PrintWords Go.Proofs.YtjbdkdmoacdbpaaGreatDoorW.PrintLast Go.Proofs.YtjbdkdmoacdbpaaGreatDoorW.PrintMore Go.Proofs.YtjbdkdmoacdbpaaGreatDoor.Q Go.Proofs.YtjbdkdmoacdbpaaGreatDoor.X
def subS (a b : Int) : Int × Int := if I64 (a - b) then (a - b, 0) else (0, 2)

theorem rneg_f {a : Int} (ha : I64 a) : ref01_Neg.f a = some (subS 0 a) := by
  unfold ref01_Neg.f subS
  by_cases c : a = -9223372036854775808
  · rw [if_pos c, if_neg (by unfold I64; omega)]
  · have h : I64 (0 - a) := by unfold I64 at *; omega
    rw [if_neg c, if_pos h, show wrap64 (-a) = 0 - a by rw [show -a = 0 - a by omega]; exact w64_in h]
/-! the text of an amount -/
theorem ten : ∀ d : Nat, d < 10 → (⟨#[48, 49, 50, 51, 52, 53, 54, 55, 56, 57]⟩ : ByteArray).extract d (d + 1) = bs [UInt8.ofNat (48 + d)] := by
  have h : ∀ d : Fin 10, (⟨#[48, 49, 50, 51, 52, 53, 54, 55, 56, 57]⟩ : ByteArray).extract d.val (d.val + 1) = bs [UInt8.ofNat (48 + d.val)] := by decide +kernel
  intro d hd; exact h ⟨d, hd⟩
theorem ten' {x : Int} {d : Nat} (hd : d < 10) (hx : x = d) : (⟨#[48, 49, 50, 51, 52, 53, 54, 55, 56, 57]⟩ : ByteArray).extract (x : Int).toNat ((wrap64 (x + 1)) : Int).toNat = bs [UInt8.ofNat (48 + d)] := by
  subst hx
  rw [w64_in (by unfold I64; omega), show ((d : Int) + 1).toNat = d + 1 by omega, show (d : Int).toNat = d by omega]
  exact ten d hd
theorem tq10 (x : Int) : (0 ≤ x ∧ Int.tdiv x 10 = x / 10 ∧ Int.tmod x 10 = x % 10) ∨ (x < 0 ∧ Int.tdiv x 10 = -((-x) / 10) ∧ Int.tmod x 10 = -((-x) % 10)) := by
  by_cases h : 0 ≤ x
  · exact .inl ⟨h, Int.tdiv_eq_ediv_of_nonneg h, Int.tmod_eq_emod_of_nonneg h⟩
  · obtain ⟨y, rfl⟩ : ∃ y, x = -y := ⟨-x, by omega⟩
    rw [Int.neg_tdiv, Int.neg_tmod, Int.neg_neg, Int.tdiv_eq_ediv_of_nonneg (by omega), Int.tmod_eq_emod_of_nonneg (by omega)]
    exact .inr ⟨by omega, rfl, rfl⟩
theorem rprintl_f (u : Nat) : ∀ (x : Int) (s t : List UInt8), x.natAbs = u → I64 x → s.length + t.length + Lib.nDigits u ≤ 1000 → x ≠ 0 →
    Ev (fun k => ref01_Print.l0 k x (bs s) (bs t)) (bs (s ++ (Lib.decDigits u ++ t))) := by
  induction u using Nat.strongRecOn with
  | _ u ih =>
    intro x s t hu hx hl h0
    rcases tq10 x with ⟨hs0, e1, e2⟩ | ⟨hs0, e1, e2⟩
    all_goals
     have hq : I64 (Int.tdiv x 10) := by unfold I64 at *; omega
     have hqa : (Int.tdiv x 10).natAbs = u / 10 := by omega
     -- the digit
     have hstep : ∀ k, ref01_Print.l0 (k + 1) x (bs s) (bs t) = ref01_Print.l0 k (Int.tdiv x 10) (bs s) (bs ([UInt8.ofNat (48 + u % 10)] ++ t)) := by
       intro k
       rw [ref01_Print.l0.eq_2, if_neg h0]
       by_cases c : Int.tmod x 10 < 0
       · have hd : -(Int.tmod x 10) = ((u % 10 : Nat) : Int) := by omega
         have hw : wrap64 (-(Int.tmod x 10)) = -(Int.tmod x 10) := w64_in (by unfold I64; omega)
         have hw1 : wrap64 (-(Int.tmod x 10) + 1) = -(Int.tmod x 10) + 1 := w64_in (by unfold I64; omega)
         have he := ten' (x := -(Int.tmod x 10)) (d := u % 10) (by omega) hd
         rw [if_pos c, hw, he, hw1, if_pos (by omega), if_pos (by omega), if_pos (by omega), if_pos (by rw [bs_size, bs_size]; simp; omega), bs_append, w64_in hq]
       · have hd : (Int.tmod x 10) = ((u % 10 : Nat) : Int) := by omega
         have hw1 : wrap64 ((Int.tmod x 10) + 1) = (Int.tmod x 10) + 1 := w64_in (by unfold I64; omega)
         have he := ten' (x := Int.tmod x 10) (d := u % 10) (by omega) hd
         rw [if_neg c, he, hw1, if_pos (by omega), if_pos (by omega), if_pos (by omega), if_pos (by rw [bs_size, bs_size]; simp; omega), bs_append, w64_in hq]
     refine Ev.step hstep ?_
     by_cases c : u < 10
     · have hz : Int.tdiv x 10 = 0 := by omega
       rw [hz, dec_small c, Nat.mod_eq_of_lt c]
       refine Ev.step (f := fun _ => some _) (fun k => ?_) (Ev.now _)
       rw [ref01_Print.l0.eq_2, if_pos rfl, if_pos (by rw [bs_size, bs_size]; simp; omega), bs_append]
     · rw [Lib.nDigits_big c] at hl
       have := ih (u / 10) (by omega) (Int.tdiv x 10) s ([UInt8.ofNat (48 + u % 10)] ++ t) hqa hq (by simp; omega) (by omega)
       rw [dec_big c]
       simpa using this
theorem nDigits_le (u : Nat) (h : u ≤ 9223372036854775808) : Lib.nDigits u ≤ 20 := by
  have h1 := Lib.lt_pow_nDigits u
  rcases Nat.lt_or_ge 20 (Lib.nDigits u) with c | c
  · exfalso
    -- with more than 20 digits the number would be greater
    have key : ∀ n, 1 ≤ n → ∀ v, Lib.nDigits v = n → v = 0 ∨ 10 ^ (n - 1) ≤ v := by
      intro n
      induction n with
      | zero => intro h; omega
      | succ n ih =>
        intro _ v hv
        by_cases hs : v < 10
        · rw [Lib.nDigits_small hs] at hv
          obtain rfl : n = 0 := by omega
          by_cases hz : v = 0
          · exact .inl hz
          · exact .inr (by simp; omega)
        · rw [Lib.nDigits_big hs] at hv
          have := Lib.nDigits_pos (v / 10)
          rcases ih (by omega) (v / 10) (by omega) with h | h
          · omega
          · refine .inr ?_
            have e : 10 ^ (n + 1 - 1) = 10 ^ (n - 1) * 10 := by rw [← Nat.pow_succ]; congr 1; omega
            rw [e]; omega
    rcases key _ (Lib.nDigits_pos u) u rfl with h | h2
    · rw [h, Lib.nDigits_small (by omega)] at c; omega
    · have : 10 ^ 20 ≤ 10 ^ (Lib.nDigits u - 1) := Nat.pow_le_pow_right (by decide) (by omega)
      have e : (10 : Nat) ^ 20 = 100000000000000000000 := by decide
      omega
  · exact c
theorem rprint_f {a : Int} (ha : I64 a) : Ev (fun k => ref01_Print.f k a) (bs (Lib.itoa a)) := by
  unfold ref01_Print.f
  by_cases c : a = 0
  · subst c; simp only [if_true]
    have : bs (Lib.itoa 0) = (⟨#[48]⟩ : ByteArray) := by unfold Lib.itoa; rw [if_neg (by omega), show (0 : Int).toNat = 0 from rfl, dec_small (by omega)]; rfl
    rw [this]; exact Ev.now _
  · simp only [if_neg c]
    have hn := nDigits_le a.natAbs (by unfold I64 at ha; omega)
    by_cases c2 : a < 0
    · simp only [if_pos c2]
      have := rprintl_f a.natAbs a [45] [] rfl ha (by simp; omega) c
      refine Ev.step (f := fun k => ref01_Print.l0 k a (bs [45]) (bs [])) (fun k => rfl) ?_
      unfold Lib.itoa; rw [if_pos c2]
      simpa using this
    · simp only [if_neg c2]
      have := rprintl_f a.natAbs a [] [] rfl ha (by simp; omega) c
      refine Ev.step (f := fun k => ref01_Print.l0 k a (bs []) (bs [])) (fun k => rfl) ?_
      unfold Lib.itoa; rw [if_neg c2, show a.toNat = a.natAbs by omega]
      simpa using this

theorem rforml_f (T : List UInt8) : ∀ (P : List UInt8) (i : Int), i = P.length → P.length + T.length ≤ 1000000000000000000 →
    Ev (fun k => ref01_form.l0 k (bs (P ++ T)) i) (T.all isD) := by
  induction T with
  | nil =>
    intro P i hi hL
    refine Ev.step (f := fun _ => some _) (fun k => ?_) (Ev.now _)
    rw [ref01_form.l0.eq_2, if_neg (by rw [bs_size]; simp <;> omega)]; rfl
  | cons c T ih =>
    intro P i hi hL
    simp only [List.length_cons] at hL
    have hb : bt (bs (P ++ c :: T)) i = c.toNat := bt_bs hi
    have ht := ih (P ++ [c]) (i + 1) (by simp; omega) (by simp; omega)
    rw [show P ++ [c] ++ T = P ++ c :: T by simp] at ht
    by_cases h1 : c.toNat < 48
    · refine Ev.step (f := fun _ => some _) (fun k => ?_) (Ev.now _)
      rw [ref01_form.l0.eq_2, if_pos (by rw [bs_size]; simp <;> omega), if_pos (by omega), hb, if_pos (by omega)]
      simp [isD]; omega
    · by_cases h2 : 57 < c.toNat
      · refine Ev.step (f := fun _ => some _) (fun k => ?_) (Ev.now _)
        rw [ref01_form.l0.eq_2, if_pos (by rw [bs_size]; simp <;> omega), if_pos (by omega), hb, if_neg (by omega), if_pos (by omega)]
        simp [isD]; omega
      · rw [List.all_cons, isD_iff.2 ⟨by omega, by omega⟩, Bool.true_and]
        refine Ev.step (fun k => ?_) ht
        rw [ref01_form.l0.eq_2, if_pos (by rw [bs_size]; simp <;> omega), if_pos (by omega), hb, if_neg (by omega), if_neg (by omega), w64_in (by unfold I64; omega)]
theorem rj2 (D : List UInt8) (b : Bool) (hL : D.length ≤ 1000000000000000000) : Ev (fun k => ref01_form.j2 k (bs D) b) (!b && D.all isD) := by
  cases b
  · refine Ev.step (fun k => ?_) (rforml_f D [] 0 rfl (by simpa using hL))
    rw [ref01_form.j2.eq_2]; simp
  · refine Ev.step (f := fun _ => some _) (fun k => ?_) (Ev.now _)
    rw [ref01_form.j2.eq_2]; simp
theorem rj1 (D : List UInt8) (hL : D.length ≤ 1000000000000000000) : Ev (fun k => ref01_form.j1 k (bs D)) (okS false D) := by
  cases D with
  | nil =>
    refine Ev.step (fun k => ?_) (rj2 [] true hL)
    rw [ref01_form.j1.eq_2, if_pos (by rw [bs_size]; rfl)]
  | cons c r =>
    have e48 : (c == (48 : UInt8)) = ((c.toNat : Int) == 48) := by
      rw [Bool.eq_iff_iff, beq_iff_eq, beq_iff_eq]
      exact ⟨fun h => by rw [h]; rfl, fun h => by rw [← ofNat_toNat c, show c.toNat = 48 by omega]; rfl⟩
    have hsz : ((bs (c :: r)).size : Int) = r.length + 1 := by rw [bs_size]; simp
    cases r with
    | nil =>
      have := rj2 [c] false hL
      rw [show okS false [c] = (!false && [c].all isD) by unfold okS; simp]
      refine Ev.step (fun k => ?_) this
      rw [ref01_form.j1.eq_2, if_neg (by rw [hsz]; simp), if_neg (by rw [hsz]; simp)]
    | cons d r =>
      have := rj2 (c :: d :: r) (bt (bs (c :: d :: r)) 0 == 48) hL
      rw [bt0_bs] at this
      rw [show okS false (c :: d :: r) = (!((c.toNat : Int) == 48) && (c :: d :: r).all isD) by simp [okS, e48, Bool.and_comm]]
      refine Ev.step (fun k => ?_) this
      rw [ref01_form.j1.eq_2, if_neg (by rw [hsz]; simp; omega), if_pos (by rw [hsz]; simp; omega), if_pos (by rw [hsz]; omega), bt0_bs]
theorem rj0_neg (c : UInt8) (r : List UInt8) (hL : r.length < 1000000000000000000) : Ev (fun k => ref01_form.j0 k (bs (c :: r)) true) (okS true r) := by
  have he : (bs (c :: r)).extract 1 (bs (c :: r)).size = bs r := by rw [bs_extract, bs_size]; simp
  have hsz : ((bs (c :: r)).size : Int) = r.length + 1 := by rw [bs_size]; simp
  have hj := rj1 r (by omega)
  cases r with
  | nil =>
    refine Ev.step (fun k => ?_) hj
    rw [ref01_form.j0.eq_2, if_pos rfl, if_pos (by rw [hsz]; simp), he, if_neg (by rw [bs_size]; simp)]
  | cons d r =>
    have e48 : (d == (48 : UInt8)) = decide (d.toNat = 48) := by
      rw [Bool.eq_iff_iff, beq_iff_eq, decide_eq_true_iff]
      exact ⟨fun h => by rw [h]; rfl, fun h => by rw [← ofNat_toNat d, h]; rfl⟩
    by_cases h : d.toNat = 48
    · rw [show okS true (d :: r) = false by unfold okS; simp [e48, h]]
      refine Ev.step (f := fun _ => some _) (fun k => ?_) (Ev.now _)
      rw [ref01_form.j0.eq_2, if_pos rfl, if_pos (by rw [hsz]; omega), he, if_pos (by rw [bs_size]; simp <;> omega), if_pos (by rw [bs_size]; simp <;> omega), bt0_bs, if_pos (by omega)]
    · rw [show okS true (d :: r) = okS false (d :: r) by unfold okS; simp [e48, h]]
      refine Ev.step (fun k => ?_) hj
      rw [ref01_form.j0.eq_2, if_pos rfl, if_pos (by rw [hsz]; omega), he, if_pos (by rw [bs_size]; simp <;> omega), if_pos (by rw [bs_size]; simp <;> omega), bt0_bs, if_neg (by omega)]
theorem rj0_pos (D : List UInt8) (hL : D.length ≤ 1000000000000000000) : Ev (fun k => ref01_form.j0 k (bs D) false) (okS false D) := by
  refine Ev.step (fun k => ?_) (rj1 D hL)
  rw [ref01_form.j0.eq_2]; simp
def okP : List UInt8 → Bool
  | [] => false
  | c :: r => if c.toNat = 45 then okS true r else okS false (c :: r)
theorem rform_f (l : List UInt8) (hL : l.length ≤ 1000000000000000000) : Ev (fun k => ref01_form.f k (bs l)) (okP l) := by
  unfold ref01_form.f
  cases l with
  | nil =>
    have := rj0_pos [] hL
    simp only [bs_size, List.length_nil, show ¬ ((0 : Nat) : Int) > 0 by omega, if_false]
    exact this
  | cons c r =>
    have hsz : ((bs (c :: r)).size : Int) > 0 := by rw [bs_size]; simp <;> omega
    simp only [if_pos hsz, if_pos (show 0 < ((bs (c :: r)).size : Int) from hsz), bt0_bs]
    rw [show okP (c :: r) = if c.toNat = 45 then okS true r else okS false (c :: r) from rfl]
    by_cases h : c.toNat = 45
    · rw [if_pos h, show ((c.toNat : Int) == 45) = true by simp; omega]
      exact rj0_neg c r (by simp at hL; omega)
    · rw [if_neg h, show ((c.toNat : Int) == 45) = false by simp; omega]
      exact rj0_pos _ hL
/-! the number -/
def endS (neg : Bool) (v : Nat) : Int × Int := if I64 (if neg then -(v : Int) else v) then ((if neg then -(v : Int) else v), 0) else (0, 2)
theorem rparsel_f (neg : Bool) (T : List UInt8) : ∀ (P : List UInt8) (i : Int) (u : Nat), i = P.length → P.length + T.length ≤ 1000000000000000000 → u ≤ 9223372036854775808 → (∀ c ∈ T, isD c = true) →
    Ev (fun k => ref01_Parse.l0 k (bs (P ++ T)) neg (-(u : Int)) i) (endS neg (vD u T)) := by
  induction T with
  | nil =>
    intro P i u hi hL hu hd
    refine Ev.step (f := fun _ => some _) (fun k => ?_) (Ev.now _)
    rw [ref01_Parse.l0.eq_2, if_neg (by rw [bs_size]; simp <;> omega)]
    unfold endS
    show _ = some (if I64 (if neg then -(u : Int) else u) then ((if neg then -(u : Int) else u), 0) else (0, 2))
    cases neg
    · simp only [Bool.false_eq_true, if_false]
      rw [rneg_f (by unfold I64; omega), Option.bind_some]
      unfold subS
      rw [show 0 - -(u : Int) = u by omega]
    · simp only [if_true]
      rw [if_pos (by unfold I64; omega)]
  | cons c T ih =>
    intro P i u hi hL hu hd
    simp only [List.length_cons] at hL
    have hb : bt (bs (P ++ c :: T)) i = c.toNat := bt_bs hi
    have hc := isD_iff.1 (hd c List.mem_cons_self)
    have hv : vD u (c :: T) = vD (u * 10 + (c.toNat - 48)) T := rfl
    have hle := vD_le T (u * 10 + (c.toNat - 48))
    have hm : ((c.toNat : Int) - 48) % 256 = ((c.toNat - 48 : Nat) : Int) := by omega
    have bad : 9223372036854775808 < u * 10 + (c.toNat - 48) → endS neg (vD u (c :: T)) = (0, 2) := by
      intro h
      unfold endS
      rw [hv]
      cases neg
      · simp only [Bool.false_eq_true, if_false]; rw [if_neg (by unfold I64; omega)]
      · simp only [if_true]; rw [if_neg (by unfold I64; omega)]
    by_cases h1 : u > 922337203685477580
    · rw [bad (by omega)]
      refine Ev.step (f := fun _ => some _) (fun k => ?_) (Ev.now _)
      rw [ref01_Parse.l0.eq_2, if_pos (by rw [bs_size]; simp <;> omega), if_pos (by omega), if_pos (by omega)]
    · have hw : wrap64 (-(u : Int) * 10) = -(u : Int) * 10 := w64_in (by unfold I64; omega)
      by_cases h2 : 9223372036854775808 < u * 10 + (c.toNat - 48)
      · rw [bad h2]
        refine Ev.step (f := fun _ => some _) (fun k => ?_) (Ev.now _)
        rw [ref01_Parse.l0.eq_2, if_pos (by rw [bs_size]; simp <;> omega), if_pos (by omega), if_neg (by omega), hw, hb, hm, if_pos (by omega)]
      · have ht := ih (P ++ [c]) (i + 1) (u * 10 + (c.toNat - 48)) (by simp; omega) (by simp; omega) (by omega) (fun x hx => hd x (List.mem_cons_of_mem _ hx))
        rw [show P ++ [c] ++ T = P ++ c :: T by simp, ← hv] at ht
        refine Ev.step (fun k => ?_) ht
        rw [ref01_Parse.l0.eq_2, if_pos (by rw [bs_size]; simp <;> omega), if_pos (by omega), if_neg (by omega), hw, hb, hm, if_neg (by omega), w64_in (show I64 (i + 1) by unfold I64; omega), w64_in (show I64 (-(u : Int) * 10 - ((c.toNat - 48 : Nat) : Int)) by unfold I64; omega)]
        congr 1; omega
theorem rparse_f (l : List UInt8) (hL : l.length ≤ 1000000000000000000) : Ev (fun k => ref01_Parse.f k (bs l)) (pS l) := by
  unfold ref01_Parse.f
  refine Ev.bind (rform_f l hL) ?_
  cases l with
  | nil => simp only [okP, Bool.false_eq_true, if_false]; exact Ev.now _
  | cons c r =>
    have hsz : (0 : Int) < ((bs (c :: r)).size : Int) := by rw [bs_size]; simp <;> omega
    have he : (bs (c :: r)).extract 1 (bs (c :: r)).size = bs r := by rw [bs_extract, bs_size]; simp
    simp only [List.length_cons] at hL
    rw [show okP (c :: r) = if c.toNat = 45 then okS true r else okS false (c :: r) from rfl]
    show Ev _ (if c.toNat = 45 then sD true r else sD false (c :: r))
    by_cases h : c.toNat = 45
    · rw [if_pos h, if_pos h]
      unfold sD
      by_cases ho : okS true r = true
      · rw [if_pos ho]
        obtain ⟨h1, h2, h3⟩ := okS_iff.1 ho
        have := rparsel_f true r [] 0 0 rfl (by simp; omega) (by omega) h2
        simp only [ho, if_true, if_pos hsz, bt0_bs, if_pos (show (c.toNat : Int) = 45 by omega), if_pos (show 1 ≤ ((bs (c :: r)).size : Int) by omega), he, show ((c.toNat : Int) == 45) = true by simp; omega]
        refine Ev.step (f := fun k => ref01_Parse.l0 k (bs r) true 0 0) (fun k => rfl) ?_
        simpa [endS] using this
      · rw [if_neg ho]; simp only [ho, Bool.false_eq_true, if_false]; exact Ev.now _
    · rw [if_neg h, if_neg h]
      unfold sD
      by_cases ho : okS false (c :: r) = true
      · rw [if_pos ho]
        obtain ⟨h1, h2, h3⟩ := okS_iff.1 ho
        have := rparsel_f false (c :: r) [] 0 0 rfl (by simp; omega) (by omega) h2
        simp only [ho, if_true, if_pos hsz, bt0_bs, if_neg (show ¬ (c.toNat : Int) = 45 by omega), show ((c.toNat : Int) == 45) = false by simp; omega]
        refine Ev.step (f := fun k => ref01_Parse.l0 k (bs (c :: r)) false 0 0) (fun k => rfl) ?_
        simpa [endS] using this
      · rw [if_neg ho]; simp only [ho, Bool.false_eq_true, if_false]; exact Ev.now _

/-- a line ahead of its mark -/
def cutM (l : List UInt8) : List UInt8 := l.takeWhile (fun c => c != 35)
def isBl (c : UInt8) : Bool := c == 32 || c == 9
/-- the words of a line -/
def wordsC : List UInt8 → List UInt8 → List (List UInt8)
  | cur, [] => if cur = [] then [] else [cur]
  | cur, c :: r => if isBl c = true then (if cur = [] then wordsC [] r else cur :: wordsC [] r) else wordsC (cur ++ [c]) r
def wordsM (l : List UInt8) : List (List UInt8) := wordsC [] (cutM l)

theorem u8_eq (c d : UInt8) : ((c.toNat : Int) == (d.toNat : Int)) = (c == d) := by
  rw [Bool.eq_iff_iff, beq_iff_eq, beq_iff_eq, ← UInt8.toNat_inj]; omega

theorem bt_u8 (c d : UInt8) : ((c.toNat : Int) = (d.toNat : Int)) ↔ c = d := by rw [← UInt8.toNat_inj]; omega
theorem w64_nat {n : Nat} (h : n < 9223372036854775807) : wrap64 ((n : Int) + 1) = ((n + 1 : Nat) : Int) := by rw [w64_in (by unfold I64; omega)]; rfl
theorem bs_nil (l : List UInt8) : (bs l).toList = ([] : List UInt8) ↔ l = [] := by rw [bs_toList]
theorem bs_emp : (⟨#[]⟩ : ByteArray) = bs [] := rfl
theorem wordsC_len : ∀ (l cur : List UInt8), (wordsC cur l).length ≤ l.length + 1
  | [], cur => by unfold wordsC; split <;> simp
  | c :: r, cur => by
    unfold wordsC
    split
    · split
      · have := wordsC_len r []; simp only [List.length_cons]; omega
      · have := wordsC_len r []; simp only [List.length_cons]; omega
    · have := wordsC_len r (cur ++ [c]); simp only [List.length_cons]; omega
theorem words_l (T : List UInt8) : ∀ (P cur : List UInt8) (W : List ByteArray), (P ++ T).length ≤ 1000000 → cur.length ≤ P.length → W.length ≤ P.length →
    Ev (fun k => ref05_Words.l0 k (bs (P ++ T)) W (bs cur) (P.length : Int)) (W ++ (wordsC cur (cutM T)).map bs) := by
  induction T with
  | nil =>
    intro P cur W hL hc hW
    rw [List.append_nil] at hL ⊢
    refine Ev.step (f := fun k => ref05_Words.j1 k (bs P) W (bs cur) (P.length : Int) false) (fun k => by rw [ref05_Words.l0.eq_2, bs_size, if_neg (by omega)]) ?_
    refine Ev.step (f := fun _ => some _) (fun k => ?_) (Ev.now _)
    rw [ref05_Words.j1.eq_2, if_neg (by simp), bs_toList]
    simp only [cutM, List.takeWhile_nil, wordsC]
    by_cases h : cur = []
    · rw [if_pos h, if_pos h]; simp
    · rw [if_neg h, if_neg h, if_pos (by omega)]; rfl
  | cons c T ih =>
    intro P cur W hL hc hW
    have hsz : ((bs (P ++ c :: T)).size : Int) = P.length + 1 + T.length := by rw [bs_size]; simp; omega
    have hbt : bt (bs (P ++ c :: T)) (P.length : Int) = c.toNat := bt_bs rfl
    simp only [List.length_append, List.length_cons] at hL
    have e1 : P ++ c :: T = (P ++ [c]) ++ T := by simp
    have hlen : ((P ++ [c]).length : Int) = P.length + 1 := by simp
    have hw : wrap64 ((P.length : Int) + 1) = ((P ++ [c]).length : Int) := by rw [w64_in (by unfold I64; omega), hlen]
    refine Ev.step (f := fun k => ref05_Words.j1 k (bs (P ++ c :: T)) W (bs cur) (P.length : Int) ((c.toNat : Int) != 35)) (fun k => by rw [ref05_Words.l0.eq_2, if_pos (by omega), if_pos (by omega), hbt]) ?_
    by_cases h35 : c = 35
    · subst h35
      refine Ev.step (f := fun _ => some _) (fun k => ?_) (Ev.now _)
      have hcut : cutM (35 :: T) = [] := by unfold cutM; rw [List.takeWhile_cons, if_neg (by decide)]
      rw [ref05_Words.j1.eq_2, if_neg (by decide), bs_toList, hcut]
      simp only [wordsC]
      by_cases h : cur = []
      · rw [if_pos h, if_pos h]; simp
      · rw [if_neg h, if_neg h, if_pos (by omega)]; rfl
    · have h35' : ((c.toNat : Int) != 35) = true := bne_iff_ne.2 (fun e => h35 ((bt_u8 c 35).1 e))
      have hcut : cutM (c :: T) = c :: cutM T := by
        unfold cutM
        rw [List.takeWhile_cons, if_pos (bne_iff_ne.2 h35)]
      refine Ev.step (f := fun k => ref05_Words.j2 k (bs (P ++ c :: T)) W (bs cur) (P.length : Int) (isBl c)) (fun k => ?_) ?_
      · rw [h35', ref05_Words.j1.eq_2, if_pos rfl, if_pos (by omega), if_pos (by omega), hbt]
        by_cases h9 : c = 9
        · subst h9; rfl
        · rw [if_neg (show ¬ (c.toNat : Int) = 9 from fun e => h9 ((bt_u8 c 9).1 e))]
          congr 1
          unfold isBl
          rw [beq_eq_false_iff_ne.2 h9, Bool.or_false]
          exact u8_eq c 32
      · rw [hcut]
        cases hb : isBl c with
        | true =>
          by_cases h : cur = []
          · refine Ev.step (f := fun k => ref05_Words.l0 k (bs ((P ++ [c]) ++ T)) W (bs []) ((P ++ [c]).length : Int)) (fun k => by rw [ref05_Words.j2.eq_2, if_pos rfl, bs_toList, if_pos h, hw, ← e1]; rfl) ?_
            have := ih (P ++ [c]) [] W (by simp; omega) (by simp) (by simp; omega)
            simpa only [wordsC, hb, if_true, h] using this
          · refine Ev.step (f := fun k => ref05_Words.l0 k (bs ((P ++ [c]) ++ T)) (W ++ [bs cur]) (bs []) ((P ++ [c]).length : Int)) (fun k => by rw [ref05_Words.j2.eq_2, if_pos rfl, bs_toList, if_neg h, if_pos (by omega), hw, ← e1]; rfl) ?_
            have := ih (P ++ [c]) [] (W ++ [bs cur]) (by simp; omega) (by simp) (by simp; omega)
            simpa only [wordsC, hb, if_true, h, if_false, List.map_cons, List.append_assoc, List.singleton_append] using this
        | false =>
          have hex : (bs (P ++ c :: T)).extract (P.length : Int).toNat ((P ++ [c]).length : Int).toNat = bs [c] := by
            rw [bs_extract, Int.toNat_natCast, Int.toNat_natCast, List.drop_left]
            simp
          refine Ev.step (f := fun k => ref05_Words.l0 k (bs ((P ++ [c]) ++ T)) W (bs (cur ++ [c])) ((P ++ [c]).length : Int)) (fun k => ?_) ?_
          · rw [ref05_Words.j2.eq_2, if_neg (by simp), if_pos (by omega), hw, if_pos (by omega), if_pos (by omega), hex, if_pos (by rw [bs_size, bs_size]; simp; omega), bs_append, ← e1]
          · have := ih (P ++ [c]) (cur ++ [c]) W (by simp; omega) (by simp; omega) (by simp; omega)
            simpa only [wordsC, hb, Bool.false_eq_true, if_false] using this
theorem words_f {l : List UInt8} (h : l.length ≤ 1000000) : Ev (fun k => ref05_Words.f k (bs l)) ((wordsM l).map bs) := by
  have := words_l l [] [] [] (by simpa using h) (by simp) (by simp)
  show Ev (fun k => ref05_Words.l0 k (bs l) [] (bs []) 0) _
  simpa [wordsM] using this

theorem bytesL_bs (l : List UInt8) : bytesL (bs l) = l.map fun b => (b.toNat : Int) := rfl

theorem rletter_f (c : Int) : ref05_letter.f c = some (letterP c) := by
  unfold ref05_letter.f letterP
  by_cases h1 : c ≥ 97
  · rw [if_pos h1]
    by_cases h2 : c ≤ 122
    · rw [if_pos h2]; simp [show (97 : Int) ≤ c from h1, h2]
    · rw [if_neg h2, if_pos (by omega)]
      have e2 : decide (c ≤ 122) = false := decide_eq_false h2
      have e3 : decide (c ≤ 90) = false := decide_eq_false (by omega)
      simp [e2, e3]
  · rw [if_neg h1]
    have e1 : decide (97 ≤ c) = false := decide_eq_false h1
    by_cases h2 : c ≥ 65
    · rw [if_pos h2]
      have e3 : decide (65 ≤ c) = true := decide_eq_true h2
      simp [e1, e3]
    · rw [if_neg h2]
      have e3 : decide (65 ≤ c) = false := decide_eq_false h2
      simp [e1, e3]
def wrongM (c : UInt8) : Bool := wrongP (c.toNat : Int)
theorem rname_l {S : List UInt8} (hS : S.length ≤ 140737488351232) (T : List UInt8) : ∀ (P : List UInt8), S = P ++ T → Ev (fun k => ref05_Name.l0 k (bs S) (P.length : Int)) (!(T.any wrongM)) := by
  induction T with
  | nil =>
    intro P hs
    have hsz : ((bs S).size : Int) = (P.length : Int) := by rw [bs_size, hs]; simp
    exact Ev.step (f := fun _ => some _) (fun k => by rw [ref05_Name.l0.eq_2, if_neg (by omega)]; rfl) (Ev.now _)
  | cons c T ih =>
    intro P hs
    have hsz : ((bs S).size : Int) = (P.length : Int) + 1 + T.length := by rw [bs_size, hs]; simp; omega
    have hbt : bt (bs S) (P.length : Int) = c.toNat := by rw [hs]; exact bt_bs rfl
    have hw : wrap64 ((P.length : Int) + 1) = ((P ++ [c]).length : Int) := by rw [w64_in (by unfold I64; rw [bs_size] at hsz; omega)]; simp
    have hn := ih (P ++ [c]) (by rw [hs]; simp)
    obtain ⟨x, hx⟩ : ∃ x : Int, (c.toNat : Int) = x := ⟨_, rfl⟩
    have st : ∀ k, ref05_Name.l0 (k + 1) (bs S) (P.length : Int) = if wrongM c = true then some false else ref05_Name.l0 k (bs S) ((P ++ [c]).length : Int) := by
      intro k
      rw [ref05_Name.l0.eq_2, if_pos (by omega), if_pos (by omega), hbt, hw, rletter_f]
      simp only [Option.bind_some]
      unfold wrongM wrongP
      rw [hx]
      cases hl : letterP x with
      | true => rw [if_pos rfl]; simp
      | false =>
        rw [if_neg (by simp)]
        by_cases h48 : x < 48
        · rw [if_pos h48]
          by_cases h1 : x = 46
          · rw [if_pos h1]; simp [h1]
          · rw [if_neg h1]
            by_cases h2 : x = 95
            · rw [if_pos h2]; simp [h2]
            · rw [if_neg h2]
              by_cases h3 : x = 45
              · rw [if_pos h3]; simp [h3]
              · rw [if_neg h3, if_pos (by simp [h48, h1, h2, h3])]
        · rw [if_neg h48]
          by_cases h57 : x > 57
          · rw [if_pos h57]
            by_cases h1 : x = 46
            · rw [if_pos h1]; simp [h1]
            · rw [if_neg h1]
              by_cases h2 : x = 95
              · rw [if_pos h2]; simp [h2]
              · rw [if_neg h2]
                by_cases h3 : x = 45
                · rw [if_pos h3]; simp [h3]
                · rw [if_neg h3, if_pos (by simp [show (57 : Int) < x from h57, h1, h2, h3])]
          · rw [if_neg h57, if_neg (by simp [h48, show ¬ (57 : Int) < x from h57])]
    by_cases hwr : wrongM c = true
    · have e : (!(c :: T).any wrongM) = false := by simp [hwr]
      rw [e]
      exact Ev.step (f := fun _ => some _) (fun k => by rw [st, if_pos hwr]) (Ev.now _)
    · have e : (c :: T).any wrongM = T.any wrongM := by simp [hwr]
      rw [e]
      exact Ev.step (fun k => by rw [st, if_neg hwr]) hn
theorem any_wrong (l : List UInt8) : (bytesL (bs l)).any wrongP = l.any wrongM := by rw [bytesL_bs, List.any_map]; rfl
def nameM (l : List UInt8) : Bool := decide (0 < l.length) && decide (l.length ≤ 12) && letterP (bt (bs l) 0) && !(l.any wrongM)
theorem nameB_bs (l : List UInt8) : nameB (bs l) = nameM l := by unfold nameB nameM; rw [bs_size, any_wrong]
theorem rname_f {l : List UInt8} (hl : l.length ≤ 140737488351232) : Ev (fun k => ref05_Name.f k (bs l)) (nameM l) := by
  unfold ref05_Name.f nameM
  rw [bs_size]
  by_cases h1 : l.length < 1
  · have e : decide (0 < l.length) = false := decide_eq_false (by omega)
    simp only [if_pos (show (l.length : Int) < 1 by omega), e, Bool.false_and]
    exact Ev.step (f := fun _ => some _) (fun k => by rw [ref05_Name.j0.eq_2, if_pos rfl]) (Ev.now _)
  · have e0 : decide (0 < l.length) = true := decide_eq_true (by omega)
    simp only [if_neg (show ¬ (l.length : Int) < 1 by omega)]
    by_cases h2 : 12 < l.length
    · have e : decide (l.length ≤ 12) = false := decide_eq_false (by omega)
      simp only [if_pos (show (l.length : Int) > 12 by omega), e, Bool.and_false, Bool.false_and]
      exact Ev.step (f := fun _ => some _) (fun k => by rw [ref05_Name.j0.eq_2, if_pos rfl]) (Ev.now _)
    · have e2 : decide (l.length ≤ 12) = true := decide_eq_true (by omega)
      simp only [if_neg (show ¬ (l.length : Int) > 12 by omega), if_pos (show 0 < (l.length : Int) by omega), rletter_f, Option.bind_some, e0, e2, Bool.true_and]
      cases hb : letterP (bt (bs l) 0) with
      | false => exact Ev.step (f := fun _ => some _) (fun k => by rw [ref05_Name.j0.eq_2, if_pos (by simp)]; simp) (Ev.now _)
      | true =>
        refine Ev.step (f := fun k => ref05_Name.l0 k (bs l) 0) (fun k => by rw [ref05_Name.j0.eq_2, if_neg (by simp)]) ?_
        simpa using rname_l hl l [] rfl

end Go.Proofs.YtjbdkdmoacdbpaaGreatDoor.M
