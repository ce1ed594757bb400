import Derived.Test.YtjfnhhfgjomliaaQx5
import Derived.Test.YtjfnhhfgjomliaaMBy
import Derived.Test.YtjfnhhfgjomliaaCCent
import Derived.Test.YtjfnhhfgjomliaaCWide
import Derived.Test.YtjfnhhfgjomliaaCSort2Split
/- what split's By tells -/
set_option linter.unusedVariables false
set_option linter.unusedSimpArgs false
namespace Go.Proofs.Ytjfnhhfgjomliaa.M
open Go.RowKit Go.Proofs.YtjfnhhfgjomliaaW.PrintWords Go.Proofs.YtjfnhhfgjomliaaW.PrintLast Go.Proofs.YtjfnhhfgjomliaaW.PrintMore Go.Proofs.Ytjfnhhfgjomliaa.Q

def wN (l : List Int) (i : Nat) : Int := l.getD i 0
def byErr (l : List Int) : Int := if 100 < l.length then 4 else if (∃ w ∈ l, w < 0) then 1 else if (sumS 0 l).2 = 0 then (if (sumS 0 l).1 = 0 then 3 else 0) else (sumS 0 l).2
/-- the parts, by the quotients and those that are one more -/
def ByOk (a : Int) (l L : List Int) : Prop :=
  ∃ (S : Int) (left : Nat) (δ : Nat → Bool), 0 < S ∧ tot (wN l) l.length = S ∧ I64 S ∧ (left : Int) = ab a - tot (fun i => ab a * wN l i / S) l.length ∧ left ≤ l.length ∧
    Dl (fun i => ab a * wN l i % S) l.length left δ ∧ L.length = l.length ∧
    (∀ m, m < l.length → L.getD m 0 = if a < 0 then -(ab a * wN l m / S + if δ m = true then 1 else 0) else ab a * wN l m / S + if δ m = true then 1 else 0) ∧
    (∀ m, m < l.length → 0 ≤ wN l m ∧ wN l m ≤ S) ∧ (∀ m, m < l.length → ab a * wN l m / S + (if δ m = true then 1 else 0) ≤ ab a)
theorem tot_shift (f : Nat → Int) : ∀ n, tot f (n + 1) = f 0 + tot (fun i => f (i + 1)) n
  | 0 => by simp [tot]
  | n + 1 => by rw [tot, tot_shift f n, tot]; omega
theorem sum_tot (l : List Int) : ∀ n : Int, (sumS n l).2 = 0 → (sumS n l).1 = n + tot (wN l) l.length := by
  induction l with
  | nil => intro n _; simp [sumS, tot]
  | cons x l ih =>
    intro n h
    have e : sumS n (x :: l) = if I64 (n + x) then sumS (n + x) l else (0, 2) := rfl
    by_cases c : I64 (n + x)
    · rw [e, if_pos c] at h ⊢
      have := ih _ h
      rw [this, List.length_cons, tot_shift]
      have e2 : wN (x :: l) 0 = x := rfl
      have e3 : (fun i => wN (x :: l) (i + 1)) = wN l := rfl
      rw [e2, e3]; omega
    · rw [e, if_neg c] at h; exact absurd h (by decide)
theorem byl0_neg {a : Int} {l : List Int} (hl : l.length ≤ 100) (T : List Int) : ∀ (P : List Int) (i : Nat), l = P ++ T → P.length = i → (∃ w ∈ T, w < 0) →
    Ev (fun k => split_By.l0 k a l l (l.length : Int) (i : Int)) ([], 1) := by
  induction T with
  | nil => intro P i _ _ h; obtain ⟨w, hw, _⟩ := h; exact absurd hw List.not_mem_nil
  | cons x T ih =>
    intro P i e hi h
    have hlen : l.length = i + 1 + T.length := by rw [e]; simp; omega
    have r : rd l (i : Int) = x := by unfold rd; rw [Int.toNat_natCast]; exact rd_int e hi
    by_cases c : x < 0
    · refine Ev.step (f := fun _ => some _) (fun k => ?_) (Ev.now _)
      rw [split_By.l0.eq_2, if_pos (by omega), if_pos (by omega), if_pos (by omega), r, if_pos c]
    · have := ih (P ++ [x]) (i + 1) (by rw [e]; simp) (by simp; omega) (by
        obtain ⟨w, hw, hn⟩ := h
        rcases List.mem_cons.1 hw with rfl | hw
        · exact absurd hn c
        · exact ⟨w, hw, hn⟩)
      refine Ev.step (fun k => ?_) this
      rw [split_By.l0.eq_2, if_pos (by omega), if_pos (by omega), if_pos (by omega), r, if_neg c, w_one i (by omega)]
theorem byl0_pos {a : Int} {l : List Int} {r : List Int × Int} (hl : l.length ≤ 100) (hr : Ev (fun k => split_By.l0 k a l [] 0 0) r) (T : List Int) : ∀ (P : List Int) (i : Nat), l = P ++ T → P.length = i → (∀ w ∈ T, ¬ w < 0) →
    Ev (fun k => split_By.l0 k a l l (l.length : Int) (i : Int)) r := by
  induction T with
  | nil =>
    intro P i e hi h
    refine Ev.congr (fun k => ?_) hr
    have hlen : l.length = i := by rw [e]; simp; omega
    cases k with
    | zero => rw [split_By.l0.eq_1, split_By.l0.eq_1]
    | succ k => rw [split_By.l0.eq_2, split_By.l0.eq_2, if_neg (by omega), if_neg (by omega)]
  | cons x T ih =>
    intro P i e hi h
    have hlen : l.length = i + 1 + T.length := by rw [e]; simp; omega
    have r : rd l (i : Int) = x := by unfold rd; rw [Int.toNat_natCast]; exact rd_int e hi
    have := ih (P ++ [x]) (i + 1) (by rw [e]; simp) (by simp; omega) (fun w hw => h w (List.mem_cons_of_mem _ hw))
    refine Ev.step (fun k => ?_) this
    rw [split_By.l0.eq_2, if_pos (by omega), if_pos (by omega), if_pos (by omega), r, if_neg (h x List.mem_cons_self), w_one i (by omega)]
theorem splsize_f {a : Int} (h : I64 a) : split_size.f a = some (ab a) := by
  obtain ⟨h1, h2⟩ := h
  unfold split_size.f ab
  by_cases c : a < 0
  · rw [if_pos c, if_pos c]; simp only [wu64]; congr 1; omega
  · rw [if_neg c, if_neg c]; simp only [wu64]; congr 1; omega
theorem parts_succ (A S : Int) (w : Nat → Int) (n : Nat) : partsL A S w (n + 1) = partsL A S w n ++ [mkp A S w n] := by
  unfold partsL; rw [List.range_succ, List.map_append]; rfl
theorem parts_len (A S : Int) (w : Nat → Int) (n : Nat) : (partsL A S w n).length = n := by unfold partsL; simp
theorem byl1 {a S : Int} {l : List Int} {r : List Int × Int} (ha : I64 a) (hS : 0 < S) (hSI : I64 S) (hl : l.length ≤ 100) (hw : ∀ m, m < l.length → 0 ≤ wN l m ∧ wN l m ≤ S)
    (hr : ∀ x, x = IntKind.u64.wrap (ab a - tot (fun i => ab a * wN l i / S) l.length) → Ev (fun k => split_By.l1 k a S x (partsL (ab a) S (wN l) l.length) [] 0 0) r) (d : Nat) : ∀ (i : Nat) (x : Int), i + d = l.length → x = IntKind.u64.wrap (ab a - tot (fun j => ab a * wN l j / S) i) →
    Ev (fun k => split_By.l1 k a S x (partsL (ab a) S (wN l) i) l (l.length : Int) (i : Int)) r := by
  induction d with
  | zero =>
    intro i x hi hx
    have hi : i = l.length := by omega
    subst hi
    refine Ev.congr (fun k => ?_) (hr x hx)
    cases k with
    | zero => rw [split_By.l1.eq_1, split_By.l1.eq_1]
    | succ k => rw [split_By.l1.eq_2, split_By.l1.eq_2, if_neg (by omega), if_neg (by omega)]
  | succ d ih =>
    intro i x hi hx
    have hw1 := hw i (by omega)
    have hr : rd l (i : Int) = wN l i := by unfold rd wN; rw [Int.toNat_natCast]
    have e1 : IntKind.u64.wrap (wN l i) = wN l i := by rw [wu64]; unfold I64 at hSI; omega
    have e2 : IntKind.u64.wrap S = S := by rw [wu64]; unfold I64 at hSI; omega
    have hA := ab_le ha
    have hA0 := ab_nonneg a
    have hb := ih (i + 1) (IntKind.u64.wrap (x - ab a * wN l i / S)) (by omega) (by rw [hx, tot]; simp only [wu64]; omega)
    have hp : 0 ≤ ab a * wN l i := Int.mul_nonneg hA0 hw1.1
    have hp2 : ab a * wN l i ≤ 9223372036854775808 * S := Int.mul_le_mul hA hw1.2 hw1.1 (by omega)
    have hs2 := hSI.2
    have hd := div64_f (hi := ab a * wN l i / 18446744073709551616) (lo := ab a * wN l i % 18446744073709551616) (y := S) hS (by omega) (by omega) (by omega) (by omega) (by omega)
    rw [show ab a * wN l i / 18446744073709551616 * 18446744073709551616 + ab a * wN l i % 18446744073709551616 = ab a * wN l i by omega] at hd
    refine Ev.step (f := fun k => (bits_Div64.f k (ab a * wN l i / 18446744073709551616) (ab a * wN l i % 18446744073709551616) S).bind fun t => split_By.l1 k a S (IntKind.u64.wrap (x - t.1)) (partsL (ab a) S (wN l) i ++ [⟨(i : Int), t.1, t.2⟩]) l (l.length : Int) ((i + 1 : Nat) : Int)) (fun k => ?_) (Ev.bind hd ?_)
    · have c1 : (i : Int) < (l.length : Int) := by omega
      have c2 : ab a * wN l i / 18446744073709551616 < S := by omega
      rw [split_By.l1.eq_2, if_pos c1, if_pos (by omega), if_pos c1, splsize_f ha, Option.bind_some, hr, e1, e2, mul64_f hA0 (by omega) hw1.1 (by omega), Option.bind_some, if_pos c2, w_one i (by omega)]
      simp only [parts_len, if_pos (show i < 5864062014805 by omega)]
    · have e3 : partsL (ab a) S (wN l) i ++ [(⟨(i : Int), ab a * wN l i / S, ab a * wN l i % S⟩ : S52)] = partsL (ab a) S (wN l) (i + 1) := (parts_succ _ _ _ _).symm
      simp only [e3]
      exact hb
theorem byl2 {a : Int} {left n : Nat} {R : List S52} (hR : R.length = n) (hn : n ≤ 100) (ha : I64 a) (hx : ∀ (j : Nat) (h : j < R.length), 0 ≤ R[j].f0 ∧ R[j].f0 < n ∧ 0 ≤ R[j].f1 ∧ R[j].f1 + (if j < left then 1 else 0) ≤ ab a) (T : List S52) : ∀ (P : List S52) (out : List Int) (j : Nat), R = P ++ T → P.length = j → out.length = n →
    Ev (fun k => split_By.l2 k a (left : Int) out R (R.length : Int) (j : Int)) (fillOut a left j T out, 0) := by
  induction T with
  | nil =>
    intro P out j e hj ho
    refine Ev.step (f := fun _ => some _) (fun k => ?_) (Ev.now _)
    rw [split_By.l2.eq_2, if_neg (by rw [e]; simp; omega)]; rfl
  | cons p T ih =>
    intro P out j e hj ho
    have hlen : R.length = j + 1 + T.length := by rw [e]; simp; omega
    have r : rd_T52 R (j : Int) = p := rd_at e hj
    have hp := hx j (by omega)
    have hpe : R[j] = p := by
      have : R[j]? = some p := by rw [e, List.getElem?_append_right (by omega), show j - P.length = 0 by omega]; rfl
      rw [List.getElem?_eq_getElem (by omega)] at this
      exact Option.some.inj this
    rw [hpe] at hp
    obtain ⟨p0, p1, p2, p3⟩ := hp
    have hA := ab_le ha
    have hv := ih (P ++ [p]) (out.set p.f0.toNat (valP a left j p)) (j + 1) (by rw [e]; simp) (by simp; omega) (by rw [List.length_set]; exact ho)
    have ej : IntKind.u64.wrap (j : Int) = (j : Int) := by rw [wu64]; omega
    have hab : a < 0 ∧ ab a = -a ∨ ¬ a < 0 ∧ ab a = a := by unfold ab; split <;> omega
    unfold I64 at ha
    show Ev _ (fillOut a left (j + 1) T (out.set p.f0.toNat (valP a left j p)), 0)
    refine Ev.step (fun k => ?_) hv
    rw [split_By.l2.eq_2, if_pos (by omega), if_pos (by omega), if_pos (by omega), r, ej, w_one j (by omega)]
    by_cases c : j < left
    · rw [if_pos (by omega), if_pos (by omega), if_pos (by omega), Option.bind_some]
      rw [if_pos c] at p3
      by_cases d : a < 0
      · have e5 : wrap64 (-wrap64 (IntKind.u64.wrap (p.f1 + 1))) = valP a left j p := by
          unfold valP; rw [if_pos c, if_pos d, wu64]; unfold wrap64; omega
        rw [if_pos d, List.set_set, e5]
      · have e5 : wrap64 (IntKind.u64.wrap (p.f1 + 1)) = valP a left j p := by
          unfold valP; rw [if_pos c, if_neg d, wu64]; unfold wrap64; omega
        rw [if_neg d, e5]
    · rw [if_neg (by omega), if_pos (by omega), if_pos (by omega), Option.bind_some]
      rw [if_neg c] at p3
      by_cases d : a < 0
      · have e5 : wrap64 (-wrap64 p.f1) = valP a left j p := by
          unfold valP; rw [if_neg c, if_pos d]; unfold wrap64; omega
        rw [if_pos d, List.set_set, e5]
      · have e5 : wrap64 p.f1 = valP a left j p := by
          unfold valP; rw [if_neg c, if_neg d]; unfold wrap64; omega
        rw [if_neg d, e5]
theorem by_split {a : Int} {l : List Int} (ha : I64 a) (hl : ∀ x ∈ l, I64 x) :
    ∃ L, Ev (fun k => split_By.f k a l) (L, byErr l) ∧ (byErr l ≠ 0 → L = []) ∧ (byErr l = 0 → ByOk a l L) := by
  unfold split_By.f byErr
  by_cases c1 : 100 < l.length
  · refine ⟨[], ?_, fun _ => rfl, ?_⟩
    · simp only [if_pos c1, if_pos (show (l.length : Int) > 100 by omega)]; exact Ev.now _
    · rw [if_pos c1]; intro h; exact absurd h (by decide)
  simp only [if_neg c1, if_neg (show ¬ (l.length : Int) > 100 by omega)]
  by_cases c2 : ∃ w ∈ l, w < 0
  · simp only [if_pos c2]
    exact ⟨[], byl0_neg (by omega) l [] 0 rfl rfl c2, fun _ => rfl, fun h => absurd h (by decide)⟩
  simp only [if_neg c2]
  have hpos : ∀ w ∈ l, ¬ w < 0 := fun w hw h => c2 ⟨w, hw, h⟩
  have hcs := csum_f hl (by omega)
  have main : ∀ r : List Int × Int, Ev (fun k => if (sumS 0 l).2 = 0 then (if (sumS 0 l).1 = 0 then (some (([] : List Int), 3)) else ((split_size.f a).bind fun t154 => (split_By.l1 k a (sumS 0 l).1 t154 ([] : List S52) l (l.length : Int) 0))) else (some (([] : List Int), (sumS 0 l).2))) r → Ev (fun k => split_By.l0 k a l l (l.length : Int) 0) r := by
    intro r h
    refine byl0_pos (by omega) ?_ l [] 0 rfl rfl hpos
    refine Ev.step (fun k => ?_) (Ev.bind (f := fun k t => if t.2 = 0 then (if t.1 = 0 then (some (([] : List Int), 3)) else ((split_size.f a).bind fun t154 => (split_By.l1 k a t.1 t154 ([] : List S52) l (l.length : Int) 0))) else (some (([] : List Int), t.2))) hcs h)
    rw [split_By.l0.eq_2, if_neg (by omega)]
  by_cases c3 : (sumS 0 l).2 = 0
  · simp only [if_pos c3]
    by_cases c4 : (sumS 0 l).1 = 0
    · simp only [if_pos c4]
      refine ⟨[], main _ ?_, fun _ => rfl, fun h => absurd h (by decide)⟩
      simp only [if_pos c3, if_pos c4]; exact Ev.now _
    · simp only [if_neg c4]
      have hS1 := sum_tot l 0 c3
      have hSI : I64 (sumS 0 l).1 := sumS_i64 (by unfold I64; omega)
      rw [Int.zero_add] at hS1
      have hw0 : ∀ m, m < l.length → 0 ≤ wN l m := by
        intro m hm
        have : wN l m = l[m] := by unfold wN; rw [List.getD_eq_getElem?_getD, List.getElem?_eq_getElem hm]; rfl
        rw [this]
        have := hpos _ (List.getElem_mem hm); omega
      have hSn := tot_nonneg (f := wN l) l.length hw0
      obtain ⟨S, hS⟩ : ∃ S, S = (sumS 0 l).1 := ⟨_, rfl⟩
      rw [← hS] at hS1 hSI c4
      have hSp : 0 < S := by omega
      have hw : ∀ m, m < l.length → 0 ≤ wN l m ∧ wN l m ≤ S := fun m hm => ⟨hw0 m hm, by rw [hS1]; exact tot_one l.length hw0 hm⟩
      have hlb := left_bd (A := ab a) hSp hS1.symm
      obtain ⟨left, hleft⟩ : ∃ left : Nat, (left : Int) = ab a - tot (fun i => ab a * wN l i / S) l.length := ⟨(ab a - tot (fun i => ab a * wN l i / S) l.length).toNat, by omega⟩
      have hln : left ≤ l.length := by omega
      obtain ⟨R, hR, hRl, hE⟩ := srt_f (L := partsL (ab a) S (wN l) l.length) (by rw [parts_len]; omega)
      rw [parts_len] at hRl
      have hd := dl_of hR hln
      have hA := ab_le ha
      have hA0 := ab_nonneg a
      have hq : ∀ m, m < l.length → 0 ≤ ab a * wN l m / S := fun m hm => Int.ediv_nonneg (Int.mul_nonneg hA0 (hw m hm).1) (by omega)
      have hle : ∀ m, m < l.length → ab a * wN l m / S + (if dlt left R m = true then 1 else 0) ≤ ab a := by
        intro m hm
        have e := Int.mul_ediv_add_emod (ab a * wN l m) S
        have h1 : ab a * wN l m ≤ S * ab a := by rw [Int.mul_comm S]; exact Int.mul_le_mul_of_nonneg_left (hw m hm).2 hA0
        have hr := rest_bd (A := ab a) hSp (wN l m)
        by_cases c : dlt left R m = true
        · rw [if_pos c]
          have hne : ab a * wN l m % S ≠ 0 := fun hz => by
            have := no_rest hSp hS1.symm hleft hd hm hz
            rw [this] at c; exact absurd c (by decide)
          have : S * (ab a * wN l m / S) < S * ab a := by omega
          have := Int.lt_of_mul_lt_mul_left this (by omega)
          omega
        · rw [if_neg c]
          have : S * (ab a * wN l m / S) ≤ S * ab a := by omega
          have := Int.le_of_mul_le_mul_left this hSp
          omega
      refine ⟨fillOut a left 0 R (List.replicate l.length 0), main _ ?_, fun h => absurd rfl h, fun _ => ⟨S, left, dlt left R, hSp, hS1.symm, hSI, hleft, hln, hd, ?_, ?_, hw, hle⟩⟩
      · rw [← hS]
        simp only [if_pos c3, if_neg c4, splsize_f ha, Option.bind_some]
        have hx : ∀ (j : Nat) (h : j < R.length), 0 ≤ R[j].f0 ∧ R[j].f0 < l.length ∧ 0 ≤ R[j].f1 ∧ R[j].f1 + (if j < left then 1 else 0) ≤ ab a := by
          intro j hj
          obtain ⟨i, hi, e⟩ := (R_mem hR _).1 (List.getElem_mem hj)
          have h1 := hle i hi
          have h2 := hq i hi
          have h3 : j < left → dlt left R i = true := fun c => dlt_iff.2 ⟨R[j], List.mem_iff_getElem.2 ⟨j, by rw [List.length_take]; omega, by rw [List.getElem_take]⟩, by rw [e]; rfl⟩
          rw [e]
          refine ⟨by simp only [mkp]; omega, by simp only [mkp]; omega, h2, ?_⟩
          show ab a * wN l i / S + _ ≤ _
          by_cases c : j < left
          · rw [if_pos c]; rw [if_pos (h3 c)] at h1; exact h1
          · rw [if_neg c]; clear h3; split at h1 <;> omega
        have h2 := byl2 (a := a) (left := left) hRl (by omega) ha hx R [] (List.replicate l.length 0) 0 rfl rfl (by simp)
        refine byl1 (r := (fillOut a left 0 R (List.replicate l.length 0), 0)) ha hSp hSI (by omega) hw ?_ l.length 0 (ab a) (by omega) (by
          rw [wu64]; simp only [tot]; omega)
        intro x hx
        have hxl : x = (left : Int) := by rw [hx, wu64]; omega
        subst hxl
        refine Ev.step (fun k => ?_) (Ev.bind (f := fun k t => split_By.l2 k a (left : Int) (List.replicate l.length 0) t (l.length : Int) 0) hE (by rw [hRl] at h2; exact h2))
        rw [split_By.l1.eq_2, if_neg (by omega)]
        simp only [parts_len, hRl, if_pos (show (0 : Int) ≤ (l.length : Int) by omega), Int.toNat_natCast, if_pos (show l.length ≤ 35184372088832 by omega)]
      · rw [fill_len]; simp
      · intro m hm
        exact fill_val hR hm (by simp)
  · simp only [if_neg c3]
    refine ⟨[], main _ ?_, fun _ => rfl, fun h => absurd h c3⟩
    simp only [if_neg c3]; exact Ev.now _
end Go.Proofs.Ytjfnhhfgjomliaa.M
