import Derived.Test.YtgheapbhakamaaaQx14
import Derived.Test.YtgheapbhakamaaaQx15
import Derived.Test.YtgheapbhakamaaaGR
/- the reference's Add, Get, Sum, Pick -/
set_option linter.unusedVariables false
set_option linter.unusedSimpArgs false
namespace Go.Proofs.Ytgheapbhakamaaa.M
open Go Go.RowKit Go.Proofs.YtgheapbhakamaaaW.PrintWords Go.Proofs.YtgheapbhakamaaaW.PrintLast Go.Proofs.YtgheapbhakamaaaW.PrintMore Go.Proofs.Ytgheapbhakamaaa.Q
theorem radd_ff {l m : List S28} (h : l.length + m.length < 1000000) (hI : ∀ x ∈ l, I64 x.f1) (hJ : ∀ x ∈ m, I64 x.f1) : Ev (fun k => ref09_Add.f k l m) ((ofS (l.map tf ++ m.map tf)).1.map uf, (ofS (l.map tf ++ m.map tf)).2) := by
 unfold ref09_Add.f
 simp only [Option.bind_some, List.nil_append, List.length_nil, Nat.zero_add, show l.length < 1759218604441 by omega, show l.length + m.length < 1759218604441 by omega, if_true]
 have := rof_f (l := l ++ m) (by simpa using h) (fun x hx => (List.mem_append.1 hx).elim (hI x) (hJ x))
 rw [List.map_append] at this
 exact Ev.bind this (Ev.now _)
theorem rget_l (key : S24) (T : List S28) : ∀ (P L : List S28) (i : Nat), L = P ++ T → P.length = i → L.length < 9223372036854775807 → Ev (fun k => ref09_Get.l0 k L (i : Int) key.f0 key.f1 key.f2 key.f3 key.f4) (lk (T.map tf) (tk key)) := by
 induction T with
 | nil =>
  intro P L i hL hi hl
  have e : P = L := by rw [hL]; simp
  subst e
  refine Ev.step (f := fun _ => some _) (fun k => ?_) (Ev.now _)
  rw [ref09_Get.l0.eq_2, if_neg (by omega)]; rfl
 | cons x T ih =>
  intro P L i hL hi hl
  have hlen : L.length = P.length + 1 + T.length := by rw [hL]; simp; omega
  have hs : (x.f0.f0.toList == key.f0.toList && (x.f0.f1.toList == key.f1.toList && (x.f0.f2.toList == key.f2.toList && (x.f0.f3.toList == key.f3.toList && (x.f0.f4 == key.f4))))) = decide ((tf x).f0 = tk key) := by
   rw [Bool.eq_iff_iff]
   simp only [byte_eq, tf, tk, S40.mk.injEq, Bool.and_eq_true, decide_eq_true_eq, beq_iff_eq]
  rw [List.map_cons]
  by_cases c : (tf x).f0 = tk key
  ·have : lk (tf x :: T.map tf) (tk key) = x.f1 := by unfold lk; rw [List.find?_cons_of_pos (by simpa using c)]; rfl
   rw [this]
   refine Ev.step (f := fun _ => some _) (fun k => ?_) (Ev.now _)
   rw [ref09_Get.l0.eq_2, if_pos (by omega), if_pos (by omega), rd28 hL hi, hs, if_pos (by simpa using c)]
  ·have : lk (tf x :: T.map tf) (tk key) = lk (T.map tf) (tk key) := by unfold lk; rw [List.find?_cons_of_neg (by simpa using c)]
   rw [this]
   refine Ev.step (fun k => ?_) (ih (P ++ [x]) L (i + 1) (by rw [hL]; simp) (by simp; omega) hl)
   rw [ref09_Get.l0.eq_2, if_pos (by omega), if_pos (by omega), rd28 hL hi, hs, if_neg (by simpa using c), w_one i (by omega)]
theorem rget_f {l : List S28} (key : S24) (h : l.length < 9223372036854775807) : Ev (fun k => ref09_Get.f k l key.f0 key.f1 key.f2 key.f3 key.f4) (lk (l.map tf) (tk key)) := rget_l key l [] l 0 rfl rfl h
theorem eq_swap (a b : ByteArray) : (a.toList = b.toList) ↔ (b.toList == a.toList) = true := by rw [beq_iff_eq]; exact eq_comm
theorem rsums_l (a b c : ByteArray) (T : List S28) : ∀ (P L : List S28) (acc : List Int) (i : Nat), L = P ++ T → P.length = i → L.length < 1000000 → acc.length ≤ P.length → (∀ x ∈ acc, I64 x) → (∀ x ∈ T, I64 x.f1) → Ev (fun k => ref09_Sum.l0 k L a b c acc (i : Int)) (sumS 0 (acc ++ selA a b c (T.map tf))) := by
 induction T with
 | nil =>
  intro P L acc i hL hi hl ha hacc hI
  have e : P = L := by rw [hL]; simp
  subst e
  refine Ev.step (f := fun k => (ref01_Sum.f k acc).bind fun bt371 => some (bt371.1, bt371.2)) (fun k => ?_) (Ev.bind (rsum_f hacc (by omega)) ?_)
  ·rw [ref09_Sum.l0.eq_2, if_neg (by omega)]
  ·have : selA a b c (([] : List S28).map tf) = [] := rfl
   rw [this, List.append_nil]; exact Ev.now _
 | cons x T ih =>
  intro P L acc i hL hi hl ha hacc hI
  have hlen : L.length = P.length + 1 + T.length := by rw [hL]; simp; omega
  have hx := hI x List.mem_cons_self
  have hIT : ∀ y ∈ T, I64 y.f1 := fun y hy => hI y (List.mem_cons_of_mem _ hy)
  have hac : acc.length < 17592186044416 := by omega
  have e : ∀ k, ref09_Sum.l0 (k + 1) L a b c acc (i : Int) = if selE a b c (tk x.f0) = true then ref09_Sum.l0 k L a b c (acc ++ [x.f1]) ((i + 1 : Nat) : Int) else ref09_Sum.l0 k L a b c acc ((i + 1 : Nat) : Int) := fun k => by
   rw [ref09_Sum.l0.eq_2, if_pos (by omega), if_pos (by omega), rd28 hL hi, w_one i (by omega)]
   simp only [hac, if_true, selE, anyB, tk, eq_swap x.f0.f0, eq_swap x.f0.f1, eq_swap x.f0.f2]
   by_cases p0 : a.toList = [] <;> by_cases p1 : b.toList = [] <;> by_cases p2 : c.toList = [] <;> by_cases q0 : (a.toList == x.f0.f0.toList) = true <;> by_cases q1 : (b.toList == x.f0.f1.toList) = true <;> by_cases q2 : (c.toList == x.f0.f2.toList) = true <;> simp only [p0, p1, p2, q0, q1, q2, if_true, if_false, Bool.not_eq_true] at * <;> simp_all
  rw [List.map_cons]
  by_cases s : selE a b c (tk x.f0) = true
  ·have hsel : selA a b c (tf x :: T.map tf) = x.f1 :: selA a b c (T.map tf) := by unfold selA; rw [List.filter_cons_of_pos (by exact s)]; rfl
   rw [hsel]
   have := ih (P ++ [x]) L (acc ++ [x.f1]) (i + 1) (by rw [hL]; simp) (by simp; omega) hl (by simp; omega) (fun y hy => by
    rcases List.mem_append.1 hy with hy | hy
    ·exact hacc y hy
    ·obtain rfl := List.mem_singleton.1 hy; exact hx) hIT
   rw [List.append_assoc] at this
   exact Ev.step (fun k => by rw [e, if_pos s]) this
  ·have hsel : selA a b c (tf x :: T.map tf) = selA a b c (T.map tf) := by unfold selA; rw [List.filter_cons_of_neg (by exact s)]
   rw [hsel]
   exact Ev.step (fun k => by rw [e, if_neg s]) (ih (P ++ [x]) L acc (i + 1) (by rw [hL]; simp) (by simp; omega) hl (by simp; omega) hacc hIT)
theorem rsums_f (a b c : ByteArray) {l : List S28} (h : l.length < 1000000) (hI : ∀ x ∈ l, I64 x.f1) : Ev (fun k => ref09_Sum.f k l a b c) (sumS 0 (selA a b c (l.map tf))) := rsums_l a b c l [] l [] 0 rfl rfl h (Nat.le_refl _) (by simp) hI
theorem rpick_l (a : ByteArray) (m : Int) (T : List S28) : ∀ (P L acc : List S28) (i : Nat), L = P ++ T → P.length = i → L.length < 1000000 → acc.length ≤ P.length → Ev (fun k => ref09_Pick.l0 k L a m acc (i : Int)) (acc ++ ((T.map tf).filter (pickP a m)).map uf) := by
 induction T with
 | nil =>
  intro P L acc i hL hi hl ha
  have e : P = L := by rw [hL]; simp
  subst e
  refine Ev.step (f := fun _ => some _) (fun k => ?_) (Ev.now _)
  rw [ref09_Pick.l0.eq_2, if_neg (by omega)]; simp
 | cons x T ih =>
  intro P L acc i hL hi hl ha
  have hlen : L.length = P.length + 1 + T.length := by rw [hL]; simp; omega
  have hac : acc.length < 1759218604441 := by omega
  have e : ∀ k, ref09_Pick.l0 (k + 1) L a m acc (i : Int) = if pickP a m (tf x) = true then ref09_Pick.l0 k L a m (acc ++ [x]) ((i + 1 : Nat) : Int) else ref09_Pick.l0 k L a m acc ((i + 1 : Nat) : Int) := fun k => by
   have h0 : (0 : Int) ≤ (i : Int) := by omega
   rw [ref09_Pick.l0.eq_2, if_pos (by omega), rd28 hL hi, w_one i (by omega)]
   have hxe : (⟨(⟨x.f0.f0, x.f0.f1, x.f0.f2, x.f0.f3, x.f0.f4⟩ : S24), x.f1⟩ : S28) = x := rfl
   simp only [hac, h0, if_true, pickP, anyB, tf, tk, eq_swap x.f0.f0, hxe]
   by_cases p0 : a.toList = [] <;> by_cases q0 : (a.toList == x.f0.f0.toList) = true <;> by_cases p1 : m < 0 <;> by_cases p2 : x.f0.f4 = m <;> simp_all
  rw [List.map_cons]
  by_cases s : pickP a m (tf x) = true
  ·rw [List.filter_cons_of_pos s, List.map_cons]
   have := ih (P ++ [x]) L (acc ++ [x]) (i + 1) (by rw [hL]; simp) (by simp; omega) hl (by simp; omega)
   rw [List.append_assoc] at this
   exact Ev.step (fun k => by rw [e, if_pos s]) this
  ·rw [List.filter_cons_of_neg s]
   exact Ev.step (fun k => by rw [e, if_neg s]) (ih (P ++ [x]) L acc (i + 1) (by rw [hL]; simp) (by simp; omega) hl (by simp; omega))
theorem rpick_f (a : ByteArray) (m : Int) {l : List S28} (h : l.length < 1000000) : Ev (fun k => ref09_Pick.f k l a m) (((l.map tf).filter (pickP a m)).map uf) := by
 have := rpick_l a m l [] l [] 0 rfl rfl h (Nat.le_refl _)
 rw [List.nil_append] at this
 exact this
end Go.Proofs.Ytgheapbhakamaaa.M
