import Derived.Test.YtgheapbhakamaaaQx11
import Derived.Test.YtgheapbhakamaaaGM
import Derived.Test.YtgheapbhakamaaaQx12
import Derived.Test.YtgheapbhakamaaaGC

/- several texts of this session in one -/
set_option linter.unusedVariables false
set_option linter.unusedSimpArgs false
namespace Go.Proofs.Ytgheapbhakamaaa.M
open Go.RowKit Go.Proofs.YtgheapbhakamaaaW.PrintWords Go.Proofs.YtgheapbhakamaaaW.PrintLast Go.Proofs.YtgheapbhakamaaaW.PrintMore Go.Proofs.Ytgheapbhakamaaa.Q
theorem radd_f {a b : Int} (ha : I64 a) (hb : I64 b) : ref01_Add.f a b = some (addS a b) := by
 have e1 : b > 0 → wrap64 (9223372036854775807 - b) = 9223372036854775807 - b := fun h => w64_in (by unfold I64 at *; omega)
 have e2 : b < 0 → wrap64 (-9223372036854775808 - b) = -9223372036854775808 - b := fun h => w64_in (by unfold I64 at *; omega)
 unfold ref01_Add.f addS
 by_cases c1 : b > 0
 ·rw [if_pos c1, e1 c1, if_neg (show ¬ b < 0 by omega)]
  by_cases c : I64 (a + b)
  ·rw [if_pos c, if_neg (by unfold I64 at c; omega), w64_in c]
  ·rw [if_neg c, if_pos (by unfold I64 at *; omega)]
 ·rw [if_neg c1]
  by_cases c2 : b < 0
  ·rw [if_pos c2, e2 c2]
   by_cases c : I64 (a + b)
   ·rw [if_pos c, if_neg (by unfold I64 at c; omega), w64_in c]
   ·rw [if_neg c, if_pos (by unfold I64 at *; omega)]
  ·have c : I64 (a + b) := by unfold I64 at *; omega
   rw [if_neg c2, if_pos c, w64_in c]
theorem rsuml_f (T : List Int) : ∀ (P : List Int) (n : Int) (i : Nat), (∀ x ∈ T, I64 x) → I64 n → P.length = i → i + T.length ≤ 9223372036854775807 →
  Ev (fun k => ref01_Sum.l0 k (P ++ T) n (i : Int)) (sumS n T) := by
 induction T with
 | nil =>
  intro P n i hT hn hi hL
  refine Ev.step (f := fun _ => some _) (fun k => ?_) (Ev.now _)
  rw [ref01_Sum.l0.eq_2, if_neg (by simp; omega)]; rfl
 | cons x T ih =>
  intro P n i hT hn hi hL
  have hx := hT x List.mem_cons_self
  have r : rd (P ++ x :: T) (i : Int) = x := by unfold rd; rw [Int.toNat_natCast]; exact rd_int rfl hi
  have hlen : ((P ++ x :: T).length : Int) = i + 1 + T.length := by simp; omega
  simp only [List.length_cons] at hL
  by_cases c : I64 (n + x)
  ·have := ih (P ++ [x]) (n + x) (i + 1) (fun y hy => hT y (List.mem_cons_of_mem _ hy)) c (by simp; omega) (by omega)
   rw [show P ++ [x] ++ T = P ++ x :: T by simp] at this
   have e : sumS n (x :: T) = sumS (n + x) T := by show (if _ then _ else _) = _; rw [if_pos c]
   rw [e]
   refine Ev.step (fun k => ?_) this
   rw [ref01_Sum.l0.eq_2, if_pos (by omega), if_pos (by omega), r, radd_f hn hx, addS, if_pos c]
   simp only [Option.bind_some, if_true]
   rw [w64_in (by unfold I64; omega)]; rfl
  ·have e : sumS n (x :: T) = (0, 2) := by show (if _ then _ else _) = _; rw [if_neg c]
   rw [e]
   refine Ev.step (f := fun _ => some _) (fun k => ?_) (Ev.now _)
   rw [ref01_Sum.l0.eq_2, if_pos (by omega), if_pos (by omega), r, radd_f hn hx, addS, if_neg c]
   simp
theorem rsum_f {L : List Int} (hL : ∀ x ∈ L, I64 x) (hl : L.length ≤ 9223372036854775807) : Ev (fun k => ref01_Sum.f k L) (sumS 0 L) := by
 unfold ref01_Sum.f
 have := rsuml_f L [] 0 0 hL (by unfold I64; omega) rfl (by omega)
 simpa using this
open Go Go.RowKit Go.Proofs.YtgheapbhakamaaaW.PrintWords Go.Proofs.YtgheapbhakamaaaW.PrintLast Go.Proofs.YtgheapbhakamaaaW.PrintMore Go.Proofs.Ytgheapbhakamaaa.Q
theorem rcmp_k (a b : S24) (k : Nat) (hk : 6 ≤ k) : ref09_Cmp.f k a.f0 a.f1 a.f2 a.f3 a.f4 b.f0 b.f1 b.f2 b.f3 b.f4 = some (cmpK (tk a) (tk b)) := rcmp_f (tk a) (tk b) k hk
theorem keys_l1 {L0 : List S28} {x : S28} {j : Nat} {r : List S24} (hx : rd_T28 L0 (j : Int) = x) (hj : j < L0.length) (hj2 : L0.length < 1954687338268) (d : Bool → List S40 → List S40) (hd : d = fun b l => if b then l else ins (tk x.f0) l) (T : List S24) :
  ∀ (P L acc : List S24) (b : Bool) (i : Nat), L = P ++ T → P.length = i → acc.length + 2 * T.length + 1 < 1954687338268 → L.length < 1954687338268 →
   (Ev (fun k => ref09_keys.l0 k L0 (acc ++ (d b (T.map tk)).map uk) ((j + 1 : Nat) : Int)) r) → Ev (fun k => ref09_keys.l1 k L0 L (j : Int) acc b (i : Int)) r := by
 subst hd
 induction T with
 | nil =>
  intro P L acc b i hL hi ha hl hr
  have e : P = L := by rw [hL]; simp
  subst e
  cases b with
  | true =>
   simp only [List.map_nil, if_true, List.append_nil] at hr
   refine Ev.step (fun k => ?_) hr
   rw [ref09_keys.l1.eq_2, if_neg (by omega), if_pos rfl, w_one j (by omega)]
  | false =>
   simp only [List.map_nil, Bool.false_eq_true, if_false] at hr
   refine Ev.step (fun k => ?_) hr
   rw [ref09_keys.l1.eq_2, if_neg (by omega), if_neg (by simp), if_pos (by omega), if_pos (by omega), if_pos (by simp at ha; omega), hx, w_one j (by omega)]
   rfl
 | cons y T ih =>
  intro P L acc b i hL hi ha hl hr
  simp only [List.length_cons] at ha
  have hlen : L.length = P.length + 1 + T.length := by rw [hL]; simp; omega
  have e : ∀ k, 6 ≤ k → ref09_keys.l1 (k + 1) L0 L (j : Int) acc b (i : Int) = if cmpK (tk x.f0) (tk y) = 0 then ref09_keys.l1 k L0 L (j : Int) (acc ++ [y]) true ((i + 1 : Nat) : Int) else if cmpK (tk x.f0) (tk y) < 0 then (if b = true then ref09_keys.l1 k L0 L (j : Int) (acc ++ [y]) b ((i + 1 : Nat) : Int) else if acc.length < 1954687338268 then ref09_keys.l1 k L0 L (j : Int) (acc ++ [x.f0] ++ [y]) true ((i + 1 : Nat) : Int) else none) else ref09_keys.l1 k L0 L (j : Int) (acc ++ [y]) b ((i + 1 : Nat) : Int) := fun k hk => by
   rw [ref09_keys.l1.eq_2, if_pos (by omega), if_pos (by omega), if_pos (by omega), if_pos (by omega), hx, rd24 hL hi, rcmp_k _ _ k hk, w_one i (by omega)]
   simp only [Option.bind_some]
   by_cases c0 : cmpK (tk x.f0) (tk y) = 0
   ·rw [if_pos c0, if_neg (by omega), if_pos (by omega), if_pos c0]
   ·rw [if_neg c0, if_neg c0]
    by_cases c1 : cmpK (tk x.f0) (tk y) < 0
    ·rw [if_pos c1, if_pos c1]
     cases b with
     | true => rw [if_pos rfl, if_pos rfl, if_pos (by omega)]
     | false =>
      have ha' : acc.length < 1954687338268 := by omega
      simp only [Bool.false_eq_true, if_false, ha', if_true, Option.bind_some]
      rw [if_pos (by simp; omega)]

    ·rw [if_neg c1, if_neg c1, if_pos (by omega)]
  by_cases c0 : cmpK (tk x.f0) (tk y) = 0
  ·refine stepK 6 (fun k hk => by rw [e k hk, if_pos c0]) (ih (P ++ [y]) L (acc ++ [y]) true (i + 1) (by rw [hL]; simp) (by simp; omega) (by simp; omega) hl ?_)
   refine Ev.congr (fun k => ?_) hr
   congr 1
   cases b <;> simp [ins, c0, uk_tk]
  by_cases c1 : cmpK (tk x.f0) (tk y) < 0
  ·cases b with
   | true =>
    refine stepK 6 (fun k hk => by rw [e k hk, if_neg c0, if_pos c1, if_pos rfl]) (ih (P ++ [y]) L (acc ++ [y]) true (i + 1) (by rw [hL]; simp) (by simp; omega) (by simp; omega) hl ?_)
    refine Ev.congr (fun k => ?_) hr
    congr 1
    simp [uk_tk]
   | false =>
    refine stepK 6 (fun k hk => by rw [e k hk, if_neg c0, if_pos c1, if_neg (by simp), if_pos (by omega)]) (ih (P ++ [y]) L (acc ++ [x.f0] ++ [y]) true (i + 1) (by rw [hL]; simp) (by simp; omega) (by simp; omega) hl ?_)
    refine Ev.congr (fun k => ?_) hr
    congr 1
    simp [ins, c0, c1, uk_tk]
  ·refine stepK 6 (fun k hk => by rw [e k hk, if_neg c0, if_neg c1]) (ih (P ++ [y]) L (acc ++ [y]) b (i + 1) (by rw [hL]; simp) (by simp; omega) (by simp; omega) hl ?_)
   refine Ev.congr (fun k => ?_) hr
   congr 1
   cases b <;> simp [ins, c0, c1, uk_tk]
theorem keys_l0 (T : List S28) : ∀ (P L : List S28) (j : Nat) (ks : List S40), L = P ++ T → P.length = j → ks.length + T.length < 1000000 → L.length < 1000000 → Ev (fun k => ref09_keys.l0 k L (ks.map uk) (j : Int)) ((keysFrom ks (T.map tf)).map uk) := by
 induction T with
 | nil =>
  intro P L j ks hL hj hk hl
  have e : P = L := by rw [hL]; simp
  subst e
  refine Ev.step (f := fun _ => some _) (fun k => ?_) (Ev.now _)
  rw [ref09_keys.l0.eq_2, if_neg (by omega)]; rfl
 | cons x T ih =>
  intro P L j ks hL hj hk hl
  simp only [List.length_cons] at hk
  have hlen : L.length = P.length + 1 + T.length := by rw [hL]; simp; omega
  have hln := len_ins (k := tk x.f0) (l := ks)
  have := ih (P ++ [x]) L (j + 1) (ins (tk x.f0) ks) (by rw [hL]; simp) (by simp; omega) (by omega) hl
  have h1 := keys_l1 (r := (keysFrom (ins (tk x.f0) ks) (T.map tf)).map uk) (rd28 hL hj) (by omega) (by omega) _ rfl (ks.map uk) [] (ks.map uk) [] false 0 rfl rfl (by simp; omega) (by simp; omega) (by
   refine Ev.congr (fun k => ?_) this
   congr 1
   simp only [Bool.false_eq_true, if_false, List.nil_append, List.map_map]
   congr 1
   exact congrArg _ (List.map_id ks))
  refine Ev.step (fun k => ?_) h1
  rw [ref09_keys.l0.eq_2, if_pos (by omega)]; rfl
theorem keys_f {l : List S28} (h : l.length < 1000000) : Ev (fun k => ref09_keys.f k l) ((keysS (l.map tf)).map uk) := keys_l0 l [] l 0 [] rfl rfl (by simpa using h) h
theorem rof_l1 {L : List S28} {K : List S24} {out : List S28} {a : S24} {j : Nat} {r : List S28 × Int} (ha : rd_T24 K (j : Int) = a) (hj : j < K.length) (T : List S28) : ∀ (P : List S28) (acc : List Int) (i : Nat), L = P ++ T → P.length = i → L.length < 1000000 → acc.length ≤ P.length →
  (∀ acc', acc' = acc ++ am (T.map tf) (tk a) → Ev (fun k => (ref01_Sum.f k acc').bind fun bt277 => (if bt277.2 = 0 then (if bt277.1 = 0 then (ref09_Of.l0 k L K out (wrap64 ((j : Int) + 1))) else (if 0 ≤ (j : Int) then (if (j : Int) < (K.length : Int) then (if out.length < 1759218604441 then (ref09_Of.l0 k L K (out ++ [(⟨a, bt277.1⟩ : S28)]) (wrap64 ((j : Int) + 1))) else (none)) else (none)) else (none))) else (some (([] : List (S28)), bt277.2)))) r) →
  Ev (fun k => ref09_Of.l1 k L K out (j : Int) acc (i : Int)) r := by
 induction T with
 | nil =>
  intro P acc i hL hi hl hacc hr
  have e : P = L := by rw [hL]; simp
  subst e
  refine Ev.step (fun k => ?_) (hr _ rfl)
  rw [ref09_Of.l1.eq_2, if_neg (by omega), ha]
  simp [am]
 | cons x T ih =>
  intro P acc i hL hi hl hacc hr
  have hlen : L.length = P.length + 1 + T.length := by rw [hL]; simp; omega
  have hs : (x.f0.f0.toList == a.f0.toList && (x.f0.f1.toList == a.f1.toList && (x.f0.f2.toList == a.f2.toList && (x.f0.f3.toList == a.f3.toList && (x.f0.f4 == a.f4))))) = decide ((tf x).f0 = tk a) := by
   rw [Bool.eq_iff_iff]
   simp only [byte_eq, tf, tk, S40.mk.injEq, Bool.and_eq_true, decide_eq_true_eq, beq_iff_eq]
  by_cases c : (tf x).f0 = tk a
  ·have := ih (P ++ [x]) (acc ++ [x.f1]) (i + 1) (by rw [hL]; simp) (by simp; omega) hl (by simp; omega) (fun acc' h => hr acc' (by rw [h]; simp [am, c]; rfl))
   refine Ev.step (fun k => ?_) this
   rw [ref09_Of.l1.eq_2, if_pos (by omega), if_pos (by omega), if_pos (by omega), if_pos (by omega), rd28 hL hi, ha, hs, if_pos (by simpa using c), if_pos (by omega), w_one i (by omega)]
  ·have := ih (P ++ [x]) acc (i + 1) (by rw [hL]; simp) (by simp; omega) hl (by simp; omega) (fun acc' h => hr acc' (by rw [h]; simp [am, c]))
   refine Ev.step (fun k => ?_) this
   rw [ref09_Of.l1.eq_2, if_pos (by omega), if_pos (by omega), if_pos (by omega), if_pos (by omega), rd28 hL hi, ha, hs, if_neg (by simpa using c), w_one i (by omega)]
theorem rof_l0 {L : List S28} (hl : L.length < 1000000) (hI : ∀ x ∈ L, I64 x.f1) (T : List S24) : ∀ (P K : List S24) (out : List S60) (j : Nat), K = P ++ T → P.length = j → K.length ≤ L.length → out.length ≤ P.length →
  Ev (fun k => ref09_Of.l0 k L K (out.map uf) (j : Int)) (((cubeS (am (L.map tf)) (T.map tk) out).1).map uf, (cubeS (am (L.map tf)) (T.map tk) out).2) := by
 induction T with
 | nil =>
  intro P K out j hK hj hk ho
  have e : P = K := by rw [hK]; simp
  subst e
  refine Ev.step (f := fun _ => some _) (fun k => ?_) (Ev.now _)
  rw [ref09_Of.l0.eq_2, if_neg (by omega), List.map_nil, cubeS, List.length_map]
  by_cases c : out.length > 2000
  ·rw [if_pos c, if_pos (by omega)]; rfl
  ·rw [if_neg c, if_neg (by omega)]
 | cons a T ih =>
  intro P K out j hK hj hk ho
  have hlen : K.length = P.length + 1 + T.length := by rw [hK]; simp; omega
  have hIa : ∀ x ∈ am (L.map tf) (tk a), I64 x := fun x hx => by
   unfold am at hx
   obtain ⟨y, hy, rfl⟩ := List.mem_map.1 hx
   obtain ⟨z, hz, rfl⟩ := List.mem_map.1 (List.mem_filter.1 hy).1
   exact hI z hz
  have hla : (am (L.map tf) (tk a)).length ≤ L.length := by unfold am; rw [List.length_map]; exact Nat.le_trans (List.length_filter_le ..) (by simp)
  have h1 := rof_l1 (out := out.map uf) (r := (((cubeS (am (L.map tf)) ((a :: T).map tk) out).1).map uf, (cubeS (am (L.map tf)) ((a :: T).map tk) out).2)) (rd24 hK hj) (by omega) L [] [] 0 rfl rfl hl (Nat.le_refl _) (fun acc' h => by
   rw [List.nil_append] at h
   subst h
   refine Ev.bind (f := fun k bt277 => (if bt277.2 = 0 then (if bt277.1 = 0 then (ref09_Of.l0 k L K (out.map uf) (wrap64 ((j : Int) + 1))) else (if 0 ≤ (j : Int) then (if (j : Int) < (K.length : Int) then (if (out.map uf).length < 1759218604441 then (ref09_Of.l0 k L K (out.map uf ++ [(⟨a, bt277.1⟩ : S28)]) (wrap64 ((j : Int) + 1))) else (none)) else (none)) else (none))) else (some (([] : List (S28)), bt277.2)))) (rsum_f hIa (by omega)) ?_
   simp only [List.map_cons, cubeS]
   by_cases c : (sumS 0 (am (L.map tf) (tk a))).2 = 0
   ·simp only [c, if_true]
    by_cases d : (sumS 0 (am (L.map tf) (tk a))).1 = 0
    ·simp only [d, if_true]
     have := ih (P ++ [a]) K out (j + 1) (by rw [hK]; simp) (by simp; omega) hk (by simp; omega)
     rw [w_one j (by omega)]; exact this
    ·simp only [d, if_false]
     have := ih (P ++ [a]) K (out ++ [⟨tk a, (sumS 0 (am (L.map tf) (tk a))).1⟩]) (j + 1) (by rw [hK]; simp) (by simp; omega) hk (by simp; omega)
     simp only [show (0 : Int) ≤ (j : Int) by omega, show (j : Int) < (K.length : Int) by omega, show (out.map uf).length < 1759218604441 by rw [List.length_map]; omega, if_true, w_one j (by omega)]
     rw [List.map_append] at this
     exact this
   ·simp only [c, if_false]; exact Ev.now _)
  refine Ev.step (fun k => ?_) h1
  rw [ref09_Of.l0.eq_2, if_pos (by omega)]; rfl
theorem rof_f {l : List S28} (h : l.length < 1000000) (hI : ∀ x ∈ l, I64 x.f1) : Ev (fun k => ref09_Of.f k l) ((ofS (l.map tf)).1.map uf, (ofS (l.map tf)).2) := by
 unfold ref09_Of.f
 refine Ev.bind (keys_f h) ?_
 have := rof_l0 h hI ((keysS (l.map tf)).map uk) [] _ [] 0 rfl rfl (by have := len_keysS (l.map tf); simpa using this) (Nat.le_refl _)
 have e : ((keysS (l.map tf)).map uk).map tk = keysS (l.map tf) := by rw [List.map_map]; exact List.map_id _
 rw [e] at this
 exact this
theorem rright_l (T : List S28) : ∀ (P L : List S28) (i : Nat) (p : Option S40), L = P ++ T → P.length = i → L.length < 9223372036854775807 → (P.map tf).getLast?.map (·.f0) = p → Ev (fun k => ref09_Right.l0 k L (i : Int)) (rc p (T.map tf) && decide (L.length ≤ 2000)) := by
 induction T with
 | nil =>
  intro P L i p hL hi hl hp
  have e : P = L := by rw [hL]; simp
  subst e
  refine Ev.step (f := fun _ => some _) (fun k => ?_) (Ev.now _)
  rw [ref09_Right.l0.eq_2, if_neg (by omega)]
  simp [rc]
  by_cases c : P.length ≤ 2000
  ·simp [c]; omega
  ·simp [c]; omega
 | cons x T ih =>
  intro P L i p hL hi hl hp
  have hlen : L.length = P.length + 1 + T.length := by rw [hL]; simp; omega
  have hih := ih (P ++ [x]) L (i + 1) (some (tf x).f0) (by rw [hL]; simp) (by simp; omega) hl (by simp)
  cases p with
  | none =>
   have hP : P = [] := by cases P with | nil => rfl | cons a t => simp at hp
   subst hP
   obtain rfl : i = 0 := by simpa using hi.symm
   rw [List.map_cons]
   unfold rc
   by_cases c0 : x.f1 = 0
   ·rw [if_pos (by exact c0)]
    refine Ev.step (f := fun _ => some _) (fun k => ?_) (Ev.now _)
    rw [ref09_Right.l0.eq_2, if_pos (by omega), if_pos (by omega), rd28 hL hi, if_pos c0]; rfl
   ·rw [if_neg (by exact c0)]
    refine Ev.step (fun k => ?_) hih
    rw [ref09_Right.l0.eq_2, if_pos (by omega), if_pos (by omega), rd28 hL hi, if_neg c0, if_neg (by simp), w_one 0 (by omega)]
  | some q =>
   obtain ⟨P', z, hP, hz⟩ := last_of hp
   obtain ⟨P0, z0, hP0, rfl, hz0⟩ : ∃ P0 z0, P = P0 ++ [z0] ∧ P0.map tf = P' ∧ tf z0 = z := by
    rcases List.eq_nil_or_concat P with rfl | ⟨P0, z0, rfl⟩
    ·simp at hP
    ·rw [List.concat_eq_append, List.map_append] at hP
     obtain ⟨h1, h2⟩ := List.append_inj' hP rfl
     exact ⟨P0, z0, by simp, h1, by simpa using h2⟩
   have hi1 : i = P0.length + 1 := by rw [← hi, hP0]; simp
   have hr : rd_T28 L ((i - 1 : Nat) : Int) = z0 := rd28 (P := P0) (R := x :: T) (by rw [hL, hP0]; simp) (by omega)
   have e : ∀ k, 6 ≤ k → ref09_Right.l0 (k + 1) L (i : Int) = if x.f1 = 0 then some false else if cmpK q (tk x.f0) ≥ 0 then some false else ref09_Right.l0 k L ((i + 1 : Nat) : Int) := fun k hk => by
    rw [ref09_Right.l0.eq_2, if_pos (by omega), if_pos (by omega), rd28 hL hi]
    by_cases c0 : x.f1 = 0
    ·rw [if_pos c0, if_pos c0]
    rw [if_neg c0, if_neg c0, if_pos (by omega), w_pred i (by omega) (by omega), if_pos (by omega), if_pos (by omega), hr, rcmp_k z0.f0 x.f0 k hk, w_one i (by omega), ← hz, ← hz0]
    simp only [Option.bind_some]
    rfl
   rw [List.map_cons]
   unfold rc
   by_cases c0 : x.f1 = 0
   ·rw [if_pos (by exact c0)]
    exact stepK (f := fun _ => some _) 6 (fun k hk => by rw [e k hk, if_pos c0]; rfl) (Ev.now _)
   by_cases c1 : cmpK q (tk x.f0) ≥ 0
   ·rw [if_neg (by exact c0), if_pos (by exact c1)]
    exact stepK (f := fun _ => some _) 6 (fun k hk => by rw [e k hk, if_neg c0, if_pos c1]; rfl) (Ev.now _)
   ·rw [if_neg (by exact c0), if_neg (by exact c1)]
    exact stepK 6 (fun k hk => by rw [e k hk, if_neg c0, if_neg c1]) hih
theorem rright_f {l : List S28} (h : l.length < 9223372036854775807) : Ev (fun k => ref09_Right.f k l) (rightS (l.map tf)) := by
 have := rright_l l [] l 0 none rfl rfl h rfl
 unfold rightS
 rw [List.length_map]
 exact this
end Go.Proofs.Ytgheapbhakamaaa.M
