import Derived.Test.YtjbdkdmoacdbpaaGreatDoorQx6
import Derived.Test.YtjbdkdmoacdbpaaGreatDoorQx7
import Derived.Test.YtjbdkdmoacdbpaaGreatDoorQx8
import Derived.Test.YtjbdkdmoacdbpaaGreatDoorZ10
import Derived.Test.YtjbdkdmoacdbpaaGreatDoorGC
/- what the reference's Print and Parse of cubes tell -/
set_option linter.unusedVariables false
set_option linter.unusedSimpArgs false
set_option linter.unusedVariables false
set_option linter.unusedSimpArgs false
namespace Go.Proofs.YtjbdkdmoacdbpaaGreatDoor.M
open Go Go.RowKit Go.Lib Go.Proofs.YtjbdkdmoacdbpaaGreatDoorW.PrintWords Go.Proofs.YtjbdkdmoacdbpaaGreatDoorW.PrintLast Go.Proofs.YtjbdkdmoacdbpaaGreatDoorW.PrintMore Go.Proofs.YtjbdkdmoacdbpaaGreatDoor.Q Go.Proofs.YtjbdkdmoacdbpaaGreatDoor.X Go.Proofs.YtjbdkdmoacdbpaaGreatDoor.XC
theorem name_ev (s : ByteArray) (h : s.size ≤ 100000) : Ev (fun k => ref05_Name.f k s) (nameB s) := by
  obtain ⟨l, rfl⟩ := bs_eta s
  rw [bs_size] at h
  rw [nameB_bs]
  exact rname_f (by omega)
/-- the strings of a fact are short -/
def Short (x : RF) : Prop := x.f0.f0.size ≤ 20000 ∧ x.f0.f1.size ≤ 20000 ∧ x.f0.f2.size ≤ 20000 ∧ x.f0.f3.size ≤ 20000 ∧ I64 x.f0.f4 ∧ I64 x.f1
theorem nil_size (p : ByteArray) : (p.toList = ([] : List UInt8)) ↔ p.size = 0 := by
  rw [Lib.toList_data]
  constructor
  · intro h
    show p.data.size = 0
    rw [← Array.length_toList, h]; rfl
  · intro h
    rw [size0 h]
theorem named_ev (x : RF) (h : Short x) : Ev (fun k => ref10_named.f k x.f0.f0 x.f0.f1 x.f0.f2 x.f0.f3 x.f0.f4) (keyOk (tk x.f0)) := by
  obtain ⟨h0, h1, h2, h3, _, _⟩ := h
  have e : keyOk (tk x.f0) = ((decide (x.f0.f3.size = 0) || nameB x.f0.f3) && (nameB x.f0.f0 && (nameB x.f0.f1 && (nameB x.f0.f2 && (decide (0 ≤ x.f0.f4) && decide (x.f0.f4 ≤ 4)))))) := rfl
  rw [e]
  have last : ∀ b : Bool, b = true → Ev (fun k : Nat => if x.f0.f4 ≥ 0 then some (decide (x.f0.f4 ≤ 4)) else some false) (b && (decide (0 ≤ x.f0.f4) && decide (x.f0.f4 ≤ 4))) := fun b hb => by
    subst hb
    by_cases c : x.f0.f4 ≥ 0
    · simp only [if_pos c, Bool.true_and, decide_eq_true (show 0 ≤ x.f0.f4 from c)]; exact Ev.now _
    · simp only [if_neg c, Bool.true_and, decide_eq_false (show ¬ 0 ≤ x.f0.f4 from c), Bool.false_and]; exact Ev.now _
  unfold ref10_named.f
  refine Ev.bind (name_ev _ (by omega)) ?_
  cases nameB x.f0.f0 with
  | false => simp; exact Ev.now _
  | true =>
  simp only [if_true, Bool.true_and]
  refine Ev.bind (name_ev _ (by omega)) ?_
  cases nameB x.f0.f1 with
  | false => simp; exact Ev.now _
  | true =>
  simp only [if_true, Bool.true_and]
  refine Ev.bind (name_ev _ (by omega)) ?_
  cases nameB x.f0.f2 with
  | false => simp; exact Ev.now _
  | true =>
  simp only [if_true, Bool.true_and]
  by_cases c : x.f0.f3.size = 0
  · simp only [if_pos ((nil_size _).2 c), decide_eq_true c, Bool.true_or]
    exact last true rfl
  · simp only [if_neg (fun h => c ((nil_size _).1 h)), decide_eq_false c, Bool.false_or]
    refine Ev.bind (name_ev _ (by omega)) ?_
    cases nameB x.f0.f3 with
    | false => simp; exact Ev.now _
    | true => simp only [if_true]; exact last true rfl
theorem ba_ext {a b : ByteArray} (h : a.data.toList = b.data.toList) : a = b := by rw [← bs_data a, ← bs_data b, h]
theorem cat (acc : List UInt8) (x : RF) (d : ByteArray) (hd : d = partB x.f0.f3) : ((((((((((((bs acc ++ x.f0.f0) ++ (⟨#[32]⟩ : ByteArray)) ++ x.f0.f1) ++ (⟨#[32]⟩ : ByteArray)) ++ x.f0.f2) ++ (⟨#[32]⟩ : ByteArray)) ++ d) ++ (⟨#[32]⟩ : ByteArray)) ++ bs (itoa x.f0.f4)) ++ (⟨#[32]⟩ : ByteArray)) ++ bs (itoa x.f1)) ++ (⟨#[10]⟩ : ByteArray)) = bs (acc ++ lineTx (tf x)) := by
  subst hd
  refine ba_ext ?_
  rw [bs_dataL, line_ws]
  unfold wsL
  simp [ByteArray.data_append, bs_dataL, tf, tk]
theorem evy {α : Type} {g f : Nat → Option α} {r : α} {c : Prop} [Decidable c] (hc : c) (h : Ev g r) : Ev (fun k => if c then g k else f k) r := by simp only [if_pos hc]; exact h
theorem sz32 : ByteArray.size ⟨#[32]⟩ = 1 := rfl
theorem sz10 : ByteArray.size ⟨#[10]⟩ = 1 := rfl
theorem sz45 : ByteArray.size ⟨#[45]⟩ = 1 := rfl
set_option maxHeartbeats 8000000 in
theorem rprint_l (T : List RF) : ∀ (P L : List RF) (acc : List UInt8) (i : Nat), L = P ++ T → P.length = i → L.length ≤ 20001 → (∀ x ∈ L, Short x) → acc.length ≤ 1000 + 80049 * i → Ev (fun k => ref10_Print.l0 k L (bs acc) (i : Int)) (if ((T.map tf).all fun x => keyOk x.f0) = true then (bs (acc ++ bodyTx (T.map tf)), 0) else (bs [], 1)) := by
  induction T with
  | nil =>
    intro P L acc i hL hi hl hs ha
    have e : P = L := by rw [hL]; simp
    subst e
    refine Ev.step (f := fun _ => some _) (fun k => ?_) (Ev.now _)
    rw [ref10_Print.l0.eq_2, if_neg (by omega)]
    simp [bodyTx]
  | cons x T ih =>
    intro P L acc i hL hi hl hs ha
    have hlen : L.length = P.length + 1 + T.length := by rw [hL]; simp; omega
    have hx := hs x (by rw [hL]; simp)
    have hx' := hx
    obtain ⟨h0, h1, h2, h3, h4, h5⟩ := hx'
    have hll := line_len (tf x) h4 h5
    have hp3 := part_len x.f0.f3
    have a4 := len_itoa h4
    have a1 := len_itoa h5
    have hll' : (lineTx (tf x)).length ≤ x.f0.f0.size + x.f0.f1.size + x.f0.f2.size + x.f0.f3.size + 49 := hll
    have hih := ih (P ++ [x]) L (acc ++ lineTx (tf x)) (i + 1) (by rw [hL]; simp) (by simp; omega) hl hs (by rw [List.length_append]; omega)
    refine Ev.step (fun k => by rw [ref10_Print.l0.eq_2, if_pos (by omega), if_pos (by omega), rd28 hL hi]) ?_
    refine Ev.bind (named_ev x hx) ?_
    have hall : (((x :: T).map tf).all fun x => keyOk x.f0) = (keyOk (tk x.f0) && (T.map tf).all fun x => keyOk x.f0) := by rw [List.map_cons, List.all_cons]; rfl
    have hbd : acc ++ bodyTx ((x :: T).map tf) = acc ++ lineTx (tf x) ++ bodyTx (T.map tf) := by rw [List.map_cons]; unfold bodyTx; rw [List.map_cons, List.flatten_cons]; simp
    rw [hall, hbd]
    cases keyOk (tk x.f0) with
    | false => simp; exact Ev.now _
    | true =>
    simp only [if_true, Bool.true_and]
    by_cases c : x.f0.f3.size = 0
    · have hd : (⟨#[45]⟩ : ByteArray) = partB x.f0.f3 := by unfold partB; rw [if_pos c]
      simp only [if_pos ((nil_size _).2 c)]
      repeat (refine evy (by simp only [ByteArray.size_append, bs_size, sz32, sz10, sz45]; omega) ?_)
      refine Ev.bind (rprint_f h4) ?_
      repeat (refine evy (by simp only [ByteArray.size_append, bs_size, sz32, sz10, sz45]; omega) ?_)
      refine Ev.bind (rprint_f h5) ?_
      repeat (refine evy (by simp only [ByteArray.size_append, bs_size, sz32, sz10, sz45]; omega) ?_)
      rw [cat acc x _ hd, w_one i (by omega)]
      exact hih
    · have hd : x.f0.f3 = partB x.f0.f3 := by unfold partB; rw [if_neg c]
      simp only [if_neg (fun h => c ((nil_size _).1 h))]
      repeat (refine evy (by simp only [ByteArray.size_append, bs_size, sz32, sz10, sz45]; omega) ?_)
      refine Ev.bind (rprint_f h4) ?_
      repeat (refine evy (by simp only [ByteArray.size_append, bs_size, sz32, sz10, sz45]; omega) ?_)
      refine Ev.bind (rprint_f h5) ?_
      repeat (refine evy (by simp only [ByteArray.size_append, bs_size, sz32, sz10, sz45]; omega) ?_)
      rw [cat acc x _ hd, w_one i (by omega)]
      exact hih
def printR (l : List RF) : List UInt8 × Int := if goodC (l.map tf) (rightS (l.map tf)) = true then (textTx (l.map tf), 0) else ([], 1)
theorem rprint10_f {l : List RF} (hl : l.length ≤ 20001) (hs : ∀ x ∈ l, Short x) : Ev (fun k => ref10_Print.f k l) (bs (printR l).1, (printR l).2) := by
  unfold ref10_Print.f
  refine Ev.bind (rright_f (by omega)) ?_
  unfold printR goodC
  cases rightS (l.map tf) with
  | false => simp; exact Ev.now _
  | true =>
  simp only [if_true, Bool.true_and]
  have hi : I64 (l.length : Int) := by unfold I64; omega
  have a1 := len_itoa hi
  refine Ev.bind (rprint_f hi) ?_
  have e : (((⟨#[99, 117, 98, 101, 32]⟩ : ByteArray) ++ bs (itoa (l.length : Int))) ++ (⟨#[10]⟩ : ByteArray)) = bs (headTx l.length) := by
    refine ba_ext ?_
    unfold headTx
    simp [ByteArray.data_append, bs_dataL]
  have s5 : ByteArray.size ⟨#[99, 117, 98, 101, 32]⟩ = 5 := rfl
  repeat (refine evy (by simp only [ByteArray.size_append, bs_size, s5]; omega) ?_)
  rw [e]
  have h := rprint_l l [] l (headTx l.length) 0 rfl rfl hl hs (by unfold headTx; simp; omega)
  have hr : (if ((l.map tf).all fun x => keyOk x.f0) = true then (bs (headTx l.length ++ bodyTx (l.map tf)), (0 : Int)) else (bs [], 1)) = (bs (if ((l.map tf).all fun x => keyOk x.f0) = true then (textTx (l.map tf), (0 : Int)) else ([], 1)).1, (if ((l.map tf).all fun x => keyOk x.f0) = true then (textTx (l.map tf), (0 : Int)) else ([], 1)).2) := by
    unfold textTx
    rw [List.length_map]
    split <;> rfl
  rw [← hr]
  exact h
end Go.Proofs.YtjbdkdmoacdbpaaGreatDoor.M
