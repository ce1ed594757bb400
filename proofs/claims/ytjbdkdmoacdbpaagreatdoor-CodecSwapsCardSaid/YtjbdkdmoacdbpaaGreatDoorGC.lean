import Derived.Test.YtjbdkdmoacdbpaaGreatDoorQx4
import Derived.Test.YtjbdkdmoacdbpaaGreatDoorGM
import Derived.Test.YtjbdkdmoacdbpaaGreatDoorQx8


/- several texts of this session in one -/
set_option linter.unusedVariables false
set_option linter.unusedSimpArgs false
namespace Go.Proofs.YtjbdkdmoacdbpaaGreatDoor.M
open Go Go.RowKit Go.Lib Go.Proofs.YtjbdkdmoacdbpaaGreatDoorW.PrintWords Go.Proofs.YtjbdkdmoacdbpaaGreatDoorW.PrintLast Go.Proofs.YtjbdkdmoacdbpaaGreatDoorW.PrintMore Go.Proofs.YtjbdkdmoacdbpaaGreatDoor.Q Go.Proofs.YtjbdkdmoacdbpaaGreatDoor.X Go.Proofs.YtjbdkdmoacdbpaaGreatDoor.XC
theorem head_len (n : Nat) : 7 ≤ (headTx n).length := by
  have := itoa_ne (n : Int)
  unfold headTx
  have h : 1 ≤ (itoa (n : Int)).length := List.length_pos_iff.2 this
  simp; omega
theorem line_pos (x : FF) : 11 ≤ (lineTx x).length ∨ 1 ≤ (lineTx x).length := by
  right; rw [line_ws]; simp
theorem text_cons_len (x : FF) (l : List FF) : 8 ≤ (textTx (x :: l)).length := by
  have e : bodyTx (x :: l) = lineTx x ++ bodyTx l := by unfold bodyTx; rw [List.map_cons, List.flatten_cons]
  have h := head_len (x :: l).length
  have h2 : 1 ≤ (lineTx x).length := by rw [line_ws]; simp
  unfold textTx
  rw [e, List.length_append, List.length_append]; omega
def xA : FF := ⟨⟨⟨#[69]⟩, ⟨#[97]⟩, ⟨#[102]⟩, ⟨#[]⟩, 0⟩, -5⟩
set_option maxRecDepth 100000 in
theorem alive_f : law10_alive.f = some true := by
  have t1 : textTx [xA] = [99, 117, 98, 101, 32, 49, 10, 69, 32, 97, 32, 102, 32, 45, 32, 48, 32, 45, 53, 10] := by decide +kernel
  have t0 : textTx [] = [99, 117, 98, 101, 32, 48, 10] := by decide +kernel
  have g1 : goodC [xA] (rightS [xA]) = true := by decide +kernel
  have g0 : goodC [] (rightS []) = true := by decide +kernel
  have i1 : Good [xA] := ⟨g1, fun x hx => by obtain rfl : x = xA := by simpa using hx
                                             unfold I64 xA; decide⟩
  have s1 : Small [xA] := small_of (by decide) fun x hx => by
    obtain rfl : x = xA := by simpa using hx
    unfold I64 xA
    decide
  have s0 : Small [] := small_of (by decide) (by simp)
  have p1 := print_is s1
  rw [if_pos g1] at p1
  have p0 := print_is s0
  rw [if_pos g0] at p0
  have q1 := parse_good i1 (by rw [t1]; decide)
  have q2 := parse_bad (s := [99, 117, 98, 101, 32, 49, 10]) (by decide) fun l hg ht => by
    cases l with
    | nil => rw [t0] at ht; revert ht; decide
    | cons x l => have := text_cons_len x l; rw [ht] at this; revert this; decide
  rw [t1] at p1 q1
  rw [t0] at p0
  unfold law10_alive.f
  show (some [xA]).bind _ = _
  rw [Option.bind_some, p1, Option.bind_some, q1, Option.bind_some]
  rw [show (⟨#[99, 117, 98, 101, 32, 49, 10]⟩ : ByteArray) = bs [99, 117, 98, 101, 32, 49, 10] from rfl, q2, Option.bind_some, p0, Option.bind_some]
  simp [bs_toList]
end Go.Proofs.YtjbdkdmoacdbpaaGreatDoor.M
namespace Go.Proofs.YtjbdkdmoacdbpaaGreatDoor.M
open Go Go.RowKit Go.Lib Go.Proofs.YtjbdkdmoacdbpaaGreatDoorW.PrintWords Go.Proofs.YtjbdkdmoacdbpaaGreatDoorW.PrintLast Go.Proofs.YtjbdkdmoacdbpaaGreatDoorW.PrintMore Go.Proofs.YtjbdkdmoacdbpaaGreatDoor.Q Go.Proofs.YtjbdkdmoacdbpaaGreatDoor.X Go.Proofs.YtjbdkdmoacdbpaaGreatDoor.XC
abbrev RF := S54
theorem tl_eq (a b : ByteArray) : (a.toList == b.toList) = true ↔ a = b := by rw [byte_eq, decide_eq_true_eq]
theorem same_d (T : List RF) : ∀ (P L M : List RF) (i : Nat), L = P ++ T → P.length = i → L.length ≤ 9223372036854775807 → M.length = L.length → ∃ r, Ev (fun k => ref09_Same.l0 k L M (i : Int)) r ∧ (r = true ↔ M.drop i = T) := by
  induction T with
  | nil =>
    intro P L M i hL hi hl hm
    have e : P = L := by rw [hL]; simp
    subst e
    refine ⟨true, Ev.step (f := fun _ => some _) (fun k => ?_) (Ev.now _), by simp; omega⟩
    rw [ref09_Same.l0.eq_2, if_neg (by omega)]
  | cons x T ih =>
    intro P L M i hL hi hl hm
    have hlen : L.length = P.length + 1 + T.length := by rw [hL]; simp; omega
    obtain ⟨r, h1, h2⟩ := ih (P ++ [x]) L M (i + 1) (by rw [hL]; simp) (by simp; omega) hl hm
    have hlt : i < M.length := by omega
    have hdr := List.drop_eq_getElem_cons hlt
    have hrm : rd_T54 M (i : Int) = M[i] := by unfold rd_T54; rw [Int.toNat_natCast, List.getD_eq_getElem?_getD, List.getElem?_eq_getElem hlt]; rfl
    obtain ⟨y, hy⟩ : ∃ y, M[i] = y := ⟨_, rfl⟩
    rw [hy] at hdr hrm
    by_cases he : y = x
    · subst he
      refine ⟨r, Ev.step (fun k => ?_) h1, ?_⟩
      · rw [ref09_Same.l0.eq_2, if_pos (by omega), if_pos (by omega), if_pos (by omega), rd28 hL hi, hrm, w_one i (by omega), if_neg (by simp)]
      · rw [h2, hdr]; simp
    · refine ⟨false, Ev.step (f := fun _ => some _) (fun k => ?_) (Ev.now _), ?_⟩
      · rw [ref09_Same.l0.eq_2, if_pos (by omega), if_pos (by omega), if_pos (by omega), rd28 hL hi, hrm]
        rw [if_pos]
        rw [← Bool.not_eq_false]
        intro h
        refine he ?_
        simp only [Bool.or_eq_false_iff, Bool.not_eq_false'] at h
        obtain ⟨⟨a, b, c, d, e⟩, f⟩ := h
        obtain ⟨⟨y0, y1, y2, y3, y4⟩, y5⟩ := y
        obtain ⟨⟨x0, x1, x2, x3, x4⟩, x5⟩ := x
        have a := (tl_eq _ _).1 a
        have b := (tl_eq _ _).1 b
        have c := (tl_eq _ _).1 c
        have d := (tl_eq _ _).1 d
        rw [beq_iff_eq] at e f
        subst a b c d e f
        rfl
      · rw [hdr]; simp; intro h; exact absurd h he
theorem same_is (a b : List RF) (h : a.length ≤ 9223372036854775807) : ∃ r, Ev (fun k => ref09_Same.f k a b) r ∧ (r = true ↔ a = b) := by
  unfold ref09_Same.f
  by_cases e : (a.length : Int) = b.length
  · simp only [if_pos e]
    obtain ⟨r, h1, h2⟩ := same_d a [] a b 0 rfl rfl h (by omega)
    exact ⟨r, h1, by rw [h2]; simp; exact eq_comm⟩
  · simp only [if_neg e]
    exact ⟨false, Ev.now _, by simp; intro h; subst h; exact e rfl⟩
/-- few facts of the reference, as the code has them -/
structure FewA (l : List RF) : Prop where
  len : l.length ≤ 150
  sz : ∀ x ∈ l, x.f0.f0.size ≤ 40 ∧ x.f0.f1.size ≤ 40 ∧ x.f0.f2.size ≤ 40 ∧ x.f0.f3.size ≤ 40
  ints : ∀ x ∈ l, I64 x.f0.f4 ∧ I64 x.f1
theorem FewA.small {l : List RF} (h : FewA l) : Small (l.map tf) := small_of (by rw [List.length_map]; have := h.len; omega) fun x hx => by
  obtain ⟨y, hy, rfl⟩ := List.mem_map.1 hx
  obtain ⟨a, b, c, d⟩ := h.sz y hy
  obtain ⟨e, f⟩ := h.ints y hy
  exact ⟨by show y.f0.f0.size ≤ _; omega, by show y.f0.f1.size ≤ _; omega, by show y.f0.f2.size ≤ _; omega, by show y.f0.f3.size ≤ _; omega, e, f⟩
theorem FewA.i64 {l : List RF} (h : FewA l) : ∀ x ∈ l.map tf, I64 x.f1 := fun x hx => by
  obtain ⟨y, hy, rfl⟩ := List.mem_map.1 hx
  exact (h.ints y hy).2
theorem good_len {l : List FF} (h : Good l) (hl : l.length ≤ 150) : (textTx l).length ≤ 15000 := by
  have hb := body_len (l := l) (m := 97) fun x hx => by
    obtain ⟨h3, h0, h1, h2, h4, h5⟩ := key_ok (h.key x hx)
    have := line_len x (by unfold I64; omega) (h.2 x hx)
    have a := (name_ok h0).2.1
    have b := (name_ok h1).2.1
    have c := (name_ok h2).2.1
    have d : x.f0.f3.size ≤ 12 := by rcases h3 with h3 | h3
                                     · omega
                                     · exact (name_ok h3).2.1
    omega
  have hh : (headTx l.length).length ≤ 27 := by
    have := len_itoa (n := (l.length : Int)) (by unfold I64; omega)
    unfold headTx; simp; omega
  unfold textTx
  rw [List.length_append]
  have : l.length * 97 ≤ 150 * 97 := Nat.mul_le_mul_right _ hl
  omega
theorem ints_of {l : List RF} (h : ∀ x ∈ l, g54 x) : ∀ x ∈ l, I64 x.f0.f4 ∧ I64 x.f1 := fun x hx => ⟨wf_i64 (h x hx).1.2.2.2.2, wf_i64 (h x hx).2⟩
theorem few_is {l : List RF} (h : l.length ≤ 9223372036854775807) (hg : ∀ x ∈ l, g54 x) : ∃ b, Ev (fun k => law09_Few.f k l) b ∧ (b = true → FewA l) := by
  obtain ⟨b, h1, h2⟩ := few_f h
  exact ⟨b, h1, fun hb => ⟨(h2 hb).1, (h2 hb).2, ints_of hg⟩⟩
theorem map_tf_inj {a b : List RF} (h : a.map tf = b.map tf) : a = b := by rw [← map_uf_tf a, h, map_uf_tf]
end Go.Proofs.YtjbdkdmoacdbpaaGreatDoor.M
namespace Go.Proofs.YtjbdkdmoacdbpaaGreatDoor.M
open Go Go.RowKit Go.Lib Go.Proofs.YtjbdkdmoacdbpaaGreatDoorW.PrintWords Go.Proofs.YtjbdkdmoacdbpaaGreatDoorW.PrintLast Go.Proofs.YtjbdkdmoacdbpaaGreatDoorW.PrintMore Go.Proofs.YtjbdkdmoacdbpaaGreatDoor.Q Go.Proofs.YtjbdkdmoacdbpaaGreatDoor.X Go.Proofs.YtjbdkdmoacdbpaaGreatDoor.XC
theorem cnt0 {l : List UInt8} {c : UInt8} (h : ∀ b ∈ l, b ≠ c) : l.count c = 0 := List.count_eq_zero.2 fun hc => h c hc rfl
theorem ws_32 {x : FF} (h : keyOk x.f0 = true) : (wsL x).count 32 = 5 := by
  obtain ⟨h3, h0, h1, h2, _, _⟩ := key_ok h
  have z : ∀ {l : List UInt8}, (∀ c ∈ l, okc c) → l.count 32 = 0 := fun h => cnt0 fun b hb => (h b hb).1
  unfold wsL
  simp only [List.count_append, List.count_cons_self, z (name_okc h0), z (name_okc h1), z (name_okc h2), z (part_okc h3), z (itoa_okc _)]
theorem line_32 {x : FF} (h : keyOk x.f0 = true) : (lineTx x).count 32 = 5 := by rw [line_ws, List.count_append, ws_32 h]; rfl
theorem line_10c {x : FF} (h : keyOk x.f0 = true) : (lineTx x).count 10 = 1 := by rw [line_ws, List.count_append, cnt0 fun b hb => (ws_okc h b hb).1]; rfl
theorem body_cnt {l : List FF} (h : ∀ x ∈ l, keyOk x.f0 = true) : (bodyTx l).count 10 = l.length ∧ (bodyTx l).count 32 = 5 * l.length := by
  induction l with
  | nil => exact ⟨rfl, rfl⟩
  | cons x l ih =>
    have e : bodyTx (x :: l) = lineTx x ++ bodyTx l := by unfold bodyTx; rw [List.map_cons, List.flatten_cons]
    obtain ⟨h1, h2⟩ := ih fun y hy => h y (List.mem_cons_of_mem _ hy)
    have hx := h x List.mem_cons_self
    rw [e, List.count_append, List.count_append, h1, h2, line_32 hx, line_10c hx, List.length_cons]
    omega
theorem head_cnt (n : Nat) : (headTx n).count 10 = 1 ∧ (headTx n).count 32 = 1 := by
  unfold headTx
  rw [List.count_append, List.count_append, List.count_append, List.count_append, cnt0 fun b hb => (itoa_okc _ b hb).2.1, cnt0 fun b hb => (itoa_okc _ b hb).1]
  decide
theorem text_10 {l : List FF} (h : ∀ x ∈ l, keyOk x.f0 = true) : (textTx l).count 10 = l.length + 1 := by
  unfold textTx; rw [List.count_append, (head_cnt _).1, (body_cnt h).1]; omega
theorem text_32 {l : List FF} (h : ∀ x ∈ l, keyOk x.f0 = true) : (textTx l).count 32 = 5 * l.length + 1 := by
  unfold textTx; rw [List.count_append, (head_cnt _).2, (body_cnt h).2]; omega
theorem text_plain {l : List FF} (h : ∀ x ∈ l, keyOk x.f0 = true) : ∀ c ∈ textTx l, c ≠ 9 ∧ c ≠ 35 := by
  intro c hc
  unfold textTx headTx at hc
  simp only [List.mem_append] at hc
  rcases hc with ((hc | hc) | hc) | hc
  · revert c; decide
  · exact (itoa_okc _ c hc).2.2
  · revert c; decide
  · unfold bodyTx at hc
    obtain ⟨l', hl, hc⟩ := List.mem_flatten.1 hc
    obtain ⟨x, hx, rfl⟩ := List.mem_map.1 hl
    rw [line_ws] at hc
    rcases List.mem_append.1 hc with hc | hc
    · exact (ws_okc (h x hx) c hc).2
    · obtain rfl : c = 10 := by simpa using hc
      decide
theorem text_head (l : List FF) (r : List UInt8) : ∃ t, sp 10 1 (textTx l ++ r) = headTx l.length :: t := by
  have e : textTx l ++ r = ([99, 117, 98, 101, 32] ++ itoa (l.length : Int)) ++ 10 :: (bodyTx l ++ r) := by unfold textTx headTx; simp
  rw [e, sp_cons (head_10 _) (by decide)]
  exact ⟨_, by rw [List.take_of_length_le (by simp)]; rfl⟩
theorem head_inj {m n : Nat} (hm : m ≤ 1000000) (hn : n ≤ 1000000) (h : headTx m = headTx n) : m = n := by
  unfold headTx at h
  have h := List.append_cancel_right h
  have h := List.append_cancel_left h
  have := itoa_inj (by unfold I64; omega) (by unfold I64; omega) h
  omega
theorem Good.few {l : List FF} (h : Good l) : l.length ≤ 2000 := by
  have := h.right
  unfold rightS at this
  rw [Bool.and_eq_true, decide_eq_true_eq] at this
  exact this.2
/-- a text that begins as another one's, with more lines, is none's -/
theorem more_none {A : List FF} (hA : Good A) {r : List UInt8} (hr : r.count 10 ≠ 0) : ∀ l, Good l → textTx l ≠ textTx A ++ r := by
  intro l hl e
  obtain ⟨t1, h1⟩ := text_head A r
  obtain ⟨t2, h2⟩ := text_head l []
  rw [List.append_nil, e, h1] at h2
  have hh := head_inj (by have := hA.few; omega) (by have := hl.few; omega) (List.cons.inj h2).1
  have hc := text_10 hl.key
  rw [e, List.count_append, text_10 hA.key] at hc
  omega
/-- one byte more -/
theorem byte_none {A : List FF} (hA : Good A) (k : Nat) {c : UInt8} (hc : c = 32 ∨ c = 10 ∨ c = 9 ∨ c = 35) : ∀ l, Good l → textTx l ≠ (textTx A).take k ++ [c] ++ (textTx A).drop k := by
  intro l hl e
  have h10 := text_10 hl.key
  have h32 := text_32 hl.key
  have a10 := text_10 hA.key
  have a32 := text_32 hA.key
  have key : ∀ b : UInt8, (textTx l).count b = (textTx A).count b + [c].count b := fun b => by
    rw [e, List.count_append, List.count_append]
    conv => rhs; rw [← List.take_append_drop k (textTx A), List.count_append]
    omega
  have k10 := key 10
  have k32 := key 32
  rcases hc with rfl | rfl | rfl | rfl
  · have e1 : ([32] : List UInt8).count 10 = 0 := rfl
    have e2 : ([32] : List UInt8).count 32 = 1 := rfl
    omega
  · have e1 : ([10] : List UInt8).count 10 = 1 := rfl
    have e2 : ([10] : List UInt8).count 32 = 0 := rfl
    omega
  · exact (text_plain hl.key 9 (by rw [e]; simp)).1 rfl
  · exact (text_plain hl.key 35 (by rw [e]; simp)).2 rfl
end Go.Proofs.YtjbdkdmoacdbpaaGreatDoor.M
