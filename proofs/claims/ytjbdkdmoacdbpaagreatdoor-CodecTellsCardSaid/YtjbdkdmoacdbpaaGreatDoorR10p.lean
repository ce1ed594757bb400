import Derived.Test.YtjbdkdmoacdbpaaGreatDoorR10
/- what the reference's Parse of cubes tells -/
set_option linter.unusedVariables false
set_option linter.unusedSimpArgs false
set_option linter.unusedVariables false
set_option linter.unusedSimpArgs false
namespace Go.Proofs.YtjbdkdmoacdbpaaGreatDoor.M
open Go Go.RowKit Go.Lib Go.Proofs.YtjbdkdmoacdbpaaGreatDoorW.PrintWords Go.Proofs.YtjbdkdmoacdbpaaGreatDoorW.PrintLast Go.Proofs.YtjbdkdmoacdbpaaGreatDoorW.PrintMore Go.Proofs.YtjbdkdmoacdbpaaGreatDoor.Q Go.Proofs.YtjbdkdmoacdbpaaGreatDoor.X Go.Proofs.YtjbdkdmoacdbpaaGreatDoor.XC
/-- a fact of six words -/
def factR (w0 w1 w2 w3 w4 w5 : List UInt8) : Option RF := if ((pS w4).2 = 0 ∧ (pS w5).2 = 0) ∧ 0 ≤ (pS w4).1 ∧ (pS w4).1 ≤ 4 then some ⟨⟨bs w0, bs w1, bs w2, dashB (bs w3), (pS w4).1⟩, (pS w5).1⟩ else none
def lineR (B : List UInt8) : Option RF := match wordsM B with
  | [w0, w1, w2, w3, w4, w5] => factR w0 w1 w2 w3 w4 w5
  | _ => none
def goR (S : List UInt8) : List UInt8 → List UInt8 → Bool → List RF → List RF × Int
  | [], B, b, acc => if (printR acc).2 = 0 ∧ (printR acc).1 = S then (acc, 0) else ([], 5)
  | c :: T, B, b, acc => if c = 10 then (if b = true then goR S T [] false acc else match lineR B with | none => ([], 5) | some x => goR S T [] false (acc ++ [x])) else goR S T (B ++ [c]) b acc
theorem words_short : ∀ (l cur : List UInt8), ∀ w ∈ wordsC cur l, w.length ≤ cur.length + l.length
  | [], cur => fun w hw => by
    unfold wordsC at hw
    split at hw
    · cases hw
    · obtain rfl : w = cur := by simpa using hw
      omega
  | c :: r, cur => fun w hw => by
    unfold wordsC at hw
    split at hw
    · split at hw
      · have := words_short r [] w hw; simp at this ⊢; omega
      · rcases List.mem_cons.1 hw with rfl | hw
        · omega
        · have := words_short r [] w hw; simp at this ⊢; omega
    · have := words_short r (cur ++ [c]) w hw; simp at this ⊢; omega
theorem cut_len (l : List UInt8) : (cutM l).length ≤ l.length := (List.takeWhile_prefix _).length_le
theorem line_short {B : List UInt8} {x : RF} (h : lineR B = some x) (hB : B.length ≤ 20000) : Short x := by
  have hw : ∀ w ∈ wordsM B, w.length ≤ 20000 := fun w hw => by
    have := words_short _ _ w hw
    have := cut_len B
    simp at *; omega
  unfold lineR at h
  split at h
  · rename_i w0 w1 w2 w3 w4 w5 he
    rw [he] at hw
    unfold factR at h
    split at h
    · obtain rfl := Option.some.inj h
      refine ⟨?_, ?_, ?_, ?_, pS_i64 _, pS_i64 _⟩
      · show (bs w0).size ≤ _; rw [bs_size]; exact hw w0 (by simp)
      · show (bs w1).size ≤ _; rw [bs_size]; exact hw w1 (by simp)
      · show (bs w2).size ≤ _; rw [bs_size]; exact hw w2 (by simp)
      · show (dashB (bs w3)).size ≤ _
        unfold dashB
        split
        · exact Nat.zero_le _
        · rw [bs_size]; exact hw w3 (by simp)
    · cases h
  · cases h
theorem bad_ev {g : Nat → Option (List RF × Int)} (h : ∀ k, g k = some ([], 5)) : Ev g ([], 5) := ⟨0, fun k _ => h k⟩
theorem rj1_f (S : List UInt8) (acc : List RF) (x5 x7 : Int) (b : Bool) (w0 w1 w2 w3 w4 w5 : List UInt8) (k0 k1 k2 k3 : ByteArray) (hk0 : k0 = bs w0) (hk1 : k1 = bs w1) (hk2 : k2 = bs w2) (hk3 : k3 = dashB (bs w3)) (h4 : w4.length ≤ 20000) (h5 : w5.length ≤ 20000) (ha : acc.length ≤ 20000) (r : List RF × Int)
    (hr : ∀ x, factR w0 w1 w2 w3 w4 w5 = some x → Ev (fun k => ref10_Parse.l0 k (bs S) (acc ++ [x]) x5 b (wrap64 (x7 + 1))) r) (hn : factR w0 w1 w2 w3 w4 w5 = none → r = ([], 5)) :
    Ev (fun k => ref10_Parse.j1 k (bs S) acc x5 b x7 ([w0, w1, w2, w3, w4, w5].map bs) k0 k1 k2 k3 0) r := by
  refine Ev.step (fun k => by rw [ref10_Parse.j1.eq_2]) ?_
  refine evy (by simp) ?_
  rw [show rdOf ByteArray.empty ([w0, w1, w2, w3, w4, w5].map bs) 4 = bs w4 from rfl, show rdOf ByteArray.empty ([w0, w1, w2, w3, w4, w5].map bs) 5 = bs w5 from rfl]
  refine Ev.bind (rparse_f w4 (by omega)) ?_
  refine evy (by simp) ?_
  refine Ev.bind (rparse_f w5 (by omega)) ?_
  have nn : ∀ h : ¬ (((pS w4).2 = 0 ∧ (pS w5).2 = 0) ∧ 0 ≤ (pS w4).1 ∧ (pS w4).1 ≤ 4), r = ([], 5) := fun h => hn (by unfold factR; rw [if_neg h])
  by_cases c1 : (pS w4).2 = 0
  case neg =>
    obtain rfl := nn (fun h => c1 h.1.1)
    simp only [if_neg c1]; exact Ev.now _
  by_cases c2 : (pS w5).2 = 0
  case neg =>
    obtain rfl := nn (fun h => c2 h.1.2)
    simp only [if_pos c1, if_neg c2]; exact Ev.now _
  by_cases c3 : (pS w4).1 < 0
  · obtain rfl := nn (fun h => by have := h.2.1; omega)
    simp only [if_pos c1, if_pos c2, if_pos c3]; exact Ev.now _
  by_cases c4 : (pS w4).1 > 4
  · obtain rfl := nn (fun h => by have := h.2.2; omega)
    simp only [if_pos c1, if_pos c2, if_neg c3, if_pos c4]; exact Ev.now _
  simp only [if_pos c1, if_pos c2, if_neg c3, if_neg c4]
  refine evy (by omega) ?_
  subst hk0 hk1 hk2 hk3
  exact hr _ (by unfold factR; rw [if_pos ⟨⟨c1, c2⟩, by omega, by omega⟩])
theorem rparse_l (S : List UInt8) (hS : S.length ≤ 20000) (T : List UInt8) : ∀ (A B : List UInt8) (b : Bool) (acc : List RF), S = A ++ B ++ T → acc.length ≤ A.length → (∀ x ∈ acc, Short x) →
    Ev (fun k => ref10_Parse.l0 k (bs S) acc (A.length : Int) b ((A.length + B.length : Nat) : Int)) (goR S T B b acc) := by
  induction T with
  | nil =>
    intro A B b acc hs ha hsh
    have hl : S.length = A.length + B.length := by rw [hs]; simp
    refine Ev.step (fun k => by rw [ref10_Parse.l0.eq_2, bs_size, if_neg (by omega)]) ?_
    refine Ev.bind (rprint10_f (by omega) hsh) ?_
    unfold goR
    by_cases c : (printR acc).2 = 0
    · by_cases d : (printR acc).1 = S
      · simp only [c, d, bs_toList, if_true, and_self]; exact Ev.now _
      · simp only [c, d, bs_toList, if_true, if_false, and_false]; exact Ev.now _
    · simp only [c, if_false, false_and]; exact Ev.now _
  | cons c T ih =>
    intro A B b acc hs ha hsh
    have hl : S.length = A.length + B.length + 1 + T.length := by rw [hs]; simp; omega
    have hbt : bt (bs S) ((A.length + B.length : Nat) : Int) = c.toNat := by rw [hs]; exact bt_bs (P := A ++ B) (by simp)
    have hw : wrap64 (((A.length + B.length : Nat) : Int) + 1) = ((A.length + (B ++ [c]).length : Nat) : Int) := by rw [w64_in (by unfold I64; omega)]; simp; omega
    unfold goR
    by_cases hc : c = 10
    case neg =>
      rw [if_neg hc]
      have := ih A (B ++ [c]) b acc (by rw [hs]; simp) ha hsh
      refine Ev.step (fun k => ?_) this
      rw [ref10_Parse.l0.eq_2, bs_size, if_pos (by omega), if_pos (by omega), hbt, if_neg (show ¬ (c.toNat : Int) = 10 from fun h => hc ((bt_u8 c 10).1 h)), hw]
    subst hc
    rw [if_pos rfl]
    have hex : (bs S).extract ((A.length : Int)).toNat (((A.length + B.length : Nat) : Int)).toNat = bs B := by
      rw [bs_extract, hs, Int.toNat_natCast, Int.toNat_natCast, show A.length + B.length - A.length = B.length by omega, List.append_assoc, List.drop_left, List.take_left]
    have hw2 : wrap64 (((A.length + B.length : Nat) : Int) + 1) = (((A ++ B ++ [10]).length : Nat) : Int) := by rw [hw]; simp <;> omega
    have hs2 : S = (A ++ B ++ [10]) ++ [] ++ T := by rw [hs]; simp
    have next : ∀ acc', acc'.length ≤ acc.length + 1 → (∀ x ∈ acc', Short x) → Ev (fun k => ref10_Parse.l0 k (bs S) acc' (((A ++ B ++ [10]).length : Nat) : Int) false (((A ++ B ++ [10]).length : Nat) : Int)) (goR S T [] false acc') := fun acc' h1 h2 => by
      have := ih (A ++ B ++ [10]) [] false acc' hs2 (by simp; omega) h2
      simpa using this
    refine Ev.step (fun k => by rw [ref10_Parse.l0.eq_2, bs_size, if_pos (by omega), if_pos (by omega), hbt, if_pos (by rfl), if_pos (by omega), if_pos (by omega), if_pos (by omega), hex, hw2]) ?_
    refine Ev.bind (words_f (l := B) (by omega)) ?_
    cases b with
    | true =>
      simp only [if_true]
      exact next acc (by omega) hsh
    | false =>
    simp only [Bool.false_eq_true, if_false]
    by_cases h6 : (wordsM B).length = 6
    case neg =>
      have hn : lineR B = none := by
        unfold lineR
        split
        · rename_i h; rw [h] at h6; exact absurd rfl h6
        · rfl
      rw [hn]
      simp only [List.length_map, if_neg (show ¬ ((wordsM B).length : Int) = 6 by omega)]
      exact Ev.now _
    obtain ⟨w0, w1, w2, w3, w4, w5, hp⟩ : ∃ w0 w1 w2 w3 w4 w5, wordsM B = [w0, w1, w2, w3, w4, w5] := by
      revert h6
      rcases wordsM B with _ | ⟨p0, _ | ⟨p1, _ | ⟨p2, _ | ⟨p3, _ | ⟨p4, _ | ⟨p5, _ | ⟨p6, r⟩⟩⟩⟩⟩⟩⟩ <;> intro h <;> simp at h
      exact ⟨p0, p1, p2, p3, p4, p5, rfl⟩
    have hlr : lineR B = factR w0 w1 w2 w3 w4 w5 := by unfold lineR; rw [hp]
    have hwl : ∀ w ∈ wordsM B, w.length ≤ 20000 := fun w hw => by
      have := words_short _ _ w hw
      have := cut_len B
      simp at *; omega
    rw [hp] at hwl ⊢
    refine evy (by simp) ?_
    refine evy (by simp) ?_
    refine evy (by simp) ?_
    refine evy (by simp) ?_
    refine evy (by simp) ?_
    have hj : ∀ k3, k3 = dashB (bs w3) → Ev (fun k => ref10_Parse.j1 k (bs S) acc (((A ++ B ++ [10]).length : Nat) : Int) false ((A.length + B.length : Nat) : Int) ([w0, w1, w2, w3, w4, w5].map bs) (bs w0) (bs w1) (bs w2) k3 0) (match lineR B with | none => ([], 5) | some x => goR S T [] false (acc ++ [x])) := fun k3 hk3 => by
      refine rj1_f S acc _ _ false w0 w1 w2 w3 w4 w5 _ _ _ _ rfl rfl rfl hk3 (hwl w4 (by simp)) (hwl w5 (by simp)) (by omega) _ (fun x hx => ?_) (fun hx => ?_)
      · rw [hlr, hx, hw2]
        exact next (acc ++ [x]) (by simp) (fun y hy => by
          rcases List.mem_append.1 hy with hy | hy
          · exact hsh y hy
          · obtain rfl : y = x := by simpa using hy
            exact line_short (hlr.trans hx) (by omega))
      · rw [hlr, hx]
    rw [show rdOf ByteArray.empty ([w0, w1, w2, w3, w4, w5].map bs) 3 = bs w3 from rfl, show rdOf ByteArray.empty ([w0, w1, w2, w3, w4, w5].map bs) 0 = bs w0 from rfl, show rdOf ByteArray.empty ([w0, w1, w2, w3, w4, w5].map bs) 1 = bs w1 from rfl, show rdOf ByteArray.empty ([w0, w1, w2, w3, w4, w5].map bs) 2 = bs w2 from rfl]
    by_cases c3 : (bs w3).toList = ([45] : List UInt8)
    · simp only [if_pos c3]
      exact hj _ (by unfold dashB; rw [if_pos c3])
    · simp only [if_neg c3]
      exact hj _ (by unfold dashB; rw [if_neg c3])
theorem goR_spec (S : List UInt8) : ∀ (T B : List UInt8) (b : Bool) (acc : List RF), (∀ x ∈ acc, I64 x.f1) → ((goR S T B b acc).2 = 0 ∧ Good ((goR S T B b acc).1.map tf) ∧ textTx ((goR S T B b acc).1.map tf) = S) ∨ goR S T B b acc = ([], 5)
  | [], B, b, acc, h => by
    unfold goR
    by_cases c : (printR acc).2 = 0 ∧ (printR acc).1 = S
    · rw [if_pos c]
      left
      unfold printR at c
      by_cases g : goodC (acc.map tf) (rightS (acc.map tf)) = true
      · rw [if_pos g] at c
        refine ⟨rfl, ⟨g, fun x hx => ?_⟩, c.2⟩
        obtain ⟨y, hy, rfl⟩ := List.mem_map.1 hx
        exact h y hy
      · rw [if_neg g] at c
        exact absurd c.1 (by decide)
    · rw [if_neg c]; right; rfl
  | c :: T, B, b, acc, h => by
    unfold goR
    split
    · split
      · exact goR_spec S T [] false acc h
      · split
        · right; rfl
        · rename_i x hx
          refine goR_spec S T [] false _ fun y hy => ?_
          rcases List.mem_append.1 hy with hy | hy
          · exact h y hy
          · obtain rfl : y = x := by simpa using hy
            unfold lineR at hx
            split at hx
            · unfold factR at hx
              split at hx
              · obtain rfl := Option.some.inj hx
                exact pS_i64 _
              · cases hx
            · cases hx
    · exact goR_spec S T _ b acc h
theorem goR_run (S r : List UInt8) : ∀ (p B : List UInt8) (b : Bool) (acc : List RF), 10 ∉ p → goR S (p ++ 10 :: r) B b acc = if b = true then goR S r [] false acc else match lineR (B ++ p) with | none => ([], 5) | some x => goR S r [] false (acc ++ [x])
  | [], B, b, acc, _ => by rw [List.nil_append, goR, if_pos rfl, List.append_nil]
  | c :: p, B, b, acc, h => by
    have hc : ¬ c = 10 := fun e => h (by rw [e]; exact List.mem_cons_self)
    rw [List.cons_append, goR, if_neg hc, goR_run S r p (B ++ [c]) b acc (fun hp => h (List.mem_cons_of_mem _ hp))]
    simp
theorem wordsC_run (r : List UInt8) : ∀ (p cur : List UInt8), (∀ c ∈ p, isBl c = false) → wordsC cur (p ++ 32 :: r) = if cur ++ p = [] then wordsC [] r else (cur ++ p) :: wordsC [] r
  | [], cur, _ => by rw [List.nil_append, wordsC, if_pos (by decide), List.append_nil]
  | c :: p, cur, h => by
    rw [List.cons_append, wordsC, if_neg (by rw [h c List.mem_cons_self]; decide), wordsC_run r p (cur ++ [c]) (fun d hd => h d (List.mem_cons_of_mem _ hd))]
    simp
theorem wordsC_end : ∀ (p cur : List UInt8), (∀ c ∈ p, isBl c = false) → wordsC cur p = if cur ++ p = [] then [] else [cur ++ p]
  | [], cur, _ => by rw [wordsC, List.append_nil]
  | c :: p, cur, h => by
    rw [wordsC, if_neg (by rw [h c List.mem_cons_self]; decide), wordsC_end p (cur ++ [c]) (fun d hd => h d (List.mem_cons_of_mem _ hd))]
    simp
theorem cut_id : ∀ {l : List UInt8}, (∀ c ∈ l, c ≠ 35) → cutM l = l
  | [], _ => rfl
  | c :: l, h => by
    have ih := cut_id (l := l) fun d hd => h d (List.mem_cons_of_mem _ hd)
    unfold cutM at ih ⊢
    rw [List.takeWhile_cons, if_pos (bne_iff_ne.2 (h c List.mem_cons_self)), ih]
theorem okc_bl {c : UInt8} (h : okc c) : isBl c = false := by
  unfold isBl
  rw [beq_eq_false_iff_ne.2 h.1, beq_eq_false_iff_ne.2 h.2.2.1]; rfl
theorem lineR_ws {x : FF} (h : keyOk x.f0 = true) (hi : I64 x.f1) : lineR (wsL x) = some (uf x) := by
  obtain ⟨h3, h0, h1, h2, h4, h5⟩ := key_ok h
  have ne : ∀ {s : ByteArray}, nameB s = true → s.data.toList ≠ [] := fun {s} hs e => by
    have := (name_ok hs).1
    have e2 := data_len s
    rw [e] at e2
    simp at e2; omega
  have np : (partB x.f0.f3).data.toList ≠ [] := by
    unfold partB
    split
    · simp
    · rename_i hz; exact ne (h3.resolve_left hz)
  have n : ∀ {l : List UInt8}, (∀ c ∈ l, okc c) → ∀ c ∈ l, isBl c = false := fun hl c hc => okc_bl (hl c hc)
  have hw : wordsM (wsL x) = [x.f0.f0.data.toList, x.f0.f1.data.toList, x.f0.f2.data.toList, (partB x.f0.f3).data.toList, itoa x.f0.f4, itoa x.f1] := by
    unfold wordsM
    rw [cut_id fun c hc => (ws_okc h c hc).2.2]
    unfold wsL
    rw [wordsC_run _ _ _ (n (name_okc h0)), List.nil_append, if_neg (ne h0), wordsC_run _ _ _ (n (name_okc h1)), List.nil_append, if_neg (ne h1), wordsC_run _ _ _ (n (name_okc h2)), List.nil_append, if_neg (ne h2), wordsC_run _ _ _ (n (part_okc h3)), List.nil_append, if_neg np, wordsC_run _ _ _ (n (itoa_okc _)), List.nil_append, if_neg (itoa_ne _), wordsC_end _ _ (n (itoa_okc _)), List.nil_append, if_neg (itoa_ne _)]
  have hl : lineR (wsL x) = factR x.f0.f0.data.toList x.f0.f1.data.toList x.f0.f2.data.toList (partB x.f0.f3).data.toList (itoa x.f0.f4) (itoa x.f1) := by unfold lineR; rw [hw]
  rw [hl]
  unfold factR
  rw [pS_itoa hi, pS_itoa (show I64 x.f0.f4 by unfold I64; omega), if_pos ⟨⟨rfl, rfl⟩, h4, h5⟩, bs_data, bs_data, bs_data, bs_data, dash_part h3]
  rfl
theorem goR_body (S : List UInt8) : ∀ (l : List FF) (acc : List RF), (∀ x ∈ l, keyOk x.f0 = true ∧ I64 x.f1) → goR S (bodyTx l) [] false acc = goR S [] [] false (acc ++ l.map uf)
  | [], acc, _ => by simp [bodyTx]
  | x :: l, acc, h => by
    have hx := h x List.mem_cons_self
    have e : bodyTx (x :: l) = wsL x ++ 10 :: bodyTx l := by unfold bodyTx; rw [List.map_cons, List.flatten_cons, line_ws]; simp
    rw [e, goR_run S _ _ _ _ _ (line_10 hx.1), if_neg (by decide), List.nil_append, lineR_ws hx.1 hx.2]
    dsimp only
    rw [goR_body S l _ fun y hy => h y (List.mem_cons_of_mem _ hy)]
    simp
theorem goR_text {l : List FF} (h : Good l) : goR (textTx l) (textTx l) [] true [] = (l.map uf, 0) := by
  have e : textTx l = ([99, 117, 98, 101, 32] ++ itoa (l.length : Int)) ++ 10 :: bodyTx l := by unfold textTx headTx; simp
  obtain ⟨S, hS⟩ : ∃ S, textTx l = S := ⟨_, rfl⟩
  rw [hS]
  have : goR S S [] true [] = goR S (textTx l) [] true [] := by rw [hS]
  rw [this, e, goR_run S _ _ _ _ _ (head_10 _), if_pos rfl, goR_body S l [] (fun x hx => ⟨h.key x hx, h.2 x hx⟩), List.nil_append, goR]
  unfold printR
  rw [map_tf_uf, if_pos h.1, if_pos ⟨rfl, hS⟩]
theorem rparse_f10 {S : List UInt8} (hS : S.length ≤ 20000) : Ev (fun k => ref10_Parse.f k (bs S)) (goR S S [] true []) := by
  have := rparse_l S hS S [] [] true [] rfl (Nat.le_refl _) (by simp)
  exact this
end Go.Proofs.YtjbdkdmoacdbpaaGreatDoor.M
