/- printed by a program of this session (wip/tools/pr.sh): it is not a print of the kit -/
import Derived.Test.YtgheapbhakamaaaGO
import Derived.Test.YtgheapbhakamaaaQx0
import Derived.Test.YtgheapbhakamaaaQx5
namespace Go.Proofs.Ytgheapbhakamaaa.Q
open Go.RowKit Go.Proofs.YtgheapbhakamaaaW.PrintWords Go.Proofs.YtgheapbhakamaaaW.PrintLast Go.Proofs.YtgheapbhakamaaaW.PrintMore
attribute [local go_sem] max2_int min2_int max_two min_two max_three min_three max_four min_four RFn.gtr_str   -- for this text's walks alone
set_option linter.unusedVariables false
set_option linter.unusedSimpArgs false
/-! ### fact_Of: function 12 -/
section
open Go Go.Shelf
attribute [local go_sem] Oper.semAt_some
namespace Of
/-- the sum of the amounts, from s on, or cent.Add's error -/
def sumF : Int → List S60 → Option (Int × Int)
  | s, [] => some (s, 0)
  | s, x :: xs => (cent_Add.f s x.f1).bind fun t => if t.2 = 0 then sumF t.1 xs else some (0, t.2)
def goF : Nat → List S60 → List S60 → Option (List S60 × Int)
  | 0, _, _ => none
  | k + 1, t, out => if t.length = 0 then (if out.length > 2000 then some ([], 4) else some (out, 0)) else
    (sumF 0 (t.take (runLen t))).bind fun s => if s.2 = 0 then (if s.1 = 0 then goF k (t.drop (runLen t)) out else if out.length < 1759218604441 then goF k (t.drop (runLen t)) (out ++ [⟨(rd_T60 t 0).f0, s.1⟩]) else none) else some ([], s.2)
/-- what holds between two rounds: out's box and row, the results' boxes, what is still to come -/
def Inv (w : World) (bo n1 : Nat) (r1 : List S60) (r2 : Int) (t : List S60) (W : World) : Prop :=
  ∃ (ov : Value) (out : List S60) (k : Nat), Boxed W bo 30 ov ∧ Kd.R k60 60 W w.heap.size (fun j => n1 ≤ j) ov out ∧ Boxed W w.heap.size 30 (.slice none 0 0) ∧ Boxed W (w.heap.size + 1) 31 (.int .i64 0) ∧ Below w.heap.size w W ∧ goF k t out = some (r1, r2) ∧ n1 ≤ W.heap.size
/-- a round has left: cent.Add's error -/
def Err (w : World) (r1 : List S60) (r2 : Int) (c : Code) (W : World) : Prop :=
  c = .ret ∧ r1 = [] ∧ Boxed W w.heap.size 30 (.slice none 0 0) ∧ Boxed W (w.heap.size + 1) 31 (.int .i64 r2) ∧ Below w.heap.size w W
theorem boxed_turn {W : World} {B l : Nat} {t : TypeId} {v : Value} {o : Obj} (o' : Obj) (h : Boxed W B t v) (hl : W.heap[l]? = some o) (ho : o.isCells = false) : Boxed (W.putObj l o') B t v :=
  (World.putObj_heap_other (by rintro rfl; rw [show W.heap[B]? = _ from h] at hl; cases hl; cases ho)).trans h
theorem R_turn {W : World} {base l : Nat} {ok : Nat → Prop} {v : Value} {xs : List S60} {o : Obj} (o' : Obj) (h : Kd.R k60 60 W base ok v xs) (hl : W.heap[l]? = some o) (ho : o.isCells = false) : Kd.R k60 60 (W.putObj l o') base ok v xs :=
  Kd.R_mono (Kd.R_move (Kd.R_bound h) (fun k hk => World.putObj_heap_other (by
    rintro rfl
    obtain ⟨_, _, _, q, _, cells, hc⟩ := hk
    rw [hc] at hl; cases hl; cases ho))) (fun _ hk => hk.1)
theorem below_turn {w W : World} {l : Nat} (o' : Obj) (h : Below w.heap.size w W) (hl : w.heap.size ≤ l) : Below w.heap.size w (W.putObj l o') :=
  h.grown (grownBy_putObj' W l o') h.size (fun k e => by cases e; exact hl)
theorem Inv.turn {w : World} {bo n1 : Nat} {r1 : List S60} {r2 : Int} {t : List S60} {B : Nat} (hB : w.heap.size ≤ B) : Go.Proofs.Ytgheapbhakamaaa.XR.Abide B (Inv w bo n1 r1 r2 t) := by
  rintro W l o o' ⟨ov, out, k, h1, h2, h3, h4, h5, h6, h7⟩ hl hlo ho
  exact ⟨ov, out, k, boxed_turn o' h1 hlo ho, R_turn o' h2 hlo ho, boxed_turn o' h3 hlo ho, boxed_turn o' h4 hlo ho, below_turn o' h5 (by omega), h6, by rw [World.putObj_size]; exact h7⟩
theorem Err.turn {w : World} {r1 : List S60} {r2 : Int} {B : Nat} (hB : w.heap.size ≤ B) (c : Code) : Go.Proofs.Ytgheapbhakamaaa.XR.Abide B (Err w r1 r2 c) := by
  rintro W l o o' ⟨h1, h2, h3, h4, h5⟩ hl hlo ho
  exact ⟨h1, h2, boxed_turn o' h3 hlo ho, boxed_turn o' h4 hlo ho, below_turn o' h5 (by omega)⟩
theorem Core.turn {D : Nat → Prop} {b c B : Nat} {A : Option Addr} {t : List S60} (hb : b < B) (hD : ∀ k, D k → k < B) : Go.Proofs.Ytgheapbhakamaaa.XR.Abide B (Core D b A c t) := by
  rintro W l o o' h hl hlo ho
  refine ⟨?_, ?_, row_same h.row (fun ad e => World.putObj_heap_other (by have := hD _ (h.off ad e); omega)), h.cap, h.off⟩
  · exact (World.cell?_of_block (World.putObj_heap_other (by show b ≠ l; omega))).trans h.cell
  · exact (World.frozen?_of_block (World.putObj_heap_other (by show b ≠ l; omega))).trans h.froz
theorem Inv.only {w : World} {bo n1 b : Nat} {r1 : List S60} {r2 : Int} {t : List S60} {W W' : World} (h1 : bo ≠ b) (h2 : w.heap.size + 1 < b) (h3 : b < n1) (h : Only b W W') (hi : Inv w bo n1 r1 r2 t W) : Inv w bo n1 r1 r2 t W' := by
  obtain ⟨ov, out, k, i1, i2, i3, i4, i5, i6, i7⟩ := hi
  exact ⟨ov, out, k, i1.kept h (by simpa using h1), Kd.R_grown i2 h (fun k hk e => by cases e; omega), i3.kept h (by simp; omega), i4.kept h (by simp; omega), i5.grown h i5.size (fun k e => by cases e; omega), i6, Nat.le_trans i7 h.size⟩
theorem Core.alloc {D : Nat → Prop} {b c : Nat} {A : Option Addr} {t : List S60} {W : World} (h : Core D b A c t W) (o : Obj) : Core D b A c t (W.alloc o) :=
  ⟨Lib.cell?_alloc_some _ h.cell, (World.frozen?_of_block (Below.heap_alloc W o b (World.block_lt_of_cell? W ⟨b, 0, none⟩ h.cell))).trans h.froz, Kd.C_alloc h.row _, h.cap, h.off⟩
theorem Inv.alloc {w : World} {bo n1 : Nat} {r1 : List S60} {r2 : Int} {t : List S60} {W : World} (hi : Inv w bo n1 r1 r2 t W) (o : Obj) : Inv w bo n1 r1 r2 t (W.alloc o) := by
  obtain ⟨ov, out, k, i1, i2, i3, i4, i5, i6, i7⟩ := hi
  exact ⟨ov, out, k, i1.alloc o, Kd.R_alloc i2 o, i3.alloc o, i4.alloc o, i5.alloc i5.size o, i6, by simp; omega⟩
/-- sum's block -/
def Sum (W : World) (b : Nat) (x : S40) (n : Int) : Prop := W.heap[b]? = some (.cells #[.string x.f0, .string x.f1, .string x.f2, .string x.f3, .int .i64 x.f4, .int .i64 n] 60 (0, 0))
theorem Sum.cells {W : World} {b : Nat} {x : S40} {n : Int} (h : Sum W b x n) : W.cell? ⟨b, 0, none⟩ = some (.string x.f0) ∧ W.cell? ⟨b, 1, none⟩ = some (.string x.f1) ∧ W.cell? ⟨b, 2, none⟩ = some (.string x.f2) ∧ W.cell? ⟨b, 3, none⟩ = some (.string x.f3) ∧ W.cell? ⟨b, 4, none⟩ = some (.int .i64 x.f4) ∧ W.cell? ⟨b, 5, none⟩ = some (.int .i64 n) := by
  simp [World.cell?, show W.heap[b]? = _ from h]
theorem Sum.froz {W : World} {b : Nat} {x : S40} {n : Int} (h : Sum W b x n) : W.frozen? ⟨b, 5, none⟩ = false := by simp [World.frozen?, show W.heap[b]? = _ from h]
theorem Sum.set {W : World} {b : Nat} {x : S40} {n : Int} (n' : Int) (h : Sum W b x n) : Sum (W.setCell ⟨b, 5, none⟩ (.int .i64 n')) b x n' := by
  obtain ⟨hlt, hk⟩ := Array.getElem?_eq_some_iff.1 h
  show (W.heap.modify b _)[b]? = _
  rw [Array.getElem?_eq_getElem (by rw [Array.size_modify]; exact hlt), Array.getElem_modify_self, hk]
  rfl
theorem Sum.below {W W' : World} {b B : Nat} {x : S40} {n : Int} (hb : Below B W W') (hlt : b < B) (h : Sum W b x n) : Sum W' b x n := (hb.block b hlt).trans h
theorem goF_some {k : Nat} {t out : List S60} {r : List S60 × Int} (h : goF k t out = some r) (hne : t ≠ []) : ∃ k' s e, sumF 0 (t.take (runLen t)) = some (s, e) ∧
    (if e = 0 then (if s = 0 then goF k' (t.drop (runLen t)) out else if out.length < 1759218604441 then goF k' (t.drop (runLen t)) (out ++ [⟨(rd_T60 t 0).f0, s⟩]) else none) else some ([], e)) = some r := by
  cases k with
  | zero => exact absurd h (by simp [goF])
  | succ k =>
    rw [goF, if_neg (by intro h0; exact hne (List.length_eq_zero_iff.mp h0))] at h
    obtain ⟨⟨s, e⟩, h1, h2⟩ := Option.bind_eq_some_iff.mp h
    exact ⟨k, s, e, h1, h2⟩
theorem sumF_step {s : Int} {t : List S60} {m : Nat} {i : Int} {r : Int × Int} (h : sumF s ((t.take m).drop i.toNat) = some r) (h0 : 0 ≤ i) (h1 : i < m) (hm : m ≤ t.length) :
    ∃ n e, cent_Add.f s (rd_T60 t i).f1 = some (n, e) ∧ (if e = 0 then sumF n ((t.take m).drop (i + 1).toNat) else some (0, e)) = some r := by
  have hlt : i.toNat < (t.take m).length := by rw [List.length_take]; omega
  rw [List.drop_eq_getElem_cons hlt, sumF] at h
  obtain ⟨⟨n, e⟩, h2, h3⟩ := Option.bind_eq_some_iff.mp h
  refine ⟨n, e, ?_, ?_⟩
  · rw [← h2]
    congr 2
    unfold rd_T60
    rw [List.getD_eq_getElem?_getD, List.getElem?_eq_getElem (by omega)]
    simp
  · rw [show (i + 1).toNat = i.toNat + 1 by omega]; exact h3
theorem keeps_below {W W' : World} (h : Below W.heap.size W W') : KeepsOthers W W' := ⟨h.size, fun k o hk _ => (h.block k (Array.getElem?_eq_some_iff.1 hk).1).trans hk⟩
theorem keeps_drew (W : World) (m : Nat) : KeepsOthers W (W.drewN m) := ⟨Nat.le_refl _, fun _ _ h _ => h⟩
theorem boxed_below {W W' : World} {B : Nat} {t : TypeId} {v : Value} (h : Boxed W B t v) (hb : Below W.heap.size W W') : Boxed W' B t v := (hb.block B h.lt).trans h
theorem Core.move {D : Nat → Prop} {b c : Nat} {A : Option Addr} {t : List S60} {W W' : World} (h : Core D b A c t W) (hm : ∀ k, k = b ∨ D k → W'.heap[k]? = W.heap[k]?) : Core D b A c t W' :=
  ⟨(World.cell?_of_block (hm b (.inl rfl))).trans h.cell, (World.frozen?_of_block (hm b (.inl rfl))).trans h.froz, row_same h.row (fun ad e => hm _ (.inr (h.off ad e))), h.cap, h.off⟩
theorem res {tmps : Array Value} {n0 : Nat} {A : Option Addr} {n c : Nat} {e : Int} {W : World} (h2 : tmps.getD 2 undef = .pointer (some ⟨n0, 0, none⟩)) (h3 : tmps.getD 3 undef = .pointer (some ⟨n0 + 1, 0, none⟩))
    (hb2 : Boxed W n0 30 (.slice A n c)) (hb3 : Boxed W (n0 + 1) 31 (.int .i64 e)) : (results Try.f12 tmps).run Try.prog W = .ok (.tuple #[.slice A n c, .int .i64 e]) W := by
  have h : Try.f12.results = #[.cell 2 30, .cell 3 31] := rfl
  have hc2 := hb2.cell
  have hc3 := hb3.cell
  have h2' : tmps[2]?.getD undef = .pointer (some ⟨n0, 0, none⟩) := by simpa using h2
  have h3' : tmps[3]?.getD undef = .pointer (some ⟨n0 + 1, 0, none⟩) := by simpa using h3
  simp only [results, h]
  simp [go_sem, h2', h3', hc2, hc3, asAddr, Result.andThen]
theorem leave {tmps : Array Value} {w : World} {A : Option Addr} {n c E : Nat} {r1 : List S60} {r2 : Int} {W : World} (h2 : tmps.getD 2 undef = .pointer (some ⟨w.heap.size, 0, none⟩)) (h3 : tmps.getD 3 undef = .pointer (some ⟨w.heap.size + 1, 0, none⟩))
    (hb2 : Boxed W w.heap.size 30 (.slice A n c)) (hb3 : Boxed W (w.heap.size + 1) 31 (.int .i64 r2)) (hR : Kd.R k60 60 W w.heap.size (fun _ => True) (.slice A n c) r1) (hB : Below w.heap.size w W)
    (hE : w.heap.size ≤ E) (hK : W.heap[E]? = some (.deferred (some []))) :
    bodyPostM Fence.wide 6 Try.prog Try.f12 (fun e w' => ∃ v0_ : Value, e = .returned (.tuple #[v0_, .int .i64 r2]) ∧ Kd.R k60 60 w' w.heap.size (fun _ => True) v0_ r1 ∧ Below w.heap.size w w') .ret
      { tmps := tmps, defers := [{ target := .collected E, args := #[] }] } W := by
  refine ⟨by simp, .inl ⟨_, _, rfl, run_takeDeferred hK, ?_⟩⟩
  exact ⟨_, res h2 h3 (boxed_turn _ hb2 hK rfl) (boxed_turn _ hb3 hK rfl), _, rfl, R_turn _ hR hK rfl, below_turn _ hB hE⟩
end Of
def fact_Of.f (k : Nat) (l0 : List S60) : Option (List S60 × Int) := if l0.length < 1759218604441 then (fact_Fact_31.f k l0).bind fun t => Of.goF (t.length + 1) t [] else none
theorem fact_Of.mono : ∀ a0 k, LeO (fact_Of.f k a0) (fact_Of.f (k + 1) a0) := by
  intro a0 k
  unfold fact_Of.f
  exact LeO.ite (LeO.bind (fact_Fact_31.mono _ _) (fun _ => LeO.refl _)) (LeO.refl _)
set_option maxRecDepth 100000 in
set_option maxHeartbeats 8000000 in
theorem fact_Of.calls (k : Nat) (A0 : Option Addr) (c0 : Nat) (l0 : List S60) (r1 : List S60) (r2 : Int) (w : World) (hr0 : Kd.C k60 w A0 l0.length l0) (hc0 : l0.length ≤ c0) (h : fact_Of.f k l0 = some (r1, r2)) :
    Calls Try.prog 12 #[.slice A0 l0.length c0] w fun e w' => ∃ v0_ : Value, e = .returned (.tuple #[v0_, .int .i64 r2]) ∧ Kd.R k60 60 w' w.heap.size (fun _ => True) v0_ r1 ∧ Below w.heap.size w w' := by
  unfold fact_Of.f at h
  by_cases hl : l0.length < 1759218604441
  case neg => rw [if_neg hl] at h; cases h
  rw [if_pos hl] at h
  obtain ⟨t, hs, hg⟩ := Option.bind_eq_some_iff.mp h
  clear h
  have HS := Aside0.mk hs
  have HG := Aside0.mk hg
  have HR := Aside0.mk hr0
  clear hs hg hr0
  refine (callsIn_wide (n := 6)).1 ?_
  refine callsIn_of_wp_marks Try.func12 rfl trivial ?_ rfl
  simp only [Try.ntmps12, List.size_toArray, List.length_cons, List.length_nil, Nat.reduceAdd, Nat.reduceSub, Array.replicate_succ, Array.replicate_zero, List.push_toArray, List.append_toArray, List.nil_append, List.cons_append]
  gi_wp2_with (first
    | (refine ⟨trivial, ?_⟩; gi_at_call 30; refine (callsIn_wide.2 (Of.clone _ _ l0 _ (Kd.C_alloc (Kd.C_alloc HR.out _) _) (by omega))).mono ?_; rintro e w1 ⟨v, rfl, hR1, hB1⟩)
    | (refine ⟨trivial, ?_⟩; gi_at_call 31; refine (callsIn_wide.2 (fact_Fact_31.calls k (fun k_ => some k_ = v.ownBlock) v l0 t ((w.alloc (.cells #[.slice none 0 0] 30)).alloc (.cells #[.int .i64 0] 31)) _ hB1 (Kd.R_tight rfl hR1) HS.out)).mono ?_; rintro e w2 ⟨rfl, hR2, hB2, hK2⟩; clear hK2 hR1 hB1; obtain ⟨As, cs, rfl⟩ := Kd.R_slice hR2)
    | (refine ⟨trivial, ?_⟩; gi_at_call 33; refine (callsIn_wide.2 (Of.runs As t.length cs _)).mono ?_; rintro e w3 ⟨rfl, rfl⟩))
  have hwc : ((w.alloc (.cells #[.slice none 0 0] 30)).alloc (.cells #[.int .i64 0] 31)).heap.size = w.heap.size + 2 := by simp
  have hle2 : w.heap.size + 2 ≤ w2.heap.size := by have := hB2.size; omega
  obtain ⟨W0, hW0⟩ : ∃ W0, ((w2.alloc (.cells #[.slice none 0 0] 30)).alloc (.cells #[.slice As t.length cs] 29)) = W0 := ⟨_, rfl⟩
  rw [hW0]
  have hsz : W0.heap.size = w2.heap.size + 2 := by rw [← hW0]; simp
  refine Go.Proofs.Ytgheapbhakamaaa.XR.wpIn_range_st (β := Option Addr × Nat × List S60) (gf := 46) (lb := #[.pointer (some ⟨w2.heap.size + 1, 0, none⟩)]) rfl (by omega) rfl trivial (enters_of Try.func46 (by kernel_rfl) rfl)
    (fun x => #[.slice x.1 (Of.runLen x.2.2) x.2.1]) (fun _ => rfl)
    (fun x W => x.2.2 ≠ [] ∧ Of.Core (fun k => w.heap.size + 1 < k ∧ k < w2.heap.size) (w2.heap.size + 1) x.1 x.2.1 x.2.2 W ∧ Of.Inv w w2.heap.size W0.heap.size r1 r2 x.2.2 W)
    (fun x W => Of.Core (fun k => w.heap.size + 1 < k ∧ k < w2.heap.size) (w2.heap.size + 1) x.1 x.2.1 x.2.2 W ∧ Of.Inv w w2.heap.size W0.heap.size r1 r2 (x.2.2.drop (Of.runLen x.2.2)) W)
    (fun x a' W => a' = { tmps := #[.slice As t.length cs, undef, .pointer (some ⟨w.heap.size, 0, none⟩), .pointer (some ⟨w.heap.size + 1, 0, none⟩), .pointer (some ⟨w2.heap.size, 0, none⟩), .slice x.1 (Of.runLen x.2.2) x.2.1, undef, undef, undef, undef, undef, .slice A0 l0.length c0, .slice As t.length cs, .slice As t.length cs, .tuple #[], .slice As t.length cs, .func (.func 46) #[] #[.pointer (some ⟨w2.heap.size + 1, 0, none⟩)], .slice x.1 (Of.runLen x.2.2) x.2.1, undef, undef, undef, undef, undef, undef, undef, undef, undef, undef, undef, undef, undef, undef, undef, undef, undef, undef, undef, undef, undef, undef, undef, undef, undef, undef, undef, undef, undef, undef, undef, undef, undef, undef, undef, undef], defers := [] } ∧ x.2.2 ≠ [] ∧ Of.Core (fun k => w.heap.size + 1 < k ∧ k < w2.heap.size) (w2.heap.size + 1) x.1 x.2.1 x.2.2 W ∧ Of.Inv w w2.heap.size W0.heap.size r1 r2 x.2.2 W)
    (fun c => Of.Err w r1 r2 c)
    (fun W => Of.Inv w w2.heap.size W0.heap.size r1 r2 [] W) ?hJb ?hJ' ?hJx ?hJd ?assign ?body ?hit ?done ?stop
  case hJd => exact Of.Inv.turn (by omega)
  case hJx => exact fun c => Of.Err.turn (by omega) c
  case hJ' => exact fun x => Go.Proofs.Ytgheapbhakamaaa.XR.Abide.and (Of.Core.turn (by omega) (fun k hk => by omega)) (Of.Inv.turn (by omega))
  case hJb => exact fun x a' => Go.Proofs.Ytgheapbhakamaaa.XR.Abide.and (Go.Proofs.Ytgheapbhakamaaa.XR.Abide.pure _ _) (Go.Proofs.Ytgheapbhakamaaa.XR.Abide.and (Go.Proofs.Ytgheapbhakamaaa.XR.Abide.pure _ _) (Go.Proofs.Ytgheapbhakamaaa.XR.Abide.and (Of.Core.turn (by omega) (fun k hk => by omega)) (Of.Inv.turn (by omega))))
  case assign => 
    intro l x W K hj hK
    gi_wp2
    exact hK _ _ (KeepsFrom.refl _ _) ⟨rfl, hj⟩
  case body =>
    rintro l ⟨A, c, tt⟩ a' W ⟨rfl, hne, hc, ⟨ov, out, kk, i1, i2, i3, i4, i5, i6, hWsz⟩⟩
    dsimp only at hne hc i6 ⊢
    obtain ⟨m, hm⟩ : ∃ m, Of.runLen tt = m := ⟨_, rfl⟩
    have hmle := Of.runLen_le tt
    have hm1 : 0 < m := by rw [← hm]; cases tt with
      | nil => exact absurd rfl hne
      | cons x xs => simp [Of.runLen]
    rw [hm] at hmle ⊢
    obtain ⟨ad, rfl, y0, y1, y2, y3, y4, y5⟩ := at_T60 hc.row 0 (by omega) (by omega)
    simp only [Int.toNat_zero, Nat.zero_mul, Addr.add_zero'] at y0 y1 y2 y3 y4 y5
    have hu40 := Try.underlying40
    have hu60 := Try.underlying60
    obtain ⟨kk', ss, ee, hsum, hgo⟩ := Of.goF_some i6 hne
    clear i6
    rw [hm] at hsum hgo
    gi_wp2
    gi_loopw [25] (fun p wr => ∃ (i s : Int), p = .int .i64 i ∧ 0 ≤ i ∧ i ≤ (m : Int) ∧ Of.Sum wr W.heap.size (rd_T60 tt 0).f0 s ∧ Below W.heap.size W wr ∧ Aside0 (Of.sumF s ((tt.take m).drop i.toNat) = some (ss, ee))) (fun p _ => m - (intOf p).toNat)
    case atStart => exact ⟨0, 0, rfl, by omega, by omega, World.alloc_heap_new W _, (Below.refl _ W).alloc (Nat.le_refl _) _, ⟨hsum⟩⟩
    case round =>
      obtain ⟨i, s, rfl, hi0, him, hS, hbW, hs⟩ := hrel
      obtain ⟨z0, z1, z2, z3, z4, z5⟩ := hS.cells
      have z6 := hS.froz
      rcases Int.lt_or_le i (m : Int) with hlt | hge
      · have hd : decide (i < (m : Int)) = true := by simp; omega
        obtain ⟨n', e', hadd, hrest⟩ := Of.sumF_step hs.out hi0 hlt hmle
        have hadd := Aside0.mk hadd
        have hrest := Aside0.mk hrest
        obtain ⟨ad', eq', x0, x1, x2, x3, x4, x5⟩ := at_T60 hc.row i (by omega) (by omega)
        cases eq'
        replace x0 := (hbW.cell (World.block_lt_of_cell? W _ x0)).trans x0
        replace x1 := (hbW.cell (World.block_lt_of_cell? W _ x1)).trans x1
        replace x2 := (hbW.cell (World.block_lt_of_cell? W _ x2)).trans x2
        replace x3 := (hbW.cell (World.block_lt_of_cell? W _ x3)).trans x3
        replace x4 := (hbW.cell (World.block_lt_of_cell? W _ x4)).trans x4
        replace x5 := (hbW.cell (World.block_lt_of_cell? W _ x5)).trans x5
        have hlt6 : W.heap.size < wr.heap.size := World.block_lt_of_cell? wr _ z5
        have z5' : ∀ o, (wr.alloc o).cell? ⟨W.heap.size, 5, none⟩ = some (.int .i64 s) := fun o => Lib.cell?_alloc_some o z5
        have z6' : ∀ o, (wr.alloc o).frozen? ⟨W.heap.size, 5, none⟩ = false := fun o => (World.frozen?_of_block (Below.heap_alloc wr o _ hlt6)).trans z6
        by_cases he : e' = 0
        · subst he
          gi_wp2_with (refine ⟨trivial, ?_⟩; gi_at_call 34; refine (CallsIn.inRound l (callsIn_wide.2 (cent_Add.calls s (rd_T60 tt i).f1 _ _ _ hadd.out))).mono ?_; rintro e w4 ⟨rfl, hdr⟩; obtain ⟨nd, rfl⟩ := hdr.out)
          have hi64 : wrap64 (i + 1) = i + 1 := by have := Kd.C_max hc.row; unfold wrap64; omega
          have hr := hrest.out
          simp only [if_true] at hr
          rw [hi64]
          exact ⟨⟨i + 1, n', rfl, by omega, by omega, Of.Sum.set _ ((Below.heap_alloc wr _ _ hlt6).trans hS), (pw_below_drewN (hbW.alloc hbW.size _) nd).setCell (p := ⟨_, 5, none⟩) (Nat.le_refl _) _, ⟨hr⟩⟩, by simp [intOf]; omega⟩
        · have he1 : (e' != 0) = true := bne_iff_ne.mpr he
          have he2 : (e' == 0) = false := beq_eq_false_iff_ne.mpr he
          have hrest := hrest.out
          rw [if_neg he] at hrest
          obtain ⟨rfl, rfl⟩ : ss = 0 ∧ ee = e' := by simpa [eq_comm] using hrest
          rw [if_neg he] at hgo
          obtain ⟨rfl, rfl⟩ : r1 = [] ∧ r2 = ee := by simpa [eq_comm] using hgo
          have b3 := Of.boxed_below i3 hbW
          have b4 := Of.boxed_below i4 hbW
          have c3 : ∀ o, (wr.alloc o).cell? ⟨w.heap.size, 0, none⟩ = some (.slice none 0 0) := fun o => (b3.alloc o).cell
          have f3 : ∀ o, (wr.alloc o).frozen? ⟨w.heap.size, 0, none⟩ = false := fun o => (b3.alloc o).frozen
          have c4 : ∀ o, (wr.alloc o).cell? ⟨w.heap.size + 1, 0, none⟩ = some (.int .i64 0) := fun o => (b4.alloc o).cell
          have f4 : ∀ o, (wr.alloc o).frozen? ⟨w.heap.size + 1, 0, none⟩ = false := fun o => (b4.alloc o).frozen
          have b3 := Aside0.mk b3
          have b4 := Aside0.mk b4
          gi_wp2_with (refine ⟨trivial, ?_⟩; gi_at_call 34; refine (CallsIn.inRound l (callsIn_wide.2 (cent_Add.calls s (rd_T60 tt i).f1 _ _ _ hadd.out))).mono ?_; rintro e w4 ⟨rfl, hdr⟩; obtain ⟨nd, rfl⟩ := hdr.out)
          refine ⟨KeepsOthers.from ((((Of.keeps_below hbW).trans (KeepsOthers.alloc _ _)).trans ((Of.keeps_drew _ nd).trans (KeepsOthers.setCell _ _ _))).trans (KeepsOthers.setCell _ _ _)) _, rfl, rfl, ?_, ?_, ?_⟩
          · exact Boxed.other (Boxed.set _ (show Boxed ((wr.alloc _).drewN nd) _ _ _ from b3.out.alloc _)) (by omega) _
          · exact Boxed.set _ (Boxed.other (show Boxed ((wr.alloc _).drewN nd) _ _ _ from b4.out.alloc _) (by omega) _)
          · exact ((pw_below_drewN ((i5.trans (hbW.mono i5.size)).alloc (Nat.le_trans i5.size hbW.size) _) nd).setCell (p := ⟨_, 0, none⟩) (Nat.le_refl _) _).setCell (p := ⟨_, 0, none⟩) (by simp) _
      · have hd : decide (i < (m : Int)) = false := by simp; omega
        have hs2 := hs.out
        rw [List.drop_eq_nil_of_le (by rw [List.length_take]; omega)] at hs2
        obtain ⟨rfl, rfl⟩ : s = ss ∧ (0 : Int) = ee := by simpa [Of.sumF] using hs2
        rw [if_pos rfl] at hgo
        clear hs hs2 hsum
        have hW0 : W0.heap.size ≤ W.heap.size := hWsz
        have b1 := Of.boxed_below i1 hbW
        have b3 := Of.boxed_below i3 hbW
        have b4 := Of.boxed_below i4 hbW
        have bR := Kd.R_below i2 hbW
        have bc := hc.move (W' := wr) (fun k hk => hbW.block k (by omega))
        have bB : Below w.heap.size w wr := i5.trans (hbW.mono i5.size)
        by_cases h0 : s = 0
        · subst h0
          rw [if_pos rfl] at hgo
          gi_wp2
          exact ⟨(Of.keeps_below hbW).from _, bc, _, _, _, b1, bR, b3, b4, bB, hgo, Nat.le_trans hWsz hbW.size⟩
        · rw [if_neg h0] at hgo
          have h1 : (s != 0) = true := bne_iff_ne.mpr h0
          by_cases hlen : out.length < 1759218604441
          case neg => rw [if_neg hlen] at hgo; cases hgo
          rw [if_pos hlen] at hgo
          have hgo := Aside0.mk hgo
          have c1 := b1.cell
          have f1 := b1.frozen
          obtain ⟨hok, inner, hown, hreps⟩ := bR
          obtain ⟨inf, hi, hz0, hz1, hz2⟩ := info_parts info60
          gi_wp2_with (gi_at_builtin; refine wpListIn_append_own_at _ rfl _ _ 30 rfl w.heap.size 60 inf (.agg #[(.string ⟨#[]⟩), (.string ⟨#[]⟩), (.string ⟨#[]⟩), (.string ⟨#[]⟩), (.int .i64 0), (.int .i64 0)]) 6 80 Try.underlying30 hi hz0 hz1 hz2 rfl (by decide) ov out.length inner rfl (hown.alloc _) ⟨wr.heap.size, 0, none⟩ 1 1 [.string (rd_T60 tt 0).f0.f0, .string (rd_T60 tt 0).f0.f1, .string (rd_T60 tt 0).f0.f2, .string (rd_T60 tt 0).f0.f3, .int .i64 (rd_T60 tt 0).f0.f4, .int .i64 s] rfl rfl ?aN (by simp [Value.oneCell']) ?aM ?aL ?aS ?_)
          case aM => show _ ≤ 9223372036854775807; omega
          case aL => omega
          case aS => have := bB.size; simp; omega
          intro v1 w1 hown1 hg1 _ hat
          obtain ⟨g', cap', rfl⟩ := ownsRow_succ hown1
          obtain ⟨hv1, hv2, hr2, hk2, hb2⟩ := b1.appended (by decide) hown bB.size (by omega) hown1 hg1
          have hc1' := hv1.cell
          have hf1' := hv1.frozen
          gi_wp2
          have hR1 := Kd.R_appended (d := k60) (e := 60) (ok := fun j => W0.heap.size ≤ j) (okp := fun _ => False) (p := ⟨(rd_T60 tt 0).f0, s⟩) (W := wr.alloc (.cells #[.string (rd_T60 tt 0).f0.f0, .string (rd_T60 tt 0).f0.f1, .string (rd_T60 tt 0).f0.f2, .string (rd_T60 tt 0).f0.f3, .int .i64 (rd_T60 tt 0).f0.f4, .int .i64 s] 60)) hok ?aQ (k60_mkM _ _ _ _) (fun _ h => h.elim) (fun k hk => by simp at hk; have := hbW.size; omega) hown1 hg1 (hat.imp id (fun h => ⟨_, h, by simp⟩))
          case aQ => exact hreps.imp_ (fun _ _ hp => by obtain rfl := k60_openM hp; exact k60_mkM _ _ _ _)
          have hmv : ∀ k, k < W0.heap.size → k ≠ w2.heap.size → (w1.setCell ⟨w2.heap.size, 0, none⟩ (.slice (some ⟨g', 0, none⟩) (out.length + 1) cap')).heap[k]? = wr.heap[k]? := by
            intro k hk hk'
            have hlt : k < wr.heap.size := by have := hbW.size; omega
            refine (Below.heap_setCell _ _ _ _ hk').trans ((hg1.block k (by simp; omega) ?_).trans (Below.heap_alloc _ _ _ hlt))
            intro e
            have := hok k e.symm
            omega
          refine ⟨KeepsOthers.from ((Of.keeps_below hbW).trans hk2) _, bc.move (fun k hk => hmv k (by omega) (by omega)), _, _, _, hv2, ?_, ?_, ?_, bB.trans hb2, hgo.out, ?_⟩
          · exact Kd.R_far hR1 (fun k hk => by show k ≠ w2.heap.size; omega) _
          · exact (hmv _ (by omega) (by omega)).trans b3
          · exact (hmv _ (by omega) (by omega)).trans b4
          · have := hb2.size; have := hbW.size; omega
  case hit =>
    rintro l rd dn W1 ⟨o1, o2, rfl⟩ hrd hdn h1 hY
    have hA : ∀ ad, As = some ad → w.heap.size + 1 < ad.block ∧ ad.block < w2.heap.size := by
      rintro ad rfl
      obtain ⟨inner, ho⟩ := Kd.R_own hR2
      have hb : (Value.slice (some ad) t.length cs).ownBlock = some ad.block := rfl
      have h2 := own_base ho _ hb
      have h3 := own_lt ho _ hb
      omega
    have hC0 : Of.Core (fun k => w.heap.size + 1 < k ∧ k < w2.heap.size) (w2.heap.size + 1) As cs t W0 := by
      have hb := (Boxed.new (w2.alloc (.cells #[.slice none 0 0] 30)) 29 (.slice As t.length cs))
      rw [hW0] at hb
      simp only [World.size_alloc] at hb
      refine ⟨hb.cell, hb.frozen, ?_, (Kd.R_reads' hR2).2.1, hA⟩
      rw [← hW0]
      exact Kd.C_alloc (Kd.C_alloc (Kd.R_reads' hR2).2.2 _) _
    have hI0 : Of.Inv w w2.heap.size W0.heap.size r1 r2 t W0 := by
      have hb1 := (Boxed.new w2 30 (.slice none 0 0)).alloc (.cells #[.slice As t.length cs] 29)
      rw [hW0] at hb1
      have hbel : Below (w.heap.size + 2) ((w.alloc (.cells #[.slice none 0 0] 30)).alloc (.cells #[.int .i64 0] 31)) W0 := by
        rw [← hW0]
        exact ((hwc ▸ hB2).alloc (by omega) _).alloc (by simp; omega) _
      have ha := (Boxed.new w 30 (.slice none 0 0)).alloc (.cells #[.int .i64 0] 31)
      have hb := Boxed.new (w.alloc (.cells #[.slice none 0 0] 30)) 31 (.int .i64 0)
      simp only [World.size_alloc] at hb
      refine ⟨_, [], t.length + 1, hb1, Kd.R_nil _ _ _ _ _, (hbel.block _ (by omega)).trans ha, (hbel.block _ (by omega)).trans hb, ?_, HG.out, Nat.le_refl _⟩
      exact (((Below.refl _ w).alloc (Nat.le_refl _) _).alloc (by simp) _).trans (hbel.mono (by omega))
    have hOn : ∀ {tt : List S60} {W W' : World}, Of.Only (w2.heap.size + 1) W W' → (Of.Inv w w2.heap.size W0.heap.size r1 r2 tt W ∧ rd W) → (Of.Inv w w2.heap.size W0.heap.size r1 r2 tt W' ∧ rd W') := by
      intro tt W W' h hi
      refine ⟨hi.1.only (by omega) (by omega) (by omega) h, hrd W W' (fun k o h0 _ hk _ => ?_) hi.2⟩
      exact (h.block k (Array.getElem?_eq_some_iff.1 hk).1 (by simp; omega)).trans hk
    refine (Of.runs1 (D := fun k => w.heap.size + 1 < k ∧ k < w2.heap.size) l (w2.heap.size + 1) 5 (by omega) (fun tt W => Of.Inv w w2.heap.size W0.heap.size r1 r2 tt W ∧ rd W) (fun W => ∃ c, Of.Err w r1 r2 c W ∧ dn c W) (fun tt W W' h hi => hOn h hi) ?_ As cs t _ ?_ ?_).mono ?_
    · intro A c tt W hne hc hi
      obtain ⟨fn, tmps, assign, body, hy, hR⟩ := hY (A, c, tt) W ⟨hne, hc, hi.1⟩ hi.2
      refine ⟨fn, tmps, assign, body, hy, hR.mono ?_⟩
      rintro e W' (⟨rfl, ⟨hc', hi'⟩, hr', _⟩ | ⟨rfl, hx, _⟩)
      · exact .inl ⟨rfl, hc', hi', hr'⟩
      · exact .inr ⟨rfl, hx⟩
    · exact (hC0.alloc _).alloc _
    · exact ⟨(hI0.alloc _).alloc _, h1⟩
    · rintro e W' ⟨hv, hx⟩
      exact ⟨hv, hx⟩
  case done =>
    rintro E W hE ⟨ov, out, k', hb1, hR, hb2, hb3, hB, hgo, _⟩ hK
    have hc1 := hb1.cell
    have hf1 := hb1.frozen
    have hc2 := hb2.cell
    have hf2 := hb2.frozen
    have hc3 := hb3.cell
    have hf3 := hb3.frozen
    cases k' with
    | zero => exact absurd hgo (by simp [Of.goF])
    | succ k' =>
    have hgo' := hgo
    rw [Of.goF, if_pos (by rfl)] at hgo'
    obtain ⟨Ao, co, rfl⟩ := Kd.R_slice hR
    by_cases hbig : out.length > 2000
    · rw [if_pos hbig] at hgo'
      simp only [Option.some.injEq, Prod.mk.injEq] at hgo'
      obtain ⟨rfl, rfl⟩ := hgo'
      have hd : decide ((2000 : Int) < (out.length : Int)) = true := by simp; omega
      gi_wp2
      exact Of.leave rfl rfl ((hb2.set _).other (by omega) _) ((hb3.other (by omega) _).set _) (Kd.R_nil _ _ _ _ _) ((hB.setCell (p := ⟨_, 0, none⟩) (Nat.le_refl _) _).setCell (p := ⟨_, 0, none⟩) (by simp) _) (by omega)
        (((KeepsOthers.setCell _ _ _).same _ _ ((KeepsOthers.setCell _ _ _).same _ _ hK rfl) rfl))
    · rw [if_neg hbig] at hgo'
      simp only [Option.some.injEq, Prod.mk.injEq] at hgo'
      obtain ⟨rfl, rfl⟩ := hgo'
      have hd : decide ((2000 : Int) < (out.length : Int)) = false := by simp; omega
      gi_wp2
      exact Of.leave rfl rfl ((hb2.set _).other (by omega) _) ((hb3.other (by omega) _).set _)
        (Kd.R_mono (Kd.R_far (Kd.R_far hR (fun k hk => by show k ≠ w.heap.size; omega) _) (fun k hk => by show k ≠ w.heap.size + 1; omega) _) (fun _ _ => trivial))
        ((hB.setCell (p := ⟨_, 0, none⟩) (Nat.le_refl _) _).setCell (p := ⟨_, 0, none⟩) (by simp) _) (by omega)
        (((KeepsOthers.setCell _ _ _).same _ _ ((KeepsOthers.setCell _ _ _).same _ _ hK rfl) rfl))
  case stop =>
    rintro E c W hE ⟨rfl, hr1, hb2, hb3, hB⟩ hK
    have hc2 := hb2.cell
    have hc3 := hb3.cell
    gi_wp2
    subst hr1
    exact Of.leave rfl rfl hb2 hb3 (Kd.R_nil _ _ _ _ _) hB (by omega) hK
end
end Go.Proofs.Ytgheapbhakamaaa.Q
