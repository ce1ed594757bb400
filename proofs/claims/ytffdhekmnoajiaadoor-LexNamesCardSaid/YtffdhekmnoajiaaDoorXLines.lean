import Derived.Test.YtffdhekmnoajiaaDoorXSplit
import Derived.Lib.SliceRun
/- lex.lines: the iterator over a text's lines -/
set_option linter.unusedVariables false
set_option linter.unusedSimpArgs false
namespace Go.Proofs.YtffdhekmnoajiaaDoor.X
open Go Go.RowKit Go.Proofs.YtffdhekmnoajiaaDoorW.PrintWords Go.Proofs.YtffdhekmnoajiaaDoorW.PrintLast Go.Proofs.YtffdhekmnoajiaaDoorW.PrintMore
attribute [local go_sem] Oper.semAt_some
theorem round_in {F : Fence} {m m' : Nat} (hd : F.depth = none) (l' : Nat) {P : Program} {l : Nat} {f : FuncId} {tmps : Array Value} {assign body : Code} {w : World} {R : Ending → World → Prop}
    (h : RoundIn F m P l f tmps assign body w R) : RoundIn (F.inRound l') m' P l f tmps assign body w R := ⟨h.1, fun c cs _ => by rw [fenced_inRound]; exact h.2 c cs (room_of_none hd _)⟩
/-- Nothing but the blocks from B on, m of them, has turned. -/
structure Turn (B m : Nat) (W W' : World) : Prop where
  os : W'.os = W.os
  tape : W'.tape = W.tape
  output : W'.output = W.output
  size : W.heap.size ≤ W'.heap.size
  block : ∀ k, k < W.heap.size → k < B ∨ B + m ≤ k → W'.heap[k]? = W.heap[k]?
theorem Turn.refl (B m : Nat) (W : World) : Turn B m W W := ⟨rfl, rfl, rfl, Nat.le_refl _, fun _ _ _ => rfl⟩
theorem Turn.trans {B m : Nat} {U V W : World} (h : Turn B m U V) (k : Turn B m V W) : Turn B m U W :=
  ⟨k.os.trans h.os, k.tape.trans h.tape, k.output.trans h.output, Nat.le_trans h.size k.size, fun j hj hb => (k.block j (Nat.lt_of_lt_of_le hj h.size) hb).trans (h.block j hj hb)⟩
theorem Turn.of_only {B m b : Nat} {W W' : World} (h : Only b W W') (h1 : B ≤ b) (h2 : b < B + m) : Turn B m W W' :=
  ⟨h.os, h.tape, h.output, h.size, fun k hk hb => h.block k hk (fun e => by cases e; omega)⟩
theorem Turn.alloc {B m : Nat} {U W : World} (h : Turn B m U W) (o : Obj) : Turn B m U (W.alloc o) :=
  h.trans ⟨rfl, rfl, rfl, by simp, fun k hk _ => Below.heap_alloc W o k hk⟩
theorem Turn.putObj {B m l : Nat} (W : World) (o : Obj) (h1 : B ≤ l) (h2 : l < B + m) : Turn B m W (W.putObj l o) :=
  ⟨rfl, rfl, rfl, by simp, fun k _ hb => World.putObj_heap_other (by omega)⟩
set_option maxHeartbeats 4000000 in
theorem lines_calls (s : ByteArray) (w : World) : Calls Tryd.prog 23 #[.string s] w fun e w' => e = .returned (.func (.func 37) #[] #[.pointer (some ⟨w.heap.size, 0, none⟩)]) ∧ w' = w.alloc (.cells #[.string s] 9) := by
  go_enter Tryd.func23, Tryd.ntmps23
  go_wp2
  go_ret
  exact ⟨rfl, rfl⟩
set_option maxHeartbeats 4000000 in
theorem seq_calls (s : ByteArray) (w : World) : Calls Tryd.prog 38 #[.string s, .string ⟨#[10]⟩] w fun e w' => e = .returned (.func (.func 46) #[] #[.pointer (some ⟨w.heap.size + 1, 0, none⟩), .pointer (some ⟨w.heap.size, 0, none⟩), .pointer (some ⟨w.heap.size + 2, 0, none⟩)]) ∧
    w' = ((w.alloc (.cells #[.string s] 9)).alloc (.cells #[.string ⟨#[10]⟩] 9)).alloc (.cells #[.int .i64 0] 3) := by
  go_enter Tryd.func38, Tryd.ntmps38
  go_wp2
  go_ret
  exact ⟨rfl, rfl⟩
/-- the iterator's yield and number -/
structure Own (B l : Nat) (k : Int) (W : World) : Prop where
  yld : W.cell? ⟨B, 0, none⟩ = some (.func (.yield l) #[] #[])
  num : W.cell? ⟨B + 1, 0, none⟩ = some (.int .i64 k)
  froz : W.frozen? ⟨B + 1, 0, none⟩ = false
/-- what a round leaves of the iterator's blocks -/
structure Keeps (B : Nat) (W W' : World) : Prop where
  size : W.heap.size ≤ W'.heap.size
  own : ∀ j, B ≤ j → j < B + 5 → W'.heap[j]? = W.heap[j]?
  mx : W'.heap[0]? = W.heap[0]?
  oth : KeepsFrom B W W'
/-- the iterator's blocks are there, and hold cells -/
def AreCells (B : Nat) (W : World) : Prop := ∀ j, j < 5 → ∃ o, W.heap[B + j]? = some o ∧ o.isCells = true
theorem isCells_of {W : World} {a : Addr} {v : Value} (h : W.cell? a = some v) : ∃ o, W.heap[a.block]? = some o ∧ o.isCells = true := by
  unfold World.cell? at h
  split at h
  · rename_i heq; exact ⟨_, heq, rfl⟩
  · cases h
theorem AreCells.of {B l : Nat} {k : Int} {t : ByteArray} {W : World} (h : Own B l k W) (h' : Cells (B + 3) (B + 2) (B + 4) t W) : AreCells B W := by
  intro j hj
  have : j = 0 ∨ j = 1 ∨ j = 2 ∨ j = 3 ∨ j = 4 := by omega
  rcases this with rfl | rfl | rfl | rfl | rfl
  · exact isCells_of h.yld
  · exact isCells_of h.num
  · exact isCells_of h'.cur
  · exact isCells_of h'.sep
  · exact isCells_of h'.sav
theorem Own.keeps {B l : Nat} {k : Int} {W W' : World} (h : Own B l k W) (hk : Keeps B W W') : Own B l k W' :=
  ⟨(World.cell?_of_block (hk.own B (by omega) (by omega))).trans h.yld, (World.cell?_of_block (hk.own (B + 1) (by omega) (by omega))).trans h.num, (World.frozen?_of_block (hk.own (B + 1) (by omega) (by omega))).trans h.froz⟩
theorem Cells.keeps {B : Nat} {t : ByteArray} {W W' : World} (h : Cells (B + 3) (B + 2) (B + 4) t W) (hk : Keeps B W W') : Cells (B + 3) (B + 2) (B + 4) t W' := by
  refine ⟨(World.cell?_of_block (hk.own (B + 3) (by omega) (by omega))).trans h.sep, (World.cell?_of_block (hk.own (B + 2) (by omega) (by omega))).trans h.cur, (World.frozen?_of_block (hk.own (B + 2) (by omega) (by omega))).trans h.froz,
    (World.cell?_of_block (hk.own (B + 4) (by omega) (by omega))).trans h.sav, ?_, h.size⟩
  obtain ⟨m, hm⟩ := h.mx
  exact ⟨m, (World.cell?_of_block hk.mx).trans hm⟩
theorem Own.put {B l : Nat} {k : Int} {W : World} (h : Own B l k W) {j : Nat} (hj : B + 2 ≤ j) (o : Obj) : Own B l k (W.putObj j o) :=
  ⟨(World.cell?_of_block (World.putObj_heap_other (by show B ≠ j; omega))).trans h.yld, (World.cell?_of_block (World.putObj_heap_other (by show B + 1 ≠ j; omega))).trans h.num, (World.frozen?_of_block (World.putObj_heap_other (by show B + 1 ≠ j; omega))).trans h.froz⟩
theorem Cells.put {B : Nat} {t : ByteArray} {W : World} (h : Cells (B + 3) (B + 2) (B + 4) t W) (hmB : 0 < B) {j : Nat} (hj : B + 5 ≤ j) (o : Obj) : Cells (B + 3) (B + 2) (B + 4) t (W.putObj j o) := by
  obtain ⟨m, hm⟩ := h.mx
  exact ⟨(World.cell?_of_block (World.putObj_heap_other (by show B + 3 ≠ j; omega))).trans h.sep, (World.cell?_of_block (World.putObj_heap_other (by show B + 2 ≠ j; omega))).trans h.cur, (World.frozen?_of_block (World.putObj_heap_other (by show B + 2 ≠ j; omega))).trans h.froz,
    (World.cell?_of_block (World.putObj_heap_other (by show B + 4 ≠ j; omega))).trans h.sav, ⟨m, (World.cell?_of_block (World.putObj_heap_other (by show 0 ≠ j; omega))).trans hm⟩, h.size⟩
theorem Cells.other {bp bs bv b : Nat} {t : ByteArray} {W : World} (h : Cells bp bs bv t W) (h1 : bp ≠ b) (h2 : bs ≠ b) (h3 : bv ≠ b) (h4 : 0 ≠ b) (v : Value) : Cells bp bs bv t (W.setCell ⟨b, 0, none⟩ v) := by
  obtain ⟨m, hm⟩ := h.mx
  exact ⟨(World.cell?_of_block (Below.heap_setCell _ _ _ _ h1)).trans h.sep, (World.cell?_of_block (Below.heap_setCell _ _ _ _ h2)).trans h.cur, (World.frozen?_of_block (Below.heap_setCell _ _ _ _ h2)).trans h.froz,
    (World.cell?_of_block (Below.heap_setCell _ _ _ _ h3)).trans h.sav, ⟨m, (World.cell?_of_block (Below.heap_setCell _ _ _ _ h4)).trans hm⟩, h.size⟩
theorem Own.move {B l : Nat} {k : Int} {W W' : World} (h : Own B l k W) (hm : ∀ j, j = B ∨ j = B + 1 → W'.heap[j]? = W.heap[j]?) : Own B l k W' :=
  ⟨(World.cell?_of_block (hm B (.inl rfl))).trans h.yld, (World.cell?_of_block (hm (B + 1) (.inr rfl))).trans h.num, (World.frozen?_of_block (hm (B + 1) (.inr rfl))).trans h.froz⟩
theorem Own.only {B l b : Nat} {k : Int} {W W' : World} (h : Own B l k W) (ho : Only b W W') (h1 : B ≠ b) (h2 : B + 1 ≠ b) : Own B l k W' := by
  have e1 := World.block_lt_of_cell? W _ h.yld
  have e2 := World.block_lt_of_cell? W _ h.num
  refine h.move (fun j hj => ?_)
  rcases hj with rfl | rfl
  · exact ho.block _ e1 (by simpa using h1)
  · exact ho.block _ e2 (by simpa using h2)
theorem Cells.move {bp bs bv : Nat} {t : ByteArray} {W W' : World} (h : Cells bp bs bv t W) (hm : ∀ j, j = bp ∨ j = bs ∨ j = bv ∨ j = 0 → W'.heap[j]? = W.heap[j]?) : Cells bp bs bv t W' := by
  obtain ⟨m, hx⟩ := h.mx
  exact ⟨(World.cell?_of_block (hm _ (.inl rfl))).trans h.sep, (World.cell?_of_block (hm _ (.inr (.inl rfl)))).trans h.cur, (World.frozen?_of_block (hm _ (.inr (.inl rfl)))).trans h.froz,
    (World.cell?_of_block (hm _ (.inr (.inr (.inl rfl))))).trans h.sav, ⟨m, (World.cell?_of_block (hm _ (.inr (.inr (.inr rfl))))).trans hx⟩, h.size⟩
theorem leave37 {n : Nat} {tmps : Array Value} {D : Nat} {W : World} {R : Ending → World → Prop} {e : Exit} (he : e = .normal ∨ e = .ret) (hK : W.heap[D]? = some (.deferred (some []))) (h : R (.returned (.tuple #[])) (W.putObj D (.deferred none))) :
    bodyPostM Fence.wide n Tryd.prog Tryd.f37 R e { tmps := tmps, defers := [{ target := .collected D, args := #[] }] } W := by
  have hr : (results Tryd.f37 tmps).run Tryd.prog (W.putObj D (.deferred none)) = .ok (.tuple #[]) (W.putObj D (.deferred none)) := results_none rfl _ _ _
  rcases he with rfl | rfl
  · exact ⟨by simp, .inl ⟨_, _, rfl, run_takeDeferred hK, ⟨_, hr, h⟩⟩⟩
  · exact ⟨by simp, .inl ⟨_, _, rfl, run_takeDeferred hK, ⟨_, hr, h⟩⟩⟩
set_option maxRecDepth 100000 in
set_option maxHeartbeats 4000000 in
theorem lines1 (l c0 n B : Nat) (s : ByteArray) (hn : 3 ≤ n) (I : Int → ByteArray → World → Prop) (Id Ix : World → Prop)
    (hI : ∀ k t W W', Turn B 5 W W' → I k t W → I k t W') (hId : ∀ W W', Turn B 5 W W' → Id W → Id W') (hIx : ∀ W W', Turn B 5 W W' → Ix W → Ix W')
    (hIa : ∀ k t, XR.Abide B (I k t)) (hIda : XR.Abide B Id) (hIxa : XR.Abide B Ix)
    (hY : ∀ (k : Int) t W, 0 ≤ k → k ≤ s.size → AreCells B W → I k t W → YieldAt Fence.wide (n - 1) Tryd.prog l #[.int .i64 (k + 1), .string (headL t)] W fun e W' =>
      (e = .returned (.bool true) ∧ Keeps B W W' ∧ (0 ≤ nl t → I (k + 1) (restL t) W') ∧ (nl t < 0 → Id W')) ∨ (e = .returned (.bool false) ∧ Keeps B W W' ∧ Ix W'))
    (W0 : World) (hB : W0.heap.size = B) (hc : W0.cell? ⟨c0, 0, none⟩ = some (.string s)) (hm : ∃ m, W0.cell? ⟨0, 0, none⟩ = some (.int .i64 m)) (hs : s.size < 4294967281) (hi : I 0 s W0) :
    CallsIn Fence.wide n Tryd.prog 37 #[.func (.yield l) #[] #[], .pointer (some ⟨c0, 0, none⟩)] W0 fun e W' => (∃ v, e = .returned v) ∧ (Id W' ∨ Ix W') := by
  refine callsIn_of_wp_marks Tryd.func37 rfl trivial ?_ rfl
  simp only [Tryd.ntmps37, List.size_toArray, List.length_cons, List.length_nil, Nat.reduceAdd, Nat.reduceSub, Array.replicate_succ, Array.replicate_zero, List.push_toArray, List.append_toArray, List.nil_append, List.cons_append]
  have hc0 : ∀ o o', ((W0.alloc o).alloc o').cell? ⟨c0, 0, none⟩ = some (.string s) := fun o o' => Lib.cell?_alloc_some o' (Lib.cell?_alloc_some o hc)
  gi_wp2_with (refine ⟨trivial, fun h => (by cases h), ?_⟩; gi_at_call 38; refine (callsIn_wide.2 (seq_calls s _)).mono ?_; rintro e w' ⟨rfl, rfl⟩)
  obtain ⟨m0, hm0⟩ := hm
  have hmB : 0 < B := hB ▸ World.block_lt_of_cell? W0 _ hm0
  obtain ⟨W1, hW1⟩ : ∃ W1, ((((W0.alloc (.cells #[.func (.yield l) #[] #[]] 72)).alloc (.cells #[.int .i64 0] 3)).alloc (.cells #[.string s] 9)).alloc (.cells #[.string ⟨#[10]⟩] 9)).alloc (.cells #[.int .i64 0] 3) = W1 := ⟨_, rfl⟩
  rw [hW1]
  have hT : Turn B 5 W0 W1 := by rw [← hW1]; exact (((((Turn.refl B 5 W0).alloc _).alloc _).alloc _).alloc _).alloc _
  have hsz : W1.heap.size = B + 5 := by rw [← hW1]; simp [hB]
  have hblk : W1.heap[B]? = some (.cells #[.func (.yield l) #[] #[]] 72 (0, 0)) ∧ W1.heap[B + 1]? = some (.cells #[.int .i64 0] 3 (0, 0)) ∧ W1.heap[B + 2]? = some (.cells #[.string s] 9 (0, 0)) ∧ W1.heap[B + 3]? = some (.cells #[.string ⟨#[10]⟩] 9 (0, 0)) ∧ W1.heap[B + 4]? = some (.cells #[.int .i64 0] 3 (0, 0)) := by
    rw [← hW1, ← hB]
    refine ⟨?_, ?_, ?_, ?_, ?_⟩
    · exact blk_alloc (blk_alloc (blk_alloc (blk_alloc (blk_new W0 _) _) _) _) _
    · have h := blk_alloc (blk_alloc (blk_alloc (blk_new (W0.alloc (.cells #[.func (.yield l) #[] #[]] 72)) (.cells #[.int .i64 0] 3)) (.cells #[.string s] 9)) (.cells #[.string ⟨#[10]⟩] 9)) (.cells #[.int .i64 0] 3)
      simpa only [World.size_alloc] using h
    · have h := blk_alloc (blk_alloc (blk_new ((W0.alloc (.cells #[.func (.yield l) #[] #[]] 72)).alloc (.cells #[.int .i64 0] 3)) (.cells #[.string s] 9)) (.cells #[.string ⟨#[10]⟩] 9)) (.cells #[.int .i64 0] 3)
      simpa only [World.size_alloc] using h
    · have h := blk_alloc (blk_new (((W0.alloc (.cells #[.func (.yield l) #[] #[]] 72)).alloc (.cells #[.int .i64 0] 3)).alloc (.cells #[.string s] 9)) (.cells #[.string ⟨#[10]⟩] 9)) (.cells #[.int .i64 0] 3)
      simpa only [World.size_alloc] using h
    · have h := blk_new ((((W0.alloc (.cells #[.func (.yield l) #[] #[]] 72)).alloc (.cells #[.int .i64 0] 3)).alloc (.cells #[.string s] 9)).alloc (.cells #[.string ⟨#[10]⟩] 9)) (.cells #[.int .i64 0] 3)
      simpa only [World.size_alloc] using h
  have hm1 : W1.cell? ⟨0, 0, none⟩ = some (.int .i64 m0) := (World.cell?_of_block (hT.block _ (Nat.lt_of_lt_of_eq hmB hB.symm) (.inl hmB))).trans hm0
  have hC1 : Cells (B + 3) (B + 2) (B + 4) s W1 := ⟨(blk_cell hblk.2.2.2.1 0).trans rfl, (blk_cell hblk.2.2.1 0).trans rfl, blk_frozen hblk.2.2.1 0, (blk_cell hblk.2.2.2.2 0).trans rfl, ⟨m0, hm1⟩, hs⟩
  have hO1 : Own B l 0 W1 := ⟨(blk_cell hblk.1 0).trans rfl, (blk_cell hblk.2.1 0).trans rfl, blk_frozen hblk.2.1 0⟩
  have hi1 : I 0 s W1 := hI _ _ _ _ hT hi
  clear hW1 hblk hc0
  refine XR.wpIn_range_st (β := Int × ByteArray) (gf := 46) (lb := #[.pointer (some ⟨B + 3, 0, none⟩), .pointer (some ⟨B + 2, 0, none⟩), .pointer (some ⟨B + 4, 0, none⟩)]) rfl (by omega) rfl trivial (enters_of Tryd.func46 (by kernel_rfl) rfl)
    (fun x => #[.string (headL x.2)]) (fun _ => rfl)
    (fun x W => Cells (B + 3) (B + 2) (B + 4) x.2 W ∧ Own B l x.1 W ∧ (0 ≤ x.1 ∧ x.1 + x.2.size ≤ s.size) ∧ I x.1 x.2 W)
    (fun x W => (0 ≤ nl x.2 → Cells (B + 3) (B + 2) (B + 4) x.2 W ∧ Own B l (x.1 + 1) W ∧ (0 ≤ x.1 + 1 ∧ x.1 + 1 + (restL x.2).size ≤ s.size) ∧ I (x.1 + 1) (restL x.2) W) ∧ (nl x.2 < 0 → Id W))
    (fun x a' W => a' = { tmps := #[.func (.yield l) #[] #[], .pointer (some ⟨c0, 0, none⟩), .pointer (some ⟨B, 0, none⟩), .pointer (some ⟨B + 1, 0, none⟩), .string (headL x.2), .string s, .func (.func 46) #[] #[.pointer (some ⟨B + 3, 0, none⟩), .pointer (some ⟨B + 2, 0, none⟩), .pointer (some ⟨B + 4, 0, none⟩)], .string (headL x.2), undef, undef, undef, undef, undef, undef, undef], defers := [] } ∧ Cells (B + 3) (B + 2) (B + 4) x.2 W ∧ Own B l x.1 W ∧ (0 ≤ x.1 ∧ x.1 + x.2.size ≤ s.size) ∧ I x.1 x.2 W)
    (fun c W => c = .ret ∧ Ix W) (fun W => Id W) ?hJb ?hJ' ?hJx ?hJd ?assign ?body ?hit ?done ?stop
  case hJd => exact fun W l o o' h hl hlo ho => hIda W l o o' h (by omega) hlo ho
  case hJx => exact fun c W l o o' h hl hlo ho => ⟨h.1, hIxa W l o o' h.2 (by omega) hlo ho⟩
  case hJ' =>
    rintro x W l' o o' ⟨h1, h2⟩ hl hlo ho
    refine ⟨fun h0 => ?_, fun h0 => hIda W l' o o' (h2 h0) (by omega) hlo ho⟩
    obtain ⟨hc, ho', hb, hi⟩ := h1 h0
    exact ⟨hc.put hmB (by omega) _, ho'.put (by omega) _, hb, hIa _ _ W l' o o' hi (by omega) hlo ho⟩
  case hJb =>
    rintro x a' W l' o o' ⟨ha, hc, ho', hb, hi⟩ hl hlo ho
    exact ⟨ha, hc.put hmB (by omega) _, ho'.put (by omega) _, hb, hIa _ _ W l' o o' hi (by omega) hlo ho⟩
  case assign =>
    intro l' x W K hj hK
    gi_wp2
    exact hK _ _ (KeepsFrom.refl _ _) ⟨rfl, hj⟩
  case body =>
    rintro l' ⟨k, t⟩ a' W ⟨rfl, hc, ho, hb, hi⟩
    dsimp only at hc ho hb hi ⊢
    have hyl := ho.yld
    have hnum := ho.num
    have hfz := ho.froz
    have hk1 : wrap64 (k + 1) = k + 1 := by unfold wrap64; omega
    have hon : Only (B + 1) W (W.setCell ⟨B + 1, 0, none⟩ (.int .i64 (k + 1))) := Only.set _ _ _
    have ho2 : Own B l (k + 1) (W.setCell ⟨B + 1, 0, none⟩ (.int .i64 (k + 1))) := ⟨(World.cell?_of_block (Below.heap_setCell _ _ _ _ (by show B ≠ B + 1; omega))).trans hyl, World.cell?_setCell_same' _ _ _ (by rw [hnum]; rfl), by rw [World.frozen?_setCell]; exact hfz⟩
    have hc2 : Cells (B + 3) (B + 2) (B + 4) t (W.setCell ⟨B + 1, 0, none⟩ (.int .i64 (k + 1))) := hc.other (by omega) (by omega) (by omega) (by omega) _
    have hi2 := hI _ _ _ _ (Turn.of_only hon (by omega) (by omega)) hi
    obtain ⟨fn, tmps, assign, bodyc, hy, hR⟩ := hY k t _ hb.1 (by omega) (.of ho2 hc2) hi2
    have hyl2 := ho2.yld
    have hnum2 := ho2.num
    have HO2 := Aside0.mk ho2
    have HC2 := Aside0.mk hc2
    clear hi hi2 hc hc2 ho ho2
    gi_wp2
    refine ⟨fun h => (by cases h), (round_in rfl l' hR).mono ?_⟩
    have hkf : ∀ {W3 : World}, Keeps B (W.setCell ⟨B + 1, 0, none⟩ (.int .i64 (k + 1))) W3 → KeepsFrom W1.heap.size W W3 := fun {W3} hk => ((KeepsOthers.setCell _ _ _).from _).trans ⟨hk.oth.size, fun j o hj => hk.oth.same j o (by omega)⟩
    rintro e W3 (⟨rfl, hk, h0, h1⟩ | ⟨rfl, hk, hx⟩)
    · have HC3 := HC2.out.keeps hk
      have HO3 := HO2.out.keeps hk
      clear hnum hfz hyl hyl2 hnum2 hy
      gi_wp2
      refine ⟨hkf hk, fun hn0 => ⟨HC3, HO3, ?_, h0 hn0⟩, h1⟩
      have := restL_size t hn0
      omega
    · clear hnum hfz hyl hyl2 hnum2 hy
      gi_wp2
      exact ⟨hkf hk, rfl, hx⟩
  case hit =>
    rintro l' rd dn W1' ⟨o1, o2, rfl⟩ hrd hdn hr1 hY'
    have hal : ∀ j, j < W1.heap.size → ((W1.alloc o1).alloc o2).heap[j]? = W1.heap[j]? := fun j hj => (Below.heap_alloc _ _ j (by simp; omega)).trans (Below.heap_alloc _ _ j hj)
    refine (splits l' (B + 3) (B + 2) (B + 4) (n - 1) (by omega) (by omega) (by omega) (fun t W => ∃ k, Own B l k W ∧ (0 ≤ k ∧ k + t.size ≤ s.size) ∧ I k t W ∧ rd W) (fun W => Id W ∧ rd W) (fun W => ∃ c, (c = .ret ∧ Ix W) ∧ dn c W) ?_ ?_ ?_ s _ ?_ ?_).mono ?_
    · rintro t W W' h ⟨k, ho, hb, hi, hr⟩
      refine ⟨k, ho.only h (by omega) (by omega), hb, hI _ _ _ _ (Turn.of_only h (by omega) (by omega)) hi, hrd W W' (fun j o hj0 _ hk _ => ?_) hr⟩
      exact (h.block j (Array.getElem?_eq_some_iff.1 hk).1 (by simp; omega)).trans hk
    · rintro t W h0 hc ⟨k, ho, hb, hi, hr⟩
      have hy := hY' (k, t) W ⟨hc, ho, hb, hi⟩ hr
      simp only [headL, if_neg (Int.not_lt.mpr h0)] at hy
      refine yield_mono hy ?_
      rintro e W' (⟨he, ⟨hj, _⟩, hr', _⟩ | ⟨he, hx, _⟩)
      · obtain ⟨hc', ho', hb', hi'⟩ := hj h0
        exact .inl ⟨he, hc', k + 1, ho', hb', hi', hr'⟩
      · exact .inr ⟨he, hx⟩
    · rintro t W h0 hc ⟨k, ho, hb, hi, hr⟩
      have hy := hY' (k, t) W ⟨hc, ho, hb, hi⟩ hr
      simp only [headL, if_pos h0] at hy
      refine yield_mono hy ?_
      rintro e W' (⟨he, ⟨_, hj⟩, hr', _⟩ | ⟨he, hx, _⟩)
      · exact ⟨⟨_, he⟩, .inl ⟨hj h0, hr'⟩⟩
      · exact ⟨⟨_, he⟩, .inr hx⟩
    · exact hC1.move (fun j hj => hal j (by omega))
    · exact ⟨0, hO1.move (fun j hj => hal j (by omega)), by omega, hI _ _ _ _ (((Turn.refl B 5 W1).alloc _).alloc _) hi1, hr1⟩
    · rintro e W' ⟨hv, hx⟩
      exact ⟨hv, hx⟩
  case done =>
    rintro D W hD hid hK
    exact leave37 (.inl rfl) hK ⟨⟨_, rfl⟩, .inl (hIda W D _ _ hid (by omega) hK rfl)⟩
  case stop =>
    rintro D c W hD ⟨rfl, hx⟩ hK
    gi_wp2
    exact leave37 (.inr rfl) hK ⟨⟨_, rfl⟩, .inr (hIxa W D _ _ hx (by omega) hK rfl)⟩
end Go.Proofs.YtffdhekmnoajiaaDoor.X
