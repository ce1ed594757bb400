import Derived.Test.YtffdhekmnoajiaaDoorXLines
import Derived.Test.YtffdhekmnoajiaaDoorXName
import Derived.Test.YtffdhekmnoajiaaDoorXLayCut
import Derived.Test.YtffdhekmnoajiaaDoorXLayFields
import Derived.Test.YtffdhekmnoajiaaDoorQx0
/- lex.Lines by hand -/
set_option linter.unusedVariables false
set_option linter.unusedSimpArgs false
namespace Go.Proofs.YtffdhekmnoajiaaDoor.X
open Go Go.RowKit Go.Proofs.YtffdhekmnoajiaaDoorW.PrintWords Go.Proofs.YtffdhekmnoajiaaDoorW.PrintLast Go.Proofs.YtffdhekmnoajiaaDoorW.PrintMore Go.Proofs.YtffdhekmnoajiaaDoor Go.Proofs.YtffdhekmnoajiaaDoor.Q
attribute [local go_sem] Oper.semAt_some
def blankP (x : Nat) : Bool := x == 32 || x == 9
set_option maxHeartbeats 4000000 in
theorem blank_gives (w : World) : PredAt Tryd.prog 26 #[] encR blankP w := by
  intro W x _
  show Calls Tryd.prog 26 #[.int .i32 x] W fun e w' => e = .returned (.bool (blankP x)) ∧ ∃ q, w' = W.drewN q
  unfold blankP
  obtain ⟨c, hc⟩ : ∃ c : Int, (x : Int) = c := ⟨_, rfl⟩
  have e1 : (x == 32) = (c == 32) := by rw [Bool.eq_iff_iff, beq_iff_eq, beq_iff_eq]; omega
  have e2 : (x == 9) = (c == 9) := by rw [Bool.eq_iff_iff, beq_iff_eq, beq_iff_eq]; omega
  rw [e1, e2, hc]
  clear e1 e2 hc
  obtain ⟨b1, h1⟩ : ∃ b, (c == 32) = b := ⟨_, rfl⟩
  obtain ⟨b2, h2⟩ : ∃ b, (c == 9) = b := ⟨_, rfl⟩
  rw [h1, h2]
  cases b1 <;> cases b2 <;>
  · go_enter Tryd.func26, Tryd.ntmps26
    go_wp2
    go_ret
    exact ⟨rfl, 0, rfl⟩
set_option maxHeartbeats 8000000 in
set_option maxRecDepth 100000 in
theorem odd_gives : GivesB 22 oddP := by
  intro x W h0 h1
  unfold oddP
  obtain ⟨b1, e1⟩ : ∃ b, (x != 9) = b := ⟨_, rfl⟩
  obtain ⟨b2, e2⟩ : ∃ b, (x != 10) = b := ⟨_, rfl⟩
  obtain ⟨b3, e3⟩ : ∃ b, decide (x < 32) = b := ⟨_, rfl⟩
  obtain ⟨b4, e4⟩ : ∃ b, decide (126 < x) = b := ⟨_, rfl⟩
  rw [e1, e2, e3, e4]
  cases b1 <;> cases b2 <;> cases b3 <;> cases b4 <;>
  · go_enter Tryd.func22, Tryd.ntmps22
    go_wp2
    go_ret
    exact ⟨rfl, Drawn0.refl _⟩
/-- a line ahead of its mark -/
def plainL (p : ByteArray) : ByteArray := ⟨(Lib.cut p.data.toList [35]).1.toArray⟩
def wordsOf (p : ByteArray) : List ByteArray := Lib.goFieldsP blankP (plainL p)
def lineOut (k : Int) (p : ByteArray) : List S42 := if (wordsOf p).length > 0 then [⟨k, wordsOf p⟩] else []
def goL : Nat → Int → ByteArray → List S42 → Option (List S42)
  | 0, _, _, _ => none
  | f + 1, k, t, out => if nl t < 0 then some (out ++ lineOut (k + 1) (headL t)) else goL f (k + 1) (restL t) (out ++ lineOut (k + 1) (headL t))
theorem plainL_size (p : ByteArray) : (plainL p).size ≤ p.size := by
  have h : (Lib.cut p.data.toList [35]).1.length ≤ p.data.toList.length := by
    unfold Lib.cut
    by_cases h : 0 ≤ Lib.index p.data.toList [35]
    · rw [if_pos h]; simp; omega
    · rw [if_neg h]; simp
  have h2 : p.data.toList.length = p.size := by rw [Array.length_toList]; rfl
  show (Lib.cut p.data.toList [35]).1.toArray.size ≤ _
  rw [List.size_toArray]; omega
theorem cut_calls (s : ByteArray) (w : World) (hm : ∃ m, w.cell? ⟨0, 0, none⟩ = some (.int .i64 m)) (hs : s.size < 4294967281) : Calls Tryd.prog 24 #[.string s, .string ⟨#[35]⟩] w fun e w' => (∃ x y, e = .returned (.tuple #[.string (plainL s), .string x, .bool y])) ∧ ∃ n, w' = w.drewN n := by
  obtain ⟨m, hm⟩ := hm
  have h := Any.strings_Cut lays145 s ⟨#[35]⟩ m w hs hm
  exact h.mono fun e w' ⟨he, hw⟩ => ⟨⟨_, _, he⟩, hw⟩
theorem fields_calls (s : ByteArray) (w : World) (hs : s.size ≤ 4294967296) : Calls Tryd.prog 25 #[.string s, .func (.func 26) #[] #[]] w fun e w' =>
    ∃ A, e = .returned (.slice (some ⟨A, 0, none⟩) (Lib.goFieldsP blankP s).length (Lib.goFieldsP blankP s).length) ∧ Kd.R Kd.string 9 w' w.heap.size (fun k => w.heap.size ≤ k) (.slice (some ⟨A, 0, none⟩) (Lib.goFieldsP blankP s).length (Lib.goFieldsP blankP s).length) (Lib.goFieldsP blankP s) ∧ Below w.heap.size w w' := by
  have h := Any.strings_FieldsFunc lays229 26 #[] (enters_of Tryd.func26 (by kernel_rfl) rfl) blankP s w hs (blank_gives w) (by kernel_rfl) (by kernel_rfl)
  refine h.mono ?_
  rintro e w' ⟨A, rfl, hA, ho, hB⟩
  refine ⟨A, rfl, ⟨fun k hk => ?_, _, ho, ?_⟩, hB⟩
  · have : A = k := by simpa [Value.ownBlock] using hk
    omega
  · exact Kd.reps_scalar (enc := Value.string) _
/-- what holds between two rounds: out's box and row, what is still to come -/
def LInv (w : World) (bo n1 : Nat) (r : List S42) (k : Int) (t : ByteArray) (W : World) : Prop :=
  ∃ (ov : Value) (out : List S42) (f : Nat), Boxed W bo 26 ov ∧ Kd.S k42 42 W w.heap.size (fun j => n1 ≤ j) ov out ∧ Below w.heap.size w W ∧ goL f k t out = some r ∧ (out.length : Int) ≤ k ∧ t.size ≤ 20000
def LFin (w : World) (bo n1 : Nat) (r : List S42) (W : World) : Prop :=
  ∃ ov, Boxed W bo 26 ov ∧ Kd.S k42 42 W w.heap.size (fun j => n1 ≤ j) ov r ∧ Below w.heap.size w W
def Snap (B : Nat) (c : Nat → Option Obj) (W : World) : Prop := ∀ j, j < 5 → W.heap[B + j]? = c j ∧ ∃ o, c j = some o ∧ o.isCells = true
theorem Snap.put {B : Nat} {c : Nat → Option Obj} {W : World} (h : Snap B c W) {l : Nat} {o : Obj} (o' : Obj) (hl : W.heap[l]? = some o) (ho : o.isCells = false) : Snap B c (W.putObj l o') := by
  intro j hj
  obtain ⟨h1, o1, h2, h3⟩ := h j hj
  refine ⟨(World.putObj_heap_other ?_).trans h1, o1, h2, h3⟩
  rintro rfl
  rw [h1, h2] at hl
  cases hl; rw [h3] at ho; cases ho
theorem boxed_turn {W : World} {B l : Nat} {t : TypeId} {v : Value} {o : Obj} (o' : Obj) (h : Boxed W B t v) (hl : W.heap[l]? = some o) (ho : o.isCells = false) : Boxed (W.putObj l o') B t v :=
  (World.putObj_heap_other (by rintro rfl; rw [show W.heap[B]? = _ from h] at hl; cases hl; cases ho)).trans h
theorem S_turn {α : Type} {d : Kd α} {e : Nat} {W : World} {base l : Nat} {ok : Nat → Prop} {v : Value} {xs : List α} {o : Obj} (o' : Obj) (h : Kd.S d e W base ok v xs) (hl : W.heap[l]? = some o) (ho : o.isCells = false) : Kd.S d e (W.putObj l o') base ok v xs :=
  Kd.S_mono (Kd.S_move (Kd.S_bound h) (fun k hk => World.putObj_heap_other (by
    rintro rfl
    obtain ⟨_, _, _, q, _, cells, hc⟩ := hk
    rw [hc] at hl; cases hl; cases ho))) (fun _ hk => hk.1)
theorem below_turn {w W : World} {l : Nat} (o' : Obj) (h : Below w.heap.size w W) (hl : w.heap.size ≤ l) : Below w.heap.size w (W.putObj l o') :=
  h.grown (grownBy_putObj' W l o') h.size (fun k e => by cases e; exact hl)
theorem LInv.abide {w : World} {bo n1 B : Nat} {r : List S42} {k : Int} {t : ByteArray} (hB : w.heap.size ≤ B) : XR.Abide B (LInv w bo n1 r k t) := by
  rintro W l o o' ⟨ov, out, f, h1, h2, h3, h4⟩ hl hlo ho
  exact ⟨ov, out, f, boxed_turn o' h1 hlo ho, S_turn o' h2 hlo ho, below_turn o' h3 (by omega), h4⟩
theorem LFin.abide {w : World} {bo n1 B : Nat} {r : List S42} (hB : w.heap.size ≤ B) : XR.Abide B (LFin w bo n1 r) := by
  rintro W l o o' ⟨ov, h1, h2, h3⟩ hl hlo ho
  exact ⟨ov, boxed_turn o' h1 hlo ho, S_turn o' h2 hlo ho, below_turn o' h3 (by omega)⟩
theorem below_Turn {w W W' : World} {B : Nat} (h : Below w.heap.size w W) (ht : Turn B 5 W W') (hB : w.heap.size ≤ B) : Below w.heap.size w W' :=
  ⟨ht.os.trans h.os, ht.tape.trans h.tape, ht.output.trans h.output, Nat.le_trans h.size ht.size, fun k hk => (ht.block k (by have := h.size; omega) (.inl (by omega))).trans (h.block k hk)⟩
theorem LInv.turn {w : World} {bo n1 B : Nat} {r : List S42} {k : Int} {t : ByteArray} {W W' : World} (h : LInv w bo n1 r k t W) (ht : Turn B 5 W W') (hB : w.heap.size ≤ B) (hbo : bo < B) (hn : B + 5 ≤ n1) : LInv w bo n1 r k t W' := by
  obtain ⟨ov, out, f, h1, h2, h3, h4⟩ := h
  exact ⟨ov, out, f, (ht.block bo h1.lt (.inl hbo)).trans h1, Kd.S_step h2 (fun j hj hlt => ht.block j hlt (.inr (by omega))), below_Turn h3 ht hB, h4⟩
theorem LFin.turn {w : World} {bo n1 B : Nat} {r : List S42} {W W' : World} (h : LFin w bo n1 r W) (ht : Turn B 5 W W') (hB : w.heap.size ≤ B) (hbo : bo < B) (hn : B + 5 ≤ n1) : LFin w bo n1 r W' := by
  obtain ⟨ov, h1, h2, h3⟩ := h
  exact ⟨ov, (ht.block bo h1.lt (.inl hbo)).trans h1, Kd.S_step h2 (fun j hj hlt => ht.block j hlt (.inr (by omega))), below_Turn h3 ht hB⟩
theorem Snap.lt {B : Nat} {c : Nat → Option Obj} {W : World} (h : Snap B c W) {j : Nat} (hj : j < 5) : B + j < W.heap.size := by
  obtain ⟨h1, o, h2, _⟩ := h j hj
  exact (Array.getElem?_eq_some_iff.1 (h1.trans h2)).1
theorem Snap.move {B : Nat} {c : Nat → Option Obj} {W W' : World} (h : Snap B c W) (hm : ∀ j, j < 5 → W'.heap[B + j]? = W.heap[B + j]?) : Snap B c W' := fun j hj => ⟨(hm j hj).trans (h j hj).1, (h j hj).2⟩
theorem keeps_below {W W' : World} (h : Below W.heap.size W W') : KeepsOthers W W' := ⟨h.size, fun k o hk _ => (h.block k (Array.getElem?_eq_some_iff.1 hk).1).trans hk⟩
theorem boxed_below {W W' : World} {B : Nat} {t : TypeId} {v : Value} (h : Boxed W B t v) (hb : Below W.heap.size W W') : Boxed W' B t v := (hb.block B h.lt).trans h
theorem round_close {w W : World} {bo n1 f : Nat} {r out : List S42} {k : Int} {t : ByteArray} {ov : Value} (hb : Boxed W bo 26 ov) (hR : Kd.S k42 42 W w.heap.size (fun j => n1 ≤ j) ov out) (hB : Below w.heap.size w W)
    (hgo : (if nl t < 0 then some out else goL f k (restL t) out) = some r) (hl : (out.length : Int) ≤ k) (ht : t.size ≤ 20000) : (0 ≤ nl t → LInv w bo n1 r k (restL t) W) ∧ (nl t < 0 → LFin w bo n1 r W) := by
  refine ⟨fun h => ?_, fun h => ?_⟩
  · rw [if_neg (by omega)] at hgo
    have := restL_size t h
    exact ⟨ov, out, f, hb, hR, hB, hgo, hl, by omega⟩
  · rw [if_pos h] at hgo
    obtain rfl := Option.some.inj hgo
    exact ⟨ov, hb, hR, hB⟩
def linesF (s : ByteArray) : Option (List S42 × Int) := if s.size > 20000 then some ([], 4) else if ((bytesL s).any oddP) = true then some ([], 5) else (goL (s.size + 1) 0 s []).bind fun r => some (r, 0)
set_option maxRecDepth 100000 in
set_option maxHeartbeats 8000000 in
theorem lex_lines_calls (s : ByteArray) (r1 : List S42) (r2 : Int) (w : World) (h : linesF s = some (r1, r2)) (hL : LaidW w) :
    Calls Tryd.prog 10 #[.string s] w fun e w' => ∃ v0_ : Value, e = .returned (.tuple #[v0_, .int .i64 r2]) ∧ Kd.S k42 42 w' w.heap.size (fun _ => True) v0_ r1 ∧ Below w.heap.size w w' := by
  unfold linesF at h
  by_cases h1 : s.size > 20000
  · rw [if_pos h1] at h
    obtain ⟨rfl, rfl⟩ : r1 = [] ∧ r2 = 4 := by simpa [eq_comm] using h
    have hd : decide (20000 < (s.size : Int)) = true := decide_eq_true (by omega)
    clear h h1
    go_enter Tryd.func10, Tryd.ntmps10
    go_wp2
    go_ret2
    exact ⟨_, rfl, Kd.S_nil _ _ _ _ _, Below.refl _ _⟩
  rw [if_neg h1] at h
  have hd : decide (20000 < (s.size : Int)) = false := decide_eq_false (by omega)
  have hcv : ∀ (w : World), (convert 9 43 (.string s)).run Tryd.prog w = .ok (.slice (some ⟨w.heap.size, 0, none⟩) s.size (grownCap w s.size 0 5)) (Lib.bytesWorld w 5 s) := fun w => Lib.run_convert_string_bytes w 9 43 5 s Tryd.underlying9 Tryd.underlying43 Tryd.underlying5
  have HC := Aside0.mk (fun (c : Nat) (W : World) => contains_bytes (g := 22) Tryd.func22 (by kernel_rfl) rfl odd_gives c s W (by omega))
  have hbw : Below w.heap.size w (Lib.bytesWorld w 5 s) := bytesWorld_below _ _ _ (Below.refl _ _) (Nat.le_refl _)
  by_cases h2 : ((bytesL s).any oddP) = true
  · rw [if_pos h2] at h
    obtain ⟨rfl, rfl⟩ : r1 = [] ∧ r2 = 5 := by simpa [eq_comm] using h
    rw [h2] at HC
    clear h h1 h2
    go_enter Tryd.func10, Tryd.ntmps10
    go_wp2_with (first | (go_at_call 21; refine (HC.out _ w).mono ?_; rintro e w' ⟨rfl, ⟨nd2, rfl⟩⟩))
    go_ret2
    exact ⟨_, rfl, Kd.S_nil _ _ _ _ _, pw_below_drewN hbw nd2⟩
  rw [if_neg h2] at h
  rw [Bool.not_eq_true] at h2
  rw [h2] at HC
  obtain ⟨r, hg, hr⟩ := Option.bind_eq_some_iff.mp h
  obtain ⟨rfl, rfl⟩ : r1 = r ∧ r2 = 0 := by simpa [eq_comm] using hr
  have HG := Aside0.mk hg
  clear h hg hr h2
  refine (callsIn_wide (n := 9)).1 ?_
  refine callsIn_of_wp_marks Tryd.func10 rfl trivial ?_ rfl
  simp only [Tryd.ntmps10, List.size_toArray, List.length_cons, List.length_nil, Nat.reduceAdd, Nat.reduceSub, Array.replicate_succ, Array.replicate_zero, List.push_toArray, List.append_toArray, List.nil_append, List.cons_append]
  gi_wp2_with (first
    | (refine ⟨trivial, ?_⟩; gi_at_call 21; refine (callsIn_wide.2 (HC.out _ w)).mono ?_; rintro e w1 ⟨rfl, ⟨nd, rfl⟩⟩)
    | (refine ⟨trivial, ?_⟩; gi_at_call 23; refine (callsIn_wide.2 (lines_calls s _)).mono ?_; rintro e w3 ⟨rfl, rfl⟩))
  obtain ⟨wb, hwb⟩ : ∃ wb, Lib.bytesWorld w 5 s = wb := ⟨_, rfl⟩
  rw [hwb] at hbw ⊢
  clear hcv HC hwb
  obtain ⟨W0, hW0⟩ : ∃ W0, ((wb.drewN nd).alloc (.cells #[.slice none 0 0] 26)).alloc (.cells #[.string s] 9) = W0 := ⟨_, rfl⟩
  rw [hW0]
  obtain ⟨bo, hbo⟩ : ∃ bo, wb.heap.size = bo := ⟨_, rfl⟩
  rw [hbo]
  have hsz : W0.heap.size = bo + 2 := by rw [← hW0, ← hbo]; simp
  have hwle : w.heap.size ≤ bo := hbo ▸ hbw.size
  have hB0 : Below w.heap.size w W0 := by rw [← hW0]; exact ((pw_below_drewN hbw nd).alloc (by simpa using hbw.size) _).alloc (by have := hbw.size; simp; omega) _
  have hx0 : Boxed W0 bo 26 (.slice none 0 0) := by rw [← hW0, ← hbo]; exact (Boxed.new (wb.drewN nd) _ _).alloc _
  have hc0 : W0.cell? ⟨bo + 1, 0, none⟩ = some (.string s) := by
    have h := (Boxed.new ((wb.drewN nd).alloc (.cells #[.slice none 0 0] 26)) 9 (.string s)).cell
    rw [hW0] at h
    simpa [hbo] using h
  clear hW0 hbo hbw
  obtain ⟨m0, hm0⟩ := hL.mx
  have hmw : 0 < w.heap.size := World.block_lt_of_cell? w _ hm0
  obtain ⟨B, hB⟩ : ∃ B, W0.heap.size + 2 = B := ⟨_, rfl⟩
  refine XR.wpIn_range_st (β := Int × ByteArray × (Nat → Option Obj)) (gf := 37) (lb := #[.pointer (some ⟨bo + 1, 0, none⟩)]) rfl (by omega) rfl trivial (enters_of Tryd.func37 (by kernel_rfl) rfl)
    (fun x => #[.int .i64 (x.1 + 1), .string (headL x.2.1)]) (fun _ => rfl)
    (fun x W => 0 ≤ x.1 ∧ x.1 ≤ s.size ∧ LInv w bo (B + 5) r1 x.1 x.2.1 W ∧ Snap B x.2.2 W)
    (fun x W => (0 ≤ nl x.2.1 → LInv w bo (B + 5) r1 (x.1 + 1) (restL x.2.1) W) ∧ (nl x.2.1 < 0 → LFin w bo (B + 5) r1 W) ∧ Snap B x.2.2 W)
    (fun x a' W => a' = { tmps := #[.string s, undef, .slice none 0 0, .int .i64 0, .pointer (some ⟨bo, 0, none⟩), .int .i64 (x.1 + 1), .string (headL x.2.1), undef, .string s, .int .i64 s.size, .bool false, .string s, .slice (some ⟨w.heap.size, 0, none⟩) s.size (grownCap w s.size 0 5), .bool false, .string s, .func (.func 37) #[] #[.pointer (some ⟨bo + 1, 0, none⟩)], .int .i64 (x.1 + 1), .string (headL x.2.1), undef, undef, undef, undef, undef, undef, undef, undef, undef, undef, undef, undef, undef, undef, undef, undef, undef, undef], defers := [] } ∧ 0 ≤ x.1 ∧ x.1 ≤ s.size ∧ LInv w bo (B + 5) r1 x.1 x.2.1 W ∧ Snap B x.2.2 W)
    (fun _ _ => False) (fun W => LFin w bo (B + 5) r1 W) ?hJb ?hJ' ?hJx ?hJd ?assign ?body ?hit ?done ?stop
  case hJd => exact LFin.abide (by omega)
  case hJx => exact fun c W l o o' h => h.elim
  case hJ' =>
    rintro x W l o o' ⟨h1, h2, h3⟩ hl hlo ho
    exact ⟨fun h0 => LInv.abide (B := W0.heap.size) (by omega) W l o o' (h1 h0) hl hlo ho, fun h0 => LFin.abide (B := W0.heap.size) (by omega) W l o o' (h2 h0) hl hlo ho, h3.put o' hlo ho⟩
  case hJb =>
    rintro x a' W l o o' ⟨ha, h0, h1, h2, h3⟩ hl hlo ho
    exact ⟨ha, h0, h1, LInv.abide (B := W0.heap.size) (by omega) W l o o' h2 hl hlo ho, h3.put o' hlo ho⟩
  case assign =>
    intro l x W K hj hK
    gi_wp2
    exact hK _ _ (KeepsFrom.refl _ _) ⟨rfl, hj⟩
  case stop => exact fun D c W hD h => h.elim
  case body =>
    rintro l ⟨k, t, c⟩ a' W ⟨rfl, hk0, hks, ⟨ov, out, f, hbx, hR, hBw, hgo, hlen, htl⟩, hsn⟩
    dsimp only at hk0 hks hbx hR hBw hgo hlen htl hsn ⊢
    cases f with
    | zero => cases hgo
    | succ f =>
    rw [goL] at hgo
    obtain ⟨q, hq⟩ : ∃ q, headL t = q := ⟨_, rfl⟩
    have hqs : q.size ≤ 20000 := by
      rw [← hq]; unfold headL; split
      · exact htl
      · rw [ByteArray.size_extract]; omega
    rw [hq] at hgo ⊢
    obtain ⟨ws, hws⟩ : ∃ ws, wordsOf q = ws := ⟨_, rfl⟩
    have hps := plainL_size q
    have hmW : ∃ m, W.cell? ⟨0, 0, none⟩ = some (.int .i64 m) := ⟨m0, (World.cell?_of_block (hBw.block _ hmw)).trans hm0⟩
    have HCT := Aside0.mk (cut_calls q W hmW (by omega))
    have HFL := Aside0.mk (fun W => fields_calls (plainL q) W (by omega))
    rw [show Lib.goFieldsP blankP (plainL q) = ws from hws] at HFL
    have hc1 := hbx.cell
    have hf1 := hbx.frozen
    obtain ⟨kq, hkq⟩ : ∃ kq, k + 1 = kq := ⟨_, rfl⟩
    rw [hkq] at hgo ⊢
    rcases Nat.eq_zero_or_pos ws.length with h0 | h0
    · have hd0 : decide (0 < (ws.length : Int)) = false := decide_eq_false (by omega)
      have hlo : lineOut kq q = [] := by unfold lineOut; rw [hws, if_neg (by omega)]
      rw [hlo, List.append_nil] at hgo
      gi_wp2_with (first
        | (refine ⟨trivial, ?_⟩; gi_at_call 24; refine (CallsIn.inRound l (callsIn_wide.2 HCT.out)).mono ?_; rintro e w4 ⟨⟨xx, yy, rfl⟩, nd4, rfl⟩)
        | (refine ⟨trivial, ?_⟩; gi_at_call 25; refine (CallsIn.inRound l (callsIn_wide.2 (HFL.out _))).mono ?_; rintro e w5 ⟨A5, rfl, hR5, hB5⟩))
      have hbW : Below W.heap.size W w5 := ((Below.refl W.heap.size W).trans ((pw_below_drewN (Below.refl _ W) nd4).trans hB5))
      refine ⟨(keeps_below hbW).from _, ?_⟩
      have hcl := round_close (boxed_below hbx hbW) (Kd.S_below hR hbW) (hBw.trans (hbW.mono hBw.size)) hgo (by omega) htl
      exact ⟨hcl.1, hcl.2, hsn.move (fun j hj => hbW.block _ (hsn.lt hj))⟩
    · have hd0 : decide (0 < (ws.length : Int)) = true := decide_eq_true (by omega)
      have hlo : lineOut kq q = [⟨kq, ws⟩] := by unfold lineOut; rw [hws, if_pos h0]
      rw [hlo] at hgo
      have hBW := hsn.lt (j := 4) (by omega)
      have hlt5 := Kd.S_lt hR
      obtain ⟨fT, hfT, hRT⟩ := Kd.S_tag (okv := fun j => B + 5 ≤ j ∧ j < W.heap.size) (Kd.S_mono (Kd.S_bound hR) (fun j hj => ⟨hj.1, hj.2.2.1⟩)) out.length (fun j => W.heap.size ≤ j) (fun j hj h2 => by omega)
      obtain ⟨inf, hi, hz0, hz1, hz2⟩ := info_parts info42
      gi_wp2_with (first
        | (refine ⟨trivial, ?_⟩; gi_at_call 24; refine (CallsIn.inRound l (callsIn_wide.2 HCT.out)).mono ?_; rintro e w4 ⟨⟨xx, yy, rfl⟩, nd4, rfl⟩)
        | (refine ⟨trivial, ?_⟩; gi_at_call 25; refine (CallsIn.inRound l (callsIn_wide.2 (HFL.out _))).mono ?_; rintro e w5 ⟨A5, rfl, hR5, hB5⟩; have hbW : Below W.heap.size W w5 := ((Below.refl W.heap.size W).trans ((pw_below_drewN (Below.refl _ W) nd4).trans hB5)); have b1 := boxed_below hbx hbW; have c1 := b1.cell; have f1 := b1.frozen; obtain ⟨hok, inner, hown, hreps⟩ := Kd.R_below hRT hbW; rw [List.length_zipIdx] at hown; change w5.ownsRow w.heap.size 42 2 ov out.length inner at hown)
        | (gi_at_builtin; refine wpListIn_append_own_at _ rfl _ _ 26 rfl w.heap.size 42 inf (.agg #[(.int .i64 0), (.slice none 0 0)]) 2 32 Tryd.underlying26 hi hz0 hz1 hz2 rfl (by decide) ov out.length inner rfl (hown.alloc _) ⟨w5.heap.size, 0, none⟩ 1 1 [.int .i64 kq, .slice (some ⟨A5, 0, none⟩) ws.length ws.length] rfl rfl ?aN (by simp [Value.oneCell']) ?aM ?aL ?aS ?_))
      case aN =>
        intro j u hj
        have e1 : (⟨w5.heap.size, 0, none⟩ : Addr).add j = ⟨w5.heap.size, j, none⟩ := by cases j <;> simp [Addr.add]
        rw [e1, blk_cell (blk_new w5 _) j, ← hj]
        simp
      case aM => show _ ≤ 9223372036854775807; omega
      case aL => omega
      case aS => have := hBw.size; have := hbW.size; simp; omega
      intro v1 w1 hown1 hg1 _ hat
      obtain ⟨g', cap', rfl⟩ := ownsRow_succ hown1
      have bB : Below w.heap.size w w5 := hBw.trans (hbW.mono hBw.size)
      obtain ⟨hv1, hv2, hr2, hk2, hb2⟩ := b1.appended (by decide) hown bB.size (by omega) hown1 hg1
      have hc1' := hv1.cell
      have hf1' := hv1.frozen
      gi_wp2
      have hR5' : Kd.R Kd.string 9 w5 w.heap.size (fun k => W.heap.size ≤ k ∧ fT k = out.length) (.slice (some ⟨A5, 0, none⟩) ws.length ws.length) ws := Kd.R_mono (Kd.R_lower hR5 hBw.size) (fun k hk => ⟨hk, hfT k hk⟩)
      have hR0 := Kd.R_appended (d := Kd.tag fT k42) (e := 42) (ok := fun j => B + 5 ≤ j) (okp := fun k => W.heap.size ≤ k) (xs := out.zipIdx) (p := (⟨kq, ws⟩, out.length)) (W := w5.alloc (.cells #[.int .i64 kq, .slice (some ⟨A5, 0, none⟩) ws.length ws.length] 42)) (fun k hk => (hok k hk).1) ?aQ (show Kd.M k42 _ _ (fun k => W.heap.size ≤ k ∧ fT k = out.length) _ _ from k42_mkM _ _ _ _ (Kd.R_alloc hR5' _)) (fun k hk => ⟨by show B + 5 ≤ k; omega, fun e => by have := hlt5 k e.symm; omega⟩) (fun k hk => by simp at hk; have := hbW.size; show B + 5 ≤ k; omega) (by rw [List.length_zipIdx]; exact hown1) hg1 (hat.imp id (fun h => ⟨_, h, by simp⟩))
      case aQ => exact hreps.imp_ (fun _ _ hp => Kd.M_mono _ (fun k hk => ⟨hk.1.1, hk.2⟩) (Kd.M_step hp (fun k _ hk => Below.heap_alloc _ _ _ hk)))
      have hR1 : Kd.S k42 42 w1 w.heap.size (fun j => B + 5 ≤ j) (.slice (some ⟨g', 0, none⟩) (out.length + 1) cap') (out ++ [⟨kq, ws⟩]) := ⟨fT, by rw [Kd.zip_snoc]; exact hR0⟩
      have hmv : ∀ k, k < B + 5 → k ≠ bo → (w1.setCell ⟨bo, 0, none⟩ (.slice (some ⟨g', 0, none⟩) (out.length + 1) cap')).heap[k]? = w5.heap[k]? := by
        intro k hk hk'
        have hlt : k < w5.heap.size := by have := hbW.size; omega
        refine (Below.heap_setCell _ _ _ _ hk').trans ((hg1.block k (by simp; omega) ?_).trans (Below.heap_alloc _ _ _ hlt))
        intro e
        have := (hok k e.symm).1
        omega
      refine ⟨KeepsOthers.from ((keeps_below hbW).trans hk2) _, ?_⟩
      have hcl := round_close hv2 (Kd.S_far hR1 (fun k hk => by show k ≠ bo; omega) _) (bB.trans hb2) hgo (by simp; omega) htl
      exact ⟨hcl.1, hcl.2, hsn.move (fun j hj => (hmv _ (by omega) (by omega)).trans (hbW.block _ (hsn.lt hj)))⟩
  case hit =>
    rintro l rd dn W1 ⟨o1, o2, rfl⟩ hrd hdn hr1 hY
    have hsB : ((W0.alloc o1).alloc o2).heap.size = B := by simp; omega
    have hmx : ∀ {W : World}, Below w.heap.size w W → W.heap[0]? = w.heap[0]? := fun h => h.block _ hmw
    have hB2 : Below w.heap.size w ((W0.alloc o1).alloc o2) := (hB0.alloc hB0.size _).alloc (by have := hB0.size; simp; omega) _
    refine (lines1 l (bo + 1) (9 - 1) B s (by omega) (fun k t W => LInv w bo (B + 5) r1 k t W ∧ rd W) (fun W => LFin w bo (B + 5) r1 W ∧ rd W) (fun W => False) ?_ ?_ (fun _ _ _ h => h) ?_ ?_ (fun _ _ _ _ h => h.elim) ?_ ((W0.alloc o1).alloc o2) hsB ?_ ?_ (by omega) ?_).mono ?_
    · rintro k t W W' ht ⟨hi, hr⟩
      exact ⟨hi.turn ht (by omega) (by omega) (Nat.le_refl _), hrd W W' (fun j o hj0 hj1 hk _ => (ht.block j (Array.getElem?_eq_some_iff.1 hk).1 (.inl (by omega))).trans hk) hr⟩
    · rintro W W' ht ⟨hi, hr⟩
      exact ⟨hi.turn ht (by omega) (by omega) (Nat.le_refl _), hrd W W' (fun j o hj0 hj1 hk _ => (ht.block j (Array.getElem?_eq_some_iff.1 hk).1 (.inl (by omega))).trans hk) hr⟩
    · exact fun k t => XR.Abide.and (LInv.abide (by omega)) (fun W l' o o' h hl _ _ => hrd W _ (XR.SameAt.putObj W o' (by omega)) h)
    · exact XR.Abide.and (LFin.abide (by omega)) (fun W l' o o' h hl _ _ => hrd W _ (XR.SameAt.putObj W o' (by omega)) h)
    · rintro k t W hk0 hks hcl ⟨hi, hr⟩
      have hbl : Below w.heap.size w W := by obtain ⟨_, _, _, _, _, h, _⟩ := hi; exact h
      refine yield_mono (hY (k, t, fun j => W.heap[B + j]?) W ⟨hk0, hks, hi, fun j hj => ⟨rfl, hcl j hj⟩⟩ hr) ?_
      rintro e W' (⟨he, ⟨h1, h2, h3⟩, hr', hkf⟩ | ⟨_, ⟨_, h, _⟩, _⟩)
      · have hbl' : Below w.heap.size w W' := by
          rcases Int.lt_or_le (nl t) 0 with hn | hn
          · obtain ⟨_, _, _, h⟩ := h2 hn; exact h
          · obtain ⟨_, _, _, _, _, h, _⟩ := h1 hn; exact h
        refine .inl ⟨he, ⟨hkf.size, fun j hj0 hj1 => ?_, (hmx hbl').trans (hmx hbl).symm, hB ▸ hkf⟩, fun h0 => ⟨h1 h0, hr'⟩, fun h0 => ⟨h2 h0, hr'⟩⟩
        have h4 := (h3 (j - B) (by omega)).1
        dsimp only at h4
        rw [show B + (j - B) = j by omega] at h4
        exact h4
      · exact h.elim
    · exact Lib.cell?_alloc_some _ (Lib.cell?_alloc_some _ hc0)
    · exact ⟨m0, (World.cell?_of_block (hmx hB2)).trans hm0⟩
    · refine ⟨⟨_, [], s.size + 1, (hx0.alloc _).alloc _, Kd.S_nil _ _ _ _ _, hB2, HG.out, by simp, by omega⟩, hr1⟩
    · rintro e W' ⟨hv, ⟨h, hr⟩ | h⟩
      · exact ⟨hv, .inl ⟨h, hr⟩⟩
      · exact h.elim
  case done =>
    rintro D W hD ⟨ov, hbx, hR, hBw⟩ hK
    have hc1 := hbx.cell
    have hf1 := hbx.frozen
    gi_wp2
    refine ⟨by simp, .inl ⟨_, _, rfl, run_takeDeferred hK, ?_⟩⟩
    refine ⟨_, ?_, _, rfl, S_turn _ (Kd.S_mono hR (fun _ _ => trivial)) hK rfl, below_turn _ hBw (by omega)⟩
    simp only [results, show Tryd.f10.results = #[.tmp 2, .tmp 3] from rfl]
    simp [go_sem, Result.andThen]
end Go.Proofs.YtffdhekmnoajiaaDoor.X
