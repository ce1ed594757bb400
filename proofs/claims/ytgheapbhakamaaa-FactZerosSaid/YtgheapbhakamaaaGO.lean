import Derived.RangeFuncNested
import Derived.RangeFuncBound
import Derived.RangeFuncCalls
import Derived.RangeFuncLeaves
import Derived.Shelf.Abstract
import Derived.Shelf.RegionOpen
import Derived.WalkKit
import Derived.OwnWalkIn
import Derived.TacticsInMore
import Derived.LoopNIn
import Derived.LoopIn
import Derived.Maps.AppendAt
import Derived.Maps.OwnIn

import Derived.Sort.QuietIn
import Derived.Test.YtgheapbhakamaaaQx0

import Derived.Lib.SliceRun
/- several texts of this session in one -/
set_option linter.unusedVariables false
set_option linter.unusedSimpArgs false
namespace Go.Proofs.Ytgheapbhakamaaa.XR
open Go Go.RowKit
variable {F : Fence} {n : Nat} {P : Program}
def Abide (B : Nat) (J : World → Prop) : Prop := ∀ (W : World) (l : Nat) (o o' : Obj), J W → B ≤ l → W.heap[l]? = some o → o.isCells = false → J (W.putObj l o')

theorem Abide.and {B : Nat} {J K : World → Prop} (h : Abide B J) (k : Abide B K) : Abide B (fun W => J W ∧ K W) := fun W l o o' hs hB hl ho => ⟨h W l o o' hs.1 hB hl ho, k W l o o' hs.2 hB hl ho⟩
theorem Abide.ex {α : Type} {B : Nat} {J : α → World → Prop} (h : ∀ x, Abide B (J x)) : Abide B (fun W => ∃ x, J x W) := fun W l o o' ⟨x, hs⟩ hB hl ho => ⟨x, h x W l o o' hs hB hl ho⟩
theorem Abide.pure (B : Nat) (p : Prop) : Abide B (fun _ => p) := fun _ _ _ _ hs _ _ _ => hs
theorem Abide.below {n0 B : Nat} {w0 : World} (hn : n0 ≤ w0.heap.size) (hB : n0 ≤ B) : Abide B (fun W => Below n0 w0 W) :=
 fun W l o o' hs hl _ _ => ownFrom_below (β := Unit) hn hB () W _ (some l) hs (grownBy_putObj' W l o') (fun r e => by cases e; exact ⟨hl, o, ‹_›, ‹_›⟩)
theorem Abide.own {β : Type} {B : Nat} {I : β → World → Prop} (h : OwnFrom B I) (s : β) : Abide B (I s) := fun W l o o' hs hB hl ho => h.putObj o' hs hB hl ho
def SameAt (B : Nat) (W W' : World) : Prop := ∀ (k : Nat) (o : Obj), B ≤ k → k < B + 2 → W.heap[k]? = some o → o.isCells = false → W'.heap[k]? = some o
theorem SameAt.of_keeps {B : Nat} {W W' : World} (h : KeepsFrom B W W') : SameAt B W W' := fun k o h0 _ hk ho => h.same k o h0 hk ho
theorem SameAt.of_others {B : Nat} {W W' : World} (h : KeepsOthers W W') : SameAt B W W' := fun k o _ _ hk ho => h.same k o hk ho
theorem SameAt.putObj {B : Nat} (W : World) {l : Nat} (o : Obj) (h : B + 2 ≤ l) : SameAt B W (W.putObj l o) := fun k o' _ h1 hk _ => (World.putObj_heap_other (by omega)).trans hk
def leftPost (B : Nat) (J : World → Prop) (Jx : Code → World → Prop) (W : World) : Exit → Act → World → Prop
 | .normal, _, W' => KeepsFrom B W W' ∧ J W'
 | .ret, _, W' => KeepsFrom B W W' ∧ Jx .ret W'
 | .exit id, _, W' => KeepsFrom B W W' ∧ Jx (.exit id) W'
 | .goto t, _, W' => KeepsFrom B W W' ∧ Jx (.goto t) W'
 | .panic _, _, _ => False
 | .outgrown, _, _ => False

theorem wpIn_range_st {β : Type} {g : Operand} {ps : Array Tmp} {assign body : Code} {Q : Exit → Act → World → Prop} {a : Act} {w : World}
  (hro : F.round = none) (h1 : 1 ≤ n) {gf : Nat} {lb : Array Value} (hg : a.eval g = .func (.func gf) #[] lb) (hFg : F.fn gf) (eg : ∀ args w, (callFunc gf args).run P w = .ok (.enter gf args) w)
  (encs : β → Array Value) (hps : ∀ x, (encs x).size = ps.size)
  (J J' : β → World → Prop) (Jb : β → Act → World → Prop) (Jx : Code → World → Prop) (Jd : World → Prop)
  (hJb : ∀ x a', Abide w.heap.size (Jb x a')) (hJ' : ∀ x, Abide w.heap.size (J' x)) (hJx : ∀ c, Abide w.heap.size (Jx c)) (hJd : Abide w.heap.size Jd)
  (hassign : ∀ (l : Nat) (x : β) (W : World) (K : Act → World → Prop), J x W → (∀ a' W', KeepsFrom w.heap.size W W' → Jb x a' W' → K a' W') →
   assign.wpIn (F.inRound l) (n - 1 - 1) P (Exit.then K (fun _ _ _ => False)) { tmps := (ps.zip (encs x)).foldl (fun t (p, v) => t.setIfInBounds p v) a.tmps, defers := [] } W)
  (hbody : ∀ (l : Nat) (x : β) (a' : Act) (W : World), Jb x a' W → body.wpIn (F.inRound l) (n - 1 - 1) P (leftPost w.heap.size (J' x) Jx W) a' W)
  (hit : ∀ (l : Nat) (rd : World → Prop) (dn : Code → World → Prop) (W1 : World), (∃ o1 o2, W1 = (w.alloc o1).alloc o2) →
   (∀ W W', SameAt w.heap.size W W' → rd W → rd W') → (∀ c W W', SameAt w.heap.size W W' → dn c W → dn c W') → rd W1 →
   (∀ x W, J x W → rd W → YieldAt F (n - 1 - 1) P l (encs x) W fun e W' =>
    (e = .returned (.bool true) ∧ J' x W' ∧ rd W' ∧ KeepsFrom (w.heap.size + 2) W W') ∨ (e = .returned (.bool false) ∧ (∃ c, Jx c W' ∧ dn c W') ∧ KeepsFrom (w.heap.size + 2) W W')) →
   CallsIn F (n - 1) P gf (#[.func (.yield l) #[] #[]] ++ lb) W1 fun e W' => (∃ v, e = .returned v) ∧ ((Jd W' ∧ rd W') ∨ ∃ c, Jx c W' ∧ dn c W'))
  (hdone : ∀ (D : Nat) (W : World), w.heap.size ≤ D → Jd W → W.heap[D]? = some (.deferred (some [])) → Q .normal { a with defers := { target := .collected D, args := #[] } :: a.defers } W)
  (hstop : ∀ (D : Nat) (c : Code) (W : World), w.heap.size ≤ D → Jx c W → W.heap[D]? = some (.deferred (some [])) → c.wpIn F n P Q { a with defers := { target := .collected D, args := #[] } :: a.defers } W) :
  (Code.rangeFunc g ps assign body).wpIn F n P Q a w := by
 refine wpIn_rangeFunc fun fn hfn => ?_
 rw [hro]
 generalize hB : w.heap.size = B at *
 let rec_ : LoopState → Option Code → Loop := fun st pe => { state := st, pending := pe, fn := fn, tmps := a.tmps, params := ps, assign := assign, body := body, defers := B }
 have hL1 : ((w.alloc (.deferred (some []))).alloc (.loop (rec_ .ready none))).heap[B + 1]? = some (.loop (rec_ .ready none)) := by
  have := World.alloc_heap_new (w.alloc (.deferred (some []))) (.loop (rec_ .ready none)); rwa [World.size_alloc, hB] at this
 have hK1 : ((w.alloc (.deferred (some []))).alloc (.loop (rec_ .ready none))).heap[B]? = some (.deferred (some [])) := by
  have := World.alloc_heap_new w (.deferred (some []))
  rw [hB] at this
  exact (Below.heap_alloc _ _ _ (by simp [hB])).trans this
 let book : LoopState → Option Code → World → Prop := fun st pe W => W.heap[B + 1]? = some (.loop (rec_ st pe)) ∧ W.heap[B]? = some (.deferred (some []))
 have bookSame : ∀ st pe W W', SameAt B W W' → book st pe W → book st pe W' := fun st pe W W' hs hb => ⟨hs _ _ (by omega) (by omega) hb.1 rfl, hs _ _ (Nat.le_refl _) (by omega) hb.2 rfl⟩
 have bookTurn : ∀ st pe st' pe' W, book st pe W → book st' pe' (W.putObj (B + 1) (.loop (rec_ st' pe'))) := fun st pe st' pe' W hb => ⟨World.putObj_heap_same (Array.getElem?_eq_some_iff.1 hb.1).1, (World.putObj_heap_other (by omega)).trans hb.2⟩
 have keepTurn : ∀ W o, KeepsFrom (B + 2) W (W.putObj (B + 1) o) := fun W o => ⟨by simp, fun k o' hk h0 _ => (World.putObj_heap_other (by omega)).trans h0⟩
 refine ⟨B + 1, [{ target := .collected B, args := #[] }], (w.alloc (.deferred (some []))).alloc (.loop (rec_ .ready none)), { target := .fn (.func gf) lb, args := #[.func (.yield (B + 1)) #[] #[]] }, (w.alloc (.deferred (some []))).alloc (.loop (rec_ .ready none)), gf,
  #[.func (.yield (B + 1)) #[] #[]] ++ lb, (w.alloc (.deferred (some []))).alloc (.loop (rec_ .ready none)), by have := run_enterLoop_outer (P := P) (w := w) fn a.tmps ps assign body; rw [hB] at this; exact this, ?_, ?_, ?_, fun _ => h1, ?_⟩
 ·simp only [resolve, hg]
  simp [go_sem]
 ·intro f' hf'; simp [Target.leads] at hf'; subst hf'; exact hFg
 ·simp [invoke, go_sem, eg]
 ·refine (hit (B + 1) (book .ready none) (fun c => book .done (some c)) _ ⟨_, _, rfl⟩ (bookSame _ _) (fun c => bookSame _ _) ⟨hL1, hK1⟩ ?_).mono ?_
  · -- a round
   rintro x W hj ⟨hl, hk⟩
   have hy := run_yield (P := P) (args := encs x) hl (hps x)
   refine ⟨fn, _, assign, body, hy, roundIn_of_wpIn hfn (hassign (B + 1) x W _ hj ?_)⟩
   intro a' W2 hk2 hb2
   have bk2 := bookSame _ _ W W2 (.of_keeps hk2) ⟨hl, hk⟩
   refine ⟨_, run_beginRound bk2.1 rfl, ?_⟩
   have bk3 := bookTurn .ready none .busy none W2 bk2
   refine wpIn_mono (hbody (B + 1) x a' _ (hJb x a' _ _ _ _ hb2 (by omega) bk2.1 rfl)) ?_
   have fin : ∀ (jump : Option Code) (W3 : World), KeepsFrom B (W2.putObj (B + 1) (.loop (rec_ .busy none))) W3 →
     (Instr.endRound (B + 1) jump).run P W3 = .ok (.bool jump.isNone) (W3.putObj (B + 1) (.loop (rec_ (if jump.isNone then .ready else .done) jump))) ∧
     W3.heap[B + 1]? = some (.loop (rec_ .busy none)) ∧ book (if jump.isNone then .ready else .done) jump (W3.putObj (B + 1) (.loop (rec_ (if jump.isNone then .ready else .done) jump))) ∧
     KeepsFrom (B + 2) W (W3.putObj (B + 1) (.loop (rec_ (if jump.isNone then .ready else .done) jump))) := fun jump W3 h3 => by
    have bk4 := bookSame .busy none _ W3 (.of_keeps h3) bk3
    refine ⟨run_endRound (P := P) jump bk4.1, bk4.1, bookTurn .busy none _ _ W3 bk4, ?_⟩
    have up : ∀ {X Y : World}, KeepsFrom B X Y → KeepsFrom (B + 2) X Y := fun h => ⟨h.size, fun k o hk h0 ho => h.same k o (by omega) h0 ho⟩
    exact (((up hk2).trans (keepTurn W2 _)).trans (up h3)).trans (keepTurn W3 _)
   rintro e a3 W3 hp
   cases e with
   | normal =>
    obtain ⟨h3, hj3⟩ := hp
    obtain ⟨hr, hl3, hb3, hkp⟩ := fin none W3 h3
    exact ⟨_, _, hr, .inl ⟨rfl, hJ' x _ _ _ _ hj3 (by omega) hl3 rfl, hb3, hkp⟩⟩
   | ret =>
    obtain ⟨h3, hj3⟩ := hp
    obtain ⟨hr, hl3, hb3, hkp⟩ := fin (some .ret) W3 h3
    exact ⟨_, _, hr, .inr ⟨rfl, ⟨.ret, hJx _ _ _ _ _ hj3 (by omega) hl3 rfl, hb3⟩, hkp⟩⟩
   | exit id =>
    obtain ⟨h3, hj3⟩ := hp
    obtain ⟨hr, hl3, hb3, hkp⟩ := fin (some (.exit id)) W3 h3
    exact ⟨_, _, hr, .inr ⟨rfl, ⟨.exit id, hJx _ _ _ _ _ hj3 (by omega) hl3 rfl, hb3⟩, hkp⟩⟩
   | goto t =>
    obtain ⟨h3, hj3⟩ := hp
    obtain ⟨hr, hl3, hb3, hkp⟩ := fin (some (.goto t)) W3 h3
    exact ⟨_, _, hr, .inr ⟨rfl, ⟨.goto t, hJx _ _ _ _ _ hj3 (by omega) hl3 rfl, hb3⟩, hkp⟩⟩
   | panic ch => exact hp.elim
   | outgrown => exact hp.elim
  ·rintro e W2 ⟨⟨v, rfl⟩, (⟨hj, hb⟩ | ⟨c, hj, hb⟩)⟩
   ·exact ⟨none, _, run_endLoop (P := P) hb.1 (by simp [rec_]), hdone B _ (Nat.le_refl _) (hJd _ _ _ _ hj (by omega) hb.1 rfl) ((World.putObj_heap_other (by omega)).trans hb.2)⟩
   ·exact ⟨some c, _, run_endLoop (P := P) hb.1 (by simp [rec_]), hstop B c _ (Nat.le_refl _) (hJx c _ _ _ _ hj (by omega) hb.1 rfl) ((World.putObj_heap_other (by omega)).trans hb.2)⟩

end Go.Proofs.Ytgheapbhakamaaa.XR
namespace Go.Proofs.Ytgheapbhakamaaa.Q
open Go Go.RowKit Go.Proofs.YtgheapbhakamaaaW.PrintWords Go.Proofs.YtgheapbhakamaaaW.PrintLast Go.Proofs.YtgheapbhakamaaaW.PrintMore
attribute [local go_sem] Oper.semAt_some
set_option linter.unusedVariables false
set_option linter.unusedSimpArgs false

theorem eqA40 (d : Nat) (w : World) (x0 y0 : ByteArray) (x1 y1 : ByteArray) (x2 y2 : ByteArray) (x3 y3 : ByteArray) (x4 y4 : Int) :
  (Op.equalIn (d + 2) 40 (.agg #[.string x0, .string x1, .string x2, .string x3, .int .i64 x4]) (.agg #[.string y0, .string y1, .string y2, .string y3, .int .i64 y4])).run Try.prog w = .ok (x0.toList == y0.toList && (x1.toList == y1.toList && (x2.toList == y2.toList && (x3.toList == y3.toList && (x4 == y4))))) w := by
 refine eqA_of Try.underlying40 (by kernel_rfl) ?_
 refine eqf_cons (by rfl) (by go_simp; rfl) (by go_simp; rfl) (by go_simp) ?_
 refine eqf_cons (by rfl) (by go_simp; rfl) (by go_simp; rfl) (by go_simp) ?_
 refine eqf_cons (by rfl) (by go_simp; rfl) (by go_simp; rfl) (by go_simp) ?_
 refine eqf_cons (by rfl) (by go_simp; rfl) (by go_simp; rfl) (by go_simp) ?_
 exact eqf_last (by rfl) (by go_simp; rfl) (by go_simp; rfl) (by go_simp)
attribute [local go_sem high] eqA40

namespace Of
def same (x y : S40) : Bool := x.f0.toList == y.f0.toList && (x.f1.toList == y.f1.toList && (x.f2.toList == y.f2.toList && (x.f3.toList == y.f3.toList && (x.f4 == y.f4))))
def runLen : List S60 → Nat
 | [] => 0
 | x :: xs => (xs.takeWhile fun y => same y.f0 x.f0).length + 1
theorem runLen_le (t : List S60) : runLen t ≤ t.length := by
 cases t with
 | nil => simp [runLen]
 | cons x xs => have := List.takeWhile_prefix (l := xs) (fun y => same y.f0 x.f0) |>.length_le; simp [runLen]; omega
theorem _root_.List.mem_takeWhile_prop {α : Type} {p : α → Bool} {x : α} : ∀ {l : List α}, x ∈ l.takeWhile p → p x = true
 | [], h => by simp at h
 | y :: l, h => by
  simp only [List.takeWhile_cons] at h
  split at h
  ·rcases List.mem_cons.1 h with rfl | h'
   ·assumption
   ·exact List.mem_takeWhile_prop h'
  ·simp at h
theorem takeWhile_stops {α : Type} (p : α → Bool) (d : α) : ∀ l : List α, (l.takeWhile p).length < l.length → p (l.getD (l.takeWhile p).length d) = false
 | [], h => by simp at h
 | y :: l, h => by
  by_cases c : p y = true
  ·simp only [List.takeWhile_cons, c, if_true, List.length_cons] at h ⊢
   exact takeWhile_stops p d l (by omega)
  ·simp [List.takeWhile_cons, c]
theorem runLen_in (t : List S60) (i : Nat) (h0 : 1 ≤ i) (h1 : i < runLen t) : same (t.getD i z60).f0 (t.getD 0 z60).f0 = true := by
 cases t with
 | nil => simp [runLen] at h1
 | cons x xs =>
  obtain ⟨i, rfl⟩ : ∃ j, i = j + 1 := ⟨i - 1, by omega⟩
  simp only [runLen] at h1
  have h2 : i < (xs.takeWhile fun y => same y.f0 x.f0).length := by omega
  have h3 := List.getElem_mem h2
  have h4 := List.mem_takeWhile_prop h3
  have h5 := (List.takeWhile_prefix (l := xs) (fun y => same y.f0 x.f0)).getElem h2
  have h6 : i < xs.length := by have := (List.takeWhile_prefix (l := xs) (fun y => same y.f0 x.f0)).length_le; omega
  rw [h5] at h4
  simpa [List.getD_eq_getElem?_getD, h6] using h4
theorem runLen_out (t : List S60) (h1 : runLen t < t.length) (h0 : t ≠ []) : same (t.getD (runLen t) z60).f0 (t.getD 0 z60).f0 = false := by
 cases t with
 | nil => exact absurd rfl h0
 | cons x xs =>
  simp only [runLen, List.length_cons] at h1 ⊢
  simpa using takeWhile_stops (fun y => same y.f0 x.f0) z60 xs (by omega)
abbrev Only (b : Nat) (W W' : World) : Prop := W.grownBy W' (some b)
theorem Only.drew (b : Nat) (W : World) (m : Nat) : Only b W (W.drewN m) := ⟨rfl, rfl, rfl, Nat.le_refl _, fun _ _ _ => rfl⟩
structure Core (D : Nat → Prop) (b : Nat) (A : Option Addr) (c : Nat) (t : List S60) (W : World) : Prop where
 cell : W.cell? ⟨b, 0, none⟩ = some (.slice A t.length c)
 froz : W.frozen? ⟨b, 0, none⟩ = false
 row : Kd.C k60 W A t.length t
 cap : t.length ≤ c
 off : ∀ ad, A = some ad → D ad.block

theorem Core.drew {D : Nat → Prop} {b c : Nat} {A : Option Addr} {t : List S60} {W : World} (h : Core D b A c t W) (m : Nat) : Core D b A c t (W.drewN m) := ⟨h.cell, h.froz, Kd.C_drewN h.row _, h.cap, h.off⟩
theorem add_block (a : Addr) (n : Nat) : (a.add n).block = a.block := by cases n <;> simp [Addr.add]
theorem row_same {n : Nat} {A : Option Addr} {t : List S60} {W W' : World} (h : Kd.C k60 W A n t) (hs : ∀ ad, A = some ad → W'.heap[ad.block]? = W.heap[ad.block]?) : Kd.C k60 W' A n t :=
 ⟨h.1, h.2.1, fun hn => by
  obtain ⟨ad, e, hc⟩ := h.2.2 hn
  refine ⟨ad, e, fun j p hj => ?_⟩
  obtain ⟨c, h1, h2, h3⟩ := hc j p hj
  refine ⟨c, h1, ?_, fun i u hu => ?_⟩
  ·obtain rfl := k60_open h2
   exact k60_mk W' p
  ·exact (World.cell?_of_block (by rw [add_block]; exact hs ad e)).trans (h3 i u hu)⟩
theorem Core.cut {D : Nat → Prop} {b c : Nat} (hD : ¬ D b) {A : Option Addr} {t : List S60} {W : World} (h : Core D b A c t W) {m : Nat} (hm : m ≤ t.length) :
  Core D b (if c = m then A else A.map (·.add (m * 6))) (c - m) (t.drop m) (W.setCell ⟨b, 0, none⟩ (.slice (if c = m then A else A.map (·.add (m * 6))) (t.length - m) (c - m))) := by
 have ho : ∀ ad, (if c = m then A else A.map (·.add (m * 6))) = some ad → D ad.block := by
  intro ad e
  split at e
  ·exact h.off ad e
  ·cases A with
   | none => cases e
   | some a =>
    obtain rfl := Option.some.inj e
    rw [add_block]; exact h.off a rfl
 refine ⟨?_, ?_, ?_, ?_, ho⟩
 ·rw [List.length_drop]; exact World.cell?_setCell_same' _ _ _ (by rw [h.cell]; rfl)
 ·rw [World.frozen?_setCell]; exact h.froz
 ·exact row_same (Kd.C_drop h.row hm h.cap) (fun ad e => Below.heap_setCell _ _ _ _ (fun e' => hD ((show ad.block = b from e') ▸ ho ad e)))
 ·have := h.cap; rw [List.length_drop]; omega
theorem Only.set (b : Nat) (W : World) (v : Value) : Only b W (W.setCell ⟨b, 0, none⟩ v) := grownBy_setCell' W b v

set_option maxRecDepth 100000 in
set_option maxHeartbeats 4000000 in
theorem runs1 {D : Nat → Prop} (l b n : Nat) (hD : ¬ D b) (I : List S60 → World → Prop) (Ix : World → Prop) (hI : ∀ t W W', Only b W W' → I t W → I t W')
  (hY : ∀ A c t W, t ≠ [] → Core D b A c t W → I t W → YieldAt Fence.wide (n - 1) Try.prog l #[.slice A (runLen t) c] W fun e W' =>
   (e = .returned (.bool true) ∧ Core D b A c t W' ∧ I (t.drop (runLen t)) W') ∨ (e = .returned (.bool false) ∧ Ix W'))
  (A : Option Addr) (c : Nat) (t : List S60) (W : World) (hc : Core D b A c t W) (hi : I t W) :
  CallsIn Fence.wide n Try.prog 46 #[.func (.yield l) #[] #[], .pointer (some ⟨b, 0, none⟩)] W fun e W' => (∃ v, e = .returned v) ∧ (I [] W' ∨ Ix W') := by
 refine callsIn_of_wp Try.func46 rfl trivial ?_ rfl
 simp only [Try.ntmps46, List.size_toArray, List.length_cons, List.length_nil, Nat.reduceAdd, Nat.reduceSub, Array.replicate_succ, Array.replicate_zero, List.push_toArray, List.append_toArray, List.nil_append, List.cons_append]
 gi_wp2
 gi_loopw [3] (fun _ wr => ∃ A c t, Core D b A c t wr ∧ I t wr) (fun _ wr => match wr.cell? ⟨b, 0, none⟩ with | some (.slice _ m _) => m | _ => 0)
 case atStart => exact ⟨A, c, t, hc, hi⟩
 case round =>
  obtain ⟨A, c, t, hc, hi⟩ := hrel
  have hcell := hc.cell
  have hfroz := hc.froz
  rcases Nat.eq_zero_or_pos t.length with h0 | h0
  ·have h0' : t = [] := List.length_eq_zero_iff.mp h0
   subst h0'
   gi_wp2
   go_end0
   exact ⟨⟨_, rfl⟩, .inl hi⟩
  ·have hlt : decide ((0 : Int) < (t.length : Int)) = true := by simp; omega
   have hmax : (t.length : Int) ≤ 9223372036854775807 := by have := Kd.C_max hc.row; omega
   have hwr := hcell
   gi_wp2
   gi_loopw [3] (fun p wr' => ∃ i : Int, p = .int .i64 i ∧ 1 ≤ i ∧ i ≤ (runLen t : Int) ∧ Core D b A c t wr' ∧ I t wr') (fun p _ => t.length - (intOf p).toNat)
   case atStart => exact ⟨1, rfl, by omega, by cases t <;> simp_all [runLen] <;> omega, hc, hi⟩
   case round =>
    clear hcell hfroz hc hi
    obtain ⟨i, rfl, hi1, hir, hc, hi⟩ := hrel
    have hcell := hc.cell
    have hfroz := hc.froz
    have hle := runLen_le t
    have hu40 := Try.underlying40
    have hne : t ≠ [] := by rintro rfl; simp at h0
    have hcap := hc.cap
    rcases Int.lt_or_le i (runLen t : Int) with hit | hit
    ·have hd : decide (i < (t.length : Int)) = true := by simp; omega
     have hs' := runLen_in t i.toNat (by omega) (by omega)
     obtain ⟨ad, rfl, x0, x1, x2, x3, x4, x5⟩ := at_T60 hc.row i (by omega) (by omega)
     obtain ⟨ad', e', y0, y1, y2, y3, y4, y5⟩ := at_T60 hc.row 0 (by omega) (by omega)
     cases e'
     simp only [Int.toNat_zero, Nat.zero_mul, Addr.add_zero'] at y0 y1 y2 y3 y4 y5
     have hb0 : (0 : Int) ≤ i := by omega
     replace hs' : same (rd_T60 t i).f0 (rd_T60 t 0).f0 = true := hs'
     unfold same at hs'
     gi_wp2
     gi_big_quiet_th (fail)
     gi_wp2
     exact ⟨⟨i + 1, rfl, by omega, by omega, hc.drew _, hI _ _ _ (.drew _ _ _) hi⟩, by simp [intOf]; omega⟩
    ·have hiq := Aside0.mk (show i = (runLen t : Int) by omega)
     have hcl : i ≤ (c : Int) := by omega
     have hb0 : (0 : Int) ≤ i := by omega
     have hil : i ≤ (t.length : Int) := by omega
     have hle' := Aside0.mk hle
     clear hit hir hle
     rcases Int.lt_or_le i (t.length : Int) with hit2 | hit2
     ·have hd : decide (i < (t.length : Int)) = true := by simp; omega
      have hs' := runLen_out t (by have := hiq.out; omega) hne
      obtain ⟨ad, rfl, x0, x1, x2, x3, x4, x5⟩ := at_T60 hc.row i (by omega) (by omega)
      obtain ⟨ad', e', y0, y1, y2, y3, y4, y5⟩ := at_T60 hc.row 0 (by omega) (by omega)
      cases e'
      simp only [Int.toNat_zero, Nat.zero_mul, Addr.add_zero'] at y0 y1 y2 y3 y4 y5
      replace hs' : same (rd_T60 t i).f0 (rd_T60 t 0).f0 = false := by rw [hiq.out]; exact hs'
      unfold same at hs'
      gi_wp2
      gi_big_quiet_th (fail)
      obtain ⟨fn, tmps, assign, body, hy, hR⟩ := hY (some ad) c t _ hne (hc.drew nq) (hI _ _ _ (.drew b wr nq) hi)
      rw [← show i.toNat = runLen t by have := hiq.out; omega] at hy
      gi_wp2
      refine ⟨fun h => (by cases h), hR.mono ?_⟩
      rintro e W3 (⟨rfl, hc3, hi3⟩ | ⟨rfl, hx3⟩)
      ·clear hcell hfroz hc hi x0 x1 x2 x3 x4 x5 y0 y1 y2 y3 y4 y5 hy
       have hcell := hc3.cell
       have hfroz := hc3.froz
       gi_wp2
       have hcc : c ≠ i.toNat := by omega
       have hq := hc3.cut hD (m := i.toNat) (by omega)
       rw [if_neg hcc] at hq
       refine ⟨⟨_, _, _, hq, hI _ _ _ (.set _ _ _) (by rw [show i.toNat = runLen t by have := hiq.out; omega]; exact hi3)⟩, ?_⟩
       rw [World.cell?_setCell_same' _ _ _ (by rw [hcell]; rfl)]
       simp only [hwr]
       omega
      ·gi_wp2
       refine bodyPost_ret (results_none rfl _ _ _) rfl ?_
       exact ⟨⟨_, rfl⟩, .inr hx3⟩
     ·have hd : decide (i < (t.length : Int)) = false := by simp; omega
      gi_wp2
      gi_big_quiet_th (fail)
      obtain ⟨fn, tmps, assign, body, hy, hR⟩ := hY A c t _ hne (hc.drew nq) (hI _ _ _ (.drew b wr nq) hi)
      rw [← show i.toNat = runLen t by have := hiq.out; omega] at hy
      gi_wp2
      refine ⟨fun h => (by cases h), hR.mono ?_⟩
      rintro e W3 (⟨rfl, hc3, hi3⟩ | ⟨rfl, hx3⟩)
      ·clear hcell hfroz hc hi hy
       have hcell := hc3.cell
       have hfroz := hc3.froz
       gi_wp2
       have hq := hc3.cut hD (m := i.toNat) (by omega)
       rw [show t.length - i.toNat = 0 by omega] at hq
       refine ⟨⟨_, _, _, hq, hI _ _ _ (.set _ _ _) (by rw [show i.toNat = runLen t by have := hiq.out; omega]; exact hi3)⟩, ?_⟩
       rw [World.cell?_setCell_same' _ _ _ (by rw [hcell]; rfl)]
       simp only [hwr]
       omega
      ·gi_wp2
       refine bodyPost_ret (results_none rfl _ _ _) rfl ?_
       exact ⟨⟨_, rfl⟩, .inr hx3⟩
end Of
end Go.Proofs.Ytgheapbhakamaaa.Q
namespace Go.Proofs.Ytgheapbhakamaaa.Q
open Go Go.RowKit Go.Proofs.YtgheapbhakamaaaW.PrintWords Go.Proofs.YtgheapbhakamaaaW.PrintLast Go.Proofs.YtgheapbhakamaaaW.PrintMore
set_option linter.unusedVariables false
set_option linter.unusedSimpArgs false
namespace Of
set_option maxRecDepth 100000 in
set_option maxHeartbeats 4000000 in
theorem clone (A : Option Addr) (c : Nat) (t : List S60) (w : World) (hr : Kd.C k60 w A t.length t) (hl : t.length * 80 ≤ 140737488355328) :
  Calls Try.prog 30 #[.slice A t.length c] w fun e w' => ∃ v, e = .returned v ∧ Kd.R k60 60 w' w.heap.size (fun _ => True) v t ∧ Below w.heap.size w w' := by
 have q29 : ∀ (w : World) (a : Option Addr) (n c n' c' : Nat), (binOp .eql 29 (.slice a n c) (.slice none n' c')).run Try.prog w = .ok (.bool a.isNone) w := fun w a n c n' c' => Lib.run_eql_slice_nil w _ _ a n c n' c' Try.underlying29
 cases A with
 | none =>
  have h0 : t.length = 0 := by
   rcases Nat.eq_zero_or_pos t.length with h | h
   ·exact h
   ·obtain ⟨ad, e, _⟩ := hr.2.2 h
    cases e
  obtain rfl : t = [] := List.length_eq_zero_iff.mp h0
  go_enter Try.func30, Try.ntmps30
  go_wp2
  go_ret
  exact ⟨_, rfl, Kd.R_nil _ _ _ _ _, Below.refl _ _⟩
 | some ad =>
  have HR := Aside0.mk hr
  clear hr
  go_enter Try.func30, Try.ntmps30
  go_wp2_with (at_builtin; refine Kd.R_append_rows k60 (Rr := k60.K (w.alloc (.cells #[] 60))) (w0 := w) w.heap.size rfl _ _ 29 60 _ 80 rfl Try.underlying29 info60 rfl (by decide) (by omega) (.slice (some ⟨w.heap.size, 0, none⟩) 0 0) ([] : List S60) t (some ad) t.length c (fun _ => True) (fun _ => False) rfl rfl ?aO ?aR (fun x cs h => by obtain rfl := k60_open h; exact k60_mkM _ _ _ x) (fun _ h => h.elim) (fun _ _ => trivial) ?aB ?aS ?aL ?_)
  case aO => exact ⟨fun _ _ => trivial, [], World.ownsRow_made w #[] 0 (Nat.le_refl _) (Nat.zero_le _) (by simp), ⟨rfl, fun j p h => by simp at h⟩⟩
  case aR => exact Kd.C_alloc HR.out _
  case aB => exact below_alloc (Below.refl _ _) _
  case aS => simp
  case aL => simpa using hl
  intro v w1 ho hb hg hat
  go_wp2
  go_ret
  exact ⟨v, rfl, by simpa using ho, hb⟩

set_option maxHeartbeats 4000000 in
theorem runs (A : Option Addr) (n c : Nat) (w : World) : Calls Try.prog 33 #[.slice A n c] w fun e w' => e = .returned (.func (.func 46) #[] #[.pointer (some ⟨w.heap.size, 0, none⟩)]) ∧ w' = w.alloc (.cells #[.slice A n c] 29) := by
 go_enter Try.func33, Try.ntmps33
 go_wp2
 go_ret
 exact ⟨rfl, rfl⟩
end Of
end Go.Proofs.Ytgheapbhakamaaa.Q
namespace Go.Proofs.Ytgheapbhakamaaa.Q
open Go Go.RowKit Go.Proofs.YtgheapbhakamaaaW.PrintWords Go.Proofs.YtgheapbhakamaaaW.PrintLast Go.Proofs.YtgheapbhakamaaaW.PrintMore
set_option linter.unusedVariables false
set_option linter.unusedSimpArgs false
namespace Of
set_option maxRecDepth 100000 in
set_option maxHeartbeats 4000000 in
theorem grow (n : Nat) (w : World) (hn : n * 80 ≤ 140737488355328) :
  Calls Try.prog 50 #[.slice none 0 0, .int .i64 (n : Int)] w fun e w' => ∃ v, e = .returned v ∧ Kd.R k60 60 w' w.heap.size (fun _ => True) v [] ∧ Below w.heap.size w w' := by
 have hd0 : decide ((n : Int) < 0) = false := by simp
 have hi64 : wrap64 ((n : Int) - (wrap64 (0 - 0))) = n := by unfold wrap64; omega
 have hi65 : wrap64 ((n : Int) - 0) = n := by unfold wrap64; omega
 have hi66 : wrap64 (n : Int) = n := by unfold wrap64; omega
 rcases Nat.eq_zero_or_pos n with h0 | h0
 ·subst h0
  go_enter Try.func50, Try.ntmps50
  go_wp2
  go_ret
  exact ⟨_, rfl, Kd.R_nil _ _ _ _ _, Below.refl _ _⟩
 ·have hd1 : decide ((n : Int) > 0) = true := by simp; omega
  have hp : 0 < n := h0
  go_enter Try.func50, Try.ntmps50
  go_wp2_with (at_builtin; refine Kd.R_append_zeros k60 (w0 := w) w.heap.size rfl _ _ 30 3 60 _ 80 rfl Try.underlying30 Try.underlying3 info60 rfl (by decide) (by omega) (.slice none 0 0) ([] : List S60) z60 (n : Int) (fun _ => True) rfl rfl (k60_mkM _ _ _ z60) (fun _ _ => trivial) (Kd.R_nil _ _ _ _ _) (by omega) (Below.refl _ _) (Nat.le_refl _) ?aL ?_)
  case aL => simpa using hn
  intro v1 w1 ho hb hg hat
  obtain ⟨A, c, rfl⟩ := Kd.R_slice ho
  go_wp2
  go_ret
  exact ⟨_, rfl, by simpa using Kd.R_take (m := 0) ho (Nat.zero_le _), hb⟩

set_option maxRecDepth 100000 in
set_option maxHeartbeats 8000000 in
theorem concat (b : Nat) (A0 A1 : Option Addr) (c0 c1 : Nat) (l0 l1 : List S60) (w : World) (h0 : w.cell? ⟨b, 0, none⟩ = some (.slice A0 l0.length c0)) (h1 : w.cell? ⟨b, 1, none⟩ = some (.slice A1 l1.length c1))
  (hr0 : Kd.C k60 w A0 l0.length l0) (hr1 : Kd.C k60 w A1 l1.length l1) (hn : (l0.length + l1.length) * 80 ≤ 140737488355328) :
  Calls Try.prog 41 #[.slice (some ⟨b, 0, none⟩) 2 2] w fun e w' => ∃ v, e = .returned v ∧ Kd.R k60 60 w' w.heap.size (fun _ => True) v (l0 ++ l1) ∧ Below w.heap.size w w' := by
 have HR0 := Aside0.mk hr0
 have HR1 := Aside0.mk hr1
 clear hr0 hr1
 obtain ⟨n, hnn⟩ : ∃ n, l0.length + l1.length = n := ⟨_, rfl⟩
 have hn' : n * 80 ≤ 140737488355328 := by omega
 have a1 : wrap64 (0 + (l0.length : Int)) = (l0.length : Int) := by unfold wrap64; omega
 have a2 : wrap64 ((l0.length : Int) + (l1.length : Int)) = (n : Int) := by unfold wrap64; omega
 have d1 : decide ((l0.length : Int) < 0) = false := by simp
 have d2 : decide ((n : Int) < 0) = false := by simp
 have hnn := Aside0.mk hnn
 have hn := Aside0.mk hn
 have hn' := Aside0.mk hn'
 go_enter Try.func41, Try.ntmps41
 go_wp2
 go_loopw [3, 11] (fun p q wr => w = wr ∧ ((p = .int .i64 0 ∧ q = .int .i64 0) ∨ (p = .int .i64 (l0.length : Int) ∧ q = .int .i64 1) ∨ (p = .int .i64 (n : Int) ∧ q = .int .i64 2))) (fun _ q _ => 2 - (intOf q).toNat)
 case atStart => exact ⟨rfl, .inl ⟨rfl, rfl⟩⟩
 case round =>
  obtain ⟨rfl, ⟨rfl, rfl⟩ | ⟨rfl, rfl⟩ | ⟨rfl, rfl⟩⟩ := hrel
  ·go_wp2
   exact ⟨⟨trivial, .inr (.inl ⟨rfl, rfl⟩)⟩, by simp [intOf]⟩
  ·go_wp2
   exact ⟨⟨trivial, .inr (.inr ⟨by rw [show (l0.length : Int) + (l1.length : Int) = (n : Int) by have := hnn.out; omega], rfl⟩)⟩, by simp [intOf]⟩
  ·go_wp2_with (go_at_call 50; refine (Of.grow n _ hn'.out).mono ?_; rintro e w1 ⟨v, rfl, hR, hB⟩)
   have HRr := Aside0.mk hR
   have HB := Aside0.mk hB
   clear hR hB
   go_wp2
   go_loopw [6, 27] (fun v q w' => Aside0 (Below w.heap.size w w') ∧ ((q = .int .i64 0 ∧ Aside0 (Kd.R k60 60 w' w.heap.size (fun _ => True) v [])) ∨ (q = .int .i64 1 ∧ Aside0 (Kd.R k60 60 w' w.heap.size (fun _ => True) v l0)) ∨ (q = .int .i64 2 ∧ Aside0 (Kd.R k60 60 w' w.heap.size (fun _ => True) v (l0 ++ l1))))) (fun _ q _ => 2 - (intOf q).toNat)
   case atStart => exact ⟨HB, .inl ⟨rfl, HRr⟩⟩
   case round =>
    obtain ⟨hB2, ⟨rfl, hR2⟩ | ⟨rfl, hR2⟩ | ⟨rfl, hR2⟩⟩ := hrel
    ·have c0' := (hB2.out.cell (World.block_lt_of_cell? w _ h0)).trans h0
     have c1' := (hB2.out.cell (World.block_lt_of_cell? w _ h1)).trans h1
     go_wp2_with (at_builtin; refine Kd.R_append_rows k60 (Rr := k60.K wr) (w0 := w) w.heap.size rfl _ _ 30 60 _ 80 rfl Try.underlying30 info60 rfl (by decide) (by omega) u6 ([] : List S60) l0 A0 l0.length c0 (fun _ => True) (fun _ => False) rfl rfl hR2.out (Kd.C_below HR0.out hB2.out) (fun x cs h => by obtain rfl := k60_open h; exact k60_mkM _ _ _ x) (fun _ h => h.elim) (fun _ _ => trivial) hB2.out hB2.out.size ?aL ?_)
     case aL => have := hn.out; simp; omega
     intro v1 w2 ho hb hg hat
     have ho := Aside0.mk ho
     have hb := Aside0.mk hb
     go_wp2
     exact ⟨⟨hb, .inr (.inl ⟨rfl, ho⟩)⟩, by simp [intOf]⟩
    ·have c0' := (hB2.out.cell (World.block_lt_of_cell? w _ h0)).trans h0
     have c1' := (hB2.out.cell (World.block_lt_of_cell? w _ h1)).trans h1
     go_wp2_with (at_builtin; refine Kd.R_append_rows k60 (Rr := k60.K wr) (w0 := w) w.heap.size rfl _ _ 30 60 _ 80 rfl Try.underlying30 info60 rfl (by decide) (by omega) u6 l0 l1 A1 l1.length c1 (fun _ => True) (fun _ => False) rfl rfl hR2.out (Kd.C_below HR1.out hB2.out) (fun x cs h => by obtain rfl := k60_open h; exact k60_mkM _ _ _ x) (fun _ h => h.elim) (fun _ _ => trivial) hB2.out hB2.out.size ?aL ?_)
     case aL => have := hn.out; simp; omega
     intro v1 w2 ho hb hg hat
     have ho := Aside0.mk ho
     have hb := Aside0.mk hb
     go_wp2
     exact ⟨⟨hb, .inr (.inr ⟨rfl, ho⟩)⟩, by simp [intOf]⟩
    ·obtain ⟨A, c, rfl⟩ := Kd.R_slice hR2.out
     go_wp2
     go_ret
     exact ⟨_, rfl, hR2.out, hB2.out⟩
end Of
end Go.Proofs.Ytgheapbhakamaaa.Q
