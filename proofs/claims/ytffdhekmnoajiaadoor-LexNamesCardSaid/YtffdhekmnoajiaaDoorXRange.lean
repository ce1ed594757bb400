/- A range over a function whose iterator keeps its state in cells (a captured variable): a law of this session's, from the kit's 'wpIn_rangeFunc' and 'roundIn_of_wpIn'. The caller brings the states before and behind a round himself; the iterator's walk is asked at those states. -/
import Derived.RangeFuncNested
import Derived.RangeFuncBound
import Derived.RangeFuncCalls
import Derived.RangeFuncLeaves
import Derived.Shelf.Abstract
import Derived.Shelf.RegionOpen
import Derived.WalkKit
import Derived.OwnWalkIn
import Derived.TacticsInMore
import Derived.LoopNIn
import Derived.LoopIn
import Derived.Maps.AppendAt
import Derived.Maps.OwnIn
set_option linter.unusedVariables false
set_option linter.unusedSimpArgs false
set_option linter.unusedVariables false
set_option linter.unusedSimpArgs false
namespace Go.Proofs.YtffdhekmnoajiaaDoor.XR
open Go Go.RowKit
variable {F : Fence} {n : Nat} {P : Program}

/-- J abides a turn of a block from B on that holds no cells. -/
def Abide (B : Nat) (J : World → Prop) : Prop := ∀ (W : World) (l : Nat) (o o' : Obj), J W → B ≤ l → W.heap[l]? = some o → o.isCells = false → J (W.putObj l o')

theorem Abide.and {B : Nat} {J K : World → Prop} (h : Abide B J) (k : Abide B K) : Abide B (fun W => J W ∧ K W) := fun W l o o' hs hB hl ho => ⟨h W l o o' hs.1 hB hl ho, k W l o o' hs.2 hB hl ho⟩
theorem Abide.ex {α : Type} {B : Nat} {J : α → World → Prop} (h : ∀ x, Abide B (J x)) : Abide B (fun W => ∃ x, J x W) := fun W l o o' ⟨x, hs⟩ hB hl ho => ⟨x, h x W l o o' hs hB hl ho⟩
theorem Abide.pure (B : Nat) (p : Prop) : Abide B (fun _ => p) := fun _ _ _ _ hs _ _ _ => hs
theorem Abide.below {n0 B : Nat} {w0 : World} (hn : n0 ≤ w0.heap.size) (hB : n0 ≤ B) : Abide B (fun W => Below n0 w0 W) :=
  fun W l o o' hs hl _ _ => ownFrom_below (β := Unit) hn hB () W _ (some l) hs (grownBy_putObj' W l o') (fun r e => by cases e; exact ⟨hl, o, ‹_›, ‹_›⟩)
theorem Abide.own {β : Type} {B : Nat} {I : β → World → Prop} (h : OwnFrom B I) (s : β) : Abide B (I s) := fun W l o o' hs hB hl ho => h.putObj o' hs hB hl ho

/-- What lies in the two blocks of the loop's own. -/
def SameAt (B : Nat) (W W' : World) : Prop := ∀ (k : Nat) (o : Obj), B ≤ k → k < B + 2 → W.heap[k]? = some o → o.isCells = false → W'.heap[k]? = some o
theorem SameAt.of_keeps {B : Nat} {W W' : World} (h : KeepsFrom B W W') : SameAt B W W' := fun k o h0 _ hk ho => h.same k o h0 hk ho
theorem SameAt.of_others {B : Nat} {W W' : World} (h : KeepsOthers W W') : SameAt B W W' := fun k o _ _ hk ho => h.same k o hk ho
theorem SameAt.putObj {B : Nat} (W : World) {l : Nat} (o : Obj) (h : B + 2 ≤ l) : SameAt B W (W.putObj l o) := fun k o' _ h1 hk _ => (World.putObj_heap_other (by omega)).trans hk

/-- How a round's body may be left. -/
def leftPost (B : Nat) (J : World → Prop) (Jx : Code → World → Prop) (W : World) : Exit → Act → World → Prop
  | .normal, _, W' => KeepsFrom B W W' ∧ J W'
  | .ret, _, W' => KeepsFrom B W W' ∧ Jx .ret W'
  | .exit id, _, W' => KeepsFrom B W W' ∧ Jx (.exit id) W'
  | .goto t, _, W' => KeepsFrom B W W' ∧ Jx (.goto t) W'
  | .panic _, _, _ => False
  | .outgrown, _, _ => False

theorem wpIn_range_st {β : Type} {g : Operand} {ps : Array Tmp} {assign body : Code} {Q : Exit → Act → World → Prop} {a : Act} {w : World}
    (hro : F.round = none) (h1 : 1 ≤ n) {gf : Nat} {lb : Array Value} (hg : a.eval g = .func (.func gf) #[] lb) (hFg : F.fn gf) (eg : ∀ args w, (callFunc gf args).run P w = .ok (.enter gf args) w)
    (encs : β → Array Value) (hps : ∀ x, (encs x).size = ps.size)
    (J J' : β → World → Prop) (Jb : β → Act → World → Prop) (Jx : Code → World → Prop) (Jd : World → Prop)
    (hJb : ∀ x a', Abide w.heap.size (Jb x a')) (hJ' : ∀ x, Abide w.heap.size (J' x)) (hJx : ∀ c, Abide w.heap.size (Jx c)) (hJd : Abide w.heap.size Jd)
    (hassign : ∀ (l : Nat) (x : β) (W : World) (K : Act → World → Prop), J x W → (∀ a' W', KeepsFrom w.heap.size W W' → Jb x a' W' → K a' W') →
      assign.wpIn (F.inRound l) (n - 1 - 1) P (Exit.then K (fun _ _ _ => False)) { tmps := (ps.zip (encs x)).foldl (fun t (p, v) => t.setIfInBounds p v) a.tmps, defers := [] } W)
    (hbody : ∀ (l : Nat) (x : β) (a' : Act) (W : World), Jb x a' W → body.wpIn (F.inRound l) (n - 1 - 1) P (leftPost w.heap.size (J' x) Jx W) a' W)
    (hit : ∀ (l : Nat) (rd : World → Prop) (dn : Code → World → Prop) (W1 : World), (∃ o1 o2, W1 = (w.alloc o1).alloc o2) →
      (∀ W W', SameAt w.heap.size W W' → rd W → rd W') → (∀ c W W', SameAt w.heap.size W W' → dn c W → dn c W') → rd W1 →
      (∀ x W, J x W → rd W → YieldAt F (n - 1 - 1) P l (encs x) W fun e W' =>
        (e = .returned (.bool true) ∧ J' x W' ∧ rd W' ∧ KeepsFrom (w.heap.size + 2) W W') ∨ (e = .returned (.bool false) ∧ (∃ c, Jx c W' ∧ dn c W') ∧ KeepsFrom (w.heap.size + 2) W W')) →
      CallsIn F (n - 1) P gf (#[.func (.yield l) #[] #[]] ++ lb) W1 fun e W' => (∃ v, e = .returned v) ∧ ((Jd W' ∧ rd W') ∨ ∃ c, Jx c W' ∧ dn c W'))
    (hdone : ∀ (D : Nat) (W : World), w.heap.size ≤ D → Jd W → W.heap[D]? = some (.deferred (some [])) → Q .normal { a with defers := { target := .collected D, args := #[] } :: a.defers } W)
    (hstop : ∀ (D : Nat) (c : Code) (W : World), w.heap.size ≤ D → Jx c W → W.heap[D]? = some (.deferred (some [])) → c.wpIn F n P Q { a with defers := { target := .collected D, args := #[] } :: a.defers } W) :
    (Code.rangeFunc g ps assign body).wpIn F n P Q a w := by
  refine wpIn_rangeFunc fun fn hfn => ?_
  rw [hro]
  generalize hB : w.heap.size = B at *
  let rec_ : LoopState → Option Code → Loop := fun st pe => { state := st, pending := pe, fn := fn, tmps := a.tmps, params := ps, assign := assign, body := body, defers := B }
  have hL1 : ((w.alloc (.deferred (some []))).alloc (.loop (rec_ .ready none))).heap[B + 1]? = some (.loop (rec_ .ready none)) := by
    have := World.alloc_heap_new (w.alloc (.deferred (some []))) (.loop (rec_ .ready none)); rwa [World.size_alloc, hB] at this
  have hK1 : ((w.alloc (.deferred (some []))).alloc (.loop (rec_ .ready none))).heap[B]? = some (.deferred (some [])) := by
    have := World.alloc_heap_new w (.deferred (some []))
    rw [hB] at this
    exact (Below.heap_alloc _ _ _ (by simp [hB])).trans this
  -- what is known of the two blocks: the record stands at st, pe
  let book : LoopState → Option Code → World → Prop := fun st pe W => W.heap[B + 1]? = some (.loop (rec_ st pe)) ∧ W.heap[B]? = some (.deferred (some []))
  have bookSame : ∀ st pe W W', SameAt B W W' → book st pe W → book st pe W' := fun st pe W W' hs hb => ⟨hs _ _ (by omega) (by omega) hb.1 rfl, hs _ _ (Nat.le_refl _) (by omega) hb.2 rfl⟩
  have bookTurn : ∀ st pe st' pe' W, book st pe W → book st' pe' (W.putObj (B + 1) (.loop (rec_ st' pe'))) := fun st pe st' pe' W hb => ⟨World.putObj_heap_same (Array.getElem?_eq_some_iff.1 hb.1).1, (World.putObj_heap_other (by omega)).trans hb.2⟩
  have keepTurn : ∀ W o, KeepsFrom (B + 2) W (W.putObj (B + 1) o) := fun W o => ⟨by simp, fun k o' hk h0 _ => (World.putObj_heap_other (by omega)).trans h0⟩
  refine ⟨B + 1, [{ target := .collected B, args := #[] }], (w.alloc (.deferred (some []))).alloc (.loop (rec_ .ready none)), { target := .fn (.func gf) lb, args := #[.func (.yield (B + 1)) #[] #[]] }, (w.alloc (.deferred (some []))).alloc (.loop (rec_ .ready none)), gf,
    #[.func (.yield (B + 1)) #[] #[]] ++ lb, (w.alloc (.deferred (some []))).alloc (.loop (rec_ .ready none)), by have := run_enterLoop_outer (P := P) (w := w) fn a.tmps ps assign body; rw [hB] at this; exact this, ?_, ?_, ?_, fun _ => h1, ?_⟩
  · simp only [resolve, hg]
    simp [go_sem]
  · intro f' hf'; simp [Target.leads] at hf'; subst hf'; exact hFg
  · simp [invoke, go_sem, eg]
  · refine (hit (B + 1) (book .ready none) (fun c => book .done (some c)) _ ⟨_, _, rfl⟩ (bookSame _ _) (fun c => bookSame _ _) ⟨hL1, hK1⟩ ?_).mono ?_
    · -- a round
      rintro x W hj ⟨hl, hk⟩
      have hy := run_yield (P := P) (args := encs x) hl (hps x)
      refine ⟨fn, _, assign, body, hy, roundIn_of_wpIn hfn (hassign (B + 1) x W _ hj ?_)⟩
      intro a' W2 hk2 hb2
      have bk2 := bookSame _ _ W W2 (.of_keeps hk2) ⟨hl, hk⟩
      refine ⟨_, run_beginRound bk2.1 rfl, ?_⟩
      have bk3 := bookTurn .ready none .busy none W2 bk2
      refine wpIn_mono (hbody (B + 1) x a' _ (hJb x a' _ _ _ _ hb2 (by omega) bk2.1 rfl)) ?_
      have fin : ∀ (jump : Option Code) (W3 : World), KeepsFrom B (W2.putObj (B + 1) (.loop (rec_ .busy none))) W3 →
          (Instr.endRound (B + 1) jump).run P W3 = .ok (.bool jump.isNone) (W3.putObj (B + 1) (.loop (rec_ (if jump.isNone then .ready else .done) jump))) ∧
          W3.heap[B + 1]? = some (.loop (rec_ .busy none)) ∧ book (if jump.isNone then .ready else .done) jump (W3.putObj (B + 1) (.loop (rec_ (if jump.isNone then .ready else .done) jump))) ∧
          KeepsFrom (B + 2) W (W3.putObj (B + 1) (.loop (rec_ (if jump.isNone then .ready else .done) jump))) := fun jump W3 h3 => by
        have bk4 := bookSame .busy none _ W3 (.of_keeps h3) bk3
        refine ⟨run_endRound (P := P) jump bk4.1, bk4.1, bookTurn .busy none _ _ W3 bk4, ?_⟩
        have up : ∀ {X Y : World}, KeepsFrom B X Y → KeepsFrom (B + 2) X Y := fun h => ⟨h.size, fun k o hk h0 ho => h.same k o (by omega) h0 ho⟩
        exact (((up hk2).trans (keepTurn W2 _)).trans (up h3)).trans (keepTurn W3 _)
      rintro e a3 W3 hp
      cases e with
      | normal =>
        obtain ⟨h3, hj3⟩ := hp
        obtain ⟨hr, hl3, hb3, hkp⟩ := fin none W3 h3
        exact ⟨_, _, hr, .inl ⟨rfl, hJ' x _ _ _ _ hj3 (by omega) hl3 rfl, hb3, hkp⟩⟩
      | ret =>
        obtain ⟨h3, hj3⟩ := hp
        obtain ⟨hr, hl3, hb3, hkp⟩ := fin (some .ret) W3 h3
        exact ⟨_, _, hr, .inr ⟨rfl, ⟨.ret, hJx _ _ _ _ _ hj3 (by omega) hl3 rfl, hb3⟩, hkp⟩⟩
      | exit id =>
        obtain ⟨h3, hj3⟩ := hp
        obtain ⟨hr, hl3, hb3, hkp⟩ := fin (some (.exit id)) W3 h3
        exact ⟨_, _, hr, .inr ⟨rfl, ⟨.exit id, hJx _ _ _ _ _ hj3 (by omega) hl3 rfl, hb3⟩, hkp⟩⟩
      | goto t =>
        obtain ⟨h3, hj3⟩ := hp
        obtain ⟨hr, hl3, hb3, hkp⟩ := fin (some (.goto t)) W3 h3
        exact ⟨_, _, hr, .inr ⟨rfl, ⟨.goto t, hJx _ _ _ _ _ hj3 (by omega) hl3 rfl, hb3⟩, hkp⟩⟩
      | panic ch => exact hp.elim
      | outgrown => exact hp.elim
    · rintro e W2 ⟨⟨v, rfl⟩, (⟨hj, hb⟩ | ⟨c, hj, hb⟩)⟩
      · exact ⟨none, _, run_endLoop (P := P) hb.1 (by simp [rec_]), hdone B _ (Nat.le_refl _) (hJd _ _ _ _ hj (by omega) hb.1 rfl) ((World.putObj_heap_other (by omega)).trans hb.2)⟩
      · exact ⟨some c, _, run_endLoop (P := P) hb.1 (by simp [rec_]), hstop B c _ (Nat.le_refl _) (hJx c _ _ _ _ hj (by omega) hb.1 rfl) ((World.putObj_heap_other (by omega)).trans hb.2)⟩

end Go.Proofs.YtffdhekmnoajiaaDoor.XR
