import Derived.Test.YtffdhekmnoajiaaDoorXRange
import Derived.Test.YtffdhekmnoajiaaDoorXLaidL
import Derived.Test.YtffdhekmnoajiaaDoorXLayIndex
import Derived.Test.YtffdhekmnoajiaaDoorWMore
import Derived.Lib.IndexBytes
import Derived.Lib.IndexMore
import Derived.Lib.Bytealg
/- strings.SplitSeq at an end of a line: the iterator, as a contract over what its caller keeps -/
set_option linter.unusedVariables false
set_option linter.unusedSimpArgs false
namespace Go.Proofs.YtffdhekmnoajiaaDoor.X
open Go Go.RowKit Go.Proofs.YtffdhekmnoajiaaDoorW.PrintWords Go.Proofs.YtffdhekmnoajiaaDoorW.PrintLast Go.Proofs.YtffdhekmnoajiaaDoorW.PrintMore
attribute [local go_sem] Oper.semAt_some
theorem room_of_none {F : Fence} (hd : F.depth = none) (k : Nat) : F.room k := fun d h => by rw [hd] at h; cases h
theorem round_any {F : Fence} (hd : F.depth = none) {m m' : Nat} {P : Program} {l : Nat} {f : FuncId} {tmps : Array Value} {assign body : Code} {w : World} {R : Ending → World → Prop}
    (h : RoundIn F m P l f tmps assign body w R) : RoundIn F m' P l f tmps assign body w R := ⟨h.1, fun c cs _ => h.2 c cs (room_of_none hd _)⟩
theorem yield_any {F : Fence} (hd : F.depth = none) {m : Nat} (m' : Nat) {P : Program} {l : Nat} {args : Array Value} {W : World} {R : Ending → World → Prop} (h : YieldAt F m P l args W R) : YieldAt F m' P l args W R := by
  obtain ⟨fn, tmps, assign, body, hy, hR⟩ := h
  exact ⟨fn, tmps, assign, body, hy, round_any hd hR⟩
theorem yield_mono {F : Fence} {m : Nat} {P : Program} {l : Nat} {args : Array Value} {W : World} {R R' : Ending → World → Prop} (h : YieldAt F m P l args W R) (hr : ∀ e w', R e w' → R' e w') : YieldAt F m P l args W R' := by
  obtain ⟨fn, tmps, assign, body, hy, hR⟩ := h
  exact ⟨fn, tmps, assign, body, hy, hR.mono hr⟩
/-- Nothing but block b has turned. -/
abbrev Only (b : Nat) (W W' : World) : Prop := W.grownBy W' (some b)
theorem Only.drew (b : Nat) (W : World) (m : Nat) : Only b W (W.drewN m) := ⟨rfl, rfl, rfl, Nat.le_refl _, fun _ _ _ => rfl⟩
theorem Only.set (b : Nat) (W : World) (v : Value) : Only b W (W.setCell ⟨b, 0, none⟩ v) := grownBy_setCell' W b v
/-- where the first end of a line is -/
def nl (t : ByteArray) : Int := Lib.index t.data.toList [10]
theorem nl_lt (t : ByteArray) (h : 0 ≤ nl t) : nl t < t.size := by
  have := Lib.index_room t.data.toList [10] h
  have h2 : t.data.toList.length = t.size := by rw [Array.length_toList]; rfl
  simp only [List.length_cons, List.length_nil] at this
  unfold nl; omega
def headL (t : ByteArray) : ByteArray := if nl t < 0 then t else t.extract 0 (nl t).toNat
def restL (t : ByteArray) : ByteArray := t.extract ((nl t).toNat + 1) t.size
theorem restL_size (t : ByteArray) (h : 0 ≤ nl t) : (restL t).size < t.size := by
  have := nl_lt t h
  unfold restL
  rw [ByteArray.size_extract]; omega
/-- the iterator's own cells -/
structure Cells (bp bs bv : Nat) (t : ByteArray) (W : World) : Prop where
  sep : W.cell? ⟨bp, 0, none⟩ = some (.string ⟨#[10]⟩)
  cur : W.cell? ⟨bs, 0, none⟩ = some (.string t)
  froz : W.frozen? ⟨bs, 0, none⟩ = false
  sav : W.cell? ⟨bv, 0, none⟩ = some (.int .i64 0)
  mx : ∃ m, W.cell? ⟨0, 0, none⟩ = some (.int .i64 m)
  size : t.size < 4294967281
theorem Cells.set {bp bs bv : Nat} {t t' : ByteArray} {W : World} (h : Cells bp bs bv t W) (h1 : bp ≠ bs) (h2 : bv ≠ bs) (h3 : 0 ≠ bs) (hs : t'.size ≤ t.size) : Cells bp bs bv t' (W.setCell ⟨bs, 0, none⟩ (.string t')) := by
  refine ⟨?_, ?_, ?_, ?_, ?_, by have := h.size; omega⟩
  · exact (World.cell?_of_block (Below.heap_setCell _ _ _ _ h1)).trans h.sep
  · exact World.cell?_setCell_same' _ _ _ (by rw [h.cur]; rfl)
  · rw [World.frozen?_setCell]; exact h.froz
  · exact (World.cell?_of_block (Below.heap_setCell _ _ _ _ h2)).trans h.sav
  · obtain ⟨m, hm⟩ := h.mx
    exact ⟨m, (World.cell?_of_block (Below.heap_setCell _ _ _ _ h3)).trans hm⟩
theorem Cells.drew {bp bs bv : Nat} {t : ByteArray} {W : World} (h : Cells bp bs bv t W) (m : Nat) : Cells bp bs bv t (W.drewN m) := ⟨h.sep, h.cur, h.froz, h.sav, h.mx, h.size⟩
set_option maxRecDepth 100000 in
set_option maxHeartbeats 4000000 in
theorem splits (l bp bs bv n : Nat) (h1 : bp ≠ bs) (h2 : bv ≠ bs) (h3 : 0 ≠ bs) (I : ByteArray → World → Prop) (Id Ix : World → Prop) (hI : ∀ t W W', Only bs W W' → I t W → I t W')
    (hY : ∀ t W, 0 ≤ nl t → Cells bp bs bv t W → I t W → YieldAt Fence.wide (n - 1) Tryd.prog l #[.string (t.extract 0 (nl t).toNat)] W fun e W' =>
      (e = .returned (.bool true) ∧ Cells bp bs bv t W' ∧ I (restL t) W') ∨ (e = .returned (.bool false) ∧ Ix W'))
    (hZ : ∀ t W, nl t < 0 → Cells bp bs bv t W → I t W → YieldAt Fence.wide (n - 1) Tryd.prog l #[.string t] W fun e W' => (∃ b, e = .returned (.bool b)) ∧ (Id W' ∨ Ix W'))
    (t : ByteArray) (W : World) (hc : Cells bp bs bv t W) (hi : I t W) :
    CallsIn Fence.wide n Tryd.prog 46 #[.func (.yield l) #[] #[], .pointer (some ⟨bp, 0, none⟩), .pointer (some ⟨bs, 0, none⟩), .pointer (some ⟨bv, 0, none⟩)] W fun e W' => (∃ v, e = .returned v) ∧ (Id W' ∨ Ix W') := by
  refine callsIn_of_wp Tryd.func46 rfl trivial ?_ rfl
  simp only [Tryd.ntmps46, List.size_toArray, List.length_cons, List.length_nil, Nat.reduceAdd, Nat.reduceSub, Array.replicate_succ, Array.replicate_zero, List.push_toArray, List.append_toArray, List.nil_append, List.cons_append]
  have hsep := hc.sep
  gi_wp2
  gi_loopw [7] (fun _ wr => ∃ t, Cells bp bs bv t wr ∧ I t wr) (fun _ wr => match wr.cell? ⟨bs, 0, none⟩ with | some (.string t) => t.size | _ => 0)
  case atStart => exact ⟨t, hc, hi⟩
  case round =>
    clear hsep hc hi
    obtain ⟨t, hc, hi⟩ := hrel
    have hsep := hc.sep
    have hcur := hc.cur
    have hfroz := hc.froz
    have hsav := hc.sav
    obtain ⟨m, hm⟩ := hc.mx
    have hsz := hc.size
    obtain ⟨i, hi0⟩ : ∃ i, nl t = i := ⟨_, rfl⟩
    have hnl := nl_lt t
    have hIx : Calls Tryd.prog 48 #[.string t, .string ⟨#[10]⟩] wr fun e w' => e = .returned (.int .i64 i) ∧ w' = wr := by
      have h := Any.strings_Index lays143 t ⟨#[10]⟩ m wr hsz hm
      rw [show Lib.index t.data.toList (⟨#[10]⟩ : ByteArray).data.toList = i from hi0] at h
      exact h
    have HX := Aside0.mk hIx
    have HI := Aside0.mk hi
    have HC := Aside0.mk hc
    clear hIx hi hc
    have hy1 := hY t
    rcases Int.lt_or_le i 0 with hneg | hpos
    · have hd : decide (i < 0) = true := decide_eq_true hneg
      obtain ⟨fn, tmps, assign, body, hy, hR⟩ := hZ t wr (by omega) HC.out HI.out
      gi_wp2_with (refine ⟨trivial, fun h => (by cases h), ?_⟩; gi_at_call 48; refine (callsIn_wide.2 HX.out).mono ?_; rintro e w' ⟨rfl, rfl⟩)
      refine ⟨fun h => (by cases h), hR.mono ?_⟩
      rintro e W3 ⟨⟨b, rfl⟩, hx⟩
      gi_wp2
      go_end0
      exact ⟨⟨_, rfl⟩, hx⟩
    · have hd : decide (i < 0) = false := decide_eq_false (by omega)
      have hlt := hnl (by omega)
      have hw0 : wrap64 (i + 0) = i := by unfold wrap64; omega
      have hw1 : wrap64 (i + 1) = i + 1 := by unfold wrap64; omega
      have hi1 : i ≤ (t.size : Int) := by omega
      have hi2 : (i + 1) ≤ (t.size : Int) := by omega
      have hi3 : 0 ≤ i + 1 := by omega
      obtain ⟨fn, tmps, assign, body, hy, hR⟩ := hY t wr (by omega) HC.out HI.out
      rw [hi0] at hy
      have hwr := hcur
      gi_wp2_with (refine ⟨trivial, fun h => (by cases h), ?_⟩; gi_at_call 48; refine (callsIn_wide.2 HX.out).mono ?_; rintro e w' ⟨rfl, rfl⟩)
      refine ⟨fun h => (by cases h), hR.mono ?_⟩
      rintro e W3 (⟨rfl, hc3, hi3⟩ | ⟨rfl, hx3⟩)
      · clear hsep hcur hfroz hsav hm hy
        have hsep := hc3.sep
        have hcur := hc3.cur
        have hfroz := hc3.froz
        gi_wp2
        have hr : t.extract (i + 1).toNat t.size = restL t := by unfold restL; rw [hi0]; congr 1; omega
        have hrs := restL_size t (by omega)
        rw [hr]
        refine ⟨⟨_, hc3.set h1 h2 h3 (by omega), hI _ _ _ (.set _ _ _) hi3⟩, ?_⟩
        rw [World.cell?_setCell_same' _ _ _ (by rw [hcur]; rfl)]
        simp only [hwr]
        exact hrs
      · gi_wp2
        refine bodyPost_ret (results_none rfl _ _ _) rfl ?_
        exact ⟨⟨_, rfl⟩, .inr hx3⟩
end Go.Proofs.YtffdhekmnoajiaaDoor.X
