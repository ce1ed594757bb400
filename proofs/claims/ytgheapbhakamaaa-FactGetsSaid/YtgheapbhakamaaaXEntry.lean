import Derived.Test.YtgheapbhakamaaaXKeys
import Derived.WideKeyEntry
/- 'm[k] += v' at a struct key: the entry, and the look-up on either side of it -/
set_option linter.unusedVariables false
set_option linter.unusedSimpArgs false
namespace Go.Proofs.Ytgheapbhakamaaa.XG
open Go Go.RowKit Go.Maps Go.WideElems Go.ChangeMaps Go.MapKept
theorem zeroE (w : World) : (zeroValue 2).run Try.prog w = .ok (.int .i64 0) w := by kernel_rfl
theorem setBlock_self {w : World} {b : Nat} {o : Obj} (h : w.heap[b]? = some o) : setBlock w b o = w := by
 unfold setBlock
 have : w.heap.setIfInBounds b o = w.heap := by
  apply Array.ext_getElem?
  intro j
  rw [Array.getElem?_setIfInBounds]
  by_cases e : b = j
  ·subst e
   obtain ⟨hlt, _⟩ := Array.getElem?_eq_some_iff.1 h
   rw [if_pos rfl, if_pos hlt, h]
  ·rw [if_neg e]
 rw [this]
theorem setBlock_twice (w : World) (b : Nat) (o o' : Obj) : setBlock (setBlock w b o) b o' = setBlock w b o' := by
 unfold setBlock
 simp only [World.mk.injEq, true_and, and_true]
 apply Array.ext_getElem?
 intro j
 simp only [Array.getElem?_setIfInBounds, Array.size_setIfInBounds]
 by_cases e : b = j <;> simp [e]
theorem setBlock_at {w : World} {b : Nat} {o o' : Obj} (h : w.heap[b]? = some o) : (setBlock w b o').heap[b]? = some o' := by
 unfold setBlock
 obtain ⟨hlt, _⟩ := Array.getElem?_eq_some_iff.1 h
 simp [hlt]
theorem klawK_key {v : Value} {l : Lit} (h : keyOf Try.prog 24 v = some l) : WideAt.IsKeyLit l := lawK.key h
theorem entry_facts {W : World} {b n : Nat} {D : DataW Unit} (hown : W.ownsMap Try.prog 24 (plainElem Try.prog 2) b n D) (hn : n < maxLen) {key : Value} {kl : Lit} (hkey : keyOf Try.prog 24 key = some kl) :
  ∃ (c : Int) (st : Nat) (W2 : World), (Instr.lookup 56 (.map (some b)) key false).run Try.prog W = .ok (.int .i64 c) W ∧
   (Instr.mapEntry 56 (.map (some b)) key).run Try.prog W = .ok (.tuple #[.int .i64 c, .int .i64 st]) W2 ∧
   (Instr.lookup 56 (.map (some b)) key false).run Try.prog W2 = .ok (.int .i64 c) W2 ∧
   D.atKey kl (.lit (.int .i64 0)) = .lit (.int .i64 c) ∧ (Lit.int .i64 c).wf = true ∧ (∃ o, W2 = setBlock W b o) ∧
   ∀ v, (Lit.int .i64 v).wf = true → ∃ W4, (Instr.entryStore 56 (.map (some b)) (.int .i64 st) (.int .i64 v)).run Try.prog W2 = .ok () W4 ∧ W4.ownsMap Try.prog 24 (plainElem Try.prog 2) b (n + 1) (D.put kl (.lit (.int .i64 v))) ∧ W.grownBy W4 (some b) := by
 have ht := Try.underlying56
 obtain ⟨c, hl, hat, hwc⟩ := hown.lookup_int lawK ht Try.underlying2 (zeroE _) hkey
 have hown0 := hown
 obtain ⟨es, clock, hb, F, hs, _⟩ := hown
 obtain ⟨v0, st, es1, clock1, h1, hv0, hst⟩ := entry_then_store klawK ht zeroE hb F hkey
 have hW2 : (setBlock W b (.map es1 clock1)).heap[b]? = some (.map es1 clock1) := setBlock_at hb
 have store : ∀ v, (Lit.int .i64 v).wf = true → ∃ W4, (Instr.entryStore 56 (.map (some b)) (.int .i64 st) (.int .i64 v)).run Try.prog (setBlock W b (.map es1 clock1)) = .ok () W4 ∧ W4.ownsMap Try.prog 24 (plainElem Try.prog 2) b (n + 1) (D.put kl (.lit (.int .i64 v))) ∧ W.grownBy W4 (some b) := by
  intro v hv
  obtain ⟨es', clock', h2, h3⟩ := hst _ (.int .i64 v) hW2
  rw [setBlock_twice] at h2
  obtain ⟨W4, h4, h5, h6⟩ := hown0.update lawK ht hn hkey (plainElem_int Try.underlying2 hv)
  rw [h3] at h4
  have e : setBlock W b (.map es' clock') = W4 := by injection h4
  rw [e] at h2
  exact ⟨W4, h2, h5, h6⟩
 rcases klawK.find W hkey es.toList F.keys with ⟨g1, g2⟩ | ⟨j, e0, g1, g2, g3⟩
 ·have hm : (Instr.mapEntry 56 (.map (some b)) key).run Try.prog W = .ok (.tuple #[.int .i64 0, goInt clock]) (setBlock W b (.map (es.push ⟨key, .int .i64 0, clock⟩) (clock + 1))) := by
   simp [Instr.mapEntry, run_underlying ht, MapKept.run_getObj_map hb, klawK.check W false hkey, g1, zeroE, MapKept.run_setObj_map _ hb, Result.andThen, setBlock]
  have hl0 : (Instr.lookup 56 (.map (some b)) key false).run Try.prog W = .ok (.int .i64 0) W := by
   simp [Instr.lookup, run_underlying ht, MapKept.run_getObj_map hb, klawK.check W _ hkey, g1, zeroE, Result.andThen]
  have ec : c = 0 := by
   rw [hl] at hl0
   injection hl0 with e _
   injection e
  subst ec
  have hb0 := h1
  rw [hm] at hb0
  injection hb0 with e1 e2
  have e3 : goInt clock = goInt st := by
   injection e1 with e1
   have e0 := congrArg Array.toList e1
   simp only [List.cons.injEq] at e0
   exact e0.2.1
  have e4 : (goInt st) = (.int .i64 st : Value) := rfl
  have hu : (Instr.mapUpdate 56 (.map (some b)) key (.int .i64 0)).run Try.prog W = .ok () (setBlock W b (.map (es.push ⟨key, .int .i64 0, clock⟩) (clock + 1))) := by
   simp [Instr.mapUpdate, run_underlying ht, MapKept.run_getObj_map hb, klawK.check W false hkey, g1, MapKept.run_setObj_map _ hb, Result.andThen, setBlock]
  obtain ⟨W2', h4, h5, h6⟩ := hown0.update lawK ht hn hkey (plainElem_int (H := Unit) Try.underlying2 (q := .i64) (a := 0) (by decide))
  rw [hu] at h4
  have e5 : setBlock W b (.map (es.push ⟨key, .int .i64 0, clock⟩) (clock + 1)) = W2' := by injection h4
  rw [← e5, e2] at h5
  obtain ⟨c', hl2, hat2, _⟩ := h5.lookup_int lawK ht Try.underlying2 (zeroE _) hkey
  have e6 : c' = 0 := by
   rw [atKey_put_same hown0.isMap (klawK_key hkey)] at hat2
   injection hat2 with hat2
   injection hat2 with _ hat2
   exact hat2.symm
  subst e6
  rw [hm, e3, e2]
  exact ⟨0, st, _, hl, rfl, hl2, hat, hwc, ⟨_, rfl⟩, store⟩
 ·have hj : es[j]? = some e0 := by simpa using g2
  have hl0 : (Instr.lookup 56 (.map (some b)) key false).run Try.prog W = .ok e0.val W := by
   simp [Instr.lookup, run_underlying ht, MapKept.run_getObj_map hb, klawK.check W _ hkey, g1, Result.andThen]
  have hsame : es.modify j (fun e => { e with key := key }) = es := by
   apply Array.ext'
   rw [Array.toList_modify, modify_eq_set _ _ _ _ g2]
   have : ({ e0 with key := key } : MapEntry) = e0 := by rw [← g3]
   rw [this]
   exact set_self _ _ _ g2
  have hm : (Instr.mapEntry 56 (.map (some b)) key).run Try.prog W = .ok (.tuple #[e0.val, goInt e0.born]) (setBlock W b (.map es clock)) := by
   have hst : (Instr.keyThatStays key key).run Try.prog W = .ok key W := klawK.stays W hkey
   simp [Instr.mapEntry, run_underlying ht, MapKept.run_getObj_map hb, klawK.check W false hkey, g1, hj, g3, hst, hsame, MapKept.run_setObj_map _ hb, Result.andThen, setBlock]
  have ev : e0.val = .int .i64 c := by
   rw [hl] at hl0
   injection hl0 with e _
   exact e.symm
  have hb0 := h1
  rw [hm] at hb0
  injection hb0 with e1 e2
  have e3 : goInt e0.born = goInt st := by
   injection e1 with e1
   have e0 := congrArg Array.toList e1
   simp only [List.cons.injEq] at e0
   exact e0.2.1
  rw [hm, e3, ev]
  rw [← e2] at store
  rw [setBlock_self hb] at store ⊢
  exact ⟨c, st, _, hl, rfl, hl, hat, hwc, ⟨_, (setBlock_self hb).symm⟩, store⟩
end Go.Proofs.Ytgheapbhakamaaa.XG
