import Derived.Test.YtjbdkdmoacdbpaaGreatDoorWMore
import Derived.Laws.IdiomCopy
/- a struct of several cells stored at once, and what is kept beside it -/
set_option linter.unusedVariables false
set_option linter.unusedSimpArgs false
namespace Go.Proofs.YtjbdkdmoacdbpaaGreatDoor.RSt
open Go Go.RowKit Go.Proofs.YtjbdkdmoacdbpaaGreatDoorW.PrintWords Go.Proofs.YtjbdkdmoacdbpaaGreatDoorW.PrintLast
section
variable {P : Program} {ops : Array Oper} {Q : Exit → Act → World → Prop}
theorem run_store_agg {oi : Oper} {a : Act} {w : World} {ty : TypeId} {ptr val : Operand} {b o : Nat} {cs : Array Value} {vs : List Value} {z : Option Value} {sz by_ : Nat}
    (hop : oi.op = .store ty ptr val) (hp : a.eval ptr = .pointer (some ⟨b, o, none⟩)) (hv : a.eval val = .agg cs) (hvs : cs.toList = vs) (hsz : (P.info? ty).map (fun i => (i.zero, i.size, i.bytes)) = some (z, sz, by_)) (hlen : vs.length = sz)
    (hc : (∀ j, j < sz → (w.cell? ⟨b, o + j, none⟩).isSome = true) ∧ ∀ j, w.frozen? ⟨b, o + j, none⟩ = false) (h1 : ∀ v ∈ vs, v.oneCell' = true) :
    (execOp a.eval oi).run P w = .ok .skip (w.setCells b o vs) := by
  obtain ⟨hc, hf⟩ := hc
  cases hi : P.info? ty with
  | none => rw [hi] at hsz; cases hsz
  | some i =>
    rw [hi] at hsz
    have hs : i.size = sz := by simpa using congrArg (fun x => (x.map (·.2.1))) hsz
    subst hlen
    subst hvs
    have hst := run_storeCells_cells (P := P) b o cs.toList 0 w (by simpa using hc) (by simpa using fun j _ => hf j) h1
    unfold execOp
    simp only [hop, hp, hv, Instr.storeAt, Instr.sureAddr, storeVar]
    simp [Value.cells, sizeOf, typeInfo, hi, hs, hst, go_sem]
/-- A store of a whole struct. -/
theorem storeS_ {oi : Oper} {a : Act} {w : World} {K : Act → World → Prop} {ty : TypeId} {ptr val : Operand} {b o : Nat} {cs : Array Value} {vs : List Value} {z : Option Value} {sz by_ : Nat}
    (hw : Region.wanted oi (yielded ops a.tmps) = true) (hN : oi.dst = none)
    (hop : oi.op = .store ty ptr val) (hp : a.eval ptr = .pointer (some ⟨b, o, none⟩)) (hv : a.eval val = .agg cs) (hvs : cs.toList = vs) (hsz : (P.info? ty).map (fun i => (i.zero, i.size, i.bytes)) = some (z, sz, by_)) (hlen : vs.length = sz)
    (hc : (∀ j, j < sz → (w.cell? ⟨b, o + j, none⟩).isSome = true) ∧ ∀ j, w.frozen? ⟨b, o + j, none⟩ = false) (h1 : (vs.all fun v => v.oneCell') = true)
    (h : K a (w.setCells b o vs)) : if Region.wanted oi (yielded ops a.tmps) = true then Oper.wp P oi a w K Q else K (a.put none undef) w :=
  skip_ hw hN (run_store_agg hop hp hv hvs hsz hlen hc (fun v hv' => List.all_eq_true.1 h1 v hv')) h
/-- The store as the one operation that may come up now: no goal of the form 'if .. then .. else' is met on the way (Lean would reckon it out, and the world with it). -/
theorem lastS_ {md : Region.Mode} {S : World → Prop} {ds : List Nat} {i : Nat} {oi : Oper} {fuel : Nat} {l : Array Bool} {a : Act} {w : World} {ty : TypeId} {ptr val : Operand} {b o : Nat} {cs : Array Value} {vs : List Value} {z : Option Value} {sz by_ : Nat}
    (l' : Array Bool) (hi : ops[i]? = some oi) (hN : oi.dst = none) (hr : readyB md ops l l' i = true) (hd : i ∈ ds) (hw : Region.wanted oi (yielded ops a.tmps) = true)
    (hop : oi.op = .store ty ptr val) (hp : a.eval ptr = .pointer (some ⟨b, o, none⟩)) (hv : a.eval val = .agg cs) (hvs : cs.toList = vs) (hsz : (P.info? ty).map (fun i => (i.zero, i.size, i.bytes)) = some (z, sz, by_)) (hlen : vs.length = sz)
    (hc : (∀ j, j < sz → (w.cell? ⟨b, o + j, none⟩).isSome = true) ∧ ∀ j, w.frozen? ⟨b, o + j, none⟩ = false) (h1 : (vs.all fun v => v.oneCell') = true)
    (h : wpAnyLast P md ops Q S ds fuel l' a (w.setCells b o vs)) : wpAnyLast P md ops Q S ds (fuel + 1) l a w :=
  last_ l' hi hN hr hd (fun _ hK => storeS_ hw hN hop hp hv hvs hsz hlen hc h1 (hK.out _ _ h))
end
/-- An element's cells: they are there, and may be written. -/
theorem R_in {α : Type} {d : Kd α} {e base n cap g : Nat} {ok : Nat → Prop} {W : World} {xs : List α} (h : d.R e W base ok (.slice (some ⟨g, 0, none⟩) n cap) xs) (z : α) (i : Int) (h0 : 0 ≤ i) (h1 : i < n) (j0 : Nat) :
    (∀ j, j < d.sz → (W.cell? ⟨g, i.toNat * d.sz + 0 + j, none⟩).isSome = true) ∧ ∀ j, W.frozen? ⟨g, i.toNat * d.sz + 0 + j, none⟩ = false := by
  obtain ⟨c, h2, _, h3, h4⟩ := Kd.R_elem h z i h0 h1
  refine ⟨fun j hj => ?_, fun j => by rw [Nat.add_zero]; exact h4 j⟩
  rw [Nat.add_zero, h3 j _ (List.getElem?_eq_getElem (by omega))]; rfl
theorem kept_cells {w W : World} {S : Nat → Prop} {b : Nat} (hp : S b ∨ w.heap.size ≤ b) : ∀ (vs : List Value) (o : Nat) {W : World}, Kept w W S → Kept w (W.setCells b o vs) S
  | [], _, _, h => h
  | v :: r, o, _, h => kept_cells (W := W) hp r (o + 1) (Kept.setCell h (p := ⟨b, o, none⟩) hp v)
theorem below_cells {w : World} {b : Nat} (hg : w.heap.size ≤ b) : ∀ (vs : List Value) (o : Nat) {W : World}, Below w.heap.size w W → Below w.heap.size w (W.setCells b o vs)
  | [], _, _, h => h
  | v :: r, o, _, h => below_cells hg r (o + 1) (below_set h hg)
theorem keptS {w W : World} {S : Nat → Prop} {b o : Nat} {vs : List Value} (h : Kept w W S) (hp : S b ∨ w.heap.size ≤ b) : Kept w (W.setCells b o vs) S := kept_cells (W := W) hp vs o h
theorem belowS {w W : World} {b o : Nat} {vs : List Value} (h : Below w.heap.size w W) (hg : w.heap.size ≤ b) : Below w.heap.size w (W.setCells b o vs) := below_cells hg vs o h
/-- a row that is not empty has a block of its own -/
theorem R_form {α : Type} {d : Kd α} {e base : Nat} {ok : Nat → Prop} {w : World} {v : Value} {xs : List α} (h : d.R e w base ok v xs) (hp : 0 < xs.length) : ∃ g cap, v = .slice (some ⟨g, 0, none⟩) xs.length cap ∧ base ≤ g ∧ g < w.heap.size ∧ ∃ cells, w.heap[g]? = some (.cells cells e (0, 0)) := by
  obtain ⟨inner, ho⟩ := Kd.R_own h
  obtain ⟨g, cap, he, hb, hl⟩ := ho.form hp
  obtain ⟨cells, hc⟩ := own_typed ho g (by rw [he]; simp [Value.ownBlock])
  exact ⟨g, cap, he, hb, hl, cells, hc⟩
end Go.Proofs.YtjbdkdmoacdbpaaGreatDoor.RSt
