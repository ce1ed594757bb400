import Derived.Lib.LaidU8
import Derived.ChangeArms
import Derived.Lib.LaidTab

import Derived.Shelf.Vars
import Derived.Test.YtjbdkdmoacdbpaaGreatDoorGX
import Derived.Test.YtjbdkdmoacdbpaaGreatDoorRows
import Derived.HandedShaped
import Derived.Handed
/- several texts of this session in one -/
set_option linter.unusedVariables false
set_option linter.unusedSimpArgs false
namespace Go.Proofs.YtjbdkdmoacdbpaaGreatDoor.XM
open Go Go.Lib
theorem iface_of_reads {P : Program} {w : World} {n nm : String} {d : DataW Unit} {g t : Nat} {ms : Array (String × TypeId)} (hg : P.globalNamed n = some g) (ht : (P.globals[g]?).map (·.type) = some t) (hu : P.underlying t = some (.interface ms))
    (h : VarReads P w n (.iface nm d)) : ∃ te pe, w.cell? ⟨g, 0, none⟩ = some (.iface te pe) := by
  obtain ⟨g', t', cs, fuel, p, hg', ht', hv, hd⟩ := h
  obtain rfl := Option.some.inj (hg.symm.trans hg')
  obtain rfl := Option.some.inj (ht.symm.trans ht')
  have hc := World.var?_cell hg hv 0
  cases fuel with
  | zero => simp [DataW.trod] at hd
  | succ m =>
    unfold DataW.trod at hd
    simp only [hu] at hd
    split at hd
    all_goals first
      | (cases ‹some _ = some _›; done)
      | (simp at hd; done)
      | (rename_i hcs; exact ⟨_, _, by rw [hc, ← Array.getElem?_toList, hcs]; rfl⟩)
      | (rename_i h1 hcs; exact ⟨_, _, by rw [hc, ← Array.getElem?_toList, hcs]; rfl⟩)
theorem tab_of_reads {P : Program} {w : World} {n : String} {g t e N : Nat} {k : IntKind} {zs : List Int} (hg : P.globalNamed n = some g) (hty : (P.globals[g]?).map (·.type) = some t) (ht : P.underlying t = some (.array N e)) (he : P.underlying e = some (.int k)) (hce : P.cellsOf e = 1) (hct : P.cellsOf t = N)
    (h : VarReads P w n (tabData k zs)) : TabIs P w n k zs := by
  obtain ⟨g', t', cs, fuel, p, hg', ht', hvar, hd⟩ := h
  obtain rfl := Option.some.inj (hg.symm.trans hg')
  obtain rfl := Option.some.inj (hty.symm.trans ht')
  unfold TabIs
  rw [hvar, ← cells_of_tab ht he hce hct hd]
end Go.Proofs.YtjbdkdmoacdbpaaGreatDoor.XM
namespace Go.Proofs.YtjbdkdmoacdbpaaGreatDoor.XL
open Go Go.Lib
theorem laidW_of {l : List (String × DataW Unit)} {W : World} (h : laidMet Tryz.prog l W) (hsh : W.ShapedOpen Tryz.prog)
    (h1 : ("internal/strconv.uint64pow10", Rows.laid_internal_strconv_uint64pow10) ∈ l := by repeat (first | exact List.Mem.head _ | apply List.Mem.tail))
    (h2 : ("strconv.ErrRange", Rows.laid_strconv_ErrRange) ∈ l := by repeat (first | exact List.Mem.head _ | apply List.Mem.tail))
    (h3 : ("strconv.ErrSyntax", Rows.laid_strconv_ErrSyntax) ∈ l := by repeat (first | exact List.Mem.head _ | apply List.Mem.tail)) : X.LaidW W where
  pow := XM.tab_of_reads (g := 1) (t := 133) (e := 116) (N := 20) (by kernel_rfl) (by kernel_rfl) Tryz.underlying133 Tryz.underlying116 (by kernel_rfl) (by kernel_rfl) (Lib.laidMet.reads h h1)
  rng := XM.iface_of_reads (g := 5) (t := 74) (by kernel_rfl) (by kernel_rfl) Tryz.underlying74 (Lib.laidMet.reads h h2)
  syn := XM.iface_of_reads (g := 4) (t := 74) (by kernel_rfl) (by kernel_rfl) Tryz.underlying74 (Lib.laidMet.reads h h3)
  mx := cell_of_shapedOpen_int (zero := #[.int .i64 0]) (g := 0) (t := 3) hsh (by decide +kernel) (by kernel_rfl) (by kernel_rfl) (by kernel_rfl) (by kernel_rfl) Tryz.underlying3
end Go.Proofs.YtjbdkdmoacdbpaaGreatDoor.XL
namespace Go.Proofs.YtjbdkdmoacdbpaaGreatDoor.XW
open Go
variable {H : Type} {enc : TypeId × Value → H}
theorem wrap {a : Assume} {C : Checked} {os : Os} {f : FuncId} {fn : Func} {s : ChangeSpec} {conds : List PathCond} {apart fresh handsOn again : Bool} {X : World → Array Value → Prop}
    (hX : ∀ (w w' : World) (args : Array Value), w.heap = w'.heap → X w args → X w' args)
    (own : ownKnob C.prog.godebug = none) (started : os.Started) (noInit : C.prog.inits.idxOf? f = none) (hfn : C.prog.funcs[f]? = some fn)
    (witness : ∃ (w : World) (tape : Tape) (i : Input), w.os = os ∧ (w.forCall tape i).Shaped C.prog ∧ i.vars = [] ∧ Input.okWide C.prog (w.forCall tape i) .any w.heap.size f i ∧
      ((s.pre enc C.prog fn conds apart (w.forCall tape i).memory i.args ∧ X (w.forCall tape i).memory i.args) ∧ sizedMet enc C.prog fn (OpenSpec.ofChange s) apart (w.forCall tape i).memory i.args) ∧ a.holds C.prog (lone (Frame.enter C.prog f i.args .normal) [] (w.forCall tape i)))
    (contract : ∀ (W : World) (base : Nat) (args : Array Value) (ds gs : List (DataW H)) (before : List MemPlace),
      (∀ (j : Nat) t v, fn.params[j]? = some t → args[j]? = some v → Value.okWide C.prog W .any base t v) →
      DataW.Whole enc C.prog fn.params.toList s.vars apart W args.toList ds gs before →
      conds.all (PathCond.test C.prog ⟨fn.params.toList, ds, s.plain.varTypes C.prog, gs⟩) = true →
      (DataW.weightsEach C.prog (fn.params.toList ++ s.plain.varTypes C.prog) (ds ++ gs)).all (· ≤ reachBytes) = true → X W args → W.ShapedOpen C.prog →
      Calls C.prog f args W fun e W' => ∃ v, e = .returned v ∧ s.post enc C.prog fn apart fresh handsOn again W args v W') :
    ReturnsInHanded a C os f .any (fun w args => (s.pre enc C.prog fn conds apart w args ∧ X w args) ∧ sizedMet enc C.prog fn (OpenSpec.ofChange s) apart w args) (s.post enc C.prog fn apart fresh handsOn again) := by
  refine returnsInHanded_of_calls own started noInit witness ?_
  intro w tape i _ hsh _ hok hpre _
  obtain ⟨_, _, _, fn', hfn', _, _, _, _, hval⟩ := hok
  have e : fn' = fn := Option.some.inj (hfn'.symm.trans hfn)
  subst e
  obtain ⟨⟨⟨ds, gs, before, hw, hc⟩, hx⟩, hz⟩ := hpre
  have hw' := DataW.Whole.of_heap (w' := w.forCall tape i) (by rfl) hw
  refine (contract (w.forCall tape i) w.heap.size i.args ds gs before hval hw' hc (hz.weights hw) (hX _ _ _ (by rfl) hx) hsh).mono fun e W' ⟨v, he, hp⟩ => ?_
  subst he
  exact ChangeSpec.post_blind hp
end Go.Proofs.YtjbdkdmoacdbpaaGreatDoor.XW
