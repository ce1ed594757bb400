import Derived.Lib.LaidU8
import Derived.ChangeArms
import Derived.Lib.LaidTab
/- what a listed variable holds: an error's interface value, a table of numbers (of no program) -/
set_option linter.unusedVariables false
set_option linter.unusedSimpArgs false
namespace Go.Proofs.YtpfhoenjndmoaaaDoor.XM
open Go Go.Lib
theorem iface_of_reads {P : Program} {w : World} {n nm : String} {d : DataW Unit} {g t : Nat} {ms : Array (String × TypeId)} (hg : P.globalNamed n = some g) (ht : (P.globals[g]?).map (·.type) = some t) (hu : P.underlying t = some (.interface ms))
    (h : VarReads P w n (.iface nm d)) : ∃ te pe, w.cell? ⟨g, 0, none⟩ = some (.iface te pe) := by
  obtain ⟨g', t', cs, fuel, p, hg', ht', hv, hd⟩ := h
  obtain rfl := Option.some.inj (hg.symm.trans hg')
  obtain rfl := Option.some.inj (ht.symm.trans ht')
  have hc := World.var?_cell hg hv 0
  cases fuel with
  | zero => simp [DataW.trod] at hd
  | succ m =>
    unfold DataW.trod at hd
    simp only [hu] at hd
    split at hd
    all_goals first
      | (cases ‹some _ = some _›; done)
      | (simp at hd; done)
      | (rename_i hcs; exact ⟨_, _, by rw [hc, ← Array.getElem?_toList, hcs]; rfl⟩)
      | (rename_i h1 hcs; exact ⟨_, _, by rw [hc, ← Array.getElem?_toList, hcs]; rfl⟩)
theorem tab_of_reads {P : Program} {w : World} {n : String} {g t e N : Nat} {k : IntKind} {zs : List Int} (hg : P.globalNamed n = some g) (hty : (P.globals[g]?).map (·.type) = some t) (ht : P.underlying t = some (.array N e)) (he : P.underlying e = some (.int k)) (hce : P.cellsOf e = 1) (hct : P.cellsOf t = N)
    (h : VarReads P w n (tabData k zs)) : TabIs P w n k zs := by
  obtain ⟨g', t', cs, fuel, p, hg', ht', hvar, hd⟩ := h
  obtain rfl := Option.some.inj (hg.symm.trans hg')
  obtain rfl := Option.some.inj (hty.symm.trans ht')
  unfold TabIs
  rw [hvar, ← cells_of_tab ht he hce hct hd]
end Go.Proofs.YtpfhoenjndmoaaaDoor.XM
