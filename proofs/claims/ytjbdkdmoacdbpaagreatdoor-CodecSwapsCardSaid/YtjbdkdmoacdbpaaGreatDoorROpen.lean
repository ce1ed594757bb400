import Derived.Test.YtjbdkdmoacdbpaaGreatDoorWWords
import Derived.ProofKit
import Derived.OpenShut
import Derived.ShutString
import Derived.ChangeOld
import Derived.ChangeArms
import Derived.SizedLaws
import Derived.WideShapes
/- what an argument holds, opened by its type: structs, slices of structs, slices of slices -/
set_option linter.unusedVariables false
set_option linter.unusedSimpArgs false
namespace Go.Proofs.YtjbdkdmoacdbpaaGreatDoor.R
open Go.RowKit Go.Proofs.YtjbdkdmoacdbpaaGreatDoorW.PrintWords Go.WideShapes

/-- a value of type t that can be read is a value of the kind K, and it is good -/
def Opn {α : Type} (P : Program) (t : TypeId) (K : Kd α) (G : α → Prop) : Prop :=
  ∀ (H : Type) (enc : TypeId × Value → H) (w : World) (spare : Nat → Bool) (held : Bool) (fuel : Nat) (cs : List Value) (x : DataW H × List MemPlace),
    DataW.trod enc P w 0 spare held fuel t cs = some x → ∃ a, K.K w a cs ∧ G a
theorem opn_int {P : Program} {t : TypeId} {k : IntKind} (ht : P.underlying t = some (.int k)) : Opn P t (Kd.int k) (fun n => (Lit.int k n).wf = true) := by
  intro H enc w spare held fuel cs x h
  obtain ⟨n, rfl, _, hw⟩ := DataW.trod_int ht h
  exact ⟨n, rfl, hw⟩
theorem opn_bool {P : Program} {t : TypeId} (ht : P.underlying t = some .bool) : Opn P t Kd.bool (fun _ => True) := by
  intro H enc w spare held fuel cs x h
  obtain ⟨n, rfl, _⟩ := DataW.trod_bool ht h
  exact ⟨n, rfl, trivial⟩
theorem opn_string {P : Program} {t : TypeId} (ht : P.underlying t = some .string) : Opn P t Kd.string (fun s => s.size ≤ 9223372036854775807) := by
  intro H enc w spare held fuel cs x h
  obtain ⟨n, rfl, _, hs⟩ := DataW.trod_string ht h
  exact ⟨n, rfl, hs⟩
theorem add_add (a : Addr) (n m : Nat) : (a.add n).add m = a.add (n + m) := by
  cases n with
  | zero => rw [Addr.add_zero', Nat.zero_add]
  | succ n =>
    cases m with
    | zero => rw [Addr.add_zero']
    | succ m =>
      rw [Addr.add_succ', Addr.add_succ', show n + 1 + (m + 1) = (n + 1 + m) + 1 by omega, Addr.add_succ']
      simp; omega
theorem opn_slice {α : Type} {P : Program} {t e : TypeId} {K : Kd α} {G : α → Prop} (ht : P.underlying t = some (.slice e)) (hc : P.cellsOf e = K.sz) (he : Opn P e K G) :
    Opn P t (Kd.slice e K) (fun l => l.length ≤ 9223372036854775807 ∧ ∀ x ∈ l, G x) := by
  intro H enc w spare held fuel cs x h
  rcases DataW.trod_slice ht h with ⟨rfl, _⟩ | ⟨a, len, cap, elems, rest, n, _, rfl, _, _, hlc, hcap, hel, hget, _⟩
  · exact ⟨[], ⟨none, 0, rfl, Nat.le_refl _, rfl, by simp, fun h => absurd h (by simp)⟩, by simp, by simp⟩
  · have hm : cap ≤ 9223372036854775807 := hcap
    -- each element
    have each : ∀ i, i < len → ∃ c y, w.cells? 0 (a.add (i * P.cellsOf e)) (P.cellsOf e) = some c ∧ K.K w y c ∧ G y := by
      intro i hi
      have h1 := hget i hi
      rw [List.getElem?_eq_getElem (by omega)] at h1
      obtain ⟨c, hc1, hc2⟩ := Option.bind_eq_some_iff.1 h1
      obtain ⟨y, hy, hg⟩ := he H enc w spare held n c _ hc2
      exact ⟨c, y, hc1, hy, hg⟩
    have all : ∀ m, m ≤ len → ∃ l : List α, l.length = m ∧ (∀ x ∈ l, G x) ∧ ∀ j p, l[j]? = some p → ∃ c, c.length = K.sz ∧ K.K w p c ∧ ∀ i u, c[i]? = some u → w.cell? (a.add (j * K.sz + i)) = some u := by
      intro m
      induction m with
      | zero => intro _; exact ⟨[], rfl, by simp, by simp⟩
      | succ m ih =>
        intro hm
        obtain ⟨l, hl, hg, hr⟩ := ih (by omega)
        obtain ⟨c, y, hc1, hy, hgy⟩ := each m (by omega)
        refine ⟨l ++ [y], by simp [hl], ?_, ?_⟩
        · intro x hx
          rcases List.mem_append.1 hx with hx | hx
          · exact hg x hx
          · rw [List.mem_singleton.1 hx]; exact hgy
        · intro j p hj
          by_cases hjm : j < m
          · rw [List.getElem?_append_left (by omega)] at hj
            exact hr j p hj
          · by_cases hjm2 : j = m
            · subst hjm2
              rw [List.getElem?_append_right (by omega), hl, Nat.sub_self] at hj
              obtain rfl := Option.some.inj hj
              have hk := K.K_len hy
              obtain ⟨_, hlen, hcell⟩ := World.cells?_some hc1
              refine ⟨c, hk, hy, fun i u hu => ?_⟩
              have hi : i < c.length := by
                rcases Nat.lt_or_ge i c.length with h | h
                · exact h
                · rw [List.getElem?_eq_none h] at hu; cases hu
              have := hcell i (by omega)
              rw [hc] at this
              rw [← hu, ← this]
              have e : (a.add (j * K.sz)).add i = a.add (j * K.sz + i) := add_add _ _ _
              rw [e]
            · rw [List.getElem?_eq_none (by simp; omega)] at hj; cases hj
    obtain ⟨l, hl, hg, hr⟩ := all len (Nat.le_refl _)
    refine ⟨l, ⟨some a, cap, by rw [hl], by omega, rfl, by omega, fun _ => ⟨a, rfl, hr⟩⟩, by omega, hg⟩

/-- the fields of a struct, from the i-th one on (at the cell off) -/
def OpnFs {α : Type} (P : Program) (fs : Array Field) (total i off : Nat) (K : Kd α) (G : α → Prop) : Prop :=
  ∀ (H : Type) (enc : TypeId × Value → H) (w : World) (spare : Nat → Bool) (held : Bool) (n : Nat) (cs : List Value),
    (∀ (j : Nat) (f : Field), fs[j]? = some f → ∃ y, DataW.trod enc P w 0 spare held n f.type ((cs.drop f.offset).take (P.cellsOf f.type)) = some y) → cs.length = total →
    ∃ a, K.K w a (cs.drop off) ∧ G a
theorem opnFs_last {α : Type} {P : Program} {fs : Array Field} {total i off : Nat} {f : Field} {K : Kd α} {G : α → Prop} (hf : fs[i]? = some f) (ho : f.offset = off) (hs : P.cellsOf f.type = K.sz) (hl : off + K.sz = total) (h : Opn P f.type K G) : OpnFs P fs total i off K G := by
  intro H enc w spare held n cs hall hlen
  obtain ⟨y, hy⟩ := hall i f hf
  rw [ho, hs, List.take_of_length_le (by simp; omega)] at hy
  exact h H enc w spare held n _ y hy
theorem opnFs_cons {α β : Type} {P : Program} {fs : Array Field} {total i off : Nat} {f : Field} {K : Kd α} {L : Kd β} {G : α → Prop} {G' : β → Prop} (hf : fs[i]? = some f) (ho : f.offset = off) (hs : P.cellsOf f.type = K.sz)
    (h : Opn P f.type K G) (h' : OpnFs P fs total (i + 1) (off + K.sz) L G') : OpnFs P fs total i off (Kd.pair K L) (fun x => G x.1 ∧ G' x.2) := by
  intro H enc w spare held n cs hall hlen
  obtain ⟨y, hy⟩ := hall i f hf
  rw [ho, hs] at hy
  obtain ⟨a, ha, hga⟩ := h H enc w spare held n _ y hy
  obtain ⟨b, hb, hgb⟩ := h' H enc w spare held n cs hall hlen
  refine ⟨(a, b), ⟨_, _, ?_, ha, hb⟩, hga, hgb⟩
  rw [← List.drop_drop, List.take_append_drop]
theorem opn_struct {α β : Type} {P : Program} {t : TypeId} {fs : Array Field} {total : Nat} {K : Kd α} {G : α → Prop} {g : β → α} {f : α → β} (ht : P.underlying t = some (.struct fs)) (hc : P.cellsOf t = total) (hgf : ∀ a, g (f a) = a)
    (h : OpnFs P fs total 0 0 K G) : Opn P t (Kd.iso K g) (fun b => G (g b)) := by
  intro H enc w spare held fuel cs x hx
  obtain ⟨xs, n, _, _, hlen, hxs, hall⟩ := DataW.trod_struct ht hx
  obtain ⟨a, ha, hg⟩   := h H enc w spare held n cs (fun j fl hj => by
    have h1 := hall j fl hj
    have h2 : j < fs.size := by
      rcases Nat.lt_or_ge j fs.size with h | h
      · exact h
      · rw [Array.getElem?_eq_none h] at hj; cases hj
    rw [List.getElem?_eq_getElem (by omega)] at h1
    exact ⟨_, h1⟩) (hlen.trans hc)
  exact ⟨f a, by show K.K w (g (f a)) cs; rw [hgf]; exact ha, by show G (g (f a)); rw [hgf]; exact hg⟩
/-- a struct that came in -/
theorem arg_struct {α : Type} {H : Type} {P : Program} {t : TypeId} {fs : Array Field} {K : Kd α} {G : α → Prop} {r : Reach} {b0 : Nat} {enc : TypeId × Value → H} {w : World} {spare : Nat → Bool} {held : Bool} {v : Value} {d : DataW H} {p : List MemPlace}
    (hs : P.underlying t = some (.struct fs)) (ho : Opn P t K G) (hv : Value.okWide P w r b0 t v) (h : DataW.Trod enc P w 0 spare held t v d p) :
    ∃ (a : α) (cs : List Value), v = .agg cs.toArray ∧ K.K w a cs ∧ G a := by
  obtain ⟨cs, rfl, _⟩ := okWide_struct hs hv
  obtain ⟨fuel, hf⟩ := h
  obtain ⟨a, ha, hg⟩ := ho H enc w spare held fuel _ _ hf
  exact ⟨a, cs.toList, by simp, ha, hg⟩
/-- a slice that came in -/
theorem arg_slice {α : Type} {H : Type} {P : Program} {t e : TypeId} {K : Kd α} {G : α → Prop} {r : Reach} {b0 : Nat} {enc : TypeId × Value → H} {w : World} {spare : Nat → Bool} {held : Bool} {v : Value} {d : DataW H} {p : List MemPlace}
    (hs : P.underlying t = some (.slice e)) (hc : P.cellsOf e = K.sz) (ho : Opn P e K G) (hv : Value.okWide P w r b0 t v) (h : DataW.Trod enc P w 0 spare held t v d p) :
    ∃ (A : Option Addr) (l : List α) (c : Nat), v = .slice A l.length c ∧ K.C w A l.length l ∧ l.length ≤ c ∧ l.length ≤ 9223372036854775807 ∧ ∀ x ∈ l, G x := by
  obtain ⟨A, len, cap, rfl⟩ := okWide_slice hs hv
  obtain ⟨fuel, hf⟩ := h
  obtain ⟨l, ⟨A', c', he, hle, hC⟩, hg1, hg2⟩ := opn_slice hs hc ho H enc w spare held fuel _ _ hf
  simp [Value.cells] at he
  obtain ⟨rfl, rfl, rfl⟩ := he
  exact ⟨A, l, cap, rfl, hC, hle, hg1, hg2⟩
end Go.Proofs.YtjbdkdmoacdbpaaGreatDoor.R
