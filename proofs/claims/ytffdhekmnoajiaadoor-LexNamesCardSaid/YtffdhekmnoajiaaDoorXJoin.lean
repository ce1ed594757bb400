import Derived.Test.YtffdhekmnoajiaaDoorXLayJoin
import Derived.Test.YtffdhekmnoajiaaDoorQx0
/- strings.Join over a row of strings; strings.Builder's block -/
set_option linter.unusedVariables false
set_option linter.unusedSimpArgs false
namespace Go.Proofs.YtffdhekmnoajiaaDoor.X
open Go Go.RowKit Go.Proofs.YtffdhekmnoajiaaDoorW.PrintWords Go.Proofs.YtffdhekmnoajiaaDoorW.PrintLast Go.Proofs.YtffdhekmnoajiaaDoorW.PrintMore Go.Proofs.YtffdhekmnoajiaaDoor Go.Proofs.YtffdhekmnoajiaaDoor.Q
def joinB (xs : List ByteArray) : List UInt8 := Lib.join (xs.map (·.data.toList)) [32]
theorem join_calls (A : Option Addr) (c : Nat) (xs : List ByteArray) (w : World) (hC : Kd.C Kd.string w A xs.length xs) (hc : xs.length ≤ c) (hN : xs.length ≤ 140737488355328) (hlen : (joinB xs).length ≤ 140737488355328) :
    Calls Tryd.prog 32 #[.slice A xs.length c, .string ⟨#[32]⟩] w fun e w' => e = .returned (.string ⟨(joinB xs).toArray⟩) ∧ Below w.heap.size w w' := by
  rcases Nat.eq_zero_or_pos xs.length with h0 | h0
  · have e : xs = [] := List.length_eq_zero_iff.mp h0
    subst e
    exact (Any.strings_Join_none lays156 extra A c ⟨#[32]⟩ w).mono fun e w' ⟨h1, h2⟩ => ⟨h1, by rw [h2]; exact Below.refl _ _⟩
  · obtain ⟨ad, rfl, hcell⟩ := hC.2.2 h0
    have hx0 : ∀ j x, xs[j]? = some x → w.cell? (ad.add j) = some (.string x) := by
      intro j x hj
      obtain ⟨cs, _, hk, hu⟩ := hcell j x hj
      obtain rfl : cs = [.string x] := hk
      have := hu 0 _ rfl
      simpa [Kd.string, Kd.scalar] using this
    obtain ⟨x0, hx⟩ : ∃ x, xs[0]? = some x := ⟨xs[0], List.getElem?_eq_getElem h0⟩
    have hsp : ad.spot = none := by
      have h := hx0 0 x0 hx
      rw [Addr.add_zero'] at h
      unfold World.cell? at h
      split at h
      · split at h
        · cases h
        · rename_i hs; simpa using hs
      · cases h
    obtain ⟨bk, o, sp⟩ := ad
    obtain rfl : sp = none := hsp
    have hcells : ∀ (j : Nat) x, xs[j]? = some x → w.cell? ⟨bk, o + j, none⟩ = some (.string x) := by
      intro j x hj
      have h := hx0 j x hj
      cases j with
      | zero => rw [Addr.add_zero'] at h; exact h
      | succ j => simpa [Addr.add] using h
    have hbk : bk < w.heap.size := World.block_lt_of_cell? w ⟨bk, o + 0, none⟩ (hcells 0 x0 hx)
    by_cases h1 : xs.length = 1
    · obtain ⟨x, rfl⟩ := List.length_eq_one_iff.mp h1
      have h := Any.strings_Join_one lays156 extra bk o c x ⟨#[32]⟩ w (by simpa using hcells 0 x rfl)
      refine h.mono fun e w' ⟨h1, h2⟩ => ⟨?_, by rw [h2]; exact Below.refl _ _⟩
      rw [h1]
      simp [joinB, Lib.join_one]
    · exact Any.strings_Join_many lays156 extra bk o c xs ⟨#[32]⟩ w hcells hbk (by omega) hN hc hlen
abbrev IsB (B b : Nat) (l : List UInt8) (W : World) : Prop := Lib.IsBuilderF 62 5 B b (Lib.byteCells l) W
theorem builder_below {B b : Nat} {p : Value} {bs : List Value} {W W' : World} (h : Lib.BuilderAtF 62 5 B b p bs W) (hb : Below W.heap.size W W') : Lib.BuilderAtF 62 5 B b p bs W' := by
  have hlt := h.lt
  obtain ⟨hB, v, hv, hown, hne⟩ := h
  exact ⟨hB, v, (hb.block b hlt).trans hv, hown.kept (row := none) ⟨hb.os, hb.tape, hb.output, hb.size, fun k hk _ => hb.block k hk⟩ (Classical.em _), hne⟩
theorem IsB.below {B b : Nat} {l : List UInt8} {W W' : World} (h : IsB B b l W) (hb : Below W.heap.size W W') : IsB B b l W' := h.elim (fun x => .inl (builder_below x hb)) (fun x => .inr (builder_below x hb))
theorem IsB.new (W : World) {B : Nat} (hB : B ≤ W.heap.size) : IsB B W.heap.size [] (W.alloc (.cells #[.pointer none, .slice none 0 0] 62)) :=
  .inl ⟨hB, _, blk_new W _, ⟨rfl, .inl ⟨rfl, rfl⟩⟩, by simp [Value.ownBlock]⟩
theorem writeString_calls {B b : Nat} {l : List UInt8} (s : ByteArray) (w : World) (h : IsB B b l w) (hlen : l.length + s.size ≤ 140737488355328) (hBw : B ≤ w.heap.size) :
    Calls Tryd.prog 31 #[.pointer (some ⟨b, 0, none⟩), .string s] w fun e w' => e = .returned (.tuple #[.int .i64 s.size, .nilIface]) ∧ IsB B b (l ++ s.data.toList) w' ∧ Below B w w' := by
  refine (Any.Builder_WriteString_f lays166 extra B b _ s w h (by rw [Lib.byteCells_length]; exact hlen) hBw).mono ?_
  rintro e w' ⟨he, hb, hB⟩
  exact ⟨he, .inr (by rw [Lib.byteCells_append]; exact hb), hB⟩
theorem writeByte_calls {B b : Nat} {l : List UInt8} (c : UInt8) (w : World) (h : IsB B b l w) (hlen : l.length + 1 ≤ 140737488355328) (hBw : B ≤ w.heap.size) :
    Calls Tryd.prog 33 #[.pointer (some ⟨b, 0, none⟩), .int .u8 c.toNat] w fun e w' => e = .returned .nilIface ∧ IsB B b (l ++ [c]) w' ∧ Below B w w' := by
  refine (Any.Builder_WriteByte_k lays167 extra B b _ c.toNat w h (by rw [Lib.byteCells_length]; exact hlen) hBw).mono ?_
  rintro e w' ⟨he, hb, hB, _⟩
  exact ⟨he, .inr (by rw [Lib.byteCells_append]; exact hb), hB⟩
theorem builderString_calls {B b : Nat} {l : List UInt8} (w : World) (h : IsB B b l w) (hBw : B ≤ w.heap.size) :
    Calls Tryd.prog 34 #[.pointer (some ⟨b, 0, none⟩)] w fun e w' => e = .returned (.string ⟨l.toArray⟩) ∧ Below B w w' :=
  (Any.Builder_String_any_f lays169 extra B b l w h hBw).mono fun e w' ⟨he, _, hB⟩ => ⟨he, hB⟩
end Go.Proofs.YtffdhekmnoajiaaDoor.X
