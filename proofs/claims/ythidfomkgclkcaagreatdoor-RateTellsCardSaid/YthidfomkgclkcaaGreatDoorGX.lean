import Derived.Test.YthidfomkgclkcaaGreatDoorProg
import Derived.Lib.AppendIntMem
import Derived.Lib.SmallJoins
import Derived.ProofKit
import Derived.Lib.ParseIntB
import Derived.Lib.SlTrimSet
import Derived.Lib.Strings
import Derived.Test.YthidfomkgclkcaaGreatDoorXLayCent


import Derived.Test.YthidfomkgclkcaaGreatDoorWMore
import Derived.Lib.LaidTab
import Derived.Deep.RegionWith

import Derived.Test.YthidfomkgclkcaaGreatDoorXLayCut
import Derived.LoopN
/- several texts of this session in one -/
set_option linter.unusedVariables false
set_option linter.unusedSimpArgs false
namespace Go.Proofs.YthidfomkgclkcaaGreatDoor.X
open Go.RowKit
structure LaidW (w : World) : Prop where
  pow : Lib.TabIs Tryz.prog w "internal/strconv.uint64pow10" .u64 Lib.pow10Tab
  rng : ∃ te pe, w.cell? ⟨4, 0, none⟩ = some (.iface te pe)
  syn : ∃ te pe, w.cell? ⟨3, 0, none⟩ = some (.iface te pe)
  mx : ∃ m, w.cell? ⟨2, 0, none⟩ = some (.int .i64 m)
theorem gn_pow : Tryz.prog.globalNamed "internal/strconv.uint64pow10" = some 5 := by kernel_rfl
theorem LaidW.below {u v : World} (h : LaidW u) (hb : Below u.heap.size u v) : LaidW v := by
  refine ⟨?_, ?_, ?_, ?_⟩
  · have hp := h.pow
    unfold Lib.TabIs World.var? at hp ⊢
    rw [gn_pow] at hp ⊢
    simp only [Option.bind_some] at hp ⊢
    cases he : u.heap[5]? with
    | none => rw [he] at hp; cases hp
    | some o =>
      have hlt : 5 < u.heap.size := by
        rcases Nat.lt_or_ge 5 u.heap.size with c | c
        · exact c
        · rw [Array.getElem?_eq_none c] at he; cases he
      rw [hb.block 5 hlt]; exact hp
  · obtain ⟨te, pe, hc⟩ := h.rng
    exact ⟨te, pe, (hb.cell (World.block_lt_of_cell? u _ hc)).trans hc⟩
  · obtain ⟨te, pe, hc⟩ := h.syn
    exact ⟨te, pe, (hb.cell (World.block_lt_of_cell? u _ hc)).trans hc⟩
  · obtain ⟨m, hc⟩ := h.mx
    exact ⟨m, (hb.cell (World.block_lt_of_cell? u _ hc)).trans hc⟩
end Go.Proofs.YthidfomkgclkcaaGreatDoor.X
namespace Go.Proofs.YthidfomkgclkcaaGreatDoor.X
open Go
/-- what cent.Parse tells -/
def badF (l : List UInt8) : Bool :=
  (Lib.trimPrefix l [45]).isEmpty || (Lib.hasPrefix (Lib.trimPrefix l [45]) [48] && !(l == [48])) || !(Lib.trimS (Lib.trimPrefix l [45]) [48, 49, 50, 51, 52, 53, 54, 55, 56, 57]).isEmpty
def parseF (l : List UInt8) : Int × Int := if badF l = true then (0, 5) else match Lib.parseIntB 64 l with | .ok v => (v, 0) | _ => (0, 2)
end Go.Proofs.YthidfomkgclkcaaGreatDoor.X
namespace Go.Proofs.YthidfomkgclkcaaGreatDoor.X
open Go.RowKit Go.Proofs.YthidfomkgclkcaaGreatDoorW.PrintWords Go.Proofs.YthidfomkgclkcaaGreatDoorW.PrintLast Go.Proofs.YthidfomkgclkcaaGreatDoorW.PrintMore
theorem info116 : (Tryz.prog.info? (lays160_ren.t 116)).map (fun i => (i.zero, i.size)) = some (some (.agg (Array.replicate 256 (.bool false))), 256) := by kernel_rfl
theorem c_trim (s : ByteArray) (w : World) (hs : s.size ≤ 281474976710656) : Calls Tryz.prog 43 #[.string s, .string ⟨#[48, 49, 50, 51, 52, 53, 54, 55, 56, 57]⟩] w fun e w' => e = .returned (.string ⟨(Lib.trimS s.data.toList [48, 49, 50, 51, 52, 53, 54, 55, 56, 57]).toArray⟩) ∧ Below w.heap.size w w' :=
  Any.strings_Trim_laid lays160 info116 s ⟨#[48, 49, 50, 51, 52, 53, 54, 55, 56, 57]⟩ w (by omega) (by decide) (ascii_of_all (by decide))
theorem c_tp (s p : ByteArray) (w : World) : Calls Tryz.prog 41 #[.string s, .string p] w fun e w' => e = .returned (.string ⟨(Lib.trimPrefix s.data.toList p.data.toList).toArray⟩) ∧ w' = w := Any.strings_TrimPrefix lays101 s p w
theorem c_tpD (s : ByteArray) (D : List UInt8) (hD : D = Lib.trimPrefix s.data.toList [45]) (w : World) : Calls Tryz.prog 41 #[.string s, .string ⟨#[45]⟩] w fun e w' => e = .returned (.string ⟨D.toArray⟩) ∧ w' = w := by subst hD; exact c_tp s ⟨#[45]⟩ w
theorem c_hp (s p : ByteArray) (w : World) : Calls Tryz.prog 42 #[.string s, .string p] w fun e w' => e = .returned (.bool (Lib.hasPrefix s.data.toList p.data.toList)) ∧ w' = w := Any.strings_HasPrefix lays99 s p w
theorem c_pi_ok (s : ByteArray) (v : Int) (h : Lib.parseIntB 64 s.data.toList = .ok v) (w : World) (hs : s.size ≤ 281474976710656) : Calls Tryz.prog 44 #[.string s, .int .i64 10, .int .i64 64] w fun e w' => e = .returned (.tuple #[.int .i64 v, .nilIface]) ∧ Below w.heap.size w w' :=
  (Any.strconv_ParseInt_10_at64_ok lays174 s (by omega) v h w).mono fun e w' ⟨he, hw⟩ => ⟨he, by
    rcases hw with rfl | ⟨t, rfl⟩
    · exact Below.refl _ _
    · exact Joins.below_bytesWorld _ _ _ _ (Nat.le_refl _)⟩
theorem c_pi_bad (s : ByteArray) (h : ∀ v, Lib.parseIntB 64 s.data.toList ≠ .ok v) (w : World) (hL : LaidW w) (hs : s.size ≤ 281474976710656) : Calls Tryz.prog 44 #[.string s, .int .i64 10, .int .i64 64] w fun e w' => ∃ (v : Int) (t : TypeId) (N : Nat), e = .returned (.tuple #[.int .i64 v, .iface t (.pointer (some ⟨N, 0, none⟩))]) ∧ Below w.heap.size w w' := by
  have hr := hL.rng
  have hy := hL.syn
  cases hp : Lib.parseIntB 64 s.data.toList
  all_goals first
    | (exact absurd hp (h _))
    | (obtain ⟨te, pe, hc⟩ := hr
       exact (Any.strconv_ParseInt_10_at64_range lays174 s hs hp _ w hc (.inr ⟨te, pe, rfl⟩)).mono fun e w' ⟨N, he, _, _, hb⟩ => ⟨_, _, N, he, hb⟩)
    | (obtain ⟨te, pe, hc⟩ := hy
       exact (Any.strconv_ParseInt_10_at64_syntax lays174 s hs hp _ w hc (.inr ⟨te, pe, rfl⟩)).mono fun e w' ⟨N, he, _, _, hb⟩ => ⟨_, _, N, he, hb⟩)
set_option maxHeartbeats 2000000 in
set_option maxRecDepth 100000 in
theorem parse_walk (s : ByteArray) (w : World) (hL : LaidW w) (hs : s.size ≤ 281474976710656) (hd : (⟨(Lib.trimPrefix s.data.toList [45]).toArray⟩ : ByteArray).size ≤ 281474976710656) :
    Calls Tryz.prog 24 #[.string s] w fun e w' => e = .returned (.tuple #[.int .i64 (parseF s.data.toList).1, .int .i64 (parseF s.data.toList).2]) ∧ Below w.heap.size w w' := by
  obtain ⟨D, hD⟩ : ∃ D, D = Lib.trimPrefix s.data.toList [45] := ⟨_, rfl⟩
  rw [← hD] at hd
  have hbe : badF s.data.toList = (D.isEmpty || (Lib.hasPrefix D [48] && !(s.data.toList == [48])) || !(Lib.trimS D [48, 49, 50, 51, 52, 53, 54, 55, 56, 57]).isEmpty) := by rw [hD]; rfl
  have hor : badF s.data.toList = true ↔ (D = [] ∨ (Lib.hasPrefix D [48] = true ∧ ¬ s.toList = [48]) ∨ ¬ Lib.trimS D [48, 49, 50, 51, 52, 53, 54, 55, 56, 57] = []) := by
    rw [hbe, Lib.toList_data]; simp [or_assoc]
  clear hbe
  have HD := Aside0.mk hD
  clear hD
  have HOR := Aside0.mk hor
  clear hor
  have HDD := Aside0.mk hd
  clear hd
  by_cases hb0 : badF s.data.toList = true
  · have hF : parseF s.data.toList = (0, 5) := by unfold parseF; rw [if_pos hb0]
    rw [hF]
    clear hF
    have HB0 := Aside0.mk hb0
    clear hb0
    go_enter Tryz.func24, Tryz.ntmps24
    go_wp2_with (first | (go_at_call 41; refine (c_tpD s D HD.out _).mono ?_; rintro e w' ⟨rfl, rfl⟩) | (go_at_call 42; refine (c_hp _ _ _).mono ?_; rintro e w' ⟨rfl, rfl⟩) | (go_at_call 43; refine (c_trim _ _ HDD.out).mono ?_; rintro e w1 ⟨rfl, hb1⟩))
    all_goals first
      | (go_ret2; exact ⟨rfl, by first | assumption | exact Below.refl _ _⟩)
      | (exfalso; rcases HOR.out.1 HB0.out with h | ⟨h, h'⟩ | h <;> first | contradiction | (have t := (by assumption : D.isEmpty = false ∧ (!(Lib.trimS D [48, 49, 50, 51, 52, 53, 54, 55, 56, 57]).isEmpty) = false); simp at t; exact h t.2))
  · have key : (∃ v, Lib.parseIntB 64 s.data.toList = .ok v) ∨ ∀ v, Lib.parseIntB 64 s.data.toList ≠ .ok v := by
      cases Lib.parseIntB 64 s.data.toList with
      | ok v => exact .inl ⟨v, rfl⟩
      | _ => exact .inr (fun v h => by cases h)
    rcases key with ⟨v, hp⟩ | hp
    · skip
      have hF : parseF s.data.toList = (v, 0) := by unfold parseF; rw [if_neg hb0, hp]
      rw [hF]
      clear hF
      have HB0 := Aside0.mk hb0
      clear hb0
      go_enter Tryz.func24, Tryz.ntmps24
      go_wp2_with (first | (go_at_call 41; refine (c_tpD s D HD.out _).mono ?_; rintro e w' ⟨rfl, rfl⟩) | (go_at_call 42; refine (c_hp _ _ _).mono ?_; rintro e w' ⟨rfl, rfl⟩) | (go_at_call 43; refine (c_trim _ _ HDD.out).mono ?_; rintro e w1 ⟨rfl, hb1⟩) | (go_at_call 44; refine (c_pi_ok s v hp _ hs).mono ?_; rintro e w2 ⟨rfl, hb2⟩))
      all_goals first
        | (go_ret2; exact ⟨rfl, below_step hb1 hb2⟩)
        | (exact absurd (HOR.out.2 (.inl (by assumption))) HB0.out)
        | (exact absurd (HOR.out.2 (.inr (.inl ⟨by assumption, by assumption⟩))) HB0.out)
        | (exact absurd (HOR.out.2 (.inr (.inr (fun h => (by assumption : D.isEmpty = true ∨ (!(Lib.trimS D [48, 49, 50, 51, 52, 53, 54, 55, 56, 57]).isEmpty) = true).elim (fun g => absurd (List.isEmpty_iff.1 g) (by assumption)) (fun g => by rw [h] at g; exact absurd g (by decide)))))) HB0.out)
    · have hF : parseF s.data.toList = (0, 2) := by
        unfold parseF; rw [if_neg hb0]
        cases h : Lib.parseIntB 64 s.data.toList with
        | ok v => exact absurd h (hp v)
        | _ => rfl
      rw [hF]
      clear hF
      have HB0 := Aside0.mk hb0
      clear hb0
      go_enter Tryz.func24, Tryz.ntmps24
      go_wp2_with (first | (go_at_call 41; refine (c_tpD s D HD.out _).mono ?_; rintro e w' ⟨rfl, rfl⟩) | (go_at_call 42; refine (c_hp _ _ _).mono ?_; rintro e w' ⟨rfl, rfl⟩) | (go_at_call 43; refine (c_trim _ _ HDD.out).mono ?_; rintro e w1 ⟨rfl, hb1⟩) | (go_at_call 44; refine (c_pi_bad s hp _ (hL.below hb1) hs).mono ?_; rintro e w2 ⟨v_, t_, N_, rfl, hb2⟩))
      all_goals first
        | (go_ret2; exact ⟨rfl, below_step hb1 hb2⟩)
        | (exact absurd (HOR.out.2 (.inl (by assumption))) HB0.out)
        | (exact absurd (HOR.out.2 (.inr (.inl ⟨by assumption, by assumption⟩))) HB0.out)
        | (exact absurd (HOR.out.2 (.inr (.inr (fun h => (by assumption : D.isEmpty = true ∨ (!(Lib.trimS D [48, 49, 50, 51, 52, 53, 54, 55, 56, 57]).isEmpty) = true).elim (fun g => absurd (List.isEmpty_iff.1 g) (by assumption)) (fun g => by rw [h] at g; exact absurd g (by decide)))))) HB0.out)
theorem print_walk (n : Int) (h0 : -9223372036854775808 ≤ n) (h1 : n ≤ 9223372036854775807) (w : World) (hL : LaidW w) :
    Calls Tryz.prog 26 #[.int .i64 n] w fun e w' => e = .returned (.string ⟨(Lib.itoa n).toArray⟩) ∧ Below w.heap.size w w' := by
  have hc := Any.strconv_FormatInt_10 lays173 n h0 h1 w hL.pow
  have hc' : Calls Tryz.prog 45 #[.int .i64 n, .int .i64 10] w fun e w' => e = .returned (.string ⟨(Lib.itoa n).toArray⟩) ∧ ∃ k os, w' = Sort.grow (w.drewN k) os := hc
  clear hc
  go_enter Tryz.func26, Tryz.ntmps26
  go_wp2_with (go_at_call 45; refine hc'.mono ?_; rintro e w1 ⟨rfl, k, os, rfl⟩)
  go_ret
  exact ⟨rfl, Lib.below_grow _ _ (Nat.le_refl _) _ _⟩
theorem trim_size {s : ByteArray} (hs : s.size ≤ 281474976710656) : (⟨(Lib.trimPrefix s.data.toList [45]).toArray⟩ : ByteArray).size ≤ 281474976710656 := by
  have h1 : (Lib.trimPrefix s.data.toList [45]).length ≤ s.data.toList.length := by
    unfold Lib.trimPrefix; split
    · rw [List.length_drop]; omega
    · exact Nat.le_refl _
  have h2 : s.data.toList.length = s.size := by rw [Array.length_toList]; rfl
  show (Lib.trimPrefix s.data.toList [45]).toArray.size ≤ _
  rw [List.size_toArray]; omega
end Go.Proofs.YthidfomkgclkcaaGreatDoor.X
namespace Go.Proofs.YthidfomkgclkcaaGreatDoor.X
open Go.RowKit Go.Proofs.YthidfomkgclkcaaGreatDoorW.PrintWords Go.Proofs.YthidfomkgclkcaaGreatDoorW.PrintLast Go.Proofs.YthidfomkgclkcaaGreatDoorW.PrintMore
def upF (l : List UInt8) : List UInt8 := (Lib.cut l [47]).1
def downF (l : List UInt8) : List UInt8 := if (Lib.cut l [47]).2.2 = true then (Lib.cut l [47]).2.1 else [49]
theorem c_cut (s : ByteArray) (w : World) (hL : LaidW w) (hs : s.size < 4294967281) : Calls Tryz.prog 23 #[.string s, .string ⟨#[47]⟩] w fun e w' => e = .returned (.tuple #[.string ⟨(Lib.cut s.data.toList [47]).1.toArray⟩, .string ⟨(Lib.cut s.data.toList [47]).2.1.toArray⟩, .bool (Lib.cut s.data.toList [47]).2.2]) ∧ ∃ n, w' = w.drewN n := by
  obtain ⟨m, hm⟩ := hL.mx
  exact Any.strings_Cut lays145 s ⟨#[47]⟩ m w hs hm
theorem cut_len (l : List UInt8) : (Lib.cut l [47]).1.length ≤ l.length ∧ (Lib.cut l [47]).2.1.length ≤ l.length := by
  unfold Lib.cut
  by_cases h : 0 ≤ Lib.index l [47]
  · rw [if_pos h]; simp; omega
  · rw [if_neg h]; simp
theorem trim_le {s : ByteArray} {B : Nat} (h : s.size ≤ B) : (⟨(Lib.trimPrefix s.data.toList [45]).toArray⟩ : ByteArray).size ≤ B := by
  have h1 : (Lib.trimPrefix s.data.toList [45]).length ≤ s.data.toList.length := by
    unfold Lib.trimPrefix; split
    · rw [List.length_drop]; omega
    · exact Nat.le_refl _
  have h2 : s.data.toList.length = s.size := by rw [Array.length_toList]; rfl
  show (Lib.trimPrefix s.data.toList [45]).toArray.size ≤ _
  rw [List.size_toArray]; omega
end Go.Proofs.YthidfomkgclkcaaGreatDoor.X
