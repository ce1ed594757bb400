import Derived.Test.YtjbdkdmoacdbpaaGreatDoorProg
import Derived.Lib.AppendIntMem
import Derived.Lib.SmallJoins
import Derived.ProofKit
import Derived.Lib.ParseIntB
import Derived.Lib.SlTrimSet
import Derived.Lib.Strings
import Derived.Test.YtjbdkdmoacdbpaaGreatDoorXLayCent


import Derived.Test.YtjbdkdmoacdbpaaGreatDoorWMore
import Derived.Lib.LaidTab
import Derived.Deep.RegionWith
import Derived.Test.YtjbdkdmoacdbpaaGreatDoorQx0
import Derived.Test.YtjbdkdmoacdbpaaGreatDoorRFn
import Derived.Lib.ConvBytes
import Derived.Lib.UnsafeStr

import Derived.Lib.Bytealg
import Derived.Test.YtjbdkdmoacdbpaaGreatDoorXLayJoin
/- several texts of this session in one -/
set_option linter.unusedVariables false
set_option linter.unusedSimpArgs false
namespace Go.Proofs.YtjbdkdmoacdbpaaGreatDoor.X
open Go.RowKit
structure LaidW (w : World) : Prop where
  pow : Lib.TabIs Tryz.prog w "internal/strconv.uint64pow10" .u64 Lib.pow10Tab
  rng : ∃ te pe, w.cell? ⟨5, 0, none⟩ = some (.iface te pe)
  syn : ∃ te pe, w.cell? ⟨4, 0, none⟩ = some (.iface te pe)
  mx : ∃ m, w.cell? ⟨0, 0, none⟩ = some (.int .i64 m)
theorem gn_pow : Tryz.prog.globalNamed "internal/strconv.uint64pow10" = some 1 := by kernel_rfl
theorem LaidW.below {u v : World} (h : LaidW u) (hb : Below u.heap.size u v) : LaidW v := by
  refine ⟨?_, ?_, ?_, ?_⟩
  · have hp := h.pow
    unfold Lib.TabIs World.var? at hp ⊢
    rw [gn_pow] at hp ⊢
    simp only [Option.bind_some] at hp ⊢
    cases he : u.heap[1]? with
    | none => rw [he] at hp; cases hp
    | some o =>
      have hlt : 1 < u.heap.size := by
        rcases Nat.lt_or_ge 1 u.heap.size with c | c
        · exact c
        · rw [Array.getElem?_eq_none c] at he; cases he
      rw [hb.block 1 hlt]; exact hp
  · obtain ⟨te, pe, hc⟩ := h.rng
    exact ⟨te, pe, (hb.cell (World.block_lt_of_cell? u _ hc)).trans hc⟩
  · obtain ⟨te, pe, hc⟩ := h.syn
    exact ⟨te, pe, (hb.cell (World.block_lt_of_cell? u _ hc)).trans hc⟩
  · obtain ⟨m, hc⟩ := h.mx
    exact ⟨m, (hb.cell (World.block_lt_of_cell? u _ hc)).trans hc⟩
end Go.Proofs.YtjbdkdmoacdbpaaGreatDoor.X
namespace Go.Proofs.YtjbdkdmoacdbpaaGreatDoor.X
open Go
/-- what cent.Parse tells -/
def badF (l : List UInt8) : Bool :=
  (Lib.trimPrefix l [45]).isEmpty || (Lib.hasPrefix (Lib.trimPrefix l [45]) [48] && !(l == [48])) || !(Lib.trimS (Lib.trimPrefix l [45]) [48, 49, 50, 51, 52, 53, 54, 55, 56, 57]).isEmpty
def parseF (l : List UInt8) : Int × Int := if badF l = true then (0, 5) else match Lib.parseIntB 64 l with | .ok v => (v, 0) | _ => (0, 2)
end Go.Proofs.YtjbdkdmoacdbpaaGreatDoor.X
namespace Go.Proofs.YtjbdkdmoacdbpaaGreatDoor.X
open Go.RowKit Go.Proofs.YtjbdkdmoacdbpaaGreatDoorW.PrintWords Go.Proofs.YtjbdkdmoacdbpaaGreatDoorW.PrintLast Go.Proofs.YtjbdkdmoacdbpaaGreatDoorW.PrintMore
theorem info116 : (Tryz.prog.info? (lays160_ren.t 116)).map (fun i => (i.zero, i.size)) = some (some (.agg (Array.replicate 256 (.bool false))), 256) := by kernel_rfl
theorem c_trim (s : ByteArray) (w : World) (hs : s.size ≤ 281474976710656) : Calls Tryz.prog 62 #[.string s, .string ⟨#[48, 49, 50, 51, 52, 53, 54, 55, 56, 57]⟩] w fun e w' => e = .returned (.string ⟨(Lib.trimS s.data.toList [48, 49, 50, 51, 52, 53, 54, 55, 56, 57]).toArray⟩) ∧ Below w.heap.size w w' :=
  Any.strings_Trim_laid lays160 info116 s ⟨#[48, 49, 50, 51, 52, 53, 54, 55, 56, 57]⟩ w (by omega) (by decide) (ascii_of_all (by decide))
theorem c_tp (s p : ByteArray) (w : World) : Calls Tryz.prog 60 #[.string s, .string p] w fun e w' => e = .returned (.string ⟨(Lib.trimPrefix s.data.toList p.data.toList).toArray⟩) ∧ w' = w := Any.strings_TrimPrefix lays101 s p w
theorem c_tpD (s : ByteArray) (D : List UInt8) (hD : D = Lib.trimPrefix s.data.toList [45]) (w : World) : Calls Tryz.prog 60 #[.string s, .string ⟨#[45]⟩] w fun e w' => e = .returned (.string ⟨D.toArray⟩) ∧ w' = w := by subst hD; exact c_tp s ⟨#[45]⟩ w
theorem c_hp (s p : ByteArray) (w : World) : Calls Tryz.prog 61 #[.string s, .string p] w fun e w' => e = .returned (.bool (Lib.hasPrefix s.data.toList p.data.toList)) ∧ w' = w := Any.strings_HasPrefix lays99 s p w
theorem c_pi_ok (s : ByteArray) (v : Int) (h : Lib.parseIntB 64 s.data.toList = .ok v) (w : World) (hs : s.size ≤ 281474976710656) : Calls Tryz.prog 63 #[.string s, .int .i64 10, .int .i64 64] w fun e w' => e = .returned (.tuple #[.int .i64 v, .nilIface]) ∧ Below w.heap.size w w' :=
  (Any.strconv_ParseInt_10_at64_ok lays174 s (by omega) v h w).mono fun e w' ⟨he, hw⟩ => ⟨he, by
    rcases hw with rfl | ⟨t, rfl⟩
    · exact Below.refl _ _
    · exact Joins.below_bytesWorld _ _ _ _ (Nat.le_refl _)⟩
theorem c_pi_bad (s : ByteArray) (h : ∀ v, Lib.parseIntB 64 s.data.toList ≠ .ok v) (w : World) (hL : LaidW w) (hs : s.size ≤ 281474976710656) : Calls Tryz.prog 63 #[.string s, .int .i64 10, .int .i64 64] w fun e w' => ∃ (v : Int) (t : TypeId) (N : Nat), e = .returned (.tuple #[.int .i64 v, .iface t (.pointer (some ⟨N, 0, none⟩))]) ∧ Below w.heap.size w w' := by
  have hr := hL.rng
  have hy := hL.syn
  cases hp : Lib.parseIntB 64 s.data.toList
  all_goals first
    | (exact absurd hp (h _))
    | (obtain ⟨te, pe, hc⟩ := hr
       exact (Any.strconv_ParseInt_10_at64_range lays174 s hs hp _ w hc (.inr ⟨te, pe, rfl⟩)).mono fun e w' ⟨N, he, _, _, hb⟩ => ⟨_, _, N, he, hb⟩)
    | (obtain ⟨te, pe, hc⟩ := hy
       exact (Any.strconv_ParseInt_10_at64_syntax lays174 s hs hp _ w hc (.inr ⟨te, pe, rfl⟩)).mono fun e w' ⟨N, he, _, _, hb⟩ => ⟨_, _, N, he, hb⟩)
set_option maxHeartbeats 2000000 in
set_option maxRecDepth 100000 in
theorem parse_walk (s : ByteArray) (w : World) (hL : LaidW w) (hs : s.size ≤ 281474976710656) (hd : (⟨(Lib.trimPrefix s.data.toList [45]).toArray⟩ : ByteArray).size ≤ 281474976710656) :
    Calls Tryz.prog 43 #[.string s] w fun e w' => e = .returned (.tuple #[.int .i64 (parseF s.data.toList).1, .int .i64 (parseF s.data.toList).2]) ∧ Below w.heap.size w w' := by
  obtain ⟨D, hD⟩ : ∃ D, D = Lib.trimPrefix s.data.toList [45] := ⟨_, rfl⟩
  rw [← hD] at hd
  have hbe : badF s.data.toList = (D.isEmpty || (Lib.hasPrefix D [48] && !(s.data.toList == [48])) || !(Lib.trimS D [48, 49, 50, 51, 52, 53, 54, 55, 56, 57]).isEmpty) := by rw [hD]; rfl
  have hor : badF s.data.toList = true ↔ (D = [] ∨ (Lib.hasPrefix D [48] = true ∧ ¬ s.toList = [48]) ∨ ¬ Lib.trimS D [48, 49, 50, 51, 52, 53, 54, 55, 56, 57] = []) := by
    rw [hbe, Lib.toList_data]; simp [or_assoc]
  clear hbe
  have HD := Aside0.mk hD
  clear hD
  have HOR := Aside0.mk hor
  clear hor
  have HDD := Aside0.mk hd
  clear hd
  by_cases hb0 : badF s.data.toList = true
  · have hF : parseF s.data.toList = (0, 5) := by unfold parseF; rw [if_pos hb0]
    rw [hF]
    clear hF
    have HB0 := Aside0.mk hb0
    clear hb0
    go_enter Tryz.func43, Tryz.ntmps43
    go_wp2_with (first | (go_at_call 60; refine (c_tpD s D HD.out _).mono ?_; rintro e w' ⟨rfl, rfl⟩) | (go_at_call 61; refine (c_hp _ _ _).mono ?_; rintro e w' ⟨rfl, rfl⟩) | (go_at_call 62; refine (c_trim _ _ HDD.out).mono ?_; rintro e w1 ⟨rfl, hb1⟩))
    all_goals first
      | (go_ret2; exact ⟨rfl, by first | assumption | exact Below.refl _ _⟩)
      | (exfalso; rcases HOR.out.1 HB0.out with h | ⟨h, h'⟩ | h <;> first | contradiction | (have t := (by assumption : D.isEmpty = false ∧ (!(Lib.trimS D [48, 49, 50, 51, 52, 53, 54, 55, 56, 57]).isEmpty) = false); simp at t; exact h t.2))
  · have key : (∃ v, Lib.parseIntB 64 s.data.toList = .ok v) ∨ ∀ v, Lib.parseIntB 64 s.data.toList ≠ .ok v := by
      cases Lib.parseIntB 64 s.data.toList with
      | ok v => exact .inl ⟨v, rfl⟩
      | _ => exact .inr (fun v h => by cases h)
    rcases key with ⟨v, hp⟩ | hp
    · skip
      have hF : parseF s.data.toList = (v, 0) := by unfold parseF; rw [if_neg hb0, hp]
      rw [hF]
      clear hF
      have HB0 := Aside0.mk hb0
      clear hb0
      go_enter Tryz.func43, Tryz.ntmps43
      go_wp2_with (first | (go_at_call 60; refine (c_tpD s D HD.out _).mono ?_; rintro e w' ⟨rfl, rfl⟩) | (go_at_call 61; refine (c_hp _ _ _).mono ?_; rintro e w' ⟨rfl, rfl⟩) | (go_at_call 62; refine (c_trim _ _ HDD.out).mono ?_; rintro e w1 ⟨rfl, hb1⟩) | (go_at_call 63; refine (c_pi_ok s v hp _ hs).mono ?_; rintro e w2 ⟨rfl, hb2⟩))
      all_goals first
        | (go_ret2; exact ⟨rfl, below_step hb1 hb2⟩)
        | (exact absurd (HOR.out.2 (.inl (by assumption))) HB0.out)
        | (exact absurd (HOR.out.2 (.inr (.inl ⟨by assumption, by assumption⟩))) HB0.out)
        | (exact absurd (HOR.out.2 (.inr (.inr (fun h => (by assumption : D.isEmpty = true ∨ (!(Lib.trimS D [48, 49, 50, 51, 52, 53, 54, 55, 56, 57]).isEmpty) = true).elim (fun g => absurd (List.isEmpty_iff.1 g) (by assumption)) (fun g => by rw [h] at g; exact absurd g (by decide)))))) HB0.out)
    · have hF : parseF s.data.toList = (0, 2) := by
        unfold parseF; rw [if_neg hb0]
        cases h : Lib.parseIntB 64 s.data.toList with
        | ok v => exact absurd h (hp v)
        | _ => rfl
      rw [hF]
      clear hF
      have HB0 := Aside0.mk hb0
      clear hb0
      go_enter Tryz.func43, Tryz.ntmps43
      go_wp2_with (first | (go_at_call 60; refine (c_tpD s D HD.out _).mono ?_; rintro e w' ⟨rfl, rfl⟩) | (go_at_call 61; refine (c_hp _ _ _).mono ?_; rintro e w' ⟨rfl, rfl⟩) | (go_at_call 62; refine (c_trim _ _ HDD.out).mono ?_; rintro e w1 ⟨rfl, hb1⟩) | (go_at_call 63; refine (c_pi_bad s hp _ (hL.below hb1) hs).mono ?_; rintro e w2 ⟨v_, t_, N_, rfl, hb2⟩))
      all_goals first
        | (go_ret2; exact ⟨rfl, below_step hb1 hb2⟩)
        | (exact absurd (HOR.out.2 (.inl (by assumption))) HB0.out)
        | (exact absurd (HOR.out.2 (.inr (.inl ⟨by assumption, by assumption⟩))) HB0.out)
        | (exact absurd (HOR.out.2 (.inr (.inr (fun h => (by assumption : D.isEmpty = true ∨ (!(Lib.trimS D [48, 49, 50, 51, 52, 53, 54, 55, 56, 57]).isEmpty) = true).elim (fun g => absurd (List.isEmpty_iff.1 g) (by assumption)) (fun g => by rw [h] at g; exact absurd g (by decide)))))) HB0.out)
theorem print_walk (n : Int) (h0 : -9223372036854775808 ≤ n) (h1 : n ≤ 9223372036854775807) (w : World) (hL : LaidW w) :
    Calls Tryz.prog 36 #[.int .i64 n] w fun e w' => e = .returned (.string ⟨(Lib.itoa n).toArray⟩) ∧ Below w.heap.size w w' := by
  have hc := Any.strconv_FormatInt_10 lays173 n h0 h1 w hL.pow
  have hc' : Calls Tryz.prog 53 #[.int .i64 n, .int .i64 10] w fun e w' => e = .returned (.string ⟨(Lib.itoa n).toArray⟩) ∧ ∃ k os, w' = Sort.grow (w.drewN k) os := hc
  clear hc
  go_enter Tryz.func36, Tryz.ntmps36
  go_wp2_with (go_at_call 53; refine hc'.mono ?_; rintro e w1 ⟨rfl, k, os, rfl⟩)
  go_ret
  exact ⟨rfl, Lib.below_grow _ _ (Nat.le_refl _) _ _⟩
theorem trim_size {s : ByteArray} (hs : s.size ≤ 281474976710656) : (⟨(Lib.trimPrefix s.data.toList [45]).toArray⟩ : ByteArray).size ≤ 281474976710656 := by
  have h1 : (Lib.trimPrefix s.data.toList [45]).length ≤ s.data.toList.length := by
    unfold Lib.trimPrefix; split
    · rw [List.length_drop]; omega
    · exact Nat.le_refl _
  have h2 : s.data.toList.length = s.size := by rw [Array.length_toList]; rfl
  show (Lib.trimPrefix s.data.toList [45]).toArray.size ≤ _
  rw [List.size_toArray]; omega
end Go.Proofs.YtjbdkdmoacdbpaaGreatDoor.X
namespace Go.Proofs.YtjbdkdmoacdbpaaGreatDoor.X
open Go Go.RowKit Go.Proofs.YtjbdkdmoacdbpaaGreatDoorW.PrintWords Go.Proofs.YtjbdkdmoacdbpaaGreatDoorW.PrintLast Go.Proofs.YtjbdkdmoacdbpaaGreatDoorW.PrintMore Go.Proofs.YtjbdkdmoacdbpaaGreatDoor Go.Proofs.YtjbdkdmoacdbpaaGreatDoor.Q
/-- what a predicate of a byte tells -/
def GivesB (g : Nat) (p : Int → Bool) : Prop := ∀ x W, 0 ≤ x → x ≤ 255 → Calls Tryz.prog g #[.int .u8 x] W fun e w' => e = .returned (.bool (p x)) ∧ Drawn0 W w'
/-- the first place, from i on -/
def idxP (p : Int → Bool) : List Int → Nat → Int
  | [], _ => -1
  | x :: xs, i => if p x = true then (i : Int) else idxP p xs (i + 1)
theorem idxP_any (p : Int → Bool) : ∀ (l : List Int) (i : Nat), decide (idxP p l i ≥ 0) = l.any p
  | [], _ => by simp [idxP]
  | x :: xs, i => by
    unfold idxP
    by_cases h : p x = true
    · rw [if_pos h]; simp [h]
    · rw [if_neg h, idxP_any p xs (i + 1)]; simp [h]
set_option maxHeartbeats 8000000 in
set_option maxRecDepth 100000 in
theorem idx_calls {g : Nat} {fn : Func} (hfn : Tryz.prog.funcs[g]? = some fn) (hname : (fn.name == "runtime.NumGoroutine") = false) (hbody : fn.body.isSome = true) {p : Int → Bool} (hp : GivesB g p) (A0 : Option Addr) (c0 : Nat) (l0 : List Int) (w : World)
    (hr0 : Kd.C (Kd.int .u8) w A0 l0.length l0) (hb : ∀ x ∈ l0, 0 ≤ x ∧ x ≤ 255) (hl : l0.length < 9223372036854775807) :
    Calls Tryz.prog 93 #[.slice A0 l0.length c0, .func (.func g) #[] #[]] w fun e w' => e = .returned (.int .i64 (idxP p l0 0)) ∧ Drawn0 w w' := by
  have HR0 := Aside0.mk hr0
  have HP := Aside0.mk hp
  have HB := Aside0.mk hb
  clear hr0 hp hb
  go_enter Tryz.func93, Tryz.ntmps93
  go_wp2
  go_loopg [8] (l0.length + 1) (fun kq v8 w' => ∃ (i : Nat), v8 = .int .i64 (i : Int) ∧ i ≤ l0.length ∧ Aside0 (idxP p (l0.drop i) i = idxP p l0 0) ∧ Aside0 (kq + i = l0.length + 1) ∧ Drawn0 w w')
  case atStart => exact ⟨0, rfl, Nat.zero_le _, ⟨rfl⟩, ⟨rfl⟩, by repeat (first | exact Drawn0.refl _ | apply Drawn0.step)⟩
  case round =>
    obtain ⟨i, rfl, hi, HA, HK, ⟨m1, rfl⟩⟩ := hrel
    by_cases c3 : i < l0.length
    · have hk := HK.out
      obtain ⟨k1, rfl⟩ : ∃ k1, gk = k1 + 1 := ⟨gk - 1, by omega⟩
      have c3b0 : decide ((i : Int) < (l0.length : Int)) = true := decide_eq_true (by omega)
      have c4b0 : decide (0 ≤ (i : Int)) = true := decide_eq_true (by omega)
      obtain ⟨ad101, e101, hx101_0⟩ := Kd.at_int HR0.out (i : Int) (by omega) (by omega)
      cases e101
      have hx : rd l0 (i : Int) = l0[i] := by unfold rd; rw [Int.toNat_natCast, List.getD_eq_getElem?_getD, List.getElem?_eq_getElem c3]; rfl
      have hbd := HB.out (l0[i]) (List.getElem_mem c3)
      have hA := HA.out
      rw [List.drop_eq_getElem_cons c3, idxP] at hA
      have p101 : (0 ≤ (i : Int)) = True := eq_true (by omega)
      have q101 : ((i : Int) < (l0.length : Int)) = True := eq_true (by omega)
      have hw1 : wrap64 ((i : Int) + 1) = ((i + 1 : Nat) : Int) := by unfold wrap64; omega
      have hq := HP.out (rd l0 (i : Int))
      rw [hx] at hq hx101_0
      rw [Int.toNat_natCast] at hx101_0
      by_cases c7 : p (l0[i]) = true
      · rw [if_pos c7] at hA
        rw [c7] at hq
        have HQ := Aside0.mk hq
        have HA2 := Aside0.mk hA
        clear hA hq HA HK hk
        go_wp2_with (first | ((with_reducible refine RFn.gate_calleeT (f := g) rfl rfl ?_); refine RFn.goesLT (some 16) rfl rfl hfn hname hbody #[.int .u8 (l0[i])] rfl rfl (by (try simp only [List.map_toArray, List.map_cons, List.map_nil]); first | done | rfl) ?_; refine (HQ.out _ hbd.1 hbd.2).mono ?_; rintro e w' ⟨rfl, ⟨nd, rfl⟩⟩; refine ⟨_, rfl, ?_⟩))
        go_ret
        exact ⟨by rw [← HA2.out]; rfl, by repeat (first | exact Drawn0.refl _ | apply Drawn0.step)⟩
      · rw [if_neg c7] at hA
        rw [Bool.not_eq_true] at c7
        rw [c7] at hq
        have HQ := Aside0.mk hq
        have HA2 := Aside0.mk hA
        clear hA hq HA HK
        go_wp2_with (first | ((with_reducible refine RFn.gate_calleeT (f := g) rfl rfl ?_); refine RFn.goesLT (some 16) rfl rfl hfn hname hbody #[.int .u8 (l0[i])] rfl rfl (by (try simp only [List.map_toArray, List.map_cons, List.map_nil]); first | done | rfl) ?_; refine (HQ.out _ hbd.1 hbd.2).mono ?_; rintro e w' ⟨rfl, ⟨nd, rfl⟩⟩; refine ⟨_, rfl, ?_⟩))
        go_roundg k1
        case measure => omega
        case rel => exact ⟨i + 1, by first | rfl | rw [hw1] | simp, by omega, ⟨HA2.out⟩, ⟨by omega⟩, by repeat (first | exact Drawn0.refl _ | apply Drawn0.step)⟩
    · have c3b0 : decide ((i : Int) < (l0.length : Int)) = false := decide_eq_false (by omega)
      have hA := HA.out
      rw [List.drop_eq_nil_of_le (by omega), idxP] at hA
      have HA2 := Aside0.mk hA
      clear hA HA
      go_wp2
      go_ret
      exact ⟨by rw [← HA2.out]; rfl, by repeat (first | exact Drawn0.refl _ | apply Drawn0.step)⟩
set_option maxHeartbeats 8000000 in
set_option maxRecDepth 100000 in
theorem contains_calls {g : Nat} {fn : Func} (hfn : Tryz.prog.funcs[g]? = some fn) (hname : (fn.name == "runtime.NumGoroutine") = false) (hbody : fn.body.isSome = true) {p : Int → Bool} (hp : GivesB g p) (A0 : Option Addr) (c0 : Nat) (l0 : List Int) (w : World)
    (hr0 : Kd.C (Kd.int .u8) w A0 l0.length l0) (hb : ∀ x ∈ l0, 0 ≤ x ∧ x ≤ 255) (hl : l0.length < 9223372036854775807) :
    Calls Tryz.prog 71 #[.slice A0 l0.length c0, .func (.func g) #[] #[]] w fun e w' => e = .returned (.bool (l0.any p)) ∧ Drawn0 w w' := by
  have HI := Aside0.mk (fun w hr => idx_calls hfn hname hbody hp A0 c0 l0 w hr hb hl)
  have HA := Aside0.mk (idxP_any p l0 0)
  have HR0 := Aside0.mk hr0
  clear hr0 hb hp
  go_enter Tryz.func71, Tryz.ntmps71
  go_wp2_with (first | ((with_reducible refine gate_callee (f := 93) rfl ?_); refine RFn.goesM (some 7) Tryz.func93 #[.slice A0 l0.length c0, .func (.func g) #[] #[]] rfl ?_; refine (HI.out _ HR0.out).mono ?_; rintro e w' ⟨rfl, ⟨nd, rfl⟩⟩; refine ⟨_, rfl, ?_⟩))
  go_ret
  exact ⟨by rw [← HA.out]; rfl, by repeat (first | exact Drawn0.refl _ | apply Drawn0.step)⟩
/-- a string's bytes -/
def bytesL (s : ByteArray) : List Int := s.data.toList.map fun b => (b.toNat : Int)
theorem len_bytesL (s : ByteArray) : (bytesL s).length = s.size := by unfold bytesL; rw [List.length_map, Array.length_toList]; rfl
theorem bytesL_bd (s : ByteArray) : ∀ x ∈ bytesL s, 0 ≤ x ∧ x ≤ 255 := fun x hx => by
  obtain ⟨b, _, rfl⟩ := List.mem_map.1 hx
  have := b.toNat_lt; omega
theorem bytes_C (w : World) (e : Nat) (s : ByteArray) (hs : s.size ≤ 9223372036854775807) : Kd.C (Kd.int .u8) (Lib.bytesWorld w e s) (some ⟨w.heap.size, 0, none⟩) (bytesL s).length (bytesL s) := by
  rw [len_bytesL]
  refine ⟨len_bytesL s, hs, fun _ => ⟨_, rfl, fun j x hj => ⟨[.int .u8 x], rfl, rfl, fun i u hu => ?_⟩⟩⟩
  obtain ⟨hjl, hx⟩ := List.getElem?_eq_some_iff.1 hj
  rw [len_bytesL] at hjl
  cases i with
  | succ i => simp at hu
  | zero =>
    have hu' : u = .int .u8 x := by simpa using hu.symm
    subst hu'
    have h1 := Lib.bytesWorld_cell w e s j hjl
    have h2 : (⟨w.heap.size, 0, none⟩ : Addr).add (j * (Kd.int .u8).sz + 0) = ⟨w.heap.size, j, none⟩ := by
      show (⟨w.heap.size, 0, none⟩ : Addr).add (j * 1 + 0) = _
      unfold Addr.add
      split <;> simp_all
    rw [h2, h1]
    have : x = ((s.data.toList.getD j 0).toNat : Int) := by
      unfold bytesL at hj
      rw [List.getElem?_map] at hj
      rw [List.getD_eq_getElem?_getD]
      cases h : s.data.toList[j]? with
      | none => rw [h] at hj; cases hj
      | some b => rw [h] at hj; simpa using hj.symm
    rw [this]
theorem contains_bytes {g : Nat} {fn : Func} (hfn : Tryz.prog.funcs[g]? = some fn) (hname : (fn.name == "runtime.NumGoroutine") = false) (hbody : fn.body.isSome = true) {p : Int → Bool} (hp : GivesB g p) (c : Nat) (s : ByteArray) (W : World) (hs : s.size < 9223372036854775807) :
    Calls Tryz.prog 71 #[.slice (some ⟨W.heap.size, 0, none⟩) s.size c, .func (.func g) #[] #[]] (Lib.bytesWorld W 5 s) fun e w' => e = .returned (.bool ((bytesL s).any p)) ∧ Drawn0 (Lib.bytesWorld W 5 s) w' := by
  have h := contains_calls hfn hname hbody hp (some ⟨W.heap.size, 0, none⟩) c (bytesL s) (Lib.bytesWorld W 5 s) (bytes_C W 5 s (by omega)) (bytesL_bd s) (by rw [len_bytesL]; omega)
  rw [len_bytesL] at h
  exact h
theorem bytesWorld_below (w : World) (e : Nat) (s : ByteArray) {B : Nat} {w0 : World} (h : Below B w0 w) (hB : B ≤ w.heap.size) : Below B w0 (Lib.bytesWorld w e s) := by
  exact Lib.below_freeze ((Below.drew h).alloc hB _) (p := ⟨w.heap.size, _, none⟩) hB 1
end Go.Proofs.YtjbdkdmoacdbpaaGreatDoor.X
namespace Go.Proofs.YtjbdkdmoacdbpaaGreatDoor.X
open Go Go.RowKit Go.Proofs.YtjbdkdmoacdbpaaGreatDoorW.PrintWords Go.Proofs.YtjbdkdmoacdbpaaGreatDoorW.PrintLast Go.Proofs.YtjbdkdmoacdbpaaGreatDoorW.PrintMore Go.Proofs.YtjbdkdmoacdbpaaGreatDoor Go.Proofs.YtjbdkdmoacdbpaaGreatDoor.Q
def letterP (c : Int) : Bool := (decide (97 ≤ c) && decide (c ≤ 122)) || (decide (65 ≤ c) && decide (c ≤ 90))
def wrongP (c : Int) : Bool := !letterP c && (decide (c < 48) || decide (57 < c)) && (c != 46) && (c != 95) && (c != 45)
def oddP (c : Int) : Bool := (c != 9) && (c != 10) && (decide (c < 32) || decide (126 < c))
set_option maxHeartbeats 8000000 in
set_option maxRecDepth 100000 in
theorem letter_gives : GivesB 69 letterP := by
  intro x W h0 h1
  unfold letterP
  by_cases a : 97 ≤ x
  · have a1 : decide (97 ≤ x) = true := decide_eq_true a
    by_cases b : x ≤ 122
    · have b1 : decide (x ≤ 122) = true := decide_eq_true b
      simp only [a1, b1]
      clear a b
      go_enter Tryz.func69, Tryz.ntmps69
      go_wp2
      go_ret
      exact ⟨rfl, Drawn0.refl _⟩
    · have b1 : decide (x ≤ 122) = false := decide_eq_false b
      have d1 : decide (x ≤ 90) = false := decide_eq_false (by omega)
      have c1 : decide (65 ≤ x) = true := decide_eq_true (by omega)
      simp only [a1, b1, c1, d1]
      clear a b
      go_enter Tryz.func69, Tryz.ntmps69
      go_wp2
      go_ret
      exact ⟨rfl, Drawn0.refl _⟩
  · have a1 : decide (97 ≤ x) = false := decide_eq_false a
    by_cases c : 65 ≤ x
    · have c1 : decide (65 ≤ x) = true := decide_eq_true c
      obtain ⟨d, hd⟩ : ∃ d, decide (x ≤ 90) = d := ⟨_, rfl⟩
      simp only [a1, c1, hd]
      clear a c
      cases d <;>
      · go_enter Tryz.func69, Tryz.ntmps69
        go_wp2
        go_ret
        exact ⟨rfl, Drawn0.refl _⟩
    · have c1 : decide (65 ≤ x) = false := decide_eq_false c
      simp only [a1, c1]
      clear a c
      go_enter Tryz.func69, Tryz.ntmps69
      go_wp2
      go_ret
      exact ⟨rfl, Drawn0.refl _⟩
set_option maxHeartbeats 8000000 in
set_option maxRecDepth 100000 in
theorem wrong_gives : GivesB 70 wrongP := by
  intro x W h0 h1
  have HL := Aside0.mk (fun W => letter_gives x W h0 h1)
  unfold wrongP
  obtain ⟨l, hl⟩ : ∃ l, letterP x = l := ⟨_, rfl⟩
  obtain ⟨b1, h1'⟩ : ∃ b, decide (x < 48) = b := ⟨_, rfl⟩
  obtain ⟨b2, h2'⟩ : ∃ b, decide (57 < x) = b := ⟨_, rfl⟩
  obtain ⟨b3, h3'⟩ : ∃ b, (x != 46) = b := ⟨_, rfl⟩
  obtain ⟨b4, h4'⟩ : ∃ b, (x != 95) = b := ⟨_, rfl⟩
  obtain ⟨b5, h5'⟩ : ∃ b, (x != 45) = b := ⟨_, rfl⟩
  rw [hl] at HL
  simp only [hl, h1', h2', h3', h4', h5']
  clear hl
  cases l <;> cases b1 <;> cases b2 <;> cases b3 <;> cases b4 <;> cases b5 <;>
  · go_enter Tryz.func70, Tryz.ntmps70
    go_wp2_with (first | ((with_reducible refine gate_callee (f := 69) rfl ?_); refine RFn.goesM (some 4) Tryz.func69 #[.int .u8 x] rfl ?_; refine (HL.out _).mono ?_; rintro e w' ⟨rfl, ⟨nd, rfl⟩⟩; refine ⟨_, rfl, ?_⟩))
    go_ret
    exact ⟨rfl, by repeat (first | exact Drawn0.refl _ | apply Drawn0.step)⟩
def nameB (s : ByteArray) : Bool := decide (0 < s.size) && decide (s.size ≤ 12) && letterP (bt s 0) && !((bytesL s).any wrongP)
set_option maxHeartbeats 8000000 in
set_option maxRecDepth 100000 in
theorem name_calls (a0 : ByteArray) (w : World) : Calls Tryz.prog 52 #[.string a0] w fun e w' => e = .returned (.bool (nameB a0)) ∧ Below w.heap.size w w' := by
  have hbl := bt_range a0 0
  have HL := Aside0.mk (fun W => letter_gives (bt a0 0) W hbl.1 hbl.2)
  have hzero : (a0.toList = []) ↔ a0.size = 0 := by
    rw [Lib.toList_data, Array.toList_eq_nil_iff]
    exact ⟨fun h => by show a0.data.size = 0; rw [h]; rfl, fun h => Array.eq_empty_of_size_eq_zero h⟩
  unfold nameB
  by_cases c1 : a0.toList = []
  · have c1b : (a0.toList == ([] : List UInt8)) = true := beq_iff_eq.mpr c1
    have hz := hzero.1 c1
    have e : decide (0 < a0.size) = false := decide_eq_false (by omega)
    simp only [e, Bool.false_and]
    clear hzero hz e
    go_enter Tryz.func52, Tryz.ntmps52
    go_wp2
    go_ret
    exact ⟨rfl, Below.refl _ _⟩
  have c1b : (a0.toList == ([] : List UInt8)) = false := beq_eq_false_iff_ne.mpr c1
  have hz : 0 < a0.size := by
    rcases Nat.eq_zero_or_pos a0.size with h | h
    · exact absurd (hzero.2 h) c1
    · exact h
  have e1 : decide (0 < a0.size) = true := decide_eq_true hz
  by_cases c2 : 12 < a0.size
  · have c2b : decide (12 < (a0.size : Int)) = true := decide_eq_true (by omega)
    have c2c : decide (12 < a0.size) = true := decide_eq_true c2
    have e : decide (a0.size ≤ 12) = false := decide_eq_false (by omega)
    simp only [e, Bool.and_false, Bool.false_and]
    clear hzero hz e e1 c1 c2
    go_enter Tryz.func52, Tryz.ntmps52
    go_wp2
    go_ret
    exact ⟨rfl, Below.refl _ _⟩
  have c2b : decide (12 < (a0.size : Int)) = false := decide_eq_false (by omega)
  have c2c : decide (12 < a0.size) = false := decide_eq_false c2
  have e2 : decide (a0.size ≤ 12) = true := decide_eq_true (by omega)
  have hx6 : ∀ h : 0 < a0.size, ((a0[0]'h).toNat : Int) = bt a0 0 := bt_at a0 0
  have qi6 : (0 < (a0.size : Int)) = True := eq_true (by omega)
  have HC := Aside0.mk (fun (c : Nat) (W : World) => contains_bytes (g := 70) Tryz.func70 (by kernel_rfl) rfl wrong_gives c a0 W (by omega))
  have hsz : a0.size ≤ 12 := by omega
  have q6 := eq_true hz
  simp only [e1, e2, Bool.true_and]
  clear hzero e1 e2 c1 c2
  obtain ⟨l, hl⟩ : ∃ l, letterP (bt a0 0) = l := ⟨_, rfl⟩
  rw [hl] at HL
  rw [hl]
  clear hl
  cases l with
  | false =>
    simp only [Bool.false_and]
    clear hz
    go_enter Tryz.func52, Tryz.ntmps52
    go_wp2_with (first | (go_at_call 69; refine (HL.out _).mono ?_; rintro e w' ⟨rfl, ⟨nd, rfl⟩⟩))
    go_ret
    exact ⟨rfl, pw_below_drewN (Below.refl _ _) nd⟩
  | true =>
    simp only [Bool.true_and]
    clear hz
    have hcv : ∀ (w : World), (convert 9 45 (.string a0)).run Tryz.prog w = .ok (.slice (some ⟨w.heap.size, 0, none⟩) a0.size (grownCap w a0.size 0 5)) (Lib.bytesWorld w 5 a0) := fun w => Lib.run_convert_string_bytes w 9 45 5 a0 Tryz.underlying9 Tryz.underlying45 Tryz.underlying5
    go_enter Tryz.func52, Tryz.ntmps52
    go_wp2_with (first | (go_at_call 69; refine (HL.out _).mono ?_; rintro e w' ⟨rfl, ⟨nd, rfl⟩⟩) | ((with_reducible refine gate_callee (f := 71) rfl ?_); refine (RFn.goesM (some 20) Tryz.func71 _ rfl ((HC.out _ _).mono ?_)); rintro e w' ⟨rfl, ⟨nd2, rfl⟩⟩; refine ⟨_, rfl, ?_⟩) | (go_at_call 71; refine (HC.out _ (w.drewN nd)).mono ?_; rintro e w' ⟨rfl, ⟨nd2, rfl⟩⟩))
    go_ret
    exact ⟨rfl, pw_below_drewN (bytesWorld_below _ _ _ (pw_below_drewN (Below.refl _ _) nd) (Nat.le_refl _)) nd2⟩
end Go.Proofs.YtjbdkdmoacdbpaaGreatDoor.X
namespace Go.Proofs.YtjbdkdmoacdbpaaGreatDoor.X
open Go Go.RowKit Go.Proofs.YtjbdkdmoacdbpaaGreatDoorW.PrintWords Go.Proofs.YtjbdkdmoacdbpaaGreatDoorW.PrintLast Go.Proofs.YtjbdkdmoacdbpaaGreatDoorW.PrintMore Go.Proofs.YtjbdkdmoacdbpaaGreatDoor Go.Proofs.YtjbdkdmoacdbpaaGreatDoor.Q
def joinB (xs : List ByteArray) : List UInt8 := Lib.join (xs.map (·.data.toList)) [32]
theorem join_calls (A : Option Addr) (c : Nat) (xs : List ByteArray) (w : World) (hC : Kd.C Kd.string w A xs.length xs) (hc : xs.length ≤ c) (hN : xs.length ≤ 140737488355328) (hlen : (joinB xs).length ≤ 140737488355328) :
    Calls Tryz.prog 37 #[.slice A xs.length c, .string ⟨#[32]⟩] w fun e w' => e = .returned (.string ⟨(joinB xs).toArray⟩) ∧ Below w.heap.size w w' := by
  rcases Nat.eq_zero_or_pos xs.length with h0 | h0
  · have e : xs = [] := List.length_eq_zero_iff.mp h0
    subst e
    exact (Any.strings_Join_none lays156 extra A c ⟨#[32]⟩ w).mono fun e w' ⟨h1, h2⟩ => ⟨h1, by rw [h2]; exact Below.refl _ _⟩
  · obtain ⟨ad, rfl, hcell⟩ := hC.2.2 h0
    have hx0 : ∀ j x, xs[j]? = some x → w.cell? (ad.add j) = some (.string x) := by
      intro j x hj
      obtain ⟨cs, _, hk, hu⟩ := hcell j x hj
      obtain rfl : cs = [.string x] := hk
      have := hu 0 _ rfl
      simpa [Kd.string, Kd.scalar] using this
    obtain ⟨x0, hx⟩ : ∃ x, xs[0]? = some x := ⟨xs[0], List.getElem?_eq_getElem h0⟩
    have hsp : ad.spot = none := by
      have h := hx0 0 x0 hx
      rw [Addr.add_zero'] at h
      unfold World.cell? at h
      split at h
      · split at h
        · cases h
        · rename_i hs; simpa using hs
      · cases h
    obtain ⟨bk, o, sp⟩ := ad
    obtain rfl : sp = none := hsp
    have hcells : ∀ (j : Nat) x, xs[j]? = some x → w.cell? ⟨bk, o + j, none⟩ = some (.string x) := by
      intro j x hj
      have h := hx0 j x hj
      cases j with
      | zero => rw [Addr.add_zero'] at h; exact h
      | succ j => simpa [Addr.add] using h
    have hbk : bk < w.heap.size := World.block_lt_of_cell? w ⟨bk, o + 0, none⟩ (hcells 0 x0 hx)
    by_cases h1 : xs.length = 1
    · obtain ⟨x, rfl⟩ := List.length_eq_one_iff.mp h1
      have h := Any.strings_Join_one lays156 extra bk o c x ⟨#[32]⟩ w (by simpa using hcells 0 x rfl)
      refine h.mono fun e w' ⟨h1, h2⟩ => ⟨?_, by rw [h2]; exact Below.refl _ _⟩
      rw [h1]
      simp [joinB, Lib.join_one]
    · exact Any.strings_Join_many lays156 extra bk o c xs ⟨#[32]⟩ w hcells hbk (by omega) hN hc hlen
abbrev IsB (B b : Nat) (l : List UInt8) (W : World) : Prop := Lib.IsBuilderF 72 5 B b (Lib.byteCells l) W
theorem builder_below {B b : Nat} {p : Value} {bs : List Value} {W W' : World} (h : Lib.BuilderAtF 72 5 B b p bs W) (hb : Below W.heap.size W W') : Lib.BuilderAtF 72 5 B b p bs W' := by
  have hlt := h.lt
  obtain ⟨hB, v, hv, hown, hne⟩ := h
  exact ⟨hB, v, (hb.block b hlt).trans hv, hown.kept (row := none) ⟨hb.os, hb.tape, hb.output, hb.size, fun k hk _ => hb.block k hk⟩ (Classical.em _), hne⟩
theorem IsB.below {B b : Nat} {l : List UInt8} {W W' : World} (h : IsB B b l W) (hb : Below W.heap.size W W') : IsB B b l W' := h.elim (fun x => .inl (builder_below x hb)) (fun x => .inr (builder_below x hb))
theorem IsB.new (W : World) {B : Nat} (hB : B ≤ W.heap.size) : IsB B W.heap.size [] (W.alloc (.cells #[.pointer none, .slice none 0 0] 72)) :=
  .inl ⟨hB, _, blk_new W _, ⟨rfl, .inl ⟨rfl, rfl⟩⟩, by simp [Value.ownBlock]⟩
theorem writeString_calls {B b : Nat} {l : List UInt8} (s : ByteArray) (w : World) (h : IsB B b l w) (hlen : l.length + s.size ≤ 140737488355328) (hBw : B ≤ w.heap.size) :
    Calls Tryz.prog 33 #[.pointer (some ⟨b, 0, none⟩), .string s] w fun e w' => e = .returned (.tuple #[.int .i64 s.size, .nilIface]) ∧ IsB B b (l ++ s.data.toList) w' ∧ Below B w w' := by
  refine (Any.Builder_WriteString_f lays166 extra B b _ s w h (by rw [Lib.byteCells_length]; exact hlen) hBw).mono ?_
  rintro e w' ⟨he, hb, hB⟩
  exact ⟨he, .inr (by rw [Lib.byteCells_append]; exact hb), hB⟩
theorem builderString_calls {B b : Nat} {l : List UInt8} (w : World) (h : IsB B b l w) (hBw : B ≤ w.heap.size) :
    Calls Tryz.prog 38 #[.pointer (some ⟨b, 0, none⟩)] w fun e w' => e = .returned (.string ⟨l.toArray⟩) ∧ Below B w w' :=
  (Any.Builder_String_any_f lays169 extra B b l w h hBw).mono fun e w' ⟨he, _, hB⟩ => ⟨he, hB⟩
end Go.Proofs.YtjbdkdmoacdbpaaGreatDoor.X
