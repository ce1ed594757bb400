import Derived.Test.YtffdhekmnoajiaaDoorQx0
import Derived.Test.YtffdhekmnoajiaaDoorRFn
import Derived.Lib.ConvBytes
import Derived.Lib.UnsafeStr
/- slices.ContainsFunc over a string's bytes, at any predicate -/
set_option linter.unusedVariables false
set_option linter.unusedSimpArgs false
namespace Go.Proofs.YtffdhekmnoajiaaDoor.X
open Go Go.RowKit Go.Proofs.YtffdhekmnoajiaaDoorW.PrintWords Go.Proofs.YtffdhekmnoajiaaDoorW.PrintLast Go.Proofs.YtffdhekmnoajiaaDoorW.PrintMore Go.Proofs.YtffdhekmnoajiaaDoor Go.Proofs.YtffdhekmnoajiaaDoor.Q
/-- what a predicate of a byte tells -/
def GivesB (g : Nat) (p : Int → Bool) : Prop := ∀ x W, 0 ≤ x → x ≤ 255 → Calls Tryd.prog g #[.int .u8 x] W fun e w' => e = .returned (.bool (p x)) ∧ Drawn0 W w'
/-- the first place, from i on -/
def idxP (p : Int → Bool) : List Int → Nat → Int
  | [], _ => -1
  | x :: xs, i => if p x = true then (i : Int) else idxP p xs (i + 1)
theorem idxP_any (p : Int → Bool) : ∀ (l : List Int) (i : Nat), decide (idxP p l i ≥ 0) = l.any p
  | [], _ => by simp [idxP]
  | x :: xs, i => by
    unfold idxP
    by_cases h : p x = true
    · rw [if_pos h]; simp [h]
    · rw [if_neg h, idxP_any p xs (i + 1)]; simp [h]
set_option maxHeartbeats 8000000 in
set_option maxRecDepth 100000 in
theorem idx_calls {g : Nat} {fn : Func} (hfn : Tryd.prog.funcs[g]? = some fn) (hname : (fn.name == "runtime.NumGoroutine") = false) (hbody : fn.body.isSome = true) {p : Int → Bool} (hp : GivesB g p) (A0 : Option Addr) (c0 : Nat) (l0 : List Int) (w : World)
    (hr0 : Kd.C (Kd.int .u8) w A0 l0.length l0) (hb : ∀ x ∈ l0, 0 ≤ x ∧ x ≤ 255) (hl : l0.length < 9223372036854775807) :
    Calls Tryd.prog 36 #[.slice A0 l0.length c0, .func (.func g) #[] #[]] w fun e w' => e = .returned (.int .i64 (idxP p l0 0)) ∧ Drawn0 w w' := by
  have HR0 := Aside0.mk hr0
  have HP := Aside0.mk hp
  have HB := Aside0.mk hb
  clear hr0 hp hb
  go_enter Tryd.func36, Tryd.ntmps36
  go_wp2
  go_loopg [8] (l0.length + 1) (fun kq v8 w' => ∃ (i : Nat), v8 = .int .i64 (i : Int) ∧ i ≤ l0.length ∧ Aside0 (idxP p (l0.drop i) i = idxP p l0 0) ∧ Aside0 (kq + i = l0.length + 1) ∧ Drawn0 w w')
  case atStart => exact ⟨0, rfl, Nat.zero_le _, ⟨rfl⟩, ⟨rfl⟩, by repeat (first | exact Drawn0.refl _ | apply Drawn0.step)⟩
  case round =>
    obtain ⟨i, rfl, hi, HA, HK, ⟨m1, rfl⟩⟩ := hrel
    by_cases c3 : i < l0.length
    · have hk := HK.out
      obtain ⟨k1, rfl⟩ : ∃ k1, gk = k1 + 1 := ⟨gk - 1, by omega⟩
      have c3b0 : decide ((i : Int) < (l0.length : Int)) = true := decide_eq_true (by omega)
      have c4b0 : decide (0 ≤ (i : Int)) = true := decide_eq_true (by omega)
      obtain ⟨ad101, e101, hx101_0⟩ := Kd.at_int HR0.out (i : Int) (by omega) (by omega)
      cases e101
      have hx : rd l0 (i : Int) = l0[i] := by unfold rd; rw [Int.toNat_natCast, List.getD_eq_getElem?_getD, List.getElem?_eq_getElem c3]; rfl
      have hbd := HB.out (l0[i]) (List.getElem_mem c3)
      have hA := HA.out
      rw [List.drop_eq_getElem_cons c3, idxP] at hA
      have p101 : (0 ≤ (i : Int)) = True := eq_true (by omega)
      have q101 : ((i : Int) < (l0.length : Int)) = True := eq_true (by omega)
      have hw1 : wrap64 ((i : Int) + 1) = ((i + 1 : Nat) : Int) := by unfold wrap64; omega
      have hq := HP.out (rd l0 (i : Int))
      rw [hx] at hq hx101_0
      rw [Int.toNat_natCast] at hx101_0
      by_cases c7 : p (l0[i]) = true
      · rw [if_pos c7] at hA
        rw [c7] at hq
        have HQ := Aside0.mk hq
        have HA2 := Aside0.mk hA
        clear hA hq HA HK hk
        go_wp2_with (first | ((with_reducible refine RFn.gate_calleeT (f := g) rfl rfl ?_); refine RFn.goesLT (some 16) rfl rfl hfn hname hbody #[.int .u8 (l0[i])] rfl rfl (by (try simp only [List.map_toArray, List.map_cons, List.map_nil]); first | done | rfl) ?_; refine (HQ.out _ hbd.1 hbd.2).mono ?_; rintro e w' ⟨rfl, ⟨nd, rfl⟩⟩; refine ⟨_, rfl, ?_⟩))
        go_ret
        exact ⟨by rw [← HA2.out]; rfl, by repeat (first | exact Drawn0.refl _ | apply Drawn0.step)⟩
      · rw [if_neg c7] at hA
        rw [Bool.not_eq_true] at c7
        rw [c7] at hq
        have HQ := Aside0.mk hq
        have HA2 := Aside0.mk hA
        clear hA hq HA HK
        go_wp2_with (first | ((with_reducible refine RFn.gate_calleeT (f := g) rfl rfl ?_); refine RFn.goesLT (some 16) rfl rfl hfn hname hbody #[.int .u8 (l0[i])] rfl rfl (by (try simp only [List.map_toArray, List.map_cons, List.map_nil]); first | done | rfl) ?_; refine (HQ.out _ hbd.1 hbd.2).mono ?_; rintro e w' ⟨rfl, ⟨nd, rfl⟩⟩; refine ⟨_, rfl, ?_⟩))
        go_roundg k1
        case measure => omega
        case rel => exact ⟨i + 1, by first | rfl | rw [hw1] | simp, by omega, ⟨HA2.out⟩, ⟨by omega⟩, by repeat (first | exact Drawn0.refl _ | apply Drawn0.step)⟩
    · have c3b0 : decide ((i : Int) < (l0.length : Int)) = false := decide_eq_false (by omega)
      have hA := HA.out
      rw [List.drop_eq_nil_of_le (by omega), idxP] at hA
      have HA2 := Aside0.mk hA
      clear hA HA
      go_wp2
      go_ret
      exact ⟨by rw [← HA2.out]; rfl, by repeat (first | exact Drawn0.refl _ | apply Drawn0.step)⟩
set_option maxHeartbeats 8000000 in
set_option maxRecDepth 100000 in
theorem contains_calls {g : Nat} {fn : Func} (hfn : Tryd.prog.funcs[g]? = some fn) (hname : (fn.name == "runtime.NumGoroutine") = false) (hbody : fn.body.isSome = true) {p : Int → Bool} (hp : GivesB g p) (A0 : Option Addr) (c0 : Nat) (l0 : List Int) (w : World)
    (hr0 : Kd.C (Kd.int .u8) w A0 l0.length l0) (hb : ∀ x ∈ l0, 0 ≤ x ∧ x ≤ 255) (hl : l0.length < 9223372036854775807) :
    Calls Tryd.prog 21 #[.slice A0 l0.length c0, .func (.func g) #[] #[]] w fun e w' => e = .returned (.bool (l0.any p)) ∧ Drawn0 w w' := by
  have HI := Aside0.mk (fun w hr => idx_calls hfn hname hbody hp A0 c0 l0 w hr hb hl)
  have HA := Aside0.mk (idxP_any p l0 0)
  have HR0 := Aside0.mk hr0
  clear hr0 hb hp
  go_enter Tryd.func21, Tryd.ntmps21
  go_wp2_with (first | ((with_reducible refine gate_callee (f := 36) rfl ?_); refine RFn.goesM (some 7) Tryd.func36 #[.slice A0 l0.length c0, .func (.func g) #[] #[]] rfl ?_; refine (HI.out _ HR0.out).mono ?_; rintro e w' ⟨rfl, ⟨nd, rfl⟩⟩; refine ⟨_, rfl, ?_⟩))
  go_ret
  exact ⟨by rw [← HA.out]; rfl, by repeat (first | exact Drawn0.refl _ | apply Drawn0.step)⟩
/-- a string's bytes -/
def bytesL (s : ByteArray) : List Int := s.data.toList.map fun b => (b.toNat : Int)
theorem len_bytesL (s : ByteArray) : (bytesL s).length = s.size := by unfold bytesL; rw [List.length_map, Array.length_toList]; rfl
theorem bytesL_bd (s : ByteArray) : ∀ x ∈ bytesL s, 0 ≤ x ∧ x ≤ 255 := fun x hx => by
  obtain ⟨b, _, rfl⟩ := List.mem_map.1 hx
  have := b.toNat_lt; omega
theorem bytes_C (w : World) (e : Nat) (s : ByteArray) (hs : s.size ≤ 9223372036854775807) : Kd.C (Kd.int .u8) (Lib.bytesWorld w e s) (some ⟨w.heap.size, 0, none⟩) (bytesL s).length (bytesL s) := by
  rw [len_bytesL]
  refine ⟨len_bytesL s, hs, fun _ => ⟨_, rfl, fun j x hj => ⟨[.int .u8 x], rfl, rfl, fun i u hu => ?_⟩⟩⟩
  obtain ⟨hjl, hx⟩ := List.getElem?_eq_some_iff.1 hj
  rw [len_bytesL] at hjl
  cases i with
  | succ i => simp at hu
  | zero =>
    have hu' : u = .int .u8 x := by simpa using hu.symm
    subst hu'
    have h1 := Lib.bytesWorld_cell w e s j hjl
    have h2 : (⟨w.heap.size, 0, none⟩ : Addr).add (j * (Kd.int .u8).sz + 0) = ⟨w.heap.size, j, none⟩ := by
      show (⟨w.heap.size, 0, none⟩ : Addr).add (j * 1 + 0) = _
      unfold Addr.add
      split <;> simp_all
    rw [h2, h1]
    have : x = ((s.data.toList.getD j 0).toNat : Int) := by
      unfold bytesL at hj
      rw [List.getElem?_map] at hj
      rw [List.getD_eq_getElem?_getD]
      cases h : s.data.toList[j]? with
      | none => rw [h] at hj; cases hj
      | some b => rw [h] at hj; simpa using hj.symm
    rw [this]
theorem contains_bytes {g : Nat} {fn : Func} (hfn : Tryd.prog.funcs[g]? = some fn) (hname : (fn.name == "runtime.NumGoroutine") = false) (hbody : fn.body.isSome = true) {p : Int → Bool} (hp : GivesB g p) (c : Nat) (s : ByteArray) (W : World) (hs : s.size < 9223372036854775807) :
    Calls Tryd.prog 21 #[.slice (some ⟨W.heap.size, 0, none⟩) s.size c, .func (.func g) #[] #[]] (Lib.bytesWorld W 5 s) fun e w' => e = .returned (.bool ((bytesL s).any p)) ∧ Drawn0 (Lib.bytesWorld W 5 s) w' := by
  have h := contains_calls hfn hname hbody hp (some ⟨W.heap.size, 0, none⟩) c (bytesL s) (Lib.bytesWorld W 5 s) (bytes_C W 5 s (by omega)) (bytesL_bd s) (by rw [len_bytesL]; omega)
  rw [len_bytesL] at h
  exact h
theorem bytesWorld_below (w : World) (e : Nat) (s : ByteArray) {B : Nat} {w0 : World} (h : Below B w0 w) (hB : B ≤ w.heap.size) : Below B w0 (Lib.bytesWorld w e s) := by
  exact Lib.below_freeze ((Below.drew h).alloc hB _) (p := ⟨w.heap.size, _, none⟩) hB 1
end Go.Proofs.YtffdhekmnoajiaaDoor.X
