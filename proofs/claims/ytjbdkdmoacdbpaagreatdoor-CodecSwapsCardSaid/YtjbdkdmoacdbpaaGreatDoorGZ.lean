import Derived.Test.YtjbdkdmoacdbpaaGreatDoorProg
import Derived.WalkKit
import Derived.Defers
import Derived.Recover
import Derived.WalkSmall
import Derived.Laws.Pointers

import Derived.Test.YtjbdkdmoacdbpaaGreatDoorGX
import Derived.Test.YtjbdkdmoacdbpaaGreatDoorXLayItoa

import Derived.Test.YtjbdkdmoacdbpaaGreatDoorQx10
import Derived.Lib.ItoaLen

import Derived.Test.YtjbdkdmoacdbpaaGreatDoorGY
import Derived.RangeFuncBox
import Derived.RangeFuncNested

import Derived.Test.YtjbdkdmoacdbpaaGreatDoorXLaySplit

/- several texts of this session in one -/
set_option linter.unusedVariables false
set_option linter.unusedSimpArgs false
namespace Go.Proofs.YtjbdkdmoacdbpaaGreatDoor.XC
open Go Go.RowKit
theorem need_true (w : World) : Calls Tryz.prog 29 #[.bool true] w fun e w' => e = .returned (.tuple #[]) ∧ w' = w := by
  go_enter Tryz.func29, Tryz.ntmps29
  go_wp2
  go_end0
  exact ⟨rfl, rfl⟩
theorem need_false (w : World) : Calls Tryz.prog 29 #[.bool false] w fun e w' => e = .panicked [{ v := .iface 69 (.agg #[]), recovered := false }] ∧ w' = w := by
  go_enter Tryz.func29, Tryz.ntmps29

  go_wp2
  simp [bodyPost]
set_option maxRecDepth 100000 in
theorem given_panicking (p : Addr) (older : List PanicEntry) (w : World) (hc : ∀ o, (w.alloc o).cell? p = some (.bool false)) (hz : ∀ o, (w.alloc o).frozen? p = false) :
    CallsD Tryz.prog 20 #[.pointer (some p)] (.panicking ({ v := .iface 69 (.agg #[]), recovered := false } :: older)) w fun e u' w' =>
      e = .returned (.tuple #[]) ∧ u' = .panicking ({ v := .iface 69 (.agg #[]), recovered := true } :: older) ∧ w' = (w.alloc (.cells #[] 69)).setCell p (.bool true) := by
  refine callsD_of_wpS Tryz.func20 rfl fun c₀ cs hu => ?_
  apply wpS_seq
  apply wpS_region
  simp [wpOpsS, go_sem, recoverD, hu, Tryz.ntmps20, Exit.thenS]
  have hta : ∀ w : World, (Instr.typeAssert (.iface 69 (.agg #[])) 20 69 true).run Tryz.prog w = .ok (.tuple #[.agg #[], .bool true]) w := fun w => by kernel_rfl
  refine wpS_of_wp ?_
  rw [show #[Value.pointer (some p)] ++ (Array.replicate 12 undef).setIfInBounds 4 (Value.iface 69 (Value.agg #[])) = #[.pointer (some p), undef, undef, undef, undef, .iface 69 (.agg #[]), undef, undef, undef, undef, undef, undef, undef] from rfl]
  go_wp2
  simp [bodyPostS, results, Tryz.results20]
set_option maxRecDepth 100000 in
theorem given_idle (p : Addr) (w : World) : CallsD Tryz.prog 20 #[.pointer (some p)] .returning w fun e u' w' => e = .returned (.tuple #[]) ∧ u' = .returning ∧ w' = w := by
  refine callsD_of_wpS Tryz.func20 rfl fun c₀ cs hu => ?_
  apply wpS_seq
  apply wpS_region
  simp [wpOpsS, go_sem, recoverD, hu, Tryz.ntmps20, Exit.thenS]
  refine wpS_of_wp ?_
  rw [show #[Value.pointer (some p)] ++ (Array.replicate 12 undef).setIfInBounds 4 Value.nilIface = #[.pointer (some p), undef, undef, undef, undef, .nilIface, undef, undef, undef, undef, undef, undef, undef] from rfl]
  go_wp2
  cases c₀
  simp_all [bodyPostS, results, Tryz.results20]
set_option maxRecDepth 100000 in
theorem print1_up (up s e : Addr) (sv ev : Value) (u : FrameMode) (w : World) (hu : w.cell? up = some (.bool true)) (hs : w.cell? s = some sv) (hsz : w.frozen? s = false) (he : (w.setCell s (.string ⟨#[]⟩)).cell? e = some ev) (hez : (w.setCell s (.string ⟨#[]⟩)).frozen? e = false) :
    CallsD Tryz.prog 19 #[.pointer (some up), .pointer (some s), .pointer (some e)] u w fun r u' w' => u' = u ∧ (r = .returned (.tuple #[]) ∧ w' = (w.setCell s (.string ⟨#[]⟩)).setCell e (.int .i64 1)) := by
  go_enter_d Tryz.func19, Tryz.ntmps19
  go_wp2
  go_end0
  exact ⟨rfl, rfl⟩
set_option maxRecDepth 100000 in
theorem print1_not (up s e : Addr) (u : FrameMode) (w : World) (hu : w.cell? up = some (.bool false)) :
    CallsD Tryz.prog 19 #[.pointer (some up), .pointer (some s), .pointer (some e)] u w fun r u' w' => u' = u ∧ (r = .returned (.tuple #[]) ∧ w' = w) := by
  go_enter_d Tryz.func19, Tryz.ntmps19
  go_wp2
  go_end0
  exact ⟨rfl, rfl⟩
set_option maxRecDepth 100000 in
theorem parse1_up (up s e : Addr) (sv ev : Value) (u : FrameMode) (w : World) (hu : w.cell? up = some (.bool true)) (hs : w.cell? s = some sv) (hsz : w.frozen? s = false) (he : (w.setCell s (.slice none 0 0)).cell? e = some ev) (hez : (w.setCell s (.slice none 0 0)).frozen? e = false) :
    CallsD Tryz.prog 25 #[.pointer (some up), .pointer (some s), .pointer (some e)] u w fun r u' w' => u' = u ∧ (r = .returned (.tuple #[]) ∧ w' = (w.setCell s (.slice none 0 0)).setCell e (.int .i64 5)) := by
  go_enter_d Tryz.func25, Tryz.ntmps25
  go_wp2
  go_end0
  exact ⟨rfl, rfl⟩
set_option maxRecDepth 100000 in
theorem parse1_not (up s e : Addr) (u : FrameMode) (w : World) (hu : w.cell? up = some (.bool false)) :
    CallsD Tryz.prog 25 #[.pointer (some up), .pointer (some s), .pointer (some e)] u w fun r u' w' => u' = u ∧ (r = .returned (.tuple #[]) ∧ w' = w) := by
  go_enter_d Tryz.func25, Tryz.ntmps25
  go_wp2
  go_end0
  exact ⟨rfl, rfl⟩
end Go.Proofs.YtjbdkdmoacdbpaaGreatDoor.XC
namespace Go.Proofs.YtjbdkdmoacdbpaaGreatDoor.XC
open Go Go.RowKit Go.Proofs.YtjbdkdmoacdbpaaGreatDoorW.PrintWords Go.Proofs.YtjbdkdmoacdbpaaGreatDoorW.PrintLast Go.Proofs.YtjbdkdmoacdbpaaGreatDoorW.PrintMore Go.Proofs.YtjbdkdmoacdbpaaGreatDoor Go.Proofs.YtjbdkdmoacdbpaaGreatDoor.Q Go.Proofs.YtjbdkdmoacdbpaaGreatDoor.X
/-- what is given up with -/
def gaveUp : Ending := .panicked [{ v := .iface 69 (.agg #[]), recovered := false }]
def partB (p : ByteArray) : ByteArray := if p.size = 0 then ⟨#[45]⟩ else p
def keyOk (k : S48) : Bool := (decide (k.f3.size = 0) || nameB k.f3) && (nameB k.f0 && (nameB k.f1 && (nameB k.f2 && (decide (0 ≤ k.f4) && decide (k.f4 ≤ 4)))))
def wordsB (k : S48) : List ByteArray := [k.f0, k.f1, k.f2, partB k.f3, ⟨(Lib.itoa k.f4).toArray⟩]
set_option maxHeartbeats 8000000 in
set_option maxRecDepth 100000 in
theorem words_bad3 (k : S48) (w : World) (h0 : k.f3.size ≠ 0) (h1 : nameB k.f3 = false) :
    Calls Tryz.prog 35 #[.agg #[.string k.f0, .string k.f1, .string k.f2, .string k.f3, .int .i64 k.f4]] w fun e w' => e = gaveUp ∧ Below w.heap.size w w' := by
  have hne : (k.f3.toList == ([] : List UInt8)) = false := beq_eq_false_iff_ne.mpr (fun h => h0 (by have : k.f3.data.toList = [] := by rw [← Lib.toList_data]; exact h
                                                                                                    show k.f3.data.size = 0
                                                                                                    rw [← Array.length_toList, this]; rfl))
  clear h0
  go_enter Tryz.func35, Tryz.ntmps35
  go_wp2_with (first
    | ((with_reducible refine gate_dst (N := 1) rfl ?_); refine box_event ?hg (N := 1) ?hd (cs := #[.string k.f0, .string k.f1, .string k.f2, .string k.f3, .int .i64 k.f4]) (t := 48) ?hr ?_; (case hd => rfl); (case hg => rfl); (case hr => first | (go_simp; done) | (go_simp; rfl)); intro gb hgb w6 hbox hb; have z0 : w6.cell? ⟨gb, 0, none⟩ = some (.string k.f0) := (blk_cell hbox 0).trans rfl; have z1 : w6.cell? ⟨gb, 1, none⟩ = some (.string k.f1) := (blk_cell hbox 1).trans rfl; have z2 : w6.cell? ⟨gb, 2, none⟩ = some (.string k.f2) := (blk_cell hbox 2).trans rfl; have z3 : w6.cell? ⟨gb, 3, none⟩ = some (.string k.f3) := (blk_cell hbox 3).trans rfl; have z4 : w6.cell? ⟨gb, 4, none⟩ = some (.int .i64 k.f4) := (blk_cell hbox 4).trans rfl; have HB := Aside0.mk hb; clear hb hbox hgb)
    | (go_at_call 52; refine (name_calls _ _).mono ?_; rintro e w' ⟨rfl, hb2⟩; rw [h1])
    | (go_at_call 29; refine (need_false _).mono ?_; rintro e w'' ⟨rfl, rfl⟩))
  simp [bodyPost, gaveUp]
  exact below_step HB.out hb2
theorem itoa_calls (n : Int) (w : World) (h0 : -9223372036854775808 ≤ n) (h1 : n ≤ 9223372036854775807) (hL : LaidW w) :
    Calls Tryz.prog 34 #[.int .i64 n] w fun e w' => e = .returned (.string ⟨(Lib.itoa n).toArray⟩) ∧ Below w.heap.size w w' :=
  (Any.strconv_Itoa lays171 n h0 h1 w hL.pow).mono fun e w' ⟨he, k, os, hw⟩ => ⟨he, by rw [hw]; exact Lib.below_grow _ _ (Nat.le_refl _) _ _⟩
theorem cellA {W : World} {a : Addr} {v : Value} (h : W.cell? a = some v) (o : Obj) : (W.alloc o).cell? a = some v := (World.cell?_of_block (Below.heap_alloc W o a.block (World.block_lt_of_cell? W a h))).trans h
theorem lit_R (W : World) (ss : List ByteArray) (base : Nat) (hb : base ≤ W.heap.size) (hm : ss.length ≤ 9223372036854775807) (e : Nat) :
    Kd.R Kd.string e (W.alloc (.cells (encs Value.string ss).toArray e)) base (fun k => W.heap.size ≤ k) (.slice (some ⟨W.heap.size, 0, none⟩) ss.length ss.length) ss :=
  Kd.R_of_own (own_lit_of W base e ss hb hm) (fun k hk => by have : W.heap.size = k := by simpa [Value.ownBlock] using hk
                                                             omega)
set_option maxHeartbeats 8000000 in
set_option maxRecDepth 100000 in
theorem words_none (k : S48) (w : World) (hL : LaidW w) (h3 : k.f3.size = 0) :
    Calls Tryz.prog 35 #[.agg #[.string k.f0, .string k.f1, .string k.f2, .string k.f3, .int .i64 k.f4]] w fun e w' =>
      (keyOk k = true ∧ (∃ v, e = .returned v ∧ Kd.R Kd.string 9 w' w.heap.size (fun _ => True) v (wordsB k)) ∧ Below w.heap.size w w') ∨ (keyOk k = false ∧ e = gaveUp ∧ Below w.heap.size w w') := by
  have hne : (k.f3.toList == ([] : List UInt8)) = true := by
    rw [beq_iff_eq, Lib.toList_data]
    have : k.f3.data.size = 0 := h3
    rw [Array.eq_empty_of_size_eq_zero this]
  have hko : keyOk k = (([k.f0, k.f1, k.f2] : List ByteArray).all nameB && (decide (0 ≤ k.f4) && decide (k.f4 ≤ 4))) := by unfold keyOk; simp [h3, Bool.and_assoc]
  have hwd : wordsB k = [k.f0, k.f1, k.f2] ++ [⟨#[45]⟩, ⟨(Lib.itoa k.f4).toArray⟩] := by unfold wordsB partB; rw [if_pos h3]; rfl
  clear h3
  have HLD := Aside0.mk hL
  have HW := Aside0.mk hwd
  have HKO := Aside0.mk hko
  clear hL hwd hko
  go_enter Tryz.func35, Tryz.ntmps35
  go_wp2_with (first
    | ((with_reducible refine gate_dst (N := 1) rfl ?_); refine box_event ?hg (N := 1) ?hd (cs := #[.string k.f0, .string k.f1, .string k.f2, .string k.f3, .int .i64 k.f4]) (t := 48) ?hr ?_; (case hd => rfl); (case hg => rfl); (case hr => first | (go_simp; done) | (go_simp; rfl)); intro gb hgb w6 hbox hb; have z0 : w6.cell? ⟨gb, 0, none⟩ = some (.string k.f0) := (blk_cell hbox 0).trans rfl; have z1 : w6.cell? ⟨gb, 1, none⟩ = some (.string k.f1) := (blk_cell hbox 1).trans rfl; have z2 : w6.cell? ⟨gb, 2, none⟩ = some (.string k.f2) := (blk_cell hbox 2).trans rfl; have z3 : w6.cell? ⟨gb, 3, none⟩ = some (.string k.f3) := (blk_cell hbox 3).trans rfl; have z4 : w6.cell? ⟨gb, 4, none⟩ = some (.int .i64 k.f4) := (blk_cell hbox 4).trans rfl; have HB := Aside0.mk hb; clear hb hbox hgb))
  have HB7 := HB
  obtain ⟨xs, hxs⟩ : ∃ xs, [k.f0, k.f1, k.f2] = xs := ⟨_, rfl⟩
  have hR : Kd.R Kd.string 9 (w6.alloc (.cells #[.string k.f0, .string k.f1, .string k.f2] 9)) w.heap.size (fun j => w6.heap.size ≤ j) (.slice (some ⟨w6.heap.size, 0, none⟩) 3 3) [k.f0, k.f1, k.f2] := lit_R w6 [k.f0, k.f1, k.f2] w.heap.size HB7.out.size (by simp) 9
  rw [hxs] at hR
  have h3l : xs.length = 3 := by rw [← hxs]; rfl
  obtain ⟨w1, hw1⟩ : ∃ w1, w6.alloc (.cells #[.string k.f0, .string k.f1, .string k.f2] 9) = w1 := ⟨_, rfl⟩
  rw [hw1] at hR
  have hB1 : Below w.heap.size w w1 := by rw [← hw1]; exact HB7.out.alloc HB7.out.size _
  have hz1 : w1.cell? ⟨gb, 4, none⟩ = some (.int .i64 k.f4) := by rw [← hw1]; exact cellA z4 _
  rw [hw1]
  have HR := Aside0.mk hR
  have HB1 := Aside0.mk hB1
  have HX := Aside0.mk hxs
  have HZ := Aside0.mk hz1
  clear hR hB1 hxs hw1 hz1 z0 z1 z2 z3 z4
  go_loopg [23] 4 (fun kq v23 w' => ∃ (i : Nat), v23 = .int .i64 (i : Int) ∧ i ≤ 3 ∧ Aside0 (kq + i = 4) ∧ Aside0 (∀ x ∈ xs.take i, nameB x = true) ∧ Aside0 (Below w1.heap.size w1 w'))
  case atStart => exact ⟨0, rfl, by omega, ⟨rfl⟩, ⟨fun x hx => by simp at hx⟩, ⟨Below.refl _ _⟩⟩
  case round =>
    obtain ⟨i, rfl, hi, HK, HN, HBW⟩ := hrel
    by_cases c3 : i < 3
    · obtain ⟨k1, rfl⟩ : ∃ k1, gk = k1 + 1 := ⟨gk - 1, by have := HK.out; omega⟩
      have c3b0 : decide ((i : Int) < 3) = true := decide_eq_true (by omega)
      have c4b0 : decide (0 ≤ (i : Int)) = true := decide_eq_true (by omega)
      have hC := (Kd.R_reads' (Kd.R_below HR.out HBW.out)).2.2
      obtain ⟨ad, ea, hx⟩ := Kd.at_string hC (i : Int) (by omega) (by omega)
      cases ea
      obtain ⟨x, hxd⟩ : ∃ x, rdOf ByteArray.empty xs (i : Int) = x := ⟨_, rfl⟩
      have hxg : xs[i]'(by omega) = x := by rw [← hxd]; unfold rdOf; rw [Int.toNat_natCast, List.getD_eq_getElem?_getD, List.getElem?_eq_getElem (by omega)]; rfl
      rw [hxd, Int.toNat_natCast, add_plain] at hx
      have HXG := Aside0.mk hxg
      have p1 : (0 ≤ (i : Int)) = True := eq_true (by omega)
      have q1 : ((i : Int) < 3) = True := eq_true (by omega)
      have hw1 : wrap64 ((i : Int) + 1) = ((i + 1 : Nat) : Int) := by unfold wrap64; omega
      clear hC hxd hxg
      by_cases hn : nameB x = true
      · go_wp2_with (first
          | (go_at_call 52; refine (name_calls _ _).mono ?_; rintro e w8 ⟨rfl, hb8⟩; rw [hn]; have HB8 := Aside0.mk (below_step HBW.out hb8); clear hb8)
          | (go_at_call 29; refine (need_true _).mono ?_; rintro e w9 ⟨rfl, rfl⟩))
        go_roundg k1
        case measure => have := HK.out; omega
        case rel => exact ⟨i + 1, by first | rfl | rw [hw1] | simp, by omega, ⟨by have := HK.out; omega⟩, ⟨fun y hy => by
          rw [List.take_add_one, List.getElem?_eq_getElem (by omega), HXG.out] at hy
          rcases List.mem_append.1 hy with h | h
          · exact HN.out y h
          · obtain rfl : y = x := by simpa using h
            exact hn⟩, HB8⟩
      · rw [Bool.not_eq_true] at hn
        have hK0 : keyOk k = false := by
          rw [HKO.out, HX.out, List.all_eq_false.2 ⟨x, by rw [← HXG.out]; exact List.getElem_mem _, by rw [hn]; decide⟩]
          rfl
        go_wp2_with (first
          | (go_at_call 52; refine (name_calls _ _).mono ?_; rintro e w8 ⟨rfl, hb8⟩; rw [hn]; have HB8 := Aside0.mk (below_step HBW.out hb8); clear hb8)
          | (go_at_call 29; refine (need_false _).mono ?_; rintro e w9 ⟨rfl, rfl⟩))
        simp [bodyPost]
        exact ⟨hK0, rfl, HB1.out.trans (HB8.out.mono HB1.out.size)⟩
    · obtain rfl : i = 3 := by omega
      have c3b0 : decide (((3 : Nat) : Int) < 3) = false := by decide
      have hall : (xs.all nameB) = true := by
        rw [List.all_eq_true]
        intro y hy
        refine HN.out y ?_
        rw [List.take_of_length_le (by omega)]; exact hy
      have hko := HKO.out
      rw [HX.out, hall] at hko
      have hz := (HBW.out.cell (World.block_lt_of_cell? w1 _ HZ.out)).trans HZ.out
      have hBW : Below w.heap.size w _ := HB1.out.trans (HBW.out.mono HB1.out.size)
      have HBB := Aside0.mk hBW
      have HRW := Aside0.mk (Kd.R_below HR.out HBW.out)
      clear hBW hall
      by_cases m0 : 0 ≤ k.f4
      · have m0b : decide (0 ≤ k.f4) = true := decide_eq_true m0
        by_cases m1 : k.f4 ≤ 4
        · have m1b : decide (k.f4 ≤ 4) = true := decide_eq_true m1
          have HKT : keyOk k = true := by rw [hko, m0b, m1b]; rfl
          have HM := Aside0.mk (And.intro m0 m1)
          clear hko m0 m1
          go_wp2_with (first
            | (go_at_call 29; refine (need_true _).mono ?_; rintro e w9 ⟨rfl, rfl⟩)
            | (go_at_call 34; refine (itoa_calls k.f4 _ (by have := HM.out; omega) (by have := HM.out; omega) (HLD.out.below HBB.out)).mono ?_; rintro e w9 ⟨rfl, hb9⟩; have HB9 := Aside0.mk hb9; clear hb9)
            | ((with_reducible refine gate_dst (N := 46) rfl ?_); refine Kd.R_append_row Value.string ByteArray.empty (h1 := fun _ => rfl) (w0 := w) w.heap.size rfl (.tmp 40) (.tmp 45) 43 9 (.string ⟨#[]⟩) 16 rfl Tryz.underlying43 info9 rfl (by decide) (.slice (some ⟨w6.heap.size, 0, none⟩) 3 3) xs [⟨#[45]⟩, ⟨(Lib.itoa k.f4).toArray⟩] (some ⟨w9.heap.size, 0, none⟩) 2 2 (fun _ => True) rfl rfl (fun _ _ => trivial) ?aO ?aR ?aB ?aS ?aL ?_))
          case aO => exact Kd.R_mono (Kd.R_alloc (Kd.R_below HRW.out HB9.out) _) (fun _ _ => trivial)
          case aR => exact (Kd.R_reads' (lit_R w9 [⟨#[45]⟩, ⟨(Lib.itoa k.f4).toArray⟩] w9.heap.size (Nat.le_refl _) (by simp) 9)).2.2
          case aB => exact (below_step HBB.out HB9.out).alloc (below_step HBB.out HB9.out).size _
          case aS => exact ((below_step HBB.out HB9.out).alloc (below_step HBB.out HB9.out).size _).size
          case aL => rw [h3l]; decide
          intro v1 w10 hR10 hB10 _ _
          go_wp2
          go_ret
          exact .inl ⟨HKT, ⟨v1, rfl, by rw [HW.out, HX.out]; exact hR10⟩, hB10⟩
        · have m1b : decide (k.f4 ≤ 4) = false := decide_eq_false m1
          have hK0 : keyOk k = false := by rw [hko, m0b, m1b]; rfl
          clear hko
          go_wp2_with (first
            | (go_at_call 29; refine (need_false _).mono ?_; rintro e w9 ⟨rfl, rfl⟩))
          simp [bodyPost]
          first | exact ⟨hK0, rfl, HB1.out.trans (HB8.out.mono HB1.out.size)⟩ | exact ⟨hK0, rfl, HBB.out⟩ | exact .inr ⟨hK0, rfl, HBB.out⟩
      · have m0b : decide (0 ≤ k.f4) = false := decide_eq_false m0
        have hK0 : keyOk k = false := by rw [hko, m0b]; rfl
        clear hko
        go_wp2_with (first
          | (go_at_call 29; refine (need_false _).mono ?_; rintro e w9 ⟨rfl, rfl⟩))
        simp [bodyPost]
        first | exact ⟨hK0, rfl, HB1.out.trans (HB8.out.mono HB1.out.size)⟩ | exact ⟨hK0, rfl, HBB.out⟩ | exact .inr ⟨hK0, rfl, HBB.out⟩
set_option maxHeartbeats 8000000 in
set_option maxRecDepth 100000 in
theorem words_some (k : S48) (w : World) (hL : LaidW w) (h3 : k.f3.size ≠ 0) (h1 : nameB k.f3 = true) :
    Calls Tryz.prog 35 #[.agg #[.string k.f0, .string k.f1, .string k.f2, .string k.f3, .int .i64 k.f4]] w fun e w' =>
      (keyOk k = true ∧ (∃ v, e = .returned v ∧ Kd.R Kd.string 9 w' w.heap.size (fun _ => True) v (wordsB k)) ∧ Below w.heap.size w w') ∨ (keyOk k = false ∧ e = gaveUp ∧ Below w.heap.size w w') := by
  have hne : (k.f3.toList == ([] : List UInt8)) = false := beq_eq_false_iff_ne.mpr (fun h => h3 (by have : k.f3.data.toList = [] := by rw [← Lib.toList_data]; exact h
                                                                                                    show k.f3.data.size = 0
                                                                                                    rw [← Array.length_toList, this]; rfl))
  have hko : keyOk k = (([k.f0, k.f1, k.f2] : List ByteArray).all nameB && (decide (0 ≤ k.f4) && decide (k.f4 ≤ 4))) := by unfold keyOk; simp [h3, h1, Bool.and_assoc]
  have hwd : wordsB k = [k.f0, k.f1, k.f2] ++ [k.f3, ⟨(Lib.itoa k.f4).toArray⟩] := by unfold wordsB partB; rw [if_neg h3]; rfl
  clear h3
  have HLD := Aside0.mk hL
  have HW := Aside0.mk hwd
  have HKO := Aside0.mk hko
  clear hL hwd hko
  go_enter Tryz.func35, Tryz.ntmps35
  go_wp2_with (first
    | ((with_reducible refine gate_dst (N := 1) rfl ?_); refine box_event ?hg (N := 1) ?hd (cs := #[.string k.f0, .string k.f1, .string k.f2, .string k.f3, .int .i64 k.f4]) (t := 48) ?hr ?_; (case hd => rfl); (case hg => rfl); (case hr => first | (go_simp; done) | (go_simp; rfl)); intro gb hgb w6 hbox hb; have z0 : w6.cell? ⟨gb, 0, none⟩ = some (.string k.f0) := (blk_cell hbox 0).trans rfl; have z1 : w6.cell? ⟨gb, 1, none⟩ = some (.string k.f1) := (blk_cell hbox 1).trans rfl; have z2 : w6.cell? ⟨gb, 2, none⟩ = some (.string k.f2) := (blk_cell hbox 2).trans rfl; have z3 : w6.cell? ⟨gb, 3, none⟩ = some (.string k.f3) := (blk_cell hbox 3).trans rfl; have z4 : w6.cell? ⟨gb, 4, none⟩ = some (.int .i64 k.f4) := (blk_cell hbox 4).trans rfl; have HB := Aside0.mk hb; clear hb hbox hgb)
    | (go_at_call 52; refine (name_calls _ _).mono ?_; rintro e wn ⟨rfl, hbn⟩; rw [h1]; have HBn := Aside0.mk (below_step HB.out hbn); have y0 := (hbn.cell (World.block_lt_of_cell? w6 _ z0)).trans z0; have y1 := (hbn.cell (World.block_lt_of_cell? w6 _ z1)).trans z1; have y2 := (hbn.cell (World.block_lt_of_cell? w6 _ z2)).trans z2; have y4 := (hbn.cell (World.block_lt_of_cell? w6 _ z4)).trans z4; clear z0 z1 z2 z3 z4 hbn)
    | (go_at_call 29; refine (need_true _).mono ?_; rintro e w8 ⟨rfl, hw8⟩; rw [hw8]; clear hw8))
  have HB7 := HBn
  obtain ⟨xs, hxs⟩ : ∃ xs, [k.f0, k.f1, k.f2] = xs := ⟨_, rfl⟩
  have hR : Kd.R Kd.string 9 (wn.alloc (.cells #[.string k.f0, .string k.f1, .string k.f2] 9)) w.heap.size (fun j => wn.heap.size ≤ j) (.slice (some ⟨wn.heap.size, 0, none⟩) 3 3) [k.f0, k.f1, k.f2] := lit_R wn [k.f0, k.f1, k.f2] w.heap.size HB7.out.size (by simp) 9
  rw [hxs] at hR
  have h3l : xs.length = 3 := by rw [← hxs]; rfl
  obtain ⟨w1, hw1⟩ : ∃ w1, wn.alloc (.cells #[.string k.f0, .string k.f1, .string k.f2] 9) = w1 := ⟨_, rfl⟩
  rw [hw1] at hR
  have hB1 : Below w.heap.size w w1 := by rw [← hw1]; exact HB7.out.alloc HB7.out.size _
  have hz1 : w1.cell? ⟨gb, 4, none⟩ = some (.int .i64 k.f4) := by rw [← hw1]; exact cellA y4 _
  rw [hw1]
  have HR := Aside0.mk hR
  have HB1 := Aside0.mk hB1
  have HX := Aside0.mk hxs
  have HZ := Aside0.mk hz1
  clear hR hB1 hxs hw1 hz1 y0 y1 y2 y4
  go_loopg [23] 4 (fun kq v23 w' => ∃ (i : Nat), v23 = .int .i64 (i : Int) ∧ i ≤ 3 ∧ Aside0 (kq + i = 4) ∧ Aside0 (∀ x ∈ xs.take i, nameB x = true) ∧ Aside0 (Below w1.heap.size w1 w'))
  case atStart => exact ⟨0, rfl, by omega, ⟨rfl⟩, ⟨fun x hx => by simp at hx⟩, ⟨Below.refl _ _⟩⟩
  case round =>
    obtain ⟨i, rfl, hi, HK, HN, HBW⟩ := hrel
    by_cases c3 : i < 3
    · obtain ⟨k1, rfl⟩ : ∃ k1, gk = k1 + 1 := ⟨gk - 1, by have := HK.out; omega⟩
      have c3b0 : decide ((i : Int) < 3) = true := decide_eq_true (by omega)
      have c4b0 : decide (0 ≤ (i : Int)) = true := decide_eq_true (by omega)
      have hC := (Kd.R_reads' (Kd.R_below HR.out HBW.out)).2.2
      obtain ⟨ad, ea, hx⟩ := Kd.at_string hC (i : Int) (by omega) (by omega)
      cases ea
      obtain ⟨x, hxd⟩ : ∃ x, rdOf ByteArray.empty xs (i : Int) = x := ⟨_, rfl⟩
      have hxg : xs[i]'(by omega) = x := by rw [← hxd]; unfold rdOf; rw [Int.toNat_natCast, List.getD_eq_getElem?_getD, List.getElem?_eq_getElem (by omega)]; rfl
      rw [hxd, Int.toNat_natCast, add_plain] at hx
      have HXG := Aside0.mk hxg
      have p1 : (0 ≤ (i : Int)) = True := eq_true (by omega)
      have q1 : ((i : Int) < 3) = True := eq_true (by omega)
      have hw1 : wrap64 ((i : Int) + 1) = ((i + 1 : Nat) : Int) := by unfold wrap64; omega
      clear hC hxd hxg
      by_cases hn : nameB x = true
      · go_wp2_with (first
          | (go_at_call 52; refine (name_calls _ _).mono ?_; rintro e w8 ⟨rfl, hb8⟩; rw [hn]; have HB8 := Aside0.mk (below_step HBW.out hb8); clear hb8)
          | (go_at_call 29; refine (need_true _).mono ?_; rintro e w9 ⟨rfl, rfl⟩))
        go_roundg k1
        case measure => have := HK.out; omega
        case rel => exact ⟨i + 1, by first | rfl | rw [hw1] | simp, by omega, ⟨by have := HK.out; omega⟩, ⟨fun y hy => by
          rw [List.take_add_one, List.getElem?_eq_getElem (by omega), HXG.out] at hy
          rcases List.mem_append.1 hy with h | h
          · exact HN.out y h
          · obtain rfl : y = x := by simpa using h
            exact hn⟩, HB8⟩
      · rw [Bool.not_eq_true] at hn
        have hK0 : keyOk k = false := by
          rw [HKO.out, HX.out, List.all_eq_false.2 ⟨x, by rw [← HXG.out]; exact List.getElem_mem _, by rw [hn]; decide⟩]
          rfl
        go_wp2_with (first
          | (go_at_call 52; refine (name_calls _ _).mono ?_; rintro e w8 ⟨rfl, hb8⟩; rw [hn]; have HB8 := Aside0.mk (below_step HBW.out hb8); clear hb8)
          | (go_at_call 29; refine (need_false _).mono ?_; rintro e w9 ⟨rfl, rfl⟩))
        simp [bodyPost]
        exact ⟨hK0, rfl, HB1.out.trans (HB8.out.mono HB1.out.size)⟩
    · obtain rfl : i = 3 := by omega
      have c3b0 : decide (((3 : Nat) : Int) < 3) = false := by decide
      have hall : (xs.all nameB) = true := by
        rw [List.all_eq_true]
        intro y hy
        refine HN.out y ?_
        rw [List.take_of_length_le (by omega)]; exact hy
      have hko := HKO.out
      rw [HX.out, hall] at hko
      have hz := (HBW.out.cell (World.block_lt_of_cell? w1 _ HZ.out)).trans HZ.out
      have hBW : Below w.heap.size w _ := HB1.out.trans (HBW.out.mono HB1.out.size)
      have HBB := Aside0.mk hBW
      have HRW := Aside0.mk (Kd.R_below HR.out HBW.out)
      clear hBW hall
      by_cases m0 : 0 ≤ k.f4
      · have m0b : decide (0 ≤ k.f4) = true := decide_eq_true m0
        by_cases m1 : k.f4 ≤ 4
        · have m1b : decide (k.f4 ≤ 4) = true := decide_eq_true m1
          have HKT : keyOk k = true := by rw [hko, m0b, m1b]; rfl
          have HM := Aside0.mk (And.intro m0 m1)
          clear hko m0 m1
          go_wp2_with (first
            | (go_at_call 29; refine (need_true _).mono ?_; rintro e w9 ⟨rfl, rfl⟩)
            | (go_at_call 34; refine (itoa_calls k.f4 _ (by have := HM.out; omega) (by have := HM.out; omega) (HLD.out.below HBB.out)).mono ?_; rintro e w9 ⟨rfl, hb9⟩; have HB9 := Aside0.mk hb9; clear hb9)
            | ((with_reducible refine gate_dst (N := 46) rfl ?_); refine Kd.R_append_row Value.string ByteArray.empty (h1 := fun _ => rfl) (w0 := w) w.heap.size rfl (.tmp 40) (.tmp 45) 43 9 (.string ⟨#[]⟩) 16 rfl Tryz.underlying43 info9 rfl (by decide) (.slice (some ⟨wn.heap.size, 0, none⟩) 3 3) xs [k.f3, ⟨(Lib.itoa k.f4).toArray⟩] (some ⟨w9.heap.size, 0, none⟩) 2 2 (fun _ => True) rfl rfl (fun _ _ => trivial) ?aO ?aR ?aB ?aS ?aL ?_))
          case aO => exact Kd.R_mono (Kd.R_alloc (Kd.R_below HRW.out HB9.out) _) (fun _ _ => trivial)
          case aR => exact (Kd.R_reads' (lit_R w9 [k.f3, ⟨(Lib.itoa k.f4).toArray⟩] w9.heap.size (Nat.le_refl _) (by simp) 9)).2.2
          case aB => exact (below_step HBB.out HB9.out).alloc (below_step HBB.out HB9.out).size _
          case aS => exact ((below_step HBB.out HB9.out).alloc (below_step HBB.out HB9.out).size _).size
          case aL => rw [h3l]; decide
          intro v1 w10 hR10 hB10 _ _
          go_wp2
          go_ret
          exact .inl ⟨HKT, ⟨v1, rfl, by rw [HW.out, HX.out]; exact hR10⟩, hB10⟩
        · have m1b : decide (k.f4 ≤ 4) = false := decide_eq_false m1
          have hK0 : keyOk k = false := by rw [hko, m0b, m1b]; rfl
          clear hko
          go_wp2_with (first
            | (go_at_call 29; refine (need_false _).mono ?_; rintro e w9 ⟨rfl, rfl⟩))
          simp [bodyPost]
          first | exact ⟨hK0, rfl, HB1.out.trans (HB8.out.mono HB1.out.size)⟩ | exact ⟨hK0, rfl, HBB.out⟩ | exact .inr ⟨hK0, rfl, HBB.out⟩
      · have m0b : decide (0 ≤ k.f4) = false := decide_eq_false m0
        have hK0 : keyOk k = false := by rw [hko, m0b]; rfl
        clear hko
        go_wp2_with (first
          | (go_at_call 29; refine (need_false _).mono ?_; rintro e w9 ⟨rfl, rfl⟩))
        simp [bodyPost]
        first | exact ⟨hK0, rfl, HB1.out.trans (HB8.out.mono HB1.out.size)⟩ | exact ⟨hK0, rfl, HBB.out⟩ | exact .inr ⟨hK0, rfl, HBB.out⟩
theorem words_calls (k : S48) (w : World) (hL : LaidW w) :
    Calls Tryz.prog 35 #[.agg #[.string k.f0, .string k.f1, .string k.f2, .string k.f3, .int .i64 k.f4]] w fun e w' =>
      (keyOk k = true ∧ (∃ v, e = .returned v ∧ Kd.R Kd.string 9 w' w.heap.size (fun _ => True) v (wordsB k)) ∧ Below w.heap.size w w') ∨ (keyOk k = false ∧ e = gaveUp ∧ Below w.heap.size w w') := by
  by_cases h : k.f3.size = 0
  · exact words_none k w hL h
  · by_cases h1 : nameB k.f3 = true
    · exact words_some k w hL h h1
    · rw [Bool.not_eq_true] at h1
      exact (words_bad3 k w h h1).mono fun e w' ⟨he, hb⟩ => .inr ⟨by unfold keyOk; simp [h, h1], he, hb⟩
end Go.Proofs.YtjbdkdmoacdbpaaGreatDoor.XC
namespace Go.Proofs.YtjbdkdmoacdbpaaGreatDoor.XC
open Go Go.RowKit Go.Proofs.YtjbdkdmoacdbpaaGreatDoorW.PrintWords Go.Proofs.YtjbdkdmoacdbpaaGreatDoorW.PrintLast Go.Proofs.YtjbdkdmoacdbpaaGreatDoorW.PrintMore Go.Proofs.YtjbdkdmoacdbpaaGreatDoor Go.Proofs.YtjbdkdmoacdbpaaGreatDoor.Q Go.Proofs.YtjbdkdmoacdbpaaGreatDoor.X
/-- a call that may give up, in a region that draws -/
theorem goesP {P : Program} {ops : Array Oper} {Q : Exit → Act → World → Prop} {oi : Oper} {N : Option Tmp} {a : Act} {w : World} {K : Act → World → Prop} {f : FuncId} {fn : Func} {as_ : Array Operand} {ts : Array TypeId} (hf : P.funcs[f]? = some fn) (args : Array Value) (hop : oi.op = .call { callee := .value (.func f), args := as_, argTypes := ts })
    (h : Calls P f args w fun e w' => (∃ v, e = .returned v ∧ K (a.put N v) w') ∨ (∃ c, e = .panicked c ∧ Q (.panic c) a w'))
    (hname : (fn.name == "runtime.NumGoroutine") = false := by kernel_rfl) (hb : fn.body.isSome = true := by rfl) (hw : Region.wanted oi (yielded ops a.tmps) = true := by rfl) (hN : oi.dst = N := by rfl)
    (hargs : as_.map a.eval = args := by (try simp only [List.map_toArray, List.map_cons, List.map_nil]); first | done | rfl) : if Region.wanted oi (yielded ops a.tmps) = true then Oper.wp P oi a w K Q else K (a.put N undef) w := by
  rw [if_pos hw]
  subst hN
  have he := enters_ hf hname hb args w
  have hrun : (execOp a.eval oi).run P w = .ok (.enter f args) w := by
    unfold execOp
    simp [hop, resolve, Deferred.ofValue, invoke, Act.eval, hargs, he]
  unfold Oper.wp
  rw [hrun, Oper.upon_enter]
  refine h.mono fun e w'' hh => ?_
  rcases hh with ⟨v, rfl, hk⟩ | ⟨c, rfl, hk⟩ <;> exact hk
def lineTx (x : S50) : List UInt8 := joinB (wordsB x.f0 ++ [⟨(Lib.itoa x.f1).toArray⟩]) ++ [10]
def headTx (n : Nat) : List UInt8 := [99, 117, 98, 101, 32] ++ Lib.itoa n ++ [10]
def bodyTx (l : List S50) : List UInt8 := (l.map lineTx).flatten
theorem bodyTx_succ (l : List S50) (i : Nat) (h : i < l.length) : bodyTx (l.take (i + 1)) = bodyTx (l.take i) ++ lineTx l[i] := by
  unfold bodyTx
  rw [List.take_add_one, List.getElem?_eq_getElem h, List.map_append, List.flatten_append]
  simp
theorem bodyTx_le (l : List S50) (i : Nat) : (bodyTx (l.take i)).length ≤ (bodyTx l).length := by
  conv => rhs; rw [← List.take_append_drop i l]
  unfold bodyTx
  rw [List.map_append, List.flatten_append, List.length_append]; omega
def Small (l : List S50) : Prop := (bodyTx l).length ≤ 100000000000 ∧ l.length ≤ 1000000 ∧ ∀ x ∈ l, -9223372036854775808 ≤ x.f1 ∧ x.f1 ≤ 9223372036854775807
def printed.T7 : Bool × List (List Nat × List Nat) := (true, [([], []), ([0], [0]), ([1], [1]), ([], []), ([3], [3]), ([4, 2], [4]), ([5], [5]), ([2, 6, 5], [2, 6]), ([7, 7, 0, 1, 2, 3, 4, 5, 6, 7], [7])])
def printed.B7 : List Nat := [0, 1, 3, 0, 8, 31, 63, 127, 255]
theorem printed.tab7 : rtab .any (opsOf Tryz.f21 7) = printed.T7 := by kernel_rfl
theorem printed.bits7 : waitsOk printed.T7.2 printed.B7 = true := by kernel_rfl
theorem put6 {W w6 : World} {gb : Nat} {t : TypeId} (hk : w6.heap[gb]? = some (.cells #[.string ⟨#[]⟩, .string ⟨#[]⟩, .string ⟨#[]⟩, .string ⟨#[]⟩, .int .i64 0, .int .i64 0] t (0, 0))) (hb : Below W.heap.size W w6) (hg : W.heap.size ≤ gb) (a b c d : ByteArray) (m n : Int) :
    ∃ w7, ((((((w6.setCell ⟨gb, 0, none⟩ (.string a)).setCell ⟨gb, 1, none⟩ (.string b)).setCell ⟨gb, 2, none⟩ (.string c)).setCell ⟨gb, 3, none⟩ (.string d)).setCell ⟨gb, 4, none⟩ (.int .i64 m)).setCell ⟨gb, 5, none⟩ (.int .i64 n)) = w7 ∧ w7.heap[gb]? = some (.cells #[.string a, .string b, .string c, .string d, .int .i64 m, .int .i64 n] t (0, 0)) ∧ Below W.heap.size W w7 := by
  refine ⟨_, rfl, ?_, ?_⟩
  · refine blk_put (cs := #[.string a, .string b, .string c, .string d, .int .i64 m, .int .i64 0]) ?_ 5 _ rfl
    refine blk_put (cs := #[.string a, .string b, .string c, .string d, .int .i64 0, .int .i64 0]) ?_ 4 _ rfl
    refine blk_put (cs := #[.string a, .string b, .string c, .string ⟨#[]⟩, .int .i64 0, .int .i64 0]) ?_ 3 _ rfl
    refine blk_put (cs := #[.string a, .string b, .string ⟨#[]⟩, .string ⟨#[]⟩, .int .i64 0, .int .i64 0]) ?_ 2 _ rfl
    refine blk_put (cs := #[.string a, .string ⟨#[]⟩, .string ⟨#[]⟩, .string ⟨#[]⟩, .int .i64 0, .int .i64 0]) ?_ 1 _ rfl
    exact blk_put (cs := #[.string ⟨#[]⟩, .string ⟨#[]⟩, .string ⟨#[]⟩, .string ⟨#[]⟩, .int .i64 0, .int .i64 0]) hk 0 _ rfl
  · exact (((((hb.setCell (p := ⟨gb, 0, none⟩) hg _).setCell (p := ⟨gb, 1, none⟩) hg _).setCell (p := ⟨gb, 2, none⟩) hg _).setCell (p := ⟨gb, 3, none⟩) hg _).setCell (p := ⟨gb, 4, none⟩) hg _).setCell (p := ⟨gb, 5, none⟩) hg _
set_option maxHeartbeats 8000000 in
set_option maxRecDepth 100000 in
theorem printed_calls (A0 : Option Addr) (c0 : Nat) (l0 : List S50) (K0 : Nat) (r : Bool) (w : World) (hr0 : Kd.C k50 w A0 l0.length l0) (hc0 : l0.length ≤ c0) (hright : fact_Right.f K0 l0 = some r) (hsm : Small l0) (hL : LaidW w) :
    Calls Tryz.prog 21 #[.slice A0 l0.length c0] w fun e w' => (((r && l0.all fun x => keyOk x.f0) = true ∧ e = .returned (.string ⟨(headTx l0.length ++ bodyTx l0).toArray⟩)) ∨ ((r && l0.all fun x => keyOk x.f0) = false ∧ e = gaveUp)) ∧ Below w.heap.size w w' := by
  have hmax : l0.length ≤ 9223372036854775807 := hr0.2.1
  obtain ⟨ok, hok⟩ : ∃ ok, (r && l0.all fun x => keyOk x.f0) = ok := ⟨_, rfl⟩
  rw [hok]
  have HOK := Aside0.mk hok
  have HR0 := Aside0.mk hr0
  have HRT := Aside0.mk hright
  have HSM := Aside0.mk hsm
  have HLD := Aside0.mk hL
  clear hok hr0 hright hsm hL
  cases r with
  | false =>
    have h0 : ok = false := by rw [← HOK.out]; rfl
    go_enter Tryz.func21, Tryz.ntmps21
    go_wp2_with (first
      | (go_at_call 17; refine (fact_Right.calls K0 A0 c0 l0 false _ HR0.out hc0 HRT.out).mono ?_; rintro e w1 ⟨rfl, hb1⟩)
      | (go_at_call 29; refine (need_false _).mono ?_; rintro e w2 ⟨rfl, rfl⟩))
    simp [bodyPost]
    exact ⟨⟨h0, rfl⟩, hb1⟩
  | true =>
    obtain ⟨hd, hhd⟩ : ∃ hd, headTx l0.length = hd := ⟨_, rfl⟩
    have hhl : hd.length ≤ 1000 := by
      have := Lib.itoa_length_le (l0.length : Int) (by omega) (by omega)
      rw [← hhd]; unfold headTx
      simp
      omega
    have hdt : headTx l0.length = ([] ++ ((⟨#[99, 117, 98, 101, 32]⟩ : ByteArray) ++ ⟨(Lib.itoa (l0.length : Int)).toArray⟩ ++ ⟨#[10]⟩).data.toList) := by
      unfold headTx; simp [ByteArray.data_append]
    have HDT := Aside0.mk (hdt.symm.trans hhd)
    have hil := Lib.itoa_length_le (l0.length : Int) (by omega) (by omega)
    have q5 : (9223372036854775807 < 5 + (Lib.itoa (l0.length : Int)).length) = False := eq_false (by omega)
    have q6 : (9223372036854775807 < 5 + (Lib.itoa (l0.length : Int)).length + 1) = False := eq_false (by omega)
    have HHD := Aside0.mk hhd
    have HIL := Aside0.mk hil
    clear hdt hil
    go_enter Tryz.func21, Tryz.ntmps21
    go_wp2_with (first
      | (go_at_call 17; refine (fact_Right.calls K0 A0 c0 l0 true _ HR0.out hc0 HRT.out).mono ?_; rintro e w1 ⟨rfl, hb1⟩; have HB1 := Aside0.mk hb1; clear hb1)
      | (go_at_call 29; refine (need_true _).mono ?_; rintro e w2 ⟨rfl, hw2⟩; rw [hw2]; clear hw2)
      | (go_at_call 34; refine (itoa_calls (l0.length : Int) _ (by omega) (by omega) (HLD.out.below (HB1.out.alloc HB1.out.size _))).mono ?_; rintro e w3 ⟨rfl, hb3⟩; have HI3 := Aside0.mk (IsB.below (IsB.new w1 HB1.out.size) hb3); have HB3 := Aside0.mk (below_step (HB1.out.alloc HB1.out.size _) hb3); clear hb3)
      | (go_at_call 33; refine (writeString_calls _ _ HI3.out (by have := HIL.out; simp only [List.length_nil, ByteArray.size, ByteArray.data_append, Array.size_append, List.size_toArray, List.length_cons]; omega) HB3.out.size).mono ?_; rintro e w4 ⟨rfl, hi4, hb4⟩; rw [HDT.out] at hi4; have HI4 := Aside0.mk hi4; have HB4 := Aside0.mk (HB3.out.trans hb4); clear hi4 hb4))
    obtain ⟨gB, hgB⟩ : ∃ gB, w1.heap.size = gB := ⟨_, rfl⟩
    rw [hgB] at HI4 HI3 ⊢
    clear HI3 q5 q6 hgB
    go_loopg [18] (l0.length + 1) (fun kq v18 w' => ∃ (i : Nat), v18 = .int .i64 (i : Int) ∧ i ≤ l0.length ∧ Aside0 (kq + i = l0.length + 1) ∧ Aside0 (∀ x ∈ l0.take i, keyOk x.f0 = true) ∧ Aside0 (IsB w.heap.size gB (hd ++ bodyTx (l0.take i)) w') ∧ Aside0 (Below w.heap.size w w'))
    case atStart => exact ⟨0, rfl, Nat.zero_le _, ⟨by omega⟩, ⟨fun x hx => by simp at hx⟩, ⟨by simpa [bodyTx] using HI4.out⟩, HB4⟩
    case round =>
      obtain ⟨i, rfl, hi, HK, HN, HI, HB⟩ := hrel
      by_cases c3 : i < l0.length
      · have hk := HK.out
        obtain ⟨k1, rfl⟩ : ∃ k1, gk = k1 + 1 := ⟨gk - 1, by omega⟩
        have c3b0 : decide ((i : Int) < (l0.length : Int)) = true := decide_eq_true (by omega)
        have c4b0 : decide (0 ≤ (i : Int)) = true := decide_eq_true (by omega)
        have hC := Kd.C_below HR0.out HB.out
        obtain ⟨ad, rfl, x0, x1, x2, x3, x4, x5⟩ := at_T50 hC (i : Int) (by omega) (by omega)
        obtain ⟨xe, hxe⟩ : ∃ xe, rd_T50 l0 (i : Int) = xe := ⟨_, rfl⟩
        have hxg : l0[i] = xe := by rw [← hxe]; unfold rd_T50; rw [Int.toNat_natCast, List.getD_eq_getElem?_getD, List.getElem?_eq_getElem c3]; rfl
        rw [hxe] at x0 x1 x2 x3 x4 x5
        rw [Int.toNat_natCast] at x0 x1 x2 x3 x4 x5
        have hsucc := bodyTx_succ l0 i c3
        rw [hxg] at hsucc
        have hle := bodyTx_le l0 (i + 1)
        rw [hsucc] at hle
        simp only [lineTx, List.length_append, List.length_cons, List.length_nil] at hle
        have hrg := HSM.out.2.2 xe (by rw [← hxg]; exact List.getElem_mem c3)
        have hsz := HSM.out.1
        have hw1 : wrap64 ((i : Int) + 1) = ((i + 1 : Nat) : Int) := by unfold wrap64; omega
        have p1 : (0 ≤ (i : Int)) = True := eq_true (by omega)
        have q1 : ((i : Int) < (l0.length : Int)) = True := eq_true (by omega)
        have HXG := Aside0.mk hxg
        have HSU := Aside0.mk hsucc
        have HLE := Aside0.mk hle
        have HRG := Aside0.mk hrg
        have HSZ := Aside0.mk hsz
        clear hk hC hxe hxg hle hrg hsz hsucc
        go_wp2_with (first
          | ((with_reducible refine gate_dst (N := 5) rfl ?_); refine box_event ?hg (N := 5) ?hd (cs := #[.string ⟨#[]⟩, .string ⟨#[]⟩, .string ⟨#[]⟩, .string ⟨#[]⟩, .int .i64 0, .int .i64 0]) (t := 50) ?hr ?_; (case hd => rfl); (case hg => rfl); (case hr => first | (go_simp; done) | (go_simp; rfl)); intro gb hgb w6 hbox hb; have BK := Aside0.mk hbox; have HB6 := Aside0.mk hb; have HGB := Aside0.mk hgb; obtain ⟨z0, z1, z2, z3, z4, z5⟩ := RFn.bc6 BK; obtain ⟨f0, f1, f2, f3, f4, f5⟩ := RFn.bf6 BK; clear hgb hbox hb x0 x1 x2 x3 x4 x5))
        clear z0 z1 z2 z3 z4 z5 f0 f1 f2 f3 f4 f5
        obtain ⟨w7, hw7, BK7, hb7⟩ := put6 BK.out HB6.out (Nat.le_of_eq HGB.out.symm) xe.f0.f0 xe.f0.f1 xe.f0.f2 xe.f0.f3 xe.f0.f4 xe.f1
        rw [hw7]
        have BKx := Aside0.mk (blk_drew BK7)
        have HBx := Aside0.mk (below_drew1 hb7)
        clear hw7 BK7 hb7 BK HB6
        refine start_ (n := 9) (S := fun w' => w'.cell? ⟨gb, 0, none⟩ = some (.string xe.f0.f0) ∧ w'.cell? ⟨gb, 1, none⟩ = some (.string xe.f0.f1) ∧ w'.cell? ⟨gb, 2, none⟩ = some (.string xe.f0.f2) ∧ w'.cell? ⟨gb, 3, none⟩ = some (.string xe.f0.f3) ∧ w'.cell? ⟨gb, 4, none⟩ = some (.int .i64 xe.f0.f4) ∧ w'.cell? ⟨gb, 5, none⟩ = some (.int .i64 xe.f1)) (ds := [5, 6, 7, 8]) (bz 9 0) (by kernel_rfl) rfl rfl (RFn.bc6 BKx) (fun hHeld => ?_); refine with_tabW printed.tab7 printed.bits7 (fun HT_ HW_ => ?_)
        generalize w7.drew = w8 at BKx HBx hHeld ⊢
        refine RFn.pA (i := 0) (N := some 22) (bz 9 1) HT_ ?_
        refine RFn.pA (i := 3) (N := some 25) (bz 9 9) HT_ ?_
        refine RFn.tA (i := 1) (N := some 23) (bz 9 11) rfl HT_ HW_ hHeld (by rintro w' ⟨s0, s1, s2, s3, s4, s5⟩; go_simp; with_reducible rfl) ?_
        refine RFn.tA (i := 4) (N := some 26) (bz 9 27) rfl HT_ HW_ hHeld (by rintro w' ⟨s0, s1, s2, s3, s4, s5⟩; go_simp; with_reducible rfl) ?_
        refine RFn.o1 (i := 2) (N := some 24) (bz 9 31) HT_ fun K hK => ?_
        refine goesP Tryz.func35 #[.agg #[.string xe.f0.f0, .string xe.f0.f1, .string xe.f0.f2, .string xe.f0.f3, .int .i64 xe.f0.f4]] rfl ?_
        refine (words_calls xe.f0 _ (HLD.out.below (below_step HB.out HBx.out))).mono ?_
        rintro e w9 (⟨hko, ⟨v, rfl, hR9⟩, hb9⟩ | ⟨hko, rfl, hb9⟩)
        case inr =>
          refine .inr ⟨_, rfl, ?_⟩
          have h0 : ok = false := by
            rw [← HOK.out, List.all_eq_false.2 ⟨xe, by rw [← HXG.out]; exact List.getElem_mem c3, by rw [hko]; decide⟩]
            rfl
          simp +zetaDelta only [Exit.then, Exit.inBlock]
          simp [bodyPost]
          exact ⟨⟨h0, rfl⟩, below_step (below_step HB.out HBx.out) hb9⟩
        case inl =>
          refine .inl ⟨_, rfl, ?_⟩
          obtain ⟨A9, c9, rfl⟩ := Kd.R_slice hR9
          have HR9 := Aside0.mk hR9
          have HB9 := Aside0.mk (below_step (below_step HB.out HBx.out) hb9)
          have HC9 := Aside0.mk (below_step HBx.out hb9)
          refine hK.out _ _ (RFn.hs hb9 hHeld) (fun _ => ?_)
          clear hK K hHeld hR9
          refine RFn.nm (some 24) ?_
          refine last_ (i := 5) (N := some 27) (bz 9 63) rfl rfl (one_of HT_.out (by kernel_rfl)) (by decide) (fun K hK => ?_)
          refine RFn.gA Tryz.func36 #[.int .i64 xe.f1] rfl ?_
          refine (print_walk xe.f1 HRG.out.1 HRG.out.2 _ (HLD.out.below HB9.out)).mono ?_
          rintro e w10 ⟨rfl, hb10⟩
          refine ⟨_, rfl, ?_⟩
          have HR10 := Aside0.mk (Kd.R_below HR9.out hb10)
          have HC10 := Aside0.mk (below_step HC9.out hb10)
          refine hK.out _ _ ?_
          clear hK K HR9 HB9 hb10
          refine RFn.nm (some 27) ?_
          refine last_ (i := 6) (N := some 28) (bz 9 127) rfl rfl (one_of HT_.out (by kernel_rfl)) (by decide) (fun K hK => ?_)
          refine value_ (N := some 28) (w1 := w10.alloc (.cells #[.string ⟨(Lib.itoa xe.f1).toArray⟩] 9)) (v := .slice (some ⟨w10.heap.size, 0, none⟩) 1 1) rfl rfl (by first | (go_simp; done) | (go_simp; rfl)) ?_
          refine hK.out _ _ ?_
          clear hK K
          refine RFn.nm (some 28) ?_
          refine last_ (i := 7) (N := some 29) (bz 9 255) rfl rfl (one_of HT_.out (by kernel_rfl)) (by decide) (fun K hK => ?_)
          refine Kd.R_append_step Kd.string (w0 := wr) wr.heap.size rfl (.tmp 24) (.tmp 28) 43 9 (.string ⟨#[]⟩) 16 rfl Tryz.underlying43 info9 rfl (by decide) (by omega) (.slice A9 (wordsB xe.f0).length c9) (wordsB xe.f0) ⟨(Lib.itoa xe.f1).toArray⟩ [.string ⟨(Lib.itoa xe.f1).toArray⟩] (fun _ => True) (fun _ => False) rfl rfl rfl (fun _ h => h.elim) (fun _ _ => trivial) ?aO ?aB ?aS ?aL ?_
          case aO => exact Kd.R_lower HR10.out HBx.out.size
          case aB => exact HC10.out
          case aS => exact HC10.out.size
          case aL => show (5 + 1) * 16 ≤ _; decide
          intro v11 w11 hR11 hB11 _ _
          obtain ⟨ws, hws⟩ : ∃ ws, wordsB xe.f0 ++ [⟨(Lib.itoa xe.f1).toArray⟩] = ws := ⟨_, rfl⟩
          have HL6 : Aside0 (ws.length = 6) := ⟨by rw [← hws]; rfl⟩
          rw [hws] at hR11
          obtain ⟨A11, c11, rfl⟩ := Kd.R_slice hR11
          have HR11 := Aside0.mk hR11
          have HB11 := Aside0.mk (below_step HB.out hB11)
          have HI11 := Aside0.mk (IsB.below HI.out hB11)
          refine hK.out _ _ ?_
          clear hK K hR11 hB11
          refine RFn.nm (some 29) ?_
          refine RFn.pA (i := 8) (N := some 6) (bz 9 511) HT_ ?_
          refine RFn.dn HT_ ?_
          have hsu := HSU.out
          have hle := HLE.out
          unfold lineTx at hsu
          rw [hws] at hsu hle
          have HSU2 := Aside0.mk hsu
          have HLE2 := Aside0.mk hle
          have hCw := Aside0.mk (Kd.R_reads' HR11.out)
          have hjl : (9223372036854775807 < (joinB ws).length + 1) = False := eq_false (by have := HSZ.out; omega)
          clear hsu hle HSU HLE HR11 HR10 hws BKx
          clear HT_ HW_ hhd HDT HIL HHD HI4 HB4 HB3 HC9 HC10 HBx hb9 HRG HR0
          go_wp2_with (first
            | (go_at_call 37; refine (join_calls A11 c11 ws _ hCw.out.2.2 hCw.out.2.1 (by have := HL6.out; omega) (by have := HLE2.out; have := HSZ.out; omega)).mono ?_; rintro e w12 ⟨rfl, hb12⟩; have HI12 := Aside0.mk (IsB.below HI11.out hb12); have HB12 := Aside0.mk (below_step HB11.out hb12); clear hb12)
            | (go_at_call 33; refine (writeString_calls _ _ HI12.out (by have := HLE2.out; have := HSZ.out; simp only [List.length_append, ByteArray.size, ByteArray.data_append, Array.size_append, List.size_toArray, List.length_cons, List.length_nil]; omega) HB12.out.size).mono ?_; rintro e w13 ⟨rfl, hi13, hb13⟩; have HI13 := Aside0.mk hi13; have HB13 := Aside0.mk (HB12.out.trans hb13); clear hi13 hb13))
          go_roundg k1
          case measure => have := HK.out; omega
          case rel => exact ⟨i + 1, by first | rfl | rw [hw1] | simp, by omega, ⟨by have := HK.out; omega⟩, ⟨fun y hy => by
            rw [List.take_add_one, List.getElem?_eq_getElem c3, HXG.out] at hy
            rcases List.mem_append.1 hy with h | h
            · exact HN.out y h
            · obtain rfl : y = xe := by simpa using h
              exact hko⟩, ⟨by rw [HSU2.out, ← List.append_assoc]; simpa [ByteArray.data_append] using HI13.out⟩, HB13⟩
      · have c3b0 : decide ((i : Int) < (l0.length : Int)) = false := decide_eq_false (by omega)
        have hI := HI.out
        rw [List.take_of_length_le (by omega)] at hI
        have HI2 := Aside0.mk hI
        have h1 : ok = true := by
          rw [← HOK.out, Bool.true_and, List.all_eq_true]
          intro x hx
          refine HN.out x ?_
          rw [List.take_of_length_le (by omega)]; exact hx
        clear hI HI
        go_wp2_with (first | (go_at_call 38; refine (builderString_calls _ HI2.out HB.out.size).mono ?_; rintro e w' ⟨rfl, hb⟩))
        go_ret
        exact ⟨.inl ⟨h1, by rw [HHD.out]; rfl⟩, HB.out.trans hb⟩
end Go.Proofs.YtjbdkdmoacdbpaaGreatDoor.XC
namespace Go.Proofs.YtjbdkdmoacdbpaaGreatDoor.XC
open Go Go.RowKit Go.Proofs.YtjbdkdmoacdbpaaGreatDoorW.PrintWords Go.Proofs.YtjbdkdmoacdbpaaGreatDoorW.PrintLast Go.Proofs.YtjbdkdmoacdbpaaGreatDoorW.PrintMore Go.Proofs.YtjbdkdmoacdbpaaGreatDoor Go.Proofs.YtjbdkdmoacdbpaaGreatDoor.Q Go.Proofs.YtjbdkdmoacdbpaaGreatDoor.X
def goodC (l : List S50) (r : Bool) : Bool := r && l.all fun x => keyOk x.f0
def textTx (l : List S50) : List UInt8 := headTx l.length ++ bodyTx l
instance (l : List S50) : Decidable (Small l) := by unfold Small; exact inferInstance
def printF (l : List S50) : Option (ByteArray × Int) := if Small l then some (if goodC l (M.rightS l) = true then (⟨(textTx l).toArray⟩, 0) else (⟨#[]⟩, 1)) else none
theorem right_of {l : List S50} (h : Small l) : ∃ K, fact_Right.f K l = some (M.rightS l) := by
  obtain ⟨K, hK⟩ := M.right_f (l := l) (by have := h.2.1; omega)
  exact ⟨K, hK K (Nat.le_refl _)⟩
theorem boxed_below {W W' : World} {B : Nat} {t : TypeId} {v : Value} (h : Boxed W B t v) (hb : Below W.heap.size W W') : Boxed W' B t v := (hb.block B h.lt).trans h
theorem boxes3 (w : World) (v0 v1 v2 : Value) (t0 t1 t2 : TypeId) : ∃ w3, ((w.alloc (.cells #[v0] t0)).alloc (.cells #[v1] t1)).alloc (.cells #[v2] t2) = w3 ∧ Boxed w3 w.heap.size t0 v0 ∧ Boxed w3 (w.heap.size + 1) t1 v1 ∧ Boxed w3 (w.heap.size + 1 + 1) t2 v2 ∧ Below w.heap.size w w3 := by
  refine ⟨_, rfl, ((Boxed.new w t0 v0).alloc _).alloc _, ?_, ?_, ?_⟩
  · have h := (Boxed.new (w.alloc (.cells #[v0] t0)) t1 v1).alloc (.cells #[v2] t2)
    simpa using h
  · have h := Boxed.new ((w.alloc (.cells #[v0] t0)).alloc (.cells #[v1] t1)) t2 v2
    simpa using h
  · exact (((Below.refl _ w).alloc (Nat.le_refl _) _).alloc (by simp) _).alloc (by simp; omega) _
set_option maxHeartbeats 8000000 in
set_option maxRecDepth 100000 in
theorem print_calls (A0 : Option Addr) (c0 : Nat) (l0 : List S50) (r1 : ByteArray) (r2 : Int) (w : World) (hr0 : Kd.C k50 w A0 l0.length l0) (hc0 : l0.length ≤ c0) (h : printF l0 = some (r1, r2)) (hL : LaidW w) :
    Calls Tryz.prog 10 #[.slice A0 l0.length c0] w fun e w' => e = .returned (.tuple #[.string r1, .int .i64 r2]) ∧ Below w.heap.size w w' := by
  unfold printF at h
  by_cases hsm : Small l0
  case neg => rw [if_neg hsm] at h; cases h
  rw [if_pos hsm] at h
  obtain ⟨K0, hright⟩ := right_of hsm
  obtain ⟨r, hrd⟩ : ∃ r, M.rightS l0 = r := ⟨_, rfl⟩
  rw [hrd] at h hright
  clear hrd
  have hmf : ∀ (fn : Fn) (first cap : Array Value) (w : World), (Instr.makeFunc fn first cap).run Tryz.prog w = .ok (.func fn first cap) w := fun _ _ _ _ => rfl
  have HP := Aside0.mk (fun (W : World) (hb : Below w.heap.size w W) => printed_calls A0 c0 l0 _ r W (Kd.C_below hr0 hb) hc0 hright hsm (hL.below hb))
  clear hr0 hright hsm hL
  obtain ⟨w3, hw3, b0, b1, b2, hB3⟩ := boxes3 w (.string ⟨#[]⟩) (.int .i64 0) (.bool false) 9 25 4
  have HW3 := Aside0.mk hw3
  have H0 := Aside0.mk b0
  have H1 := Aside0.mk b1
  have H2 := Aside0.mk b2
  have HB3 := Aside0.mk hB3
  clear hw3 b0 b1 b2 hB3
  by_cases hok : goodC l0 r = true
  · rw [if_pos hok] at h
    obtain ⟨rfl, rfl⟩ : r1 = ⟨(textTx l0).toArray⟩ ∧ r2 = 0 := by simpa [eq_comm] using h
    go_enter_defers Tryz.func10, Tryz.ntmps10
    go_wp2_with (first
      | (go_at_call 21; rw [HW3.out]; refine (HP.out w3 HB3.out).mono ?_; rintro e w4 ⟨hc, hb4⟩; obtain rfl : e = .returned (.string ⟨(textTx l0).toArray⟩) := (by rcases hc with ⟨_, h⟩ | ⟨h, _⟩; exact h; exact absurd (h.symm.trans hok) (by decide)); have b0 := boxed_below H0.out hb4; have b1 := boxed_below H1.out hb4; have b2 := boxed_below H2.out hb4; have HB4 := Aside0.mk (below_step HB3.out hb4); have y0 := b0.cell; have y1 := (b1.other (B' := w.heap.size) (by omega) (.string ⟨(textTx l0).toArray⟩)).cell; have g0 := b0.frozen; have g1 := (b1.other (B' := w.heap.size) (by omega) (.string ⟨(textTx l0).toArray⟩)).frozen; have B0 := Aside0.mk b0; have B1 := Aside0.mk b1; have B2 := Aside0.mk b2; clear hc hb4 b0 b1 b2))
    clear y0 y1 g0 g1
    obtain ⟨w5, hw5⟩ : ∃ w5, (w4.setCell ⟨w.heap.size, 0, none⟩ (.string ⟨(textTx l0).toArray⟩)).setCell ⟨w.heap.size + 1, 0, none⟩ (.int .i64 0) = w5 := ⟨_, rfl⟩
    rw [hw5]
    have D0 : Boxed w5 w.heap.size 9 (.string ⟨(textTx l0).toArray⟩) := by rw [← hw5]; exact (B0.out.set _).other (by omega) _
    have D1 : Boxed w5 (w.heap.size + 1) 25 (.int .i64 0) := by rw [← hw5]; exact (B1.out.other (by omega) _).set _
    have D2 : Boxed w5 (w.heap.size + 1 + 1) 4 (.bool false) := by rw [← hw5]; exact (B2.out.other (by omega) _).other (by omega) _
    have hB5 : Below w.heap.size w w5 := by rw [← hw5]; exact (HB4.out.setCell (p := ⟨w.heap.size, 0, none⟩) (Nat.le_refl _) _).setCell (p := ⟨w.heap.size + 1, 0, none⟩) (by simp) _
    clear hw5
    refine leaves_cons (f := 20) (args := #[.pointer (some ⟨w.heap.size + 1 + 1, 0, none⟩)]) (by simp) (by simp [go_sem]) ?_
    refine (given_idle ⟨w.heap.size + 1 + 1, 0, none⟩ _).mono ?_
    rintro e u' w'' ⟨rfl, rfl, rfl⟩
    refine leaves_cons (f := 19) (args := #[.pointer (some ⟨w.heap.size + 1 + 1, 0, none⟩), .pointer (some ⟨w.heap.size, 0, none⟩), .pointer (some ⟨w.heap.size + 1, 0, none⟩)]) (by simp [settle]) (by simp [go_sem]) ?_
    refine (print1_not _ _ _ _ _ D2.cell).mono ?_
    rintro e u' w'' ⟨rfl, rfl, rfl⟩
    have d0 := D0.cell
    have d1 := D1.cell
    simp [Leaves, settle, results, Tryz.results10, go_sem, d0, d1]
    exact hB5
  · rw [if_neg hok] at h
    obtain ⟨rfl, rfl⟩ : r1 = ⟨#[]⟩ ∧ r2 = 1 := by simpa [eq_comm] using h
    rw [Bool.not_eq_true] at hok
    go_enter_defers Tryz.func10, Tryz.ntmps10
    go_wp2_with (first
      | (go_at_call 21; rw [HW3.out]; refine (HP.out w3 HB3.out).mono ?_; rintro e w4 ⟨hc, hb4⟩; obtain rfl : e = .panicked [{ v := .iface 69 (.agg #[]), recovered := false }] := (by rcases hc with ⟨h, _⟩ | ⟨_, h⟩; exact absurd (h.symm.trans hok) (by decide); exact h); have B0 := Aside0.mk (boxed_below H0.out hb4); have B1 := Aside0.mk (boxed_below H1.out hb4); have B2 := Aside0.mk (boxed_below H2.out hb4); have HB4 := Aside0.mk (below_step HB3.out hb4); clear hc hb4))
    refine leaves_cons (f := 20) (args := #[.pointer (some ⟨w.heap.size + 1 + 1, 0, none⟩)]) (by simp) (by simp [go_sem]) ?_
    refine (given_panicking ⟨w.heap.size + 1 + 1, 0, none⟩ [] _ (fun o => (B2.out.alloc o).cell) (fun o => (B2.out.alloc o).frozen)).mono ?_
    rintro e u' w'' ⟨rfl, rfl, rfl⟩
    obtain ⟨w5, hw5⟩ : ∃ w5, ((w4.alloc (.cells #[] 69)).setCell ⟨w.heap.size + 1 + 1, 0, none⟩ (.bool true)) = w5 := ⟨_, rfl⟩
    rw [hw5]
    have D0 : Boxed w5 w.heap.size 9 (.string ⟨#[]⟩) := by rw [← hw5]; exact (B0.out.alloc _).other (by omega) _
    have D1 : Boxed w5 (w.heap.size + 1) 25 (.int .i64 0) := by rw [← hw5]; exact (B1.out.alloc _).other (by omega) _
    have D2 : Boxed w5 (w.heap.size + 1 + 1) 4 (.bool true) := by rw [← hw5]; exact (B2.out.alloc _).set _
    have hB5 : Below w.heap.size w w5 := by rw [← hw5]; exact (HB4.out.alloc HB4.out.size _).setCell (p := ⟨w.heap.size + 1 + 1, 0, none⟩) (by simp; omega) _
    clear hw5
    refine leaves_cons (f := 19) (args := #[.pointer (some ⟨w.heap.size + 1 + 1, 0, none⟩), .pointer (some ⟨w.heap.size, 0, none⟩), .pointer (some ⟨w.heap.size + 1, 0, none⟩)]) (by simp [settle]) (by simp [go_sem]) ?_
    refine (print1_up _ _ _ _ _ _ _ D2.cell D0.cell D0.frozen (D1.other (by omega) _).cell (D1.other (by omega) _).frozen).mono ?_
    rintro e u' w'' ⟨rfl, rfl, rfl⟩
    have d0 := ((D0.set (.string ⟨#[]⟩)).other (B' := w.heap.size + 1) (by omega) (.int .i64 1)).cell
    have d1 := ((D1.other (B' := w.heap.size) (by omega) (.string ⟨#[]⟩)).set (.int .i64 1)).cell
    have hB6 : Below w.heap.size w ((w5.setCell ⟨w.heap.size, 0, none⟩ (.string ⟨#[]⟩)).setCell ⟨w.heap.size + 1, 0, none⟩ (.int .i64 1)) := (hB5.setCell (p := ⟨w.heap.size, 0, none⟩) (Nat.le_refl _) _).setCell (p := ⟨w.heap.size + 1, 0, none⟩) (by simp) _
    simp [Leaves, settle, results, Tryz.results10, go_sem, d0, d1]
    exact hB6
end Go.Proofs.YtjbdkdmoacdbpaaGreatDoor.XC
namespace Go.Proofs.YtjbdkdmoacdbpaaGreatDoor.XC
open Go Go.RowKit Go.Proofs.YtjbdkdmoacdbpaaGreatDoorW.PrintWords Go.Proofs.YtjbdkdmoacdbpaaGreatDoorW.PrintLast Go.Proofs.YtjbdkdmoacdbpaaGreatDoorW.PrintMore Go.Proofs.YtjbdkdmoacdbpaaGreatDoor Go.Proofs.YtjbdkdmoacdbpaaGreatDoor.Q Go.Proofs.YtjbdkdmoacdbpaaGreatDoor.X
def piecesB (s : ByteArray) : List ByteArray := Lib.splitB ⟨#[32]⟩ 0 (Lib.countB s ⟨#[32]⟩) s
def dashB (p : ByteArray) : ByteArray := if p.toList = [45] then ⟨#[]⟩ else p
def readB (s : ByteArray) : Option S50 :=
  match piecesB s with
  | [p0, p1, p2, p3, p4, p5] => if ((parseF p4.data.toList).2 = 0 ∧ (parseF p5.data.toList).2 = 0) ∧ 0 ≤ (parseF p4.data.toList).1 ∧ (parseF p4.data.toList).1 ≤ 4 then some ⟨⟨p0, p1, p2, dashB p3, (parseF p4.data.toList).1⟩, (parseF p5.data.toList).1⟩ else none
  | _ => none
theorem pieces_small (sep : ByteArray) (sv : Nat) : ∀ (k : Nat) (s : ByteArray), sv ≤ sep.size → ∀ p ∈ Lib.splitB sep sv k s, p.size ≤ s.size
  | 0, s, _ => fun p hp => by rw [Lib.splitB_zero] at hp; obtain rfl : p = s := by simpa using hp
                              exact Nat.le_refl _
  | k + 1, s, h => fun p hp => by
    rw [Lib.splitB] at hp
    split at hp
    · obtain rfl : p = s := by simpa using hp
      exact Nat.le_refl _
    · rcases List.mem_cons.1 hp with rfl | hp
      · rw [ByteArray.size_extract]; omega
      · have := pieces_small sep sv k _ h p hp
        rw [ByteArray.size_extract] at this; omega
theorem hi9 : (Tryz.prog.info? 9).map (fun i => (i.zero, i.size, i.bytes)) = some (some (.string ByteArray.empty), 1, 16) := by kernel_rfl
theorem split_calls (s : ByteArray) (w : World) (hL : LaidW w) (hs : s.size < 4294967281) :
    Calls Tryz.prog 42 #[.string s, .string ⟨#[32]⟩] w fun e w' => e = .returned (.slice (some ⟨w.heap.size, 0, none⟩) (piecesB s).length (piecesB s).length) ∧ Kd.R Kd.string 9 w' w.heap.size (fun k => w.heap.size ≤ k) (.slice (some ⟨w.heap.size, 0, none⟩) (piecesB s).length (piecesB s).length) (piecesB s) ∧ Below w.heap.size w w' := by
  obtain ⟨m, hm⟩ := hL.mx
  have hlen : (piecesB s).length = Lib.countB s ⟨#[32]⟩ + 1 := Lib.splitB_all ⟨#[32]⟩ (by decide) 0 _ s rfl
  have hle := Lib.countB_le ⟨#[32]⟩ (by decide) s.size s (Nat.le_refl _)
  have h := Any.strings_Split lays146 hi9 s ⟨#[32]⟩ m w hs hm (by decide)
  refine h.mono ?_
  rintro e w' ⟨rfl, rfl⟩
  refine ⟨by rw [hlen], ?_, (Below.refl _ w).alloc (Nat.le_refl _) _⟩
  exact lit_R w (piecesB s) w.heap.size (Nat.le_refl _) (by omega) 9
theorem centP (s : ByteArray) (w : World) (hL : LaidW w) (hs : s.size ≤ 281474976710656) :
    Calls Tryz.prog 43 #[.string s] w fun e w' => e = .returned (.tuple #[.int .i64 (parseF s.data.toList).1, .int .i64 (parseF s.data.toList).2]) ∧ Below w.heap.size w w' := parse_walk s w hL hs (trim_size hs)
def read.T6 : Bool × List (List Nat × List Nat) := (true, [([], []), ([0], [0]), ([1], [1]), ([], []), ([3], [3]), ([4], [4]), ([], []), ([6], [6]), ([7], [7]), ([], []), ([9], [9]), ([10], [10]), ([], []), ([2, 5, 8, 11, 12], [2, 5, 8, 11, 12]), ([], []), ([14, 13, 0, 1, 2, 3, 4, 5, 6, 7, 8, 9, 10, 11, 12, 13, 14], [13, 14])])
def read.B6 : List Nat := [0, 1, 3, 0, 8, 24, 0, 64, 192, 0, 512, 1536, 0, 8191, 0, 32767]
theorem read.tab6 : rtab .any (opsOf Tryz.f27 6) = read.T6 := by kernel_rfl
theorem read.bits6 : waitsOk read.T6.2 read.B6 = true := by kernel_rfl
set_option maxHeartbeats 8000000 in
set_option maxRecDepth 100000 in
theorem read_short (s : ByteArray) (w : World) (hL : LaidW w) (hs : s.size < 4294967281) (h6 : (piecesB s).length ≠ 6) :
    Calls Tryz.prog 27 #[.string s] w fun e w' => e = gaveUp ∧ Below w.heap.size w w' := by
  have HLD := Aside0.mk hL
  have HSZ := Aside0.mk hs
  obtain ⟨n, hn⟩ : ∃ n, (piecesB s).length = n := ⟨_, rfl⟩
  have HN := Aside0.mk hn
  have hne : ((n : Int) == 6) = false := beq_eq_false_iff_ne.mpr (by omega)
  clear hL hs hn h6
  go_enter Tryz.func27, Tryz.ntmps27
  go_wp2_with (first
    | (go_at_call 42; refine (split_calls s _ (HLD.out.below ((Below.refl _ w).alloc (Nat.le_refl _) _)) HSZ.out).mono ?_; rintro e w1 ⟨rfl, _, hb1⟩; rw [HN.out]; have HB1 := Aside0.mk (below_step ((Below.refl _ w).alloc (Nat.le_refl _) _) hb1); clear hb1)
    | (go_at_call 29; (with_reducible refine (need_false _).mono ?_); rintro e w2 ⟨rfl, rfl⟩))
  simp [bodyPost, gaveUp]
  exact HB1.out
theorem row_cell {W : World} {g n : Nat} {ps : List ByteArray} (h : Kd.C Kd.string W (some ⟨g, 0, none⟩) n ps) (j : Nat) (p : ByteArray) (hj : ps[j]? = some p) (hn : n = ps.length) : W.cell? ⟨g, j, none⟩ = some (.string p) := by
  have hlt : j < ps.length := (List.getElem?_eq_some_iff.1 hj).1
  obtain ⟨ad, e, hx⟩ := Kd.at_string h (j : Int) (by omega) (by omega)
  cases e
  rw [Int.toNat_natCast, add_plain] at hx
  rw [hx]
  unfold rdOf
  rw [Int.toNat_natCast, List.getD_eq_getElem?_getD, hj]; rfl
theorem cellB {W W' : World} {a : Addr} {v : Value} (h : W.cell? a = some v) (hb : Below W.heap.size W W') : W'.cell? a = some v := (hb.cell (World.block_lt_of_cell? W a h)).trans h
set_option maxHeartbeats 8000000 in
set_option maxRecDepth 100000 in
theorem read_bad (s : ByteArray) (w : World) (hL : LaidW w) (hs : s.size < 4294967281) (p0 p1 p2 p3 p4 p5 : ByteArray) (h6 : piecesB s = [p0, p1, p2, p3, p4, p5]) (m1 m2 n1 n2 : Int) (hm : parseF p4.data.toList = (m1, m2)) (hn : parseF p5.data.toList = (n1, n2)) (b1 b2 b3 b4 : Bool) (h1 : (m2 == 0) = b1) (h2 : (n2 == 0) = b2) (h3 : decide (0 ≤ m1) = b3) (h4 : decide (m1 ≤ 4) = b4) (hb : (b1 && (b2 && (b3 && b4))) = false) :
    Calls Tryz.prog 27 #[.string s] w fun e w' => e = gaveUp ∧ Below w.heap.size w w' := by
  have hps : ∀ p ∈ piecesB s, p.size ≤ s.size := pieces_small _ _ _ _ (Nat.zero_le _)
  have hs4 : p4.size ≤ 281474976710656 := by have := hps p4 (by rw [h6]; simp); omega
  have hs5 : p5.size ≤ 281474976710656 := by have := hps p5 (by rw [h6]; simp); omega
  have HC4 := Aside0.mk (fun W hL => centP p4 W hL hs4)
  have HC5 := Aside0.mk (fun W hL => centP p5 W hL hs5)
  rw [hm] at HC4
  rw [hn] at HC5
  have HLD := Aside0.mk hL
  have HSZ := Aside0.mk hs
  obtain ⟨ps, hpd⟩ : ∃ ps, [p0, p1, p2, p3, p4, p5] = ps := ⟨_, rfl⟩
  have HPS := Aside0.mk (h6.trans hpd)
  have hl6 : ps.length = 6 := by rw [← hpd]; rfl
  have HPD := Aside0.mk hpd
  have HL6 := Aside0.mk hl6
  clear hL hs h6 hm hn hps hs4 hs5 hpd hl6
  cases b1 <;> cases b2 <;> cases b3 <;> cases b4 <;> first
  | exact absurd hb (by decide)
  | (clear hb
     go_enter Tryz.func27, Tryz.ntmps27
     go_wp2_with (first
       | (go_at_call 42; obtain ⟨w0, hw0⟩ : ∃ w0, w.alloc (.cells #[.string ⟨#[]⟩, .string ⟨#[]⟩, .string ⟨#[]⟩, .string ⟨#[]⟩, .int .i64 0, .int .i64 0] 50) = w0 := ⟨_, rfl⟩; rw [hw0]; have HB0 : Aside0 (Below w.heap.size w w0) := ⟨by rw [← hw0]; exact (Below.refl _ w).alloc (Nat.le_refl _) _⟩; clear hw0; refine (split_calls s _ (HLD.out.below HB0.out) HSZ.out).mono ?_; rintro e w1 ⟨rfl, hR1, hb1⟩; rw [HPS.out, HL6.out] at hR1 ⊢; obtain ⟨gs, hgs⟩ : ∃ gs, w0.heap.size = gs := ⟨_, rfl⟩; have HB1 := Aside0.mk (below_step HB0.out hb1); rw [hgs] at hR1 ⊢; have hC1 := (Kd.R_reads' hR1).2.2; have x4 := row_cell hC1 4 p4 (by rw [← HPD.out]; rfl) (by first | rfl | exact HL6.out.symm); have x5 := row_cell hC1 5 p5 (by rw [← HPD.out]; rfl) (by first | rfl | exact HL6.out.symm); clear hb1 hR1 hC1 hgs)
       | (go_at_call 43; (with_reducible refine (HC4.out _ (HLD.out.below HB1.out)).mono ?_); rintro e w2 ⟨rfl, hb2⟩; have y5 := cellB x5 hb2; have HB2 := Aside0.mk (below_step HB1.out hb2); clear hb2 x4 x5)
       | (go_at_call 43; (with_reducible refine (HC5.out _ (HLD.out.below HB2.out)).mono ?_); rintro e w3 ⟨rfl, hb3⟩; have HB3 := Aside0.mk (below_step HB2.out hb3); clear hb3 y5)
       | (go_at_call 29; (with_reducible refine (need_true _).mono ?_); rintro e w4 ⟨rfl, hw4⟩; rw [hw4]; clear hw4)
       | (go_at_call 29; (with_reducible refine (need_false _).mono ?_); rintro e w4 ⟨rfl, hw4⟩; rw [hw4]; clear hw4))
     simp [bodyPost, gaveUp]
     exact HB3.out)
theorem put6z {W w6 : World} {gb : Nat} {t : TypeId} (hk : w6.heap[gb]? = some (.cells #[.string ⟨#[]⟩, .string ⟨#[]⟩, .string ⟨#[]⟩, .string ⟨#[]⟩, .int .i64 0, .int .i64 0] t (0, 0))) (hb : Below W.heap.size W w6) (hg : W.heap.size ≤ gb) (a b c d : ByteArray) (m n : Int) :
    ∃ w7, ((((((w6.setCell ⟨gb, 0, none⟩ (.string a)).setCell ⟨gb, 1, none⟩ (.string b)).setCell ⟨gb, 2, none⟩ (.string c)).setCell ⟨gb, 3, none⟩ (.string d)).setCell ⟨gb, 4, none⟩ (.int .i64 m)).setCell ⟨gb, 5, none⟩ (.int .i64 n)) = w7 ∧ w7.heap[gb]? = some (.cells #[.string a, .string b, .string c, .string d, .int .i64 m, .int .i64 n] t (0, 0)) ∧ Below W.heap.size W w7 := put6 hk hb hg a b c d m n
theorem put5 {w6 : World} {gb : Nat} {t : TypeId} (hk : w6.heap[gb]? = some (.cells #[.string ⟨#[]⟩, .string ⟨#[]⟩, .string ⟨#[]⟩, .string ⟨#[]⟩, .int .i64 0] t (0, 0))) (a b c d : ByteArray) (m : Int) :
    ∃ w7, (((((w6.setCell ⟨gb, 0, none⟩ (.string a)).setCell ⟨gb, 1, none⟩ (.string b)).setCell ⟨gb, 2, none⟩ (.string c)).setCell ⟨gb, 3, none⟩ (.string d)).setCell ⟨gb, 4, none⟩ (.int .i64 m)) = w7 ∧ w7.heap[gb]? = some (.cells #[.string a, .string b, .string c, .string d, .int .i64 m] t (0, 0)) ∧ (∀ k, k ≠ gb → w7.heap[k]? = w6.heap[k]?) ∧ (∀ B w, Below B w w6 → B ≤ gb → Below B w w7) := by
  refine ⟨_, rfl, ?_, ?_, ?_⟩
  · refine blk_put (cs := #[.string a, .string b, .string c, .string d, .int .i64 0]) ?_ 4 _ rfl
    refine blk_put (cs := #[.string a, .string b, .string c, .string ⟨#[]⟩, .int .i64 0]) ?_ 3 _ rfl
    refine blk_put (cs := #[.string a, .string b, .string ⟨#[]⟩, .string ⟨#[]⟩, .int .i64 0]) ?_ 2 _ rfl
    refine blk_put (cs := #[.string a, .string ⟨#[]⟩, .string ⟨#[]⟩, .string ⟨#[]⟩, .int .i64 0]) ?_ 1 _ rfl
    exact blk_put (cs := #[.string ⟨#[]⟩, .string ⟨#[]⟩, .string ⟨#[]⟩, .string ⟨#[]⟩, .int .i64 0]) hk 0 _ rfl
  · intro k hk
    exact (Below.heap_setCell _ _ _ _ hk).trans ((Below.heap_setCell _ _ _ _ hk).trans ((Below.heap_setCell _ _ _ _ hk).trans ((Below.heap_setCell _ _ _ _ hk).trans (Below.heap_setCell _ _ _ _ hk))))
  · intro B w hb hg
    exact ((((hb.setCell (p := ⟨gb, 0, none⟩) hg _).setCell (p := ⟨gb, 1, none⟩) hg _).setCell (p := ⟨gb, 2, none⟩) hg _).setCell (p := ⟨gb, 3, none⟩) hg _).setCell (p := ⟨gb, 4, none⟩) hg _
set_option maxHeartbeats 8000000 in
set_option maxRecDepth 100000 in
theorem read_good (s : ByteArray) (w : World) (hL : LaidW w) (hs : s.size < 4294967281) (p0 p1 p2 p3 p4 p5 : ByteArray) (h6 : piecesB s = [p0, p1, p2, p3, p4, p5]) (m1 n1 : Int) (hm : parseF p4.data.toList = (m1, 0)) (hn : parseF p5.data.toList = (n1, 0)) (h3 : decide (0 ≤ m1) = true) (h4 : decide (m1 ≤ 4) = true) (b : Bool) (hbb : (p3.toList == ([45] : List UInt8)) = b) :
    Calls Tryz.prog 27 #[.string s] w fun e w' => e = .returned (.agg #[.string p0, .string p1, .string p2, .string (if b = true then ⟨#[]⟩ else p3), .int .i64 m1, .int .i64 n1]) ∧ Below w.heap.size w w' := by
  have hps : ∀ p ∈ piecesB s, p.size ≤ s.size := pieces_small _ _ _ _ (Nat.zero_le _)
  have hs4 : p4.size ≤ 281474976710656 := by have := hps p4 (by rw [h6]; simp); omega
  have hs5 : p5.size ≤ 281474976710656 := by have := hps p5 (by rw [h6]; simp); omega
  have HC4 := Aside0.mk (fun W hL => centP p4 W hL hs4)
  have HC5 := Aside0.mk (fun W hL => centP p5 W hL hs5)
  rw [hm] at HC4
  rw [hn] at HC5
  have HLD := Aside0.mk hL
  have HSZ := Aside0.mk hs
  obtain ⟨ps, hpd⟩ : ∃ ps, [p0, p1, p2, p3, p4, p5] = ps := ⟨_, rfl⟩
  have HPS := Aside0.mk (h6.trans hpd)
  have hl6 : ps.length = 6 := by rw [← hpd]; rfl
  have HPD := Aside0.mk hpd
  have HL6 := Aside0.mk hl6
  clear hL hs h6 hm hn hps hs4 hs5 hpd hl6
  go_enter Tryz.func27, Tryz.ntmps27
  go_wp2_with (first
    | (go_at_call 42; obtain ⟨w0, hw0⟩ : ∃ w0, w.alloc (.cells #[.string ⟨#[]⟩, .string ⟨#[]⟩, .string ⟨#[]⟩, .string ⟨#[]⟩, .int .i64 0, .int .i64 0] 50) = w0 := ⟨_, rfl⟩; rw [hw0]; have HB0 : Aside0 (Below w.heap.size w w0) := ⟨by rw [← hw0]; exact (Below.refl _ w).alloc (Nat.le_refl _) _⟩; have hk0 : w0.heap[w.heap.size]? = some (.cells #[.string ⟨#[]⟩, .string ⟨#[]⟩, .string ⟨#[]⟩, .string ⟨#[]⟩, .int .i64 0, .int .i64 0] 50 (0, 0)) := (by rw [← hw0]; exact blk_new w _); clear hw0; refine (split_calls s _ (HLD.out.below HB0.out) HSZ.out).mono ?_; rintro e w1 ⟨rfl, hR1, hb1⟩; rw [HPS.out, HL6.out] at hR1 ⊢; obtain ⟨gs, hgs⟩ : ∃ gs, w0.heap.size = gs := ⟨_, rfl⟩; have HB1 := Aside0.mk (below_step HB0.out hb1); have HK1 := Aside0.mk (blk_below hk0 hb1); rw [hgs] at hR1 ⊢; have hC1 := (Kd.R_reads' hR1).2.2; have HC1 := Aside0.mk hC1; have x4 := row_cell hC1 4 p4 (by rw [← HPD.out]; rfl) (by first | rfl | exact HL6.out.symm); clear hb1 hR1 hC1 hgs hk0)
    | (go_at_call 43; (with_reducible refine (HC4.out _ (HLD.out.below HB1.out)).mono ?_); rintro e w2 ⟨rfl, hb2⟩; have y5 := row_cell (Kd.C_below HC1.out hb2) 5 p5 (by rw [← HPD.out]; rfl) (by first | rfl | exact HL6.out.symm); have HB2 := Aside0.mk (below_step HB1.out hb2); have HK2 := Aside0.mk (blk_below HK1.out hb2); have HC2 := Aside0.mk (Kd.C_below HC1.out hb2); clear hb2 x4)
    | (go_at_call 43; (with_reducible refine (HC5.out _ (HLD.out.below HB2.out)).mono ?_); rintro e w3 ⟨rfl, hb3⟩; have HB3 := Aside0.mk (below_step HB2.out hb3); have HK3 := Aside0.mk (blk_below HK2.out hb3); have HC3 := Aside0.mk (Kd.C_below HC2.out hb3); clear hb3 y5)
    | (go_at_call 29; (with_reducible refine (need_true _).mono ?_); rintro e w4 ⟨rfl, hw4⟩; rw [hw4]; clear hw4))
  have x0 := row_cell HC3.out 0 p0 (by rw [← HPD.out]; rfl) (by first | rfl | exact HL6.out.symm)
  have x1 := row_cell HC3.out 1 p1 (by rw [← HPD.out]; rfl) (by first | rfl | exact HL6.out.symm)
  have x2 := row_cell HC3.out 2 p2 (by rw [← HPD.out]; rfl) (by first | rfl | exact HL6.out.symm)
  have x3 := row_cell HC3.out 3 p3 (by rw [← HPD.out]; rfl) (by first | rfl | exact HL6.out.symm)
  have HBx := Aside0.mk (below_drew1 HB3.out)
  have HKx := Aside0.mk (blk_drew HK3.out)
  refine start_ (n := 16) (S := fun w' => w'.cell? ⟨gs, 0, none⟩ = some (.string p0) ∧ w'.cell? ⟨gs, 1, none⟩ = some (.string p1) ∧ w'.cell? ⟨gs, 2, none⟩ = some (.string p2) ∧ w'.cell? ⟨gs, 3, none⟩ = some (.string p3)) (ds := [15]) (bz 16 0) (by kernel_rfl) rfl rfl ⟨x0, x1, x2, x3⟩ (fun hHeld => ?_); refine with_tabW read.tab6 read.bits6 (fun HT_ HW_ => ?_)
  generalize w3.drew = w5 at HBx HKx hHeld ⊢
  clear x0 x1 x2 x3 HB3 HK3 HC3
  refine RFn.pA (i := 0) (N := some 44) (bz 16 1) HT_ ?_
  refine RFn.pA (i := 1) (N := some 45) (bz 16 3) HT_ ?_
  refine RFn.pA (i := 3) (N := some 47) (bz 16 11) HT_ ?_
  refine RFn.pA (i := 4) (N := some 48) (bz 16 27) HT_ ?_
  refine RFn.pA (i := 6) (N := some 50) (bz 16 91) HT_ ?_
  refine RFn.pA (i := 7) (N := some 51) (bz 16 219) HT_ ?_
  refine RFn.pA (i := 9) (N := some 53) (bz 16 731) HT_ ?_
  refine RFn.pA (i := 10) (N := some 54) (bz 16 1755) HT_ ?_
  refine RFn.pA (i := 12) (N := some 56) (bz 16 5851) HT_ ?_
  refine RFn.tA (i := 2) (N := some 46) (bz 16 5855) rfl HT_ HW_ hHeld (by rintro w' ⟨s0, s1, s2, s3⟩; go_simp; with_reducible rfl) ?_
  refine RFn.tA (i := 5) (N := some 49) (bz 16 5887) rfl HT_ HW_ hHeld (by rintro w' ⟨s0, s1, s2, s3⟩; go_simp; with_reducible rfl) ?_
  refine RFn.tA (i := 8) (N := some 52) (bz 16 6143) rfl HT_ HW_ hHeld (by rintro w' ⟨s0, s1, s2, s3⟩; go_simp; with_reducible rfl) ?_
  refine RFn.tA (i := 11) (N := some 55) (bz 16 8191) rfl HT_ HW_ hHeld (by rintro w' ⟨s0, s1, s2, s3⟩; go_simp; with_reducible rfl) ?_
  refine RFn.pA (i := 13) (N := some 57) (bz 16 16383) HT_ ?_
  refine RFn.o1 (i := 14) (N := some 8) (bz 16 32767) HT_ fun K hK => ?_
  refine box_step (N := 8) rfl rfl (cs := #[.string ⟨#[]⟩, .string ⟨#[]⟩, .string ⟨#[]⟩, .string ⟨#[]⟩, .int .i64 0]) (t := 48) (by first | (go_simp; done) | (go_simp; rfl)) ?_
  intro gb hgb w6 hbox hb6
  refine hK.out _ _ (RFn.hs hb6 hHeld) (fun _ => ?_)
  clear hK K hHeld
  refine RFn.nm (some 8) ?_
  have HB6 := Aside0.mk (below_step HBx.out hb6)
  have HK6 := Aside0.mk (blk_below HKx.out hb6)
  have HBOX := Aside0.mk hbox
  have HGB : Aside0 (w.heap.size < gb) := ⟨by rw [hgb]; have := blk_lt HKx.out; omega⟩
  clear hgb hbox hb6 HBx HKx
  refine last_ (i := 15) (N := none) (bz 16 65535) rfl rfl (one_of HT_.out (by kernel_rfl)) (by decide) (fun K hK => ?_)
  obtain ⟨z0, z1, z2, z3, z4⟩ := RFn.bc5 HBOX
  obtain ⟨f0, f1, f2, f3, f4⟩ := RFn.bf5 HBOX
  refine skip_ (w1 := ?_) (by rfl) rfl ?_ ?_
  rotate_left
  · first
      | (go_simp; rfl)
  refine hK.out _ _ ?_
  clear hK K
  refine RFn.dn HT_ ?_
  clear z0 z1 z2 z3 z4 f0 f1 f2 f3 f4 HT_ HW_
  obtain ⟨w7, hw7, hk7, ho7, hb7⟩ := put5 HBOX.out p0 p1 p2 p3 m1
  rw [hw7]
  have HB7 := Aside0.mk (hb7 _ _ HB6.out (Nat.le_of_lt HGB.out))
  have HK7 := Aside0.mk ((ho7 w.heap.size (Nat.ne_of_lt HGB.out)).trans HK6.out)
  have HBX := Aside0.mk hk7
  clear hw7 hk7 ho7 hb7 HK6 HB6 HBOX
  obtain ⟨z0, z1, z2, z3, z4⟩ := RFn.bc5 HBX
  have f3 := blk_frozen HBX.out 3
  cases b with
  | false =>
    go_upto_region 9 with (fail)
    have HK8 := HK7
    have HB8 := HB7
    obtain ⟨y0, y1, y2, y3, y4, y5⟩ := RFn.bc6 HK8
    obtain ⟨g0, g1, g2, g3, g4, g5⟩ := RFn.bf6 HK8
    go_wp2
    clear y0 y1 y2 y3 y4 y5 g0 g1 g2 g3 g4 g5
    obtain ⟨w9, hw9, hk9, hb9⟩ := put6z HK8.out HB8.out (Nat.le_refl _) p0 p1 p2 p3 m1 n1
    rw [hw9]
    obtain ⟨y0, y1, y2, y3, y4, y5⟩ := RFn.bc6 ⟨hk9⟩
    clear hw9
    simp [bodyPost, results, Tryz.results27, go_sem, y0, y1, y2, y3, y4, y5]
    exact hb9
  | true =>
    go_upto_region 9 with (fail)
    obtain ⟨w8, hw8⟩ : ∃ w8, w7.setCell ⟨gb, 3, none⟩ (.string ⟨#[]⟩) = w8 := ⟨_, rfl⟩
    have hbx : w8.heap[gb]? = some (.cells #[.string p0, .string p1, .string p2, .string ⟨#[]⟩, .int .i64 m1] 48 (0, 0)) := by rw [← hw8]; exact blk_put (cs := #[.string p0, .string p1, .string p2, .string p3, .int .i64 m1]) HBX.out 3 _ rfl
    have HK8 : Aside0 _ := ⟨(show w8.heap[w.heap.size]? = w7.heap[w.heap.size]? by rw [← hw8]; exact Below.heap_setCell _ _ _ _ (Nat.ne_of_lt HGB.out)).trans HK7.out⟩
    have HB8 : Aside0 (Below w.heap.size w w8) := ⟨by rw [← hw8]; exact HB7.out.setCell (p := ⟨gb, 3, none⟩) (Nat.le_of_lt HGB.out) _⟩
    rw [hw8]
    clear z0 z1 z2 z3 z4 f3 hw8 HBX HK7 HB7
    obtain ⟨z0, z1, z2, z3, z4⟩ := RFn.bc5 ⟨hbx⟩
    clear hbx
    obtain ⟨y0, y1, y2, y3, y4, y5⟩ := RFn.bc6 HK8
    obtain ⟨g0, g1, g2, g3, g4, g5⟩ := RFn.bf6 HK8
    go_wp2
    clear y0 y1 y2 y3 y4 y5 g0 g1 g2 g3 g4 g5
    obtain ⟨w9, hw9, hk9, hb9⟩ := put6z HK8.out HB8.out (Nat.le_refl _) p0 p1 p2 ⟨#[]⟩ m1 n1
    rw [hw9]
    obtain ⟨y0, y1, y2, y3, y4, y5⟩ := RFn.bc6 ⟨hk9⟩
    clear hw9
    simp [bodyPost, results, Tryz.results27, go_sem, y0, y1, y2, y3, y4, y5]
    exact hb9
/-- codec.read: a fact of a line, or given up -/
theorem read_calls (s : ByteArray) (w : World) (hL : LaidW w) (hs : s.size < 4294967281) :
    Calls Tryz.prog 27 #[.string s] w fun e w' => ((∃ x, readB s = some x ∧ e = .returned (.agg #[.string x.f0.f0, .string x.f0.f1, .string x.f0.f2, .string x.f0.f3, .int .i64 x.f0.f4, .int .i64 x.f1])) ∨ (readB s = none ∧ e = gaveUp)) ∧ Below w.heap.size w w' := by
  by_cases h6 : (piecesB s).length = 6
  case neg =>
    refine (read_short s w hL hs h6).mono fun e w' ⟨he, hb⟩ => ⟨.inr ⟨?_, he⟩, hb⟩
    unfold readB
    split
    · rename_i h; rw [h] at h6; exact absurd rfl h6
    · rfl
  obtain ⟨p0, p1, p2, p3, p4, p5, hp⟩ : ∃ p0 p1 p2 p3 p4 p5, piecesB s = [p0, p1, p2, p3, p4, p5] := by
    revert h6
    rcases piecesB s with _ | ⟨p0, _ | ⟨p1, _ | ⟨p2, _ | ⟨p3, _ | ⟨p4, _ | ⟨p5, _ | ⟨p6, r⟩⟩⟩⟩⟩⟩⟩ <;> intro h <;> simp at h
    exact ⟨p0, p1, p2, p3, p4, p5, rfl⟩
  obtain ⟨⟨m1, m2⟩, hm⟩ : ∃ x, parseF p4.data.toList = x := ⟨_, rfl⟩
  obtain ⟨⟨n1, n2⟩, hn⟩ : ∃ x, parseF p5.data.toList = x := ⟨_, rfl⟩
  have hrd : readB s = if (m2 = 0 ∧ n2 = 0) ∧ 0 ≤ m1 ∧ m1 ≤ 4 then some ⟨⟨p0, p1, p2, dashB p3, m1⟩, n1⟩ else none := by
    unfold readB; rw [hp]; simp only [hm, hn]
  by_cases hg : (m2 = 0 ∧ n2 = 0) ∧ 0 ≤ m1 ∧ m1 ≤ 4
  · rw [if_pos hg] at hrd
    obtain ⟨⟨rfl, rfl⟩, h1, h2⟩ := hg
    refine (read_good s w hL hs p0 p1 p2 p3 p4 p5 hp m1 n1 hm hn (decide_eq_true h1) (decide_eq_true h2) _ rfl).mono fun e w' ⟨he, hb⟩ => ⟨.inl ⟨_, hrd, ?_⟩, hb⟩
    rw [he]
    unfold dashB
    simp [beq_iff_eq]
  · rw [if_neg hg] at hrd
    refine (read_bad s w hL hs p0 p1 p2 p3 p4 p5 hp m1 m2 n1 n2 hm hn _ _ _ _ rfl rfl rfl rfl ?_).mono fun e w' ⟨he, hb⟩ => ⟨.inr ⟨hrd, he⟩, hb⟩
    rw [Bool.eq_false_iff]
    intro h
    simp only [Bool.and_eq_true, beq_iff_eq, decide_eq_true_eq] at h
    exact hg ⟨⟨h.1, h.2.1⟩, h.2.2.1, h.2.2.2⟩
end Go.Proofs.YtjbdkdmoacdbpaaGreatDoor.XC
namespace Go.Proofs.YtjbdkdmoacdbpaaGreatDoor.XC
open Go Go.RowKit Go.Proofs.YtjbdkdmoacdbpaaGreatDoorW.PrintWords Go.Proofs.YtjbdkdmoacdbpaaGreatDoorW.PrintLast Go.Proofs.YtjbdkdmoacdbpaaGreatDoorW.PrintMore Go.Proofs.YtjbdkdmoacdbpaaGreatDoor Go.Proofs.YtjbdkdmoacdbpaaGreatDoor.Q Go.Proofs.YtjbdkdmoacdbpaaGreatDoor.X
def linesB (s : ByteArray) : List ByteArray := Lib.splitB ⟨#[10]⟩ 1 (Lib.countB s ⟨#[10]⟩) s
theorem linesB_len (s : ByteArray) : (linesB s).length = Lib.countB s ⟨#[10]⟩ + 1 := Lib.splitB_all ⟨#[10]⟩ (by decide) 1 _ s rfl
set_option maxRecDepth 100000 in
theorem splitAfter_calls (s : ByteArray) (w : World) (hL : LaidW w) (hs : s.size < 4294967281) :
    Calls Tryz.prog 26 #[.string s, .string ⟨#[10]⟩] w fun e w' => e = .returned (.slice (some ⟨w.heap.size, 0, none⟩) (linesB s).length (linesB s).length) ∧ w' = w.alloc (.cells (encs Value.string (linesB s)).toArray 9) := by
  obtain ⟨m, hm⟩ := hL.mx
  have hle := Lib.countB_le ⟨#[10]⟩ (by decide) s.size s (Nat.le_refl _)
  have hlen := linesB_len s
  have c := Any.strings_genSplit lays221 hi9 s ⟨#[10]⟩ 1 (-1) (Lib.countB s ⟨#[10]⟩ + 1) m w hs hm (by decide) (by decide) (by decide) (by decide) (by rw [if_pos (by decide)]; omega)
  rw [Nat.add_sub_cancel] at c
  have e2 : Lib.cellsOf (linesB s) (Lib.countB s ⟨#[10]⟩ + 1) = ((linesB s).map Value.string).toArray := by rw [← hlen]; exact Lib.cellsOf_full _
  have HC := Aside0.mk c
  have HE := Aside0.mk e2
  have HN := Aside0.mk hlen
  clear c e2 hlen hm
  go_enter Tryz.func26, Tryz.ntmps26
  go_wp2_with (go_at_call 41; refine HC.out.mono ?_; rintro e w' ⟨rfl, hw⟩; rw [hw])
  go_ret
  exact ⟨by rw [HN.out]; show Ending.returned (.slice _ (linesB s).length _) = _; rw [HN.out], congrArg (fun c => w.alloc (.cells c 9)) HE.out⟩
def trimB (l : ByteArray) : ByteArray := ⟨(Lib.trimSuffix l.data.toList [10]).toArray⟩
theorem trim_calls (l : ByteArray) (w : World) (hs : l.size ≤ 9223372036854775807) : Calls Tryz.prog 28 #[.string l, .string ⟨#[10]⟩] w fun e w' => e = .returned (.string (trimB l)) ∧ w' = w :=
  Any.strings_TrimSuffix lays102 l ⟨#[10]⟩ w hs
theorem trimB_size (l : ByteArray) : (trimB l).size ≤ l.size := by
  have h : (Lib.trimSuffix l.data.toList [10]).length ≤ l.data.toList.length := by
    unfold Lib.trimSuffix; split
    · rw [List.length_take]; omega
    · exact Nat.le_refl _
  have h2 : l.data.toList.length = l.size := by rw [Array.length_toList]; rfl
  show (Lib.trimSuffix l.data.toList [10]).toArray.size ≤ _
  rw [List.size_toArray]; omega
def stepR (o : Option (List S50)) (l : ByteArray) : Option (List S50) := o.bind fun out => if l.size = 0 then some out else (readB (trimB l)).map fun x => out ++ [x]
def readAll (ls : List ByteArray) : Option (List S50) := ls.foldl stepR (some [])
theorem stepR_none : ∀ ls : List ByteArray, ls.foldl stepR none = none
  | [] => rfl
  | l :: ls => stepR_none ls
theorem readAll_succ (ls : List ByteArray) (i : Nat) (h : i < ls.length) : readAll (ls.take (i + 1)) = stepR (readAll (ls.take i)) ls[i] := by
  unfold readAll
  rw [List.take_add_one, List.getElem?_eq_getElem h, List.foldl_append]
  rfl
theorem readAll_none (ls : List ByteArray) (i : Nat) (h : readAll (ls.take i) = none) : readAll ls = none := by
  unfold readAll at h ⊢
  conv => lhs; rw [← List.take_append_drop i ls]
  rw [List.foldl_append, h, stepR_none]
def parseTF (s : ByteArray) : Option (List S50 × Int) := if s.size ≤ 100000 then
    match readAll (linesB s).tail with
    | none => some ([], 5)
    | some out => if Small out then some (if goodC out (M.rightS out) = true ∧ textTx out = s.data.toList then (out, 0) else ([], 5)) else none
  else none
theorem size_nil {l : ByteArray} (h : l.toList = []) : l.size = 0 := by
  have h2 : l.data.toList = [] := by rw [← Lib.toList_data]; exact h
  show l.data.size = 0
  rw [← Array.length_toList, h2]; rfl
theorem leaves_tmps {P : Program} {fn : Func} {t1 t2 : Array Value} {R : Ending → World → Prop} (h : results fn t1 = results fn t2) : ∀ (ds : List Deferred) (u : FrameMode) (w : World), Leaves P fn t1 R ds u w → Leaves P fn t2 R ds u w
  | [], .returning, w => fun ⟨v, hr, hR⟩ => ⟨v, by rw [← h]; exact hr, hR⟩
  | [], .panicking chain, w => fun hR => hR
  | [], .run, w => fun hR => hR
  | d :: ds, u, w => fun ⟨hu, fv, cap, f, args, hd, hi, hc⟩ => ⟨hu, fv, cap, f, args, hd, hi, hc.mono fun e u' w' hh => by
      cases e with
      | returned v => exact leaves_tmps h ds _ _ hh
      | panicked c => exact leaves_tmps h ds _ _ hh
      | outgrown => exact hh⟩
theorem parse_hQ {R : Ending → World → Prop} {N : Nat} {v : Value} {c : List PanicEntry} {a : Act} {w : World} (h2 : N ≠ 2) (h3 : N ≠ 3) (h : bodyPostD Tryz.prog Tryz.f13 R (.panic c) (a.put (some N) v) w) : bodyPostD Tryz.prog Tryz.f13 R (.panic c) a w := by
  refine leaves_tmps ?_ _ _ _ h
  have e2 : (a.tmps.setIfInBounds N v)[2]? = a.tmps[2]? := Array.getElem?_setIfInBounds_ne h2
  have e3 : (a.tmps.setIfInBounds N v)[3]? = a.tmps[3]? := Array.getElem?_setIfInBounds_ne h3
  simp [results, Tryz.results13, Act.put, e2, e3]
def parse.T9 : Bool × List (List Nat × List Nat) := (true, [([], []), ([], []), ([1], [1]), ([2, 2], [2]), ([3], [3]), ([0, 4, 3], [0, 4]), ([5, 5, 0, 1, 2, 3, 4, 5], [5])])
def parse.B9 : List Nat := [0, 0, 2, 6, 14, 31, 63]
theorem parse.tab9 : rtab .any (opsOf Tryz.f13 9) = parse.T9 := by kernel_rfl
theorem parse.bits9 : waitsOk parse.T9.2 parse.B9 = true := by kernel_rfl
theorem door_bad {w w4 : World} {tmps : Array Value} {v : Value} (B0 : Boxed w4 w.heap.size 32 v) (B1 : Boxed w4 (w.heap.size + 1) 25 (.int .i64 0)) (B2 : Boxed w4 (w.heap.size + 1 + 1) 4 (.bool false)) (HB4 : Below w.heap.size w w4)
    (h2 : tmps[2]?.getD undef = .pointer (some ⟨w.heap.size, 0, none⟩)) (h3 : tmps[3]?.getD undef = .pointer (some ⟨w.heap.size + 1, 0, none⟩)) :
    bodyPostD Tryz.prog Tryz.f13 (fun e w' => ∃ v0_ : Value, e = .returned (.tuple #[v0_, .int .i64 5]) ∧ Kd.R k50 50 w' w.heap.size (fun _ => True) v0_ [] ∧ Below w.heap.size w w') (Exit.panic [{ v := .iface 69 (.agg #[]), recovered := false }])
      { tmps := tmps, defers := [{ target := .fn (.func 20) #[], args := #[.pointer (some ⟨w.heap.size + 1 + 1, 0, none⟩)] }, { target := .fn (.func 25) #[.pointer (some ⟨w.heap.size + 1 + 1, 0, none⟩), .pointer (some ⟨w.heap.size, 0, none⟩), .pointer (some ⟨w.heap.size + 1, 0, none⟩)], args := #[] }] } w4 := by
  refine leaves_cons (f := 20) (args := #[.pointer (some ⟨w.heap.size + 1 + 1, 0, none⟩)]) (by simp) (by simp [go_sem]) ?_
  refine (given_panicking ⟨w.heap.size + 1 + 1, 0, none⟩ [] _ (fun o => (B2.alloc o).cell) (fun o => (B2.alloc o).frozen)).mono ?_
  rintro e u' w'' ⟨rfl, rfl, rfl⟩
  obtain ⟨w5, hw5⟩ : ∃ w5, ((w4.alloc (.cells #[] 69)).setCell ⟨w.heap.size + 1 + 1, 0, none⟩ (.bool true)) = w5 := ⟨_, rfl⟩
  rw [hw5]
  have D0 : Boxed w5 w.heap.size 32 v := by rw [← hw5]; exact (B0.alloc _).other (by omega) _
  have D1 : Boxed w5 (w.heap.size + 1) 25 (.int .i64 0) := by rw [← hw5]; exact (B1.alloc _).other (by omega) _
  have D2 : Boxed w5 (w.heap.size + 1 + 1) 4 (.bool true) := by rw [← hw5]; exact (B2.alloc _).set _
  have hB5 : Below w.heap.size w w5 := by rw [← hw5]; exact (HB4.alloc HB4.size _).setCell (p := ⟨w.heap.size + 1 + 1, 0, none⟩) (by simp; omega) _
  clear hw5
  refine leaves_cons (f := 25) (args := #[.pointer (some ⟨w.heap.size + 1 + 1, 0, none⟩), .pointer (some ⟨w.heap.size, 0, none⟩), .pointer (some ⟨w.heap.size + 1, 0, none⟩)]) (by simp [settle]) (by simp [go_sem]) ?_
  refine (parse1_up _ _ _ _ _ _ _ D2.cell D0.cell D0.frozen (D1.other (by omega) _).cell (D1.other (by omega) _).frozen).mono ?_
  rintro e u' w'' ⟨rfl, rfl, rfl⟩
  have d0 := ((D0.set (.slice none 0 0)).other (B' := w.heap.size + 1) (by omega) (.int .i64 5)).cell
  have d1 := ((D1.other (B' := w.heap.size) (by omega) (.slice none 0 0)).set (.int .i64 5)).cell
  have hB6 : Below w.heap.size w ((w5.setCell ⟨w.heap.size, 0, none⟩ (.slice none 0 0)).setCell ⟨w.heap.size + 1, 0, none⟩ (.int .i64 5)) := (hB5.setCell (p := ⟨w.heap.size, 0, none⟩) (Nat.le_refl _) _).setCell (p := ⟨w.heap.size + 1, 0, none⟩) (by simp) _
  simp [Leaves, settle, results, Tryz.results13, go_sem, d0, d1, h2, h3, asAddr, Result.andThen]
  exact ⟨Kd.R_nil _ _ _ _ _, hB6⟩
set_option maxHeartbeats 8000000 in
set_option maxRecDepth 100000 in
theorem parse_calls (s : ByteArray) (r1 : List S50) (r2 : Int) (w : World) (h : parseTF s = some (r1, r2)) (hL : LaidW w) :
    Calls Tryz.prog 13 #[.string s] w fun e w' => ∃ v0_ : Value, e = .returned (.tuple #[v0_, .int .i64 r2]) ∧ Kd.R k50 50 w' w.heap.size (fun _ => True) v0_ r1 ∧ Below w.heap.size w w' := by
  unfold parseTF at h
  by_cases hs : s.size ≤ 100000
  case neg => rw [if_neg hs] at h; cases h
  rw [if_pos hs] at h
  have hmf : ∀ (fn : Fn) (first cap : Array Value) (w : World), (Instr.makeFunc fn first cap).run Tryz.prog w = .ok (.func fn first cap) w := fun _ _ _ _ => rfl
  obtain ⟨w3, hw3, b0, b1, b2, hB3⟩ := boxes3 w (.slice none 0 0) (.int .i64 0) (.bool false) 32 25 4
  have HSP := Aside0.mk (splitAfter_calls s w3 (hL.below hB3) (by omega))
  obtain ⟨ps, hps⟩ : ∃ ps, linesB s = ps := ⟨_, rfl⟩
  obtain ⟨np, hnp⟩ : ∃ np, ps.length = np := ⟨_, rfl⟩
  have hnpos : 1 ≤ np := by rw [← hnp, ← hps, linesB_len]; omega
  have hnle : np ≤ 100001 := by
    have := Lib.countB_le ⟨#[10]⟩ (by decide) s.size s (Nat.le_refl _)
    have := linesB_len s
    rw [← hnp, ← hps]; omega
  have hpsz : ∀ p ∈ ps, p.size ≤ s.size := by rw [← hps]; exact pieces_small _ _ _ _ (by decide)
  rw [hps, hnp] at HSP
  rw [hps] at h
  have HH := Aside0.mk h
  have HW3 := Aside0.mk hw3
  have H0 := Aside0.mk b0
  have H1 := Aside0.mk b1
  have H2 := Aside0.mk b2
  have HB3 := Aside0.mk hB3
  have HLD := Aside0.mk hL
  have HPZ := Aside0.mk hpsz
  have HNP := Aside0.mk hnp
  clear hw3 b0 b1 b2 hB3 h hL hpsz hps hnp
  by_cases hn1 : np = 1
  · subst hn1
    go_enter_defers Tryz.func13, Tryz.ntmps13
    go_wp2_with (first
      | (go_at_call 26; rw [HW3.out]; refine HSP.out.mono ?_; rintro e w4 ⟨rfl, hw4⟩; rw [hw4]))
    obtain ⟨W0, hW0⟩ : ∃ W0, w3.alloc (.cells (encs Value.string ps).toArray 9) = W0 := ⟨_, rfl⟩
    obtain ⟨g, hg⟩ : ∃ g, w3.heap.size = g := ⟨_, rfl⟩
    have B0 : Boxed W0 w.heap.size 32 (.slice none 0 0) := by rw [← hW0]; exact H0.out.alloc _
    have B1 : Boxed W0 (w.heap.size + 1) 25 (.int .i64 0) := by rw [← hW0]; exact H1.out.alloc _
    have B2 : Boxed W0 (w.heap.size + 1 + 1) 4 (.bool false) := by rw [← hW0]; exact H2.out.alloc _
    have hG : W0.heap[g]? = some (.cells (encs Value.string ps).toArray 9 (0, 0)) := by rw [← hW0, ← hg]; exact blk_new w3 _
    have hBW : Below w.heap.size w W0 := by rw [← hW0]; exact HB3.out.alloc HB3.out.size _
    have hgl : w.heap.size + 1 + 1 < g := by rw [← hg]; exact H2.out.lt
    have hg0 : g < W0.heap.size := blk_lt hG
    rw [hW0, hg]
    have HB0 := Aside0.mk B0
    have HB1 := Aside0.mk B1
    have HB2 := Aside0.mk B2
    have HG := Aside0.mk hG
    have HBW := Aside0.mk hBW
    have HGL := Aside0.mk hgl
    have HG0 := Aside0.mk hg0
    clear B0 B1 B2 hG hBW hgl hg0 hW0 hg HSP H0 H1 H2 HB3 HW3
    obtain ⟨n1, hn1⟩ : ∃ n1, W0.heap.size = n1 := ⟨_, rfl⟩
    have HN1 := Aside0.mk hn1
    clear hn1
    go_loopg [14] (0 + 1) (fun kq v14 W => ∃ (i : Nat), v14 = .int .i64 (i : Int) ∧ i ≤ 0 ∧ Aside0 (kq + i = 0 + 1) ∧ Aside0 (∃ (ov : Value) (out : List S50), readAll (ps.tail.take i) = some out ∧ out.length ≤ i ∧ Boxed W w.heap.size 32 ov ∧ Kd.R k50 50 W w.heap.size (fun j => n1 ≤ j) ov out) ∧ Aside0 (Boxed W (w.heap.size + 1) 25 (.int .i64 0)) ∧ Aside0 (Boxed W (w.heap.size + 1 + 1) 4 (.bool false)) ∧ Aside0 (W.heap[g]? = some (.cells (encs Value.string ps).toArray 9 (0, 0))) ∧ Aside0 (Below w.heap.size w W) ∧ Aside0 (n1 ≤ W.heap.size))
    case atStart => exact ⟨0, rfl, Nat.zero_le _, ⟨by omega⟩, ⟨_, [], rfl, Nat.le_refl _, HB0.out, Kd.R_nil _ _ _ _ _⟩, HB1, HB2, HG, HBW, ⟨Nat.le_of_eq HN1.out.symm⟩⟩
    case round =>
      obtain ⟨i, rfl, hi, HK, ⟨ov, out, hra, hol, hb0, hR⟩, HQ1, HQ2, HQG, HQB, HQN⟩ := hrel
      have HRA := Aside0.mk hra
      have HOL := Aside0.mk hol
      have HQ0 := Aside0.mk hb0
      have HR := Aside0.mk hR
      clear hra hol hb0 hR
      by_cases c3 : i < 0
      · exact absurd c3 (by omega)
      · obtain rfl : i = 0 := by omega
        have c3b0 : decide ((0 : Int) < (0 : Int)) = false := decide_eq_false (by omega)
        have hra := HRA.out
        rw [List.take_of_length_le (by have := HNP.out; rw [List.length_tail]; omega)] at hra
        have hh := HH.out
        rw [hra] at hh
        dsimp only at hh
        by_cases hsm : Small out
        case neg => rw [if_neg hsm] at hh; cases hh
        rw [if_pos hsm] at hh
        obtain ⟨K0, hr⟩ := right_of hsm
        obtain ⟨r, hrd⟩ : ∃ r, M.rightS out = r := ⟨_, rfl⟩
        rw [hrd] at hh hr
        clear hrd
        obtain ⟨Ao, co, rfl⟩ := Kd.R_slice HR.out
        have HRD := Aside0.mk (Kd.R_reads' HR.out)
        have HRR := Aside0.mk hr
        have HSM := Aside0.mk hsm
        have y0 := HQ0.out.cell
        clear hr hsm hra HRA HH HK
        by_cases hg : goodC out r = true
        · by_cases ht : textTx out = s.data.toList
          · rw [if_pos ⟨hg, ht⟩] at hh
            obtain ⟨rfl, rfl⟩ : r1 = out ∧ r2 = 0 := by simpa [eq_comm] using hh
            have hq : ((⟨(textTx r1).toArray⟩ : ByteArray).toList == s.toList) = true := by rw [beq_iff_eq, Lib.toList_data, Lib.toList_data]; exact ht
            obtain ⟨T, hT⟩ : ∃ T : ByteArray, ⟨(textTx r1).toArray⟩ = T := ⟨_, rfl⟩
            rw [hT] at hq
            have HT := Aside0.mk hT
            clear hT ht hh
            go_wp2_with (first
              | (go_at_call 21; refine (printed_calls Ao co r1 K0 r _ HRD.out.2.2 HRD.out.2.1 HRR.out HSM.out (HLD.out.below HQB.out)).mono ?_; rintro e w5 ⟨hc, hb5⟩; obtain rfl : e = .returned (.string ⟨(textTx r1).toArray⟩) := (by rcases hc with ⟨h1, h2⟩ | ⟨h1, h2⟩; exact h2; exact absurd (h1.symm.trans hg) (by decide)); have HY0 := Aside0.mk (boxed_below HQ0.out hb5); have HY1 := Aside0.mk (boxed_below HQ1.out hb5); have HY2 := Aside0.mk (boxed_below HQ2.out hb5); have HYR := Aside0.mk (Kd.R_below HR.out hb5); have HYB := Aside0.mk (below_step HQB.out hb5); clear hc hb5 y0; rw [HT.out]; have z0 := HY0.out.cell; have z1 := (HY1.out.other (B' := w.heap.size) (by omega) (.slice Ao r1.length co)).cell; have q0 := HY0.out.frozen; have q1 := (HY1.out.other (B' := w.heap.size) (by omega) (.slice Ao r1.length co)).frozen)
              | (go_at_call 29; (with_reducible refine (need_true _).mono ?_); rintro e w6 ⟨rfl, hw6⟩; rw [hw6]; clear hw6))
            clear z0 z1 q0 q1
            obtain ⟨w6, hw6⟩ : ∃ w6, (w5.setCell ⟨w.heap.size, 0, none⟩ (.slice Ao r1.length co)).setCell ⟨w.heap.size + 1, 0, none⟩ (.int .i64 0) = w6 := ⟨_, rfl⟩
            rw [hw6]
            have D0 : Boxed w6 w.heap.size 32 (.slice Ao r1.length co) := by rw [← hw6]; exact (HY0.out.set _).other (by omega) _
            have D1 : Boxed w6 (w.heap.size + 1) 25 (.int .i64 0) := by rw [← hw6]; exact (HY1.out.other (by omega) _).set _
            have D2 : Boxed w6 (w.heap.size + 1 + 1) 4 (.bool false) := by rw [← hw6]; exact (HY2.out.other (by omega) _).other (by omega) _
            have hB6 : Below w.heap.size w w6 := by rw [← hw6]; exact (HYB.out.setCell (p := ⟨w.heap.size, 0, none⟩) (Nat.le_refl _) _).setCell (p := ⟨w.heap.size + 1, 0, none⟩) (by simp) _
            have hR6 : Kd.R k50 50 w6 w.heap.size (fun _ => True) (.slice Ao r1.length co) r1 := by
              rw [← hw6]
              exact Kd.R_mono (Kd.R_far (p := ⟨w.heap.size + 1, 0, none⟩) (Kd.R_far (p := ⟨w.heap.size, 0, none⟩) HYR.out (fun k hk => by show k ≠ w.heap.size; have := HGL.out; have := HG0.out; have := HN1.out; omega) _) (fun k hk => by show k ≠ w.heap.size + 1; have := HGL.out; have := HG0.out; have := HN1.out; omega) _) (fun _ _ => trivial)
            clear hw6
            refine leaves_cons (f := 20) (args := #[.pointer (some ⟨w.heap.size + 1 + 1, 0, none⟩)]) (by simp) (by simp [go_sem]) ?_
            refine (given_idle ⟨w.heap.size + 1 + 1, 0, none⟩ _).mono ?_
            rintro e u' w'' ⟨rfl, rfl, rfl⟩
            refine leaves_cons (f := 25) (args := #[.pointer (some ⟨w.heap.size + 1 + 1, 0, none⟩), .pointer (some ⟨w.heap.size, 0, none⟩), .pointer (some ⟨w.heap.size + 1, 0, none⟩)]) (by simp [settle]) (by simp [go_sem]) ?_
            refine (parse1_not _ _ _ _ _ D2.cell).mono ?_
            rintro e u' w'' ⟨rfl, rfl, rfl⟩
            have d0 := D0.cell
            have d1 := D1.cell
            simp [Leaves, settle, results, Tryz.results13, go_sem, d0, d1]
            exact ⟨hR6, hB6⟩
          · rw [if_neg (fun h => ht h.2)] at hh
            obtain ⟨rfl, rfl⟩ : r1 = [] ∧ r2 = 5 := by simpa [eq_comm] using hh
            have hq : ((⟨(textTx out).toArray⟩ : ByteArray).toList == s.toList) = false := by rw [beq_eq_false_iff_ne, Lib.toList_data, Lib.toList_data]; exact ht
            obtain ⟨T, hT⟩ : ∃ T : ByteArray, ⟨(textTx out).toArray⟩ = T := ⟨_, rfl⟩
            rw [hT] at hq
            have HT := Aside0.mk hT
            clear hT ht hh
            go_wp2_with (first
              | (go_at_call 21; refine (printed_calls Ao co out K0 r _ HRD.out.2.2 HRD.out.2.1 HRR.out HSM.out (HLD.out.below HQB.out)).mono ?_; rintro e w5 ⟨hc, hb5⟩; obtain rfl : e = .returned (.string ⟨(textTx out).toArray⟩) := (by rcases hc with ⟨h1, h2⟩ | ⟨h1, h2⟩; exact h2; exact absurd (h1.symm.trans hg) (by decide)); have HY0 := Aside0.mk (boxed_below HQ0.out hb5); have HY1 := Aside0.mk (boxed_below HQ1.out hb5); have HY2 := Aside0.mk (boxed_below HQ2.out hb5); have HYR := Aside0.mk (Kd.R_below HR.out hb5); have HYB := Aside0.mk (below_step HQB.out hb5); clear hc hb5 y0; rw [HT.out])
              | (go_at_call 29; (with_reducible refine (need_false _).mono ?_); rintro e w6 ⟨rfl, hw6⟩; rw [hw6]; clear hw6))
            exact door_bad HY0.out HY1.out HY2.out HYB.out rfl rfl
        · rw [if_neg (fun h => hg h.1)] at hh
          obtain ⟨rfl, rfl⟩ : r1 = [] ∧ r2 = 5 := by simpa [eq_comm] using hh
          rw [Bool.not_eq_true] at hg
          clear hh
          go_wp2_with (first
            | (go_at_call 21; refine (printed_calls Ao co out K0 r _ HRD.out.2.2 HRD.out.2.1 HRR.out HSM.out (HLD.out.below HQB.out)).mono ?_; rintro e w5 ⟨hc, hb5⟩; obtain rfl : e = .panicked [{ v := .iface 69 (.agg #[]), recovered := false }] := (by rcases hc with ⟨h1, h2⟩ | ⟨h1, h2⟩; exact absurd (h1.symm.trans hg) (by decide); exact h2); have HY0 := Aside0.mk (boxed_below HQ0.out hb5); have HY1 := Aside0.mk (boxed_below HQ1.out hb5); have HY2 := Aside0.mk (boxed_below HQ2.out hb5); have HYR := Aside0.mk (Kd.R_below HR.out hb5); have HYB := Aside0.mk (below_step HQB.out hb5); clear hc hb5 y0))
          exact door_bad HY0.out HY1.out HY2.out HYB.out rfl rfl
  · have HN2 := Aside0.mk hn1
    go_enter_defers Tryz.func13, Tryz.ntmps13
    go_wp2_with (first
      | (go_at_call 26; rw [HW3.out]; refine HSP.out.mono ?_; rintro e w4 ⟨rfl, hw4⟩; rw [hw4]))
    obtain ⟨W0, hW0⟩ : ∃ W0, w3.alloc (.cells (encs Value.string ps).toArray 9) = W0 := ⟨_, rfl⟩
    obtain ⟨g, hg⟩ : ∃ g, w3.heap.size = g := ⟨_, rfl⟩
    have B0 : Boxed W0 w.heap.size 32 (.slice none 0 0) := by rw [← hW0]; exact H0.out.alloc _
    have B1 : Boxed W0 (w.heap.size + 1) 25 (.int .i64 0) := by rw [← hW0]; exact H1.out.alloc _
    have B2 : Boxed W0 (w.heap.size + 1 + 1) 4 (.bool false) := by rw [← hW0]; exact H2.out.alloc _
    have hG : W0.heap[g]? = some (.cells (encs Value.string ps).toArray 9 (0, 0)) := by rw [← hW0, ← hg]; exact blk_new w3 _
    have hBW : Below w.heap.size w W0 := by rw [← hW0]; exact HB3.out.alloc HB3.out.size _
    have hgl : w.heap.size + 1 + 1 < g := by rw [← hg]; exact H2.out.lt
    have hg0 : g < W0.heap.size := blk_lt hG
    rw [hW0, hg]
    have HB0 := Aside0.mk B0
    have HB1 := Aside0.mk B1
    have HB2 := Aside0.mk B2
    have HG := Aside0.mk hG
    have HBW := Aside0.mk hBW
    have HGL := Aside0.mk hgl
    have HG0 := Aside0.mk hg0
    clear B0 B1 B2 hG hBW hgl hg0 hW0 hg HSP H0 H1 H2 HB3 HW3
    obtain ⟨n1, hn1⟩ : ∃ n1, W0.heap.size = n1 := ⟨_, rfl⟩
    have HN1 := Aside0.mk hn1
    clear hn1
    go_loopg [14] ((np - 1) + 1) (fun kq v14 W => ∃ (i : Nat), v14 = .int .i64 (i : Int) ∧ i ≤ (np - 1) ∧ Aside0 (kq + i = (np - 1) + 1) ∧ Aside0 (∃ (ov : Value) (out : List S50), readAll (ps.tail.take i) = some out ∧ out.length ≤ i ∧ Boxed W w.heap.size 32 ov ∧ Kd.R k50 50 W w.heap.size (fun j => n1 ≤ j) ov out) ∧ Aside0 (Boxed W (w.heap.size + 1) 25 (.int .i64 0)) ∧ Aside0 (Boxed W (w.heap.size + 1 + 1) 4 (.bool false)) ∧ Aside0 (W.heap[g]? = some (.cells (encs Value.string ps).toArray 9 (0, 0))) ∧ Aside0 (Below w.heap.size w W) ∧ Aside0 (n1 ≤ W.heap.size))
    case atStart => exact ⟨0, rfl, Nat.zero_le _, ⟨by omega⟩, ⟨_, [], rfl, Nat.le_refl _, HB0.out, Kd.R_nil _ _ _ _ _⟩, HB1, HB2, HG, HBW, ⟨Nat.le_of_eq HN1.out.symm⟩⟩
    case round =>
      obtain ⟨i, rfl, hi, HK, ⟨ov, out, hra, hol, hb0, hR⟩, HQ1, HQ2, HQG, HQB, HQN⟩ := hrel
      have HRA := Aside0.mk hra
      have HOL := Aside0.mk hol
      have HQ0 := Aside0.mk hb0
      have HR := Aside0.mk hR
      clear hra hol hb0 hR
      by_cases c3 : i < (np - 1)
      · obtain ⟨k1, rfl⟩ : ∃ k1, gk = k1 + 1 := ⟨gk - 1, by have := HK.out; omega⟩
        have c3b0 : decide ((i : Int) < (((np - 1) : Nat) : Int)) = true := decide_eq_true (by omega)
        have c4b0 : decide (0 ≤ (i : Int)) = true := decide_eq_true (by omega)
        have p1 : (0 ≤ (i : Int)) = True := eq_true (by omega)
        have q1 : ((i : Int) < (((np - 1) : Nat) : Int)) = True := eq_true (by omega)
        have hw1 : wrap64 ((i : Int) + 1) = ((i + 1 : Nat) : Int) := by unfold wrap64; omega
        obtain ⟨l, hl⟩ : ∃ l, ps[i + 1]? = some l := ⟨ps[i + 1]'(by have := HNP.out; omega), List.getElem?_eq_getElem _⟩
        have hx : wr.cell? ⟨g, 1 + i, none⟩ = some (.string l) := by
          rw [Nat.add_comm 1 i, blk_cell HQG.out (i + 1)]
          simp [encs, hl]
        have htl : ps.tail[i]? = some l := by rw [← hl, List.getElem?_tail]
        have hti : i < ps.tail.length := (List.getElem?_eq_some_iff.1 htl).1
        have hsucc := readAll_succ ps.tail i hti
        rw [HRA.out, (List.getElem?_eq_some_iff.1 htl).2] at hsucc
        have HSU := Aside0.mk hsucc
        have hlz : l.size ≤ s.size := HPZ.out l (List.mem_of_getElem? hl)
        have HLZ := Aside0.mk hlz
        clear hl htl hti hsucc hlz
        by_cases hz : l.size = 0
        · have hne : (l.toList == ([] : List UInt8)) = true := by
            rw [beq_iff_eq, Lib.toList_data]
            have : l.data.size = 0 := hz
            rw [Array.eq_empty_of_size_eq_zero this]
          have HZ := Aside0.mk hz
          clear hz
          go_wp2
          go_roundg k1
          case measure => have := HK.out; omega
          case rel => exact ⟨i + 1, by first | rfl | rw [hw1] | simp, by omega, ⟨by have := HK.out; omega⟩, ⟨_, out, by rw [HSU.out]; unfold stepR; rw [Option.bind_some, if_pos HZ.out], by have := HOL.out; omega, HQ0.out, HR.out⟩, HQ1, HQ2, HQG, HQB, HQN⟩
        · have hne : (l.toList == ([] : List UInt8)) = false := beq_eq_false_iff_ne.mpr (fun h => hz (size_nil h))
          have HZ := Aside0.mk hz
          clear hz
          go_upto_region 9 with (fail)
          clear hx hne hw1 p1 q1
          obtain ⟨Ao, co, rfl⟩ := Kd.R_slice HR.out
          have HBx := Aside0.mk (below_drew1 HQB.out)
          refine start_ (n := 7) (S := fun w' => w'.cell? ⟨w.heap.size, 0, none⟩ = some (.slice Ao out.length co)) (ds := [5, 6]) (bz 7 0) (by kernel_rfl) rfl rfl (show wr.cell? ⟨w.heap.size, 0, none⟩ = _ from HQ0.out.cell) (fun hHeld => ?_); refine with_tabW parse.tab9 parse.bits9 (fun HT_ HW_ => ?_)
          have hwx : wr.drew.heap = wr.heap := rfl
          have HX0 : Aside0 (Boxed wr.drew w.heap.size 32 (.slice Ao out.length co)) := ⟨HQ0.out⟩
          have HX1 : Aside0 (Boxed wr.drew (w.heap.size + 1) 25 (.int .i64 0)) := ⟨HQ1.out⟩
          have HX2 : Aside0 (Boxed wr.drew (w.heap.size + 1 + 1) 4 (.bool false)) := ⟨HQ2.out⟩
          have HXG : Aside0 (wr.drew.heap[g]? = some (.cells (encs Value.string ps).toArray 9 (0, 0))) := ⟨HQG.out⟩
          have HXN : Aside0 (n1 ≤ wr.drew.heap.size) := ⟨HQN.out⟩
          have HXR : Aside0 (Kd.R k50 50 wr.drew w.heap.size (fun j => n1 ≤ j) (.slice Ao out.length co) out) := ⟨Kd.R_drew HR.out⟩
          generalize wr.drew = w8 at HBx HX0 HX1 HX2 HXG HXN HXR hHeld ⊢
          clear HQ0 HQ1 HQ2 HQG HQB HQN HR
          refine RFn.pA (i := 1) (N := some 21) (bz 7 2) HT_ (hQ := by intro c a w h; simp +zetaDelta only [Exit.then, Exit.inBlock] at h ⊢; exact parse_hQ (by decide) (by decide) h) ?_
          refine RFn.tA (i := 0) (N := some 20) (bz 7 3) rfl HT_ HW_ hHeld (by rintro w' s0; go_simp; with_reducible rfl) (hQ := by intro c a w h; simp +zetaDelta only [Exit.then, Exit.inBlock] at h ⊢; exact parse_hQ (by decide) (by decide) h) ?_
          refine RFn.o1 (i := 2) (N := some 22) (bz 7 7) HT_ fun K hK => ?_
          refine RFn.gA Tryz.func28 #[.string l, .string ⟨#[10]⟩] rfl ?_
          refine (trim_calls l _ (by have := HLZ.out; omega)).mono ?_
          rintro e w9 ⟨rfl, hw9⟩
          refine ⟨_, rfl, ?_⟩
          rw [hw9]
          refine hK.out _ _ hHeld (fun _ => ?_)
          clear hK K hw9
          refine RFn.nm (some 22) ?_
          refine RFn.o1 (i := 3) (N := some 23) (bz 7 15) HT_ fun K hK => ?_
          refine goesP Tryz.func27 #[.string (trimB l)] rfl ?_
          refine (read_calls (trimB l) _ (HLD.out.below HBx.out) (by have := HLZ.out; have := trimB_size l; omega)).mono ?_
          rintro e w10 ⟨⟨x, hrd, rfl⟩ | ⟨hrd, rfl⟩, hb10⟩
          case inr =>
            refine .inr ⟨_, rfl, ?_⟩
            have hn0 : readAll ps.tail = none := readAll_none _ (i + 1) (by rw [HSU.out]; unfold stepR; rw [Option.bind_some, if_neg HZ.out, hrd]; rfl)
            have hh := HH.out
            rw [hn0] at hh
            obtain ⟨rfl, rfl⟩ : r1 = [] ∧ r2 = 5 := by simpa [eq_comm] using hh
            simp +zetaDelta only [Exit.then, Exit.inBlock]
            exact door_bad (boxed_below HX0.out hb10) (boxed_below HX1.out hb10) (boxed_below HX2.out hb10) (below_step HBx.out hb10) rfl rfl
          case inl =>
            refine .inl ⟨_, rfl, ?_⟩
            have HY0 := Aside0.mk (boxed_below HX0.out hb10)
            have HY1 := Aside0.mk (boxed_below HX1.out hb10)
            have HY2 := Aside0.mk (boxed_below HX2.out hb10)
            have HYG := Aside0.mk (blk_below HXG.out hb10)
            have HYN : Aside0 (n1 ≤ w10.heap.size) := ⟨Nat.le_trans HXN.out hb10.size⟩
            have HYR := Aside0.mk (Kd.R_below HXR.out hb10)
            have HYB := Aside0.mk (below_step HBx.out hb10)
            refine hK.out _ _ HY0.out.cell (fun _ => ?_)
            clear hK K hb10 HX0 HX1 HX2 HXG HXN HXR HBx hHeld
            refine RFn.nm (some 23) ?_
            refine RFn.o1 (i := 4) (N := some 24) (bz 7 31) HT_ fun K hK => ?_
            refine value_ (N := some 24) (w1 := w10.alloc (.cells #[.string x.f0.f0, .string x.f0.f1, .string x.f0.f2, .string x.f0.f3, .int .i64 x.f0.f4, .int .i64 x.f1] 50)) (v := .slice (some ⟨w10.heap.size, 0, none⟩) 1 1) rfl rfl (by first | (go_simp; done) | (go_simp; rfl)) ?_
            refine hK.out _ _ (HY0.out.alloc _).cell (fun _ => ?_)
            clear hK K
            refine RFn.nm (some 24) ?_
            refine last_ (i := 5) (N := some 25) (bz 7 63) rfl rfl (one_of HT_.out (by kernel_rfl)) (by decide) (fun K hK => ?_)
            refine Kd.R_append_step k50 (w0 := w10) w.heap.size rfl (.tmp 20) (.tmp 24) 32 50 (.agg #[(.string ⟨#[]⟩), (.string ⟨#[]⟩), (.string ⟨#[]⟩), (.string ⟨#[]⟩), (.int .i64 0), (.int .i64 0)]) 80 rfl Tryz.underlying32 info50 rfl (by decide) (by omega) (.slice Ao out.length co) out x [.string x.f0.f0, .string x.f0.f1, .string x.f0.f2, .string x.f0.f3, .int .i64 x.f0.f4, .int .i64 x.f1] (fun j => n1 ≤ j) (fun _ => False) rfl rfl (k50_mkM _ _ _ _) (fun _ h => h.elim) (fun k hk => Nat.le_trans HYN.out hk) HYR.out (Below.refl _ _) HYB.out.size (by have := HOL.out; omega) ?_
            intro v11 w11 hR11 hB11 hg11 _
            obtain ⟨A11, c11, rfl⟩ := Kd.R_slice hR11
            have hnb : ∀ B, B < n1 → some B ≠ (Value.slice Ao out.length co).ownBlock := fun B hB e => by have := HYR.out.1 B e.symm; omega
            have HZ0 := Aside0.mk (HY0.out.kept hg11 (hnb _ (by have := HGL.out; have := HG0.out; have := HN1.out; omega)))
            have HZ1 := Aside0.mk (HY1.out.kept hg11 (hnb _ (by have := HGL.out; have := HG0.out; have := HN1.out; omega)))
            have HZ2 := Aside0.mk (HY2.out.kept hg11 (hnb _ (by have := HGL.out; have := HG0.out; have := HN1.out; omega)))
            have HZG := Aside0.mk ((hg11.block g (blk_lt HYG.out) (hnb _ (by have := HG0.out; have := HN1.out; omega))).trans HYG.out)
            have HZB := Aside0.mk (HYB.out.trans hB11)
            have HZN : Aside0 (n1 ≤ w11.heap.size) := ⟨Nat.le_trans HYN.out hB11.size⟩
            rw [show (out ++ [x]).length = out.length + 1 by simp] at hR11
            have HZR := Aside0.mk hR11
            refine hK.out _ _ ?_
            clear hK K hR11 hB11 hg11 HY0 HY1 HY2 HYG HYN HYR HYB
            refine RFn.nm (some 25) ?_
            have hc := HZ0.out.cell
            have hf := HZ0.out.frozen
            refine last_ (i := 6) (N := none) (bz 7 127) rfl rfl (one_of HT_.out (by kernel_rfl)) (by decide) (fun K hK => ?_)
            refine skip_ (w1 := ?_) (by rfl) rfl ?_ ?_
            rotate_left
            · go_simp; rfl
            refine hK.out _ _ ?_
            clear hK K hc hf
            refine RFn.dn HT_ ?_
            go_wp2
            go_roundg k1
            case measure => have := HK.out; omega
            case rel => exact ⟨i + 1, by first | rfl | simp [wrap64] | (simp; unfold wrap64; omega), by omega, ⟨by have := HK.out; omega⟩, ⟨_, out ++ [x], by rw [HSU.out]; unfold stepR; rw [Option.bind_some, if_neg HZ.out, hrd]; rfl, by have := HOL.out; simp; omega, HZ0.out.set _, Kd.R_far (p := ⟨w.heap.size, 0, none⟩) HZR.out (fun k hk => by show k ≠ w.heap.size; have := HGL.out; have := HG0.out; have := HN1.out; omega) _⟩, ⟨HZ1.out.other (by omega) _⟩, ⟨HZ2.out.other (by omega) _⟩, ⟨(Below.heap_setCell _ _ _ _ (by show g ≠ w.heap.size; have := HGL.out; omega)).trans HZG.out⟩, ⟨HZB.out.setCell (p := ⟨w.heap.size, 0, none⟩) (Nat.le_refl _) _⟩, ⟨by simpa using HZN.out⟩⟩
      · obtain rfl : i = (np - 1) := by omega
        have c3b0 : decide (((np - 1 : Nat) : Int) < ((np - 1 : Nat) : Int)) = false := decide_eq_false (by omega)
        have hra := HRA.out
        rw [List.take_of_length_le (by have := HNP.out; rw [List.length_tail]; omega)] at hra
        have hh := HH.out
        rw [hra] at hh
        dsimp only at hh
        by_cases hsm : Small out
        case neg => rw [if_neg hsm] at hh; cases hh
        rw [if_pos hsm] at hh
        obtain ⟨K0, hr⟩ := right_of hsm
        obtain ⟨r, hrd⟩ : ∃ r, M.rightS out = r := ⟨_, rfl⟩
        rw [hrd] at hh hr
        clear hrd
        obtain ⟨Ao, co, rfl⟩ := Kd.R_slice HR.out
        have HRD := Aside0.mk (Kd.R_reads' HR.out)
        have HRR := Aside0.mk hr
        have HSM := Aside0.mk hsm
        have y0 := HQ0.out.cell
        clear hr hsm hra HRA HH HK
        by_cases hg : goodC out r = true
        · by_cases ht : textTx out = s.data.toList
          · rw [if_pos ⟨hg, ht⟩] at hh
            obtain ⟨rfl, rfl⟩ : r1 = out ∧ r2 = 0 := by simpa [eq_comm] using hh
            have hq : ((⟨(textTx r1).toArray⟩ : ByteArray).toList == s.toList) = true := by rw [beq_iff_eq, Lib.toList_data, Lib.toList_data]; exact ht
            obtain ⟨T, hT⟩ : ∃ T : ByteArray, ⟨(textTx r1).toArray⟩ = T := ⟨_, rfl⟩
            rw [hT] at hq
            have HT := Aside0.mk hT
            clear hT ht hh
            go_wp2_with (first
              | (go_at_call 21; refine (printed_calls Ao co r1 K0 r _ HRD.out.2.2 HRD.out.2.1 HRR.out HSM.out (HLD.out.below HQB.out)).mono ?_; rintro e w5 ⟨hc, hb5⟩; obtain rfl : e = .returned (.string ⟨(textTx r1).toArray⟩) := (by rcases hc with ⟨h1, h2⟩ | ⟨h1, h2⟩; exact h2; exact absurd (h1.symm.trans hg) (by decide)); have HY0 := Aside0.mk (boxed_below HQ0.out hb5); have HY1 := Aside0.mk (boxed_below HQ1.out hb5); have HY2 := Aside0.mk (boxed_below HQ2.out hb5); have HYR := Aside0.mk (Kd.R_below HR.out hb5); have HYB := Aside0.mk (below_step HQB.out hb5); clear hc hb5 y0; rw [HT.out]; have z0 := HY0.out.cell; have z1 := (HY1.out.other (B' := w.heap.size) (by omega) (.slice Ao r1.length co)).cell; have q0 := HY0.out.frozen; have q1 := (HY1.out.other (B' := w.heap.size) (by omega) (.slice Ao r1.length co)).frozen)
              | (go_at_call 29; (with_reducible refine (need_true _).mono ?_); rintro e w6 ⟨rfl, hw6⟩; rw [hw6]; clear hw6))
            clear z0 z1 q0 q1
            obtain ⟨w6, hw6⟩ : ∃ w6, (w5.setCell ⟨w.heap.size, 0, none⟩ (.slice Ao r1.length co)).setCell ⟨w.heap.size + 1, 0, none⟩ (.int .i64 0) = w6 := ⟨_, rfl⟩
            rw [hw6]
            have D0 : Boxed w6 w.heap.size 32 (.slice Ao r1.length co) := by rw [← hw6]; exact (HY0.out.set _).other (by omega) _
            have D1 : Boxed w6 (w.heap.size + 1) 25 (.int .i64 0) := by rw [← hw6]; exact (HY1.out.other (by omega) _).set _
            have D2 : Boxed w6 (w.heap.size + 1 + 1) 4 (.bool false) := by rw [← hw6]; exact (HY2.out.other (by omega) _).other (by omega) _
            have hB6 : Below w.heap.size w w6 := by rw [← hw6]; exact (HYB.out.setCell (p := ⟨w.heap.size, 0, none⟩) (Nat.le_refl _) _).setCell (p := ⟨w.heap.size + 1, 0, none⟩) (by simp) _
            have hR6 : Kd.R k50 50 w6 w.heap.size (fun _ => True) (.slice Ao r1.length co) r1 := by
              rw [← hw6]
              exact Kd.R_mono (Kd.R_far (p := ⟨w.heap.size + 1, 0, none⟩) (Kd.R_far (p := ⟨w.heap.size, 0, none⟩) HYR.out (fun k hk => by show k ≠ w.heap.size; have := HGL.out; have := HG0.out; have := HN1.out; omega) _) (fun k hk => by show k ≠ w.heap.size + 1; have := HGL.out; have := HG0.out; have := HN1.out; omega) _) (fun _ _ => trivial)
            clear hw6
            refine leaves_cons (f := 20) (args := #[.pointer (some ⟨w.heap.size + 1 + 1, 0, none⟩)]) (by simp) (by simp [go_sem]) ?_
            refine (given_idle ⟨w.heap.size + 1 + 1, 0, none⟩ _).mono ?_
            rintro e u' w'' ⟨rfl, rfl, rfl⟩
            refine leaves_cons (f := 25) (args := #[.pointer (some ⟨w.heap.size + 1 + 1, 0, none⟩), .pointer (some ⟨w.heap.size, 0, none⟩), .pointer (some ⟨w.heap.size + 1, 0, none⟩)]) (by simp [settle]) (by simp [go_sem]) ?_
            refine (parse1_not _ _ _ _ _ D2.cell).mono ?_
            rintro e u' w'' ⟨rfl, rfl, rfl⟩
            have d0 := D0.cell
            have d1 := D1.cell
            simp [Leaves, settle, results, Tryz.results13, go_sem, d0, d1]
            exact ⟨hR6, hB6⟩
          · rw [if_neg (fun h => ht h.2)] at hh
            obtain ⟨rfl, rfl⟩ : r1 = [] ∧ r2 = 5 := by simpa [eq_comm] using hh
            have hq : ((⟨(textTx out).toArray⟩ : ByteArray).toList == s.toList) = false := by rw [beq_eq_false_iff_ne, Lib.toList_data, Lib.toList_data]; exact ht
            obtain ⟨T, hT⟩ : ∃ T : ByteArray, ⟨(textTx out).toArray⟩ = T := ⟨_, rfl⟩
            rw [hT] at hq
            have HT := Aside0.mk hT
            clear hT ht hh
            go_wp2_with (first
              | (go_at_call 21; refine (printed_calls Ao co out K0 r _ HRD.out.2.2 HRD.out.2.1 HRR.out HSM.out (HLD.out.below HQB.out)).mono ?_; rintro e w5 ⟨hc, hb5⟩; obtain rfl : e = .returned (.string ⟨(textTx out).toArray⟩) := (by rcases hc with ⟨h1, h2⟩ | ⟨h1, h2⟩; exact h2; exact absurd (h1.symm.trans hg) (by decide)); have HY0 := Aside0.mk (boxed_below HQ0.out hb5); have HY1 := Aside0.mk (boxed_below HQ1.out hb5); have HY2 := Aside0.mk (boxed_below HQ2.out hb5); have HYR := Aside0.mk (Kd.R_below HR.out hb5); have HYB := Aside0.mk (below_step HQB.out hb5); clear hc hb5 y0; rw [HT.out])
              | (go_at_call 29; (with_reducible refine (need_false _).mono ?_); rintro e w6 ⟨rfl, hw6⟩; rw [hw6]; clear hw6))
            exact door_bad HY0.out HY1.out HY2.out HYB.out rfl rfl
        · rw [if_neg (fun h => hg h.1)] at hh
          obtain ⟨rfl, rfl⟩ : r1 = [] ∧ r2 = 5 := by simpa [eq_comm] using hh
          rw [Bool.not_eq_true] at hg
          clear hh
          go_wp2_with (first
            | (go_at_call 21; refine (printed_calls Ao co out K0 r _ HRD.out.2.2 HRD.out.2.1 HRR.out HSM.out (HLD.out.below HQB.out)).mono ?_; rintro e w5 ⟨hc, hb5⟩; obtain rfl : e = .panicked [{ v := .iface 69 (.agg #[]), recovered := false }] := (by rcases hc with ⟨h1, h2⟩ | ⟨h1, h2⟩; exact absurd (h1.symm.trans hg) (by decide); exact h2); have HY0 := Aside0.mk (boxed_below HQ0.out hb5); have HY1 := Aside0.mk (boxed_below HQ1.out hb5); have HY2 := Aside0.mk (boxed_below HQ2.out hb5); have HYR := Aside0.mk (Kd.R_below HR.out hb5); have HYB := Aside0.mk (below_step HQB.out hb5); clear hc hb5 y0))
          exact door_bad HY0.out HY1.out HY2.out HYB.out rfl rfl
end Go.Proofs.YtjbdkdmoacdbpaaGreatDoor.XC
