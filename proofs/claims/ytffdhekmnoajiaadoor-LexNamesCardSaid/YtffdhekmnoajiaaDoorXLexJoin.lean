import Derived.Test.YtffdhekmnoajiaaDoorXJoin
/- lex.Join by hand -/
set_option linter.unusedVariables false
set_option linter.unusedSimpArgs false
namespace Go.Proofs.YtffdhekmnoajiaaDoor.X
open Go Go.RowKit Go.Proofs.YtffdhekmnoajiaaDoorW.PrintWords Go.Proofs.YtffdhekmnoajiaaDoorW.PrintLast Go.Proofs.YtffdhekmnoajiaaDoorW.PrintMore Go.Proofs.YtffdhekmnoajiaaDoor Go.Proofs.YtffdhekmnoajiaaDoor.Q
def lineTxt (x : S42) : List UInt8 := joinB x.f1 ++ [10]
def joinTxt (l : List S42) : List UInt8 := (l.map lineTxt).flatten
theorem joinTxt_succ (l : List S42) (i : Nat) (h : i < l.length) : joinTxt (l.take (i + 1)) = joinTxt (l.take i) ++ (joinB l[i].f1 ++ [10]) := by
  unfold joinTxt
  rw [List.take_add_one, List.getElem?_eq_getElem h, List.map_append, List.flatten_append]
  simp [lineTxt]
theorem joinTxt_le (l : List S42) (i : Nat) : (joinTxt (l.take i)).length ≤ (joinTxt l).length := by
  conv => rhs; rw [← List.take_append_drop i l]
  unfold joinTxt
  rw [List.map_append, List.flatten_append, List.length_append]; omega
theorem two_below {w W : World} {g : Nat} (h : Below w.heap.size w W) (hg : w.heap.size ≤ g) (u v : Value) : Below w.heap.size w ((W.setCell ⟨g, 0, none⟩ u).setCell ⟨g, 1, none⟩ v) := (h.setCell (p := ⟨g, 0, none⟩) hg u).setCell (p := ⟨g, 1, none⟩) hg v
def joinF (l : List S42) : Option ByteArray := if (joinTxt l).length ≤ 140737488355328 ∧ (l.all fun x => decide (x.f1.length ≤ 140737488355328)) = true then some ⟨(joinTxt l).toArray⟩ else none
set_option maxRecDepth 100000 in
set_option maxHeartbeats 8000000 in
theorem lex_join_calls (A0 : Option Addr) (c0 : Nat) (l0 : List S42) (r : ByteArray) (w : World) (hr0 : Kd.C k42 w A0 l0.length l0) (h : joinF l0 = some r) :
    Calls Tryd.prog 16 #[.slice A0 l0.length c0] w fun e w' => e = .returned (.string r) ∧ Below w.heap.size w w' := by
  unfold joinF at h
  by_cases hg : (joinTxt l0).length ≤ 140737488355328 ∧ (l0.all fun x => decide (x.f1.length ≤ 140737488355328)) = true
  case neg => rw [if_neg hg] at h; cases h
  rw [if_pos hg] at h
  obtain rfl := Option.some.inj h
  obtain ⟨hg1, hg2⟩ := hg
  have hmax : l0.length ≤ 9223372036854775807 := hr0.2.1
  have HR0 := Aside0.mk hr0
  have HG := Aside0.mk hg2
  clear h hr0 hg2
  go_enter Tryd.func16, Tryd.ntmps16
  go_wp2
  go_loopg [8] (l0.length + 1) (fun kq v8 w' => ∃ (i : Nat), v8 = .int .i64 (i : Int) ∧ i ≤ l0.length ∧ Aside0 (kq + i = l0.length + 1) ∧ Aside0 (IsB w.heap.size w.heap.size (joinTxt (l0.take i)) w') ∧ Aside0 (Below w.heap.size w w'))
  case atStart => exact ⟨0, rfl, Nat.zero_le _, ⟨by omega⟩, ⟨IsB.new w (Nat.le_refl _)⟩, ⟨(Below.refl _ w).alloc (Nat.le_refl _) _⟩⟩
  case round =>
    obtain ⟨i, rfl, hi, HK, HI, HB⟩ := hrel
    by_cases c3 : i < l0.length
    · have hk := HK.out
      obtain ⟨k1, rfl⟩ : ∃ k1, gk = k1 + 1 := ⟨gk - 1, by omega⟩
      have c3b0 : decide ((i : Int) < (l0.length : Int)) = true := decide_eq_true (by omega)
      have hC := Kd.C_below HR0.out HB.out
      obtain ⟨ad, A1, c1, rfl, x0, x1, hl1, hC1⟩ := at_T42 hC (i : Int) (by omega) (by omega)
      obtain ⟨xe, hxe⟩ : ∃ xe, rd_T42 l0 (i : Int) = xe := ⟨_, rfl⟩
      have hxg : l0[i] = xe := by rw [← hxe]; unfold rd_T42; rw [Int.toNat_natCast, List.getD_eq_getElem?_getD, List.getElem?_eq_getElem c3]; rfl
      rw [hxe] at x0 x1 hl1 hC1
      rw [Int.toNat_natCast] at x0 x1
      have hsucc := joinTxt_succ l0 i c3
      rw [hxg] at hsucc
      have hle := joinTxt_le l0 (i + 1)
      rw [hsucc] at hle
      simp only [List.length_append, List.length_cons, List.length_nil] at hle
      have hN : xe.f1.length ≤ 140737488355328 := of_decide_eq_true (List.all_eq_true.1 HG.out xe (by rw [← hxg]; exact List.getElem_mem c3))
      have hw1 : wrap64 ((i : Int) + 1) = ((i + 1 : Nat) : Int) := by unfold wrap64; omega
      have c4b0 : decide (0 ≤ (i : Int)) = true := decide_eq_true (by omega)
      have p1 : (0 ≤ (i : Int)) = True := eq_true (by omega)
      have q1 : ((i : Int) < (l0.length : Int)) = True := eq_true (by omega)
      have HC1 := Aside0.mk hC1
      have HL := Aside0.mk hle
      clear hk hC hxe hxg hC1 hle
      go_wp2_with (first
        | ((with_reducible refine gate_dst (N := 5) rfl ?_); refine box_event ?hg (N := 5) ?hd (cs := #[.int .i64 0, .slice none 0 0]) (t := 42) ?hr ?_; (case hd => rfl); (case hg => rfl); (case hr => first | (go_simp; done) | (go_simp; rfl)); intro gb hgb w6 hbox hb; have BK := Aside0.mk hbox; have HB6 := Aside0.mk hb; have hz0 : w6.cell? ⟨gb, 0, none⟩ = some (.int .i64 0) := (blk_cell BK.out 0).trans rfl; have hz1 : w6.cell? ⟨gb, 1, none⟩ = some (.slice none 0 0) := (blk_cell BK.out 1).trans rfl; have hf0 := blk_frozen BK.out 0; have hf1 := blk_frozen BK.out 1; have HGB := Aside0.mk hgb; clear hgb hbox hb x0 x1)
        | (go_at_call 32; refine (join_calls A1 c1 xe.f1 _ (Kd.C_below HC1.out (two_below HB6.out (Nat.le_of_eq HGB.out.symm) _ _)) hl1 hN (by have := HL.out; omega)).mono ?_; rintro e w8 ⟨rfl, hb8⟩; have HB8 := Aside0.mk ((two_below HB6.out (Nat.le_of_eq HGB.out.symm) _ _).trans (hb8.mono (two_below HB6.out (Nat.le_of_eq HGB.out.symm) _ _).size)); clear hb8 hz0 hz1 hf0 hf1; have HI8 := Aside0.mk (IsB.below HI.out HB8.out); have HW8 := Aside0.mk (HB.out.trans (HB8.out.mono HB.out.size)))
        | (go_at_call 31; refine (writeString_calls _ _ HI8.out (by have := HL.out; simp only [ByteArray.size, List.size_toArray]; omega) HW8.out.size).mono ?_; rintro e w9 ⟨rfl, hi9, hb9⟩; have HI9 := Aside0.mk hi9; have HB9 := Aside0.mk hb9; clear hi9 hb9)
        | (go_at_call 33; refine (writeByte_calls 10 _ HI9.out (by have := HL.out; simp only [List.length_append]; omega) (HW8.out.trans HB9.out).size).mono ?_; rintro e w10 ⟨rfl, hi10, hb10⟩; have HI10 := Aside0.mk hi10; have HB10 := Aside0.mk hb10; clear hi10 hb10))
      go_roundg k1
      case measure => omega
      case rel => exact ⟨i + 1, by first | rfl | rw [hw1], by omega, ⟨by have := HK.out; omega⟩, ⟨by rw [hsucc, ← List.append_assoc]; exact HI10.out⟩, ⟨(HW8.out.trans HB9.out).trans HB10.out⟩⟩
    · have c3b0 : decide ((i : Int) < (l0.length : Int)) = false := decide_eq_false (by omega)
      have hI := HI.out
      rw [List.take_of_length_le (by omega)] at hI
      have HI2 := Aside0.mk hI
      clear hI HI
      go_wp2_with (first | (go_at_call 34; refine (builderString_calls _ HI2.out HB.out.size).mono ?_; rintro e w' ⟨rfl, hb⟩))
      go_ret
      exact ⟨rfl, HB.out.trans hb⟩
end Go.Proofs.YtffdhekmnoajiaaDoor.X
