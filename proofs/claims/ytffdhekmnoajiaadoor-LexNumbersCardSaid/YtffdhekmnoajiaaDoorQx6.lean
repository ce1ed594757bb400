/- printed by a program of this session (wip/tools/pr.sh): it is not a print of the kit -/
import Derived.Test.YtffdhekmnoajiaaDoorXName
import Derived.Test.YtffdhekmnoajiaaDoorXLexJoin
import Derived.Test.YtffdhekmnoajiaaDoorXLexLines
import Derived.Test.YtffdhekmnoajiaaDoorQx0
import Derived.Test.YtffdhekmnoajiaaDoorQx1
namespace Go.Proofs.YtffdhekmnoajiaaDoor.Q
open Go.RowKit Go.Proofs.YtffdhekmnoajiaaDoorW.PrintWords Go.Proofs.YtffdhekmnoajiaaDoorW.PrintLast Go.Proofs.YtffdhekmnoajiaaDoorW.PrintMore
attribute [local go_sem] max2_int min2_int max_two min_two max_three min_three max_four min_four RFn.gtr_str   -- for this text's walks alone
set_option linter.unusedVariables false
set_option linter.unusedSimpArgs false
/-! ### law05_LexNumbers: function 6 -/
mutual
def law05_LexNumbers.l0 : Nat → ByteArray → List Int → Int → List Int → Int → Int → Option (Bool)
 | 0, _, _, _, _, _, _ => none
 | k + 1, x3, x4, x5, x17, x18, x19 => if x19 < x18 then (if 0 ≤ x19 then (if x19 < (x17.length : Int) then (law05_LexNumbers.l1 k x3 x4 x5 x17 x18 x19 (Int.tmod (rd x17 x19) 3) 0) else (none)) else (none)) else ((lex_Lines.f x3).bind fun bt253 => (if bt253.2 = 0 then (law05_LexNumbers.j2 k x4 bt253.1 ((bt253.1.length : Int) != (x4.length : Int))) else (law05_LexNumbers.j2 k x4 bt253.1 true)))
def law05_LexNumbers.l1 : Nat → ByteArray → List Int → Int → List Int → Int → Int → Int → Int → Option (Bool)
 | 0, _, _, _, _, _, _, _, _ => none
 | k + 1, x3, x4, x5, x17, x18, x19, x24, x25 => if x25 < x24 then (if x3.size + 1 ≤ 9223372036854775807 then (law05_LexNumbers.l1 k (x3 ++ (⟨#[10]⟩ : ByteArray)) x4 (wrap64 (x5 + 1)) x17 x18 x19 x24 ((x25 + 1) % 256)) else (none)) else (if x3.size + 2 ≤ 9223372036854775807 then (if x4.length < 17592186044416 then (law05_LexNumbers.l0 k (x3 ++ (⟨#[119, 10]⟩ : ByteArray)) (x4 ++ [x5]) (wrap64 (x5 + 1)) x17 x18 (wrap64 (x19 + 1))) else (none)) else (none))
def law05_LexNumbers.j2 : Nat → List Int → List (S42) → Bool → Option (Bool)
 | 0, _, _, _ => none
 | k + 1, x4, x8, x54 => if x54 = true then (some false) else (law05_LexNumbers.l2 k x4 x8 (x8.length : Int) 0)
def law05_LexNumbers.l2 : Nat → List Int → List (S42) → Int → Int → Option (Bool)
 | 0, _, _, _, _ => none
 | k + 1, x4, x55, x56, x57 => if x57 < x56 then (if 0 ≤ x57 then (if x57 < (x55.length : Int) then (if x57 < (x4.length : Int) then (if ((rd_T42 x55 x57).f0) = (rd x4 x57) then (if (((rd_T42 x55 x57).f1).length : Int) = 1 then (law05_LexNumbers.l2 k x4 x55 x56 (wrap64 (x57 + 1))) else (some false)) else (some false)) else (none)) else (none)) else (none)) else (some true)
end
def law05_LexNumbers.f (k : Nat) (l0 : List Int) : Option (Bool) := (law05_alive.f k).bind fun t248 => (if t248 = true then (if (l0.length : Int) > 200 then (some true) else (law05_LexNumbers.l0 k (⟨#[]⟩ : ByteArray) ([] : List Int) 1 l0 (l0.length : Int) 0)) else (some false))
theorem law05_LexNumbers.mono_l : ∀ k, (∀ y0 y1 y2 y3 y4 y5, LeO (law05_LexNumbers.l0 k y0 y1 y2 y3 y4 y5) (law05_LexNumbers.l0 (k + 1) y0 y1 y2 y3 y4 y5)) ∧ (∀ y0 y1 y2 y3 y4 y5 y6 y7, LeO (law05_LexNumbers.l1 k y0 y1 y2 y3 y4 y5 y6 y7) (law05_LexNumbers.l1 (k + 1) y0 y1 y2 y3 y4 y5 y6 y7)) ∧ (∀ y0 y1 y2, LeO (law05_LexNumbers.j2 k y0 y1 y2) (law05_LexNumbers.j2 (k + 1) y0 y1 y2)) ∧ (∀ y0 y1 y2 y3, LeO (law05_LexNumbers.l2 k y0 y1 y2 y3) (law05_LexNumbers.l2 (k + 1) y0 y1 y2 y3))
 | 0 => ⟨fun _ _ _ _ _ _ r h => by simp [law05_LexNumbers.l0] at h, fun _ _ _ _ _ _ _ _ r h => by simp [law05_LexNumbers.l1] at h, fun _ _ _ r h => by simp [law05_LexNumbers.j2] at h, fun _ _ _ _ r h => by simp [law05_LexNumbers.l2] at h⟩
 | k + 1 => by
  obtain ⟨ih0, ih1, ih2, ih3⟩ := law05_LexNumbers.mono_l k
  refine ⟨?_, ?_, ?_, ?_⟩
  ·intro y0 y1 y2 y3 y4 y5
   unfold law05_LexNumbers.l0
   repeat' with_reducible first | exact LeO.refl _ | apply ih0 | apply ih1 | apply ih2 | apply ih3 | apply law05_alive.mono | exact LeO.none _ | apply LeO.ite | refine LeO.bind ?_ fun _ => ?_
  ·intro y0 y1 y2 y3 y4 y5 y6 y7
   unfold law05_LexNumbers.l1
   repeat' with_reducible first | exact LeO.refl _ | apply ih0 | apply ih1 | apply ih2 | apply ih3 | apply law05_alive.mono | exact LeO.none _ | apply LeO.ite | refine LeO.bind ?_ fun _ => ?_
  ·intro y0 y1 y2
   unfold law05_LexNumbers.j2
   repeat' with_reducible first | exact LeO.refl _ | apply ih0 | apply ih1 | apply ih2 | apply ih3 | apply law05_alive.mono | exact LeO.none _ | apply LeO.ite | refine LeO.bind ?_ fun _ => ?_
  ·intro y0 y1 y2 y3
   unfold law05_LexNumbers.l2
   repeat' with_reducible first | exact LeO.refl _ | apply ih0 | apply ih1 | apply ih2 | apply ih3 | apply law05_alive.mono | exact LeO.none _ | apply LeO.ite | refine LeO.bind ?_ fun _ => ?_
theorem law05_LexNumbers.mono : ∀ a0 k, LeO (law05_LexNumbers.f k a0) (law05_LexNumbers.f (k + 1) a0) := by
 intro a0 k
 obtain ⟨ih0, ih1, ih2, ih3⟩ := law05_LexNumbers.mono_l k
 unfold law05_LexNumbers.f
 repeat' with_reducible first | exact LeO.refl _ | apply ih0 | apply ih1 | apply ih2 | apply ih3 | apply law05_alive.mono | exact LeO.none _ | apply LeO.ite | refine LeO.bind ?_ fun _ => ?_
set_option maxHeartbeats 8000000 in
set_option maxRecDepth 100000 in
theorem law05_LexNumbers.calls (k : Nat) (A0 : Option Addr) (c0 : Nat) (l0 : List Int) (r : Bool) (w : World) (hr0 : Kd.C (Kd.int .u8) w A0 l0.length l0) (hc0 : l0.length ≤ c0) (h : law05_LexNumbers.f k l0 = some r) (hLd_ : Go.Proofs.YtffdhekmnoajiaaDoor.X.LaidW w) :
  Calls Tryd.prog 6 #[.slice A0 l0.length c0] w fun e w' => e = .returned (.bool r) ∧ Below w.heap.size w w' := by
 have hu42 := Tryd.underlying42
 have HR0 := Aside0.mk hr0
 have HC0 := Aside0.mk hc0
 clear hr0 hc0
 have HB := Aside0.mk (Below.refl w.heap.size w)
 have H : ((law05_alive.f k).bind fun t248 => (if t248 = true then (if (l0.length : Int) > 200 then (some true) else (law05_LexNumbers.l0 k (⟨#[]⟩ : ByteArray) ([] : List Int) 1 l0 (l0.length : Int) 0)) else (some false))) = some r := h
 clear h
 obtain ⟨t248, A2, H⟩ := RFn.bn H
 by_cases c3 : t248 = true
 ·subst c3
  have H1 : (if (l0.length : Int) > 200 then (some true) else (law05_LexNumbers.l0 k (⟨#[]⟩ : ByteArray) ([] : List Int) 1 l0 (l0.length : Int) 0)) = some r := by rw [if_pos rfl] at H; exact H
  clear H
  have H := H1
  clear H1
  by_cases c4 : (l0.length : Int) > 200
  ·rw [if_pos c4] at H
   have c4b0 : decide (200 < (l0.length : Int)) = true := decide_eq_true c4
   have c4b1 : decide (200 < l0.length) = true := decide_eq_true (by omega)
   clear c4
   obtain rfl := Option.some.inj H
   go_enter Tryd.func6, Tryd.ntmps6
   go_wp2_with (first | (go_at_call 8; (with_reducible refine (law05_alive.calls k  true _ A2.out (Go.Proofs.YtffdhekmnoajiaaDoor.X.LaidW.below hLd_ RFn.bels)).mono ?_); rintro e w5 ⟨rfl, hb⟩; have n0_ := Aside0.mk (below_step (RFn.bel) hb); clear HB; have HB := n0_; clear n0_; (try clear hb)))
   repeat (go_quiet (first | (go_at_call 8; (with_reducible refine (law05_alive.calls k  true _ A2.out (Go.Proofs.YtffdhekmnoajiaaDoor.X.LaidW.below hLd_ RFn.bels)).mono ?_); rintro e w5 ⟨rfl, hb⟩; have n0_ := Aside0.mk (below_step (RFn.bel) hb); clear HB; have HB := n0_; clear n0_; (try clear hb))); try go_wp2_with (first | (go_at_call 8; (with_reducible refine (law05_alive.calls k  true _ A2.out (Go.Proofs.YtffdhekmnoajiaaDoor.X.LaidW.below hLd_ RFn.bels)).mono ?_); rintro e w5 ⟨rfl, hb⟩; have n0_ := Aside0.mk (below_step (RFn.bel) hb); clear HB; have HB := n0_; clear n0_; (try clear hb))))
   go_ret
   exact ⟨by first | rfl | (simp [errW_none, errW_some] <;> rfl) | (simp [*, errW_none, errW_some] <;> rfl), RFn.bel⟩
  ·rw [if_neg c4] at H
   have c4b0 : decide (200 < (l0.length : Int)) = false := decide_eq_false c4
   have c4b1 : decide (200 < l0.length) = false := decide_eq_false (by omega)
   clear c4
   have H' := Aside0.mk H
   clear H
   go_enter Tryd.func6, Tryd.ntmps6
   go_wp2_with (first | (go_at_call 8; (with_reducible refine (law05_alive.calls k  true _ A2.out (Go.Proofs.YtffdhekmnoajiaaDoor.X.LaidW.below hLd_ RFn.bels)).mono ?_); rintro e w6 ⟨rfl, hb⟩; have n0_ := Aside0.mk (below_step (RFn.bel) hb); clear HB; have HB := n0_; clear n0_; (try clear hb)))
   repeat (go_quiet (first | (go_at_call 8; (with_reducible refine (law05_alive.calls k  true _ A2.out (Go.Proofs.YtffdhekmnoajiaaDoor.X.LaidW.below hLd_ RFn.bels)).mono ?_); rintro e w6 ⟨rfl, hb⟩; have n0_ := Aside0.mk (below_step (RFn.bel) hb); clear HB; have HB := n0_; clear n0_; (try clear hb))); try go_wp2_with (first | (go_at_call 8; (with_reducible refine (law05_alive.calls k  true _ A2.out (Go.Proofs.YtffdhekmnoajiaaDoor.X.LaidW.below hLd_ RFn.bels)).mono ?_); rintro e w6 ⟨rfl, hb⟩; have n0_ := Aside0.mk (below_step (RFn.bel) hb); clear HB; have HB := n0_; clear n0_; (try clear hb))))
   go_loopg [3, 4, 5, 19] k (fun kq v3 v4 v5 v19 w' => ∃ (x3_1 : ByteArray) (x4_1 : List Int) (x5_1 : Int) (x19_1 : Int), v3 = .string x3_1 ∧ v5 = .int .i64 x5_1 ∧ v19 = .int .i64 x19_1 ∧ Aside0 (law05_LexNumbers.l0 kq x3_1 x4_1 x5_1 l0 (l0.length : Int) x19_1 = some r) ∧ Aside0 (kq ≤ k) ∧ Aside0 (Kd.R (Kd.int .i64) 3 w' w.heap.size (fun _ => True) v4 x4_1) ∧ Aside0 (Below w.heap.size w w'))
   case atStart => exact ⟨((⟨#[]⟩ : ByteArray)), (([] : List Int)), (1), (0), (by first | rfl | (simp; done) | (simp [*]; done)), (by first | rfl | (simp; done) | (simp [*]; done)), (by first | rfl | (simp; done) | (simp [*]; done)), H', ⟨Nat.le_refl _⟩, ⟨RFn.kn⟩, ⟨RFn.bel⟩⟩
   case round =>
    clear H'
    try clear c3
    try clear c4
    try clear c4b0
    try clear c4b1
    obtain ⟨x3_1, x4_1, x5_1, x19_1, rfl, rfl, rfl, HA, HK1, HO_4, HB⟩ := hrel
    cases gk with
    | zero => exact absurd HA.out (by simp [law05_LexNumbers.l0])
    | succ k1 =>
     have H := HA.out
     clear HA
     simp only [law05_LexNumbers.l0] at H
     by_cases c7 : x19_1 < (l0.length : Int)
     ·rw [if_pos c7] at H
      have c7b0 : decide (x19_1 < (l0.length : Int)) = true := decide_eq_true c7
      clear c7
      by_cases c8 : 0 ≤ x19_1
      ·rw [if_pos c8] at H
       have c8b0 : decide (0 ≤ x19_1) = true := decide_eq_true c8
       clear c8
       by_cases c9 : x19_1 < (l0.length : Int)
       ·rw [if_pos c9] at H
        have c9b0 : decide (x19_1 < (l0.length : Int)) = true := decide_eq_true c9
        clear c9
        have H' := Aside0.mk H
        clear H
        have p249 : 0 ≤ (x19_1 : Int) := RFn.od
        have q249 : x19_1 < (l0.length : Int) := RFn.od
        obtain ⟨ad249, e249, hx249_0⟩ := Kd.at_int HR0.out x19_1 p249 q249
        cases e249
        replace hx249_0 := RFn.hb HB hx249_0
        replace p249 := eq_true p249
        replace q249 := eq_true q249
        go_wp2
        repeat (go_quiet (fail); try go_wp2)
        go_loopg [3, 5, 25] k1 (fun kq v3 v5 v25 w' => ∃ (x3_2 : ByteArray) (x5_2 : Int) (x25_2 : Int), v3 = .string x3_2 ∧ v5 = .int .i64 x5_2 ∧ v25 = .int .u8 x25_2 ∧ Aside0 (law05_LexNumbers.l1 kq x3_2 x4_1 x5_2 l0 (l0.length : Int) x19_1 (Int.tmod (rd l0 x19_1) 3) x25_2 = some r) ∧ Aside0 (kq ≤ k1) ∧ Aside0 (Kd.R (Kd.int .i64) 3 w' w.heap.size (fun _ => True) u4 x4_1) ∧ Aside0 (Below w.heap.size w w'))
        case atStart => exact ⟨(x3_1), (x5_1), (0), (by first | rfl | (simp; done) | (simp [*]; done)), (by first | rfl | (simp; done) | (simp [*]; done)), (by first | rfl | (simp; done) | (simp [*]; done)), H', ⟨Nat.le_refl _⟩, ⟨RFn.mR HO_4⟩, ⟨RFn.bel⟩⟩
        case round =>
         clear H'
         try clear c3
         try clear c4
         try clear c4b0
         try clear c4b1
         try clear c7
         try clear c7b0
         try clear c8
         try clear c8b0
         try clear c9
         try clear c9b0
         try clear hx249_0
         try clear p249
         try clear q249
         obtain ⟨x3_2, x5_2, x25_2, rfl, rfl, rfl, HA, HK2, HO_4, HB⟩ := hrel
         cases gk with
         | zero => exact absurd HA.out (by simp [law05_LexNumbers.l1])
         | succ k2 =>
          have H := HA.out
          clear HA
          simp only [law05_LexNumbers.l1] at H
          by_cases c10 : x25_2 < (Int.tmod (rd l0 x19_1) 3)
          ·rw [if_pos c10] at H
           have c10b0 : decide (x25_2 < (Int.tmod (rd l0 x19_1) 3)) = true := decide_eq_true c10
           clear c10
           by_cases c11 : x3_2.size + 1 ≤ 9223372036854775807
           ·rw [if_pos c11] at H
            have c11b0 := eq_true c11
            have c11b1 : decide (x3_2.size + 1 ≤ 9223372036854775807) = true := decide_eq_true c11
            try have c11b2 : (9223372036854775807 < x3_2.size + 1) = False := eq_false (Nat.not_lt.2 c11)
            have H' := Aside0.mk H
            clear H
            go_wp2
            repeat (go_quiet (fail); try go_wp2)
            go_roundg k2
            case measure => have := HK1.out; have := HK2.out; omega
            case rel => exact ⟨(x3_2 ++ (⟨#[10]⟩ : ByteArray)), (wrap64 (x5_2 + 1)), ((x25_2 + 1) % 256), (by first | rfl | (simp; done) | (simp [*]; done)), (by first | rfl | (simp; done) | (simp [*]; done)), (by first | rfl | (simp; done) | (simp [*]; done)), H', ⟨by have := HK1.out; have := HK2.out; omega⟩, ⟨RFn.mR HO_4⟩, ⟨RFn.bel⟩⟩
           ·rw [if_neg c11] at H
            exact absurd H (by simp)
          ·rw [if_neg c10] at H
           have c10b0 : decide (x25_2 < (Int.tmod (rd l0 x19_1) 3)) = false := decide_eq_false c10
           clear c10
           by_cases c12 : x3_2.size + 2 ≤ 9223372036854775807
           ·rw [if_pos c12] at H
            have c12b0 := eq_true c12
            have c12b1 : decide (x3_2.size + 2 ≤ 9223372036854775807) = true := decide_eq_true c12
            try have c12b2 : (9223372036854775807 < x3_2.size + 2) = False := eq_false (Nat.not_lt.2 c12)
            by_cases c13 : x4_1.length < 17592186044416
            ·rw [if_pos c13] at H
             have LMc13 := Aside0.mk c13
             clear c13
             obtain ⟨y250, hy250⟩ : ∃ y_ : List Int, y_ = (x4_1 ++ [x5_2]) := ⟨_, rfl⟩
             replace H : (law05_LexNumbers.l0 k2 (x3_2 ++ (⟨#[119, 10]⟩ : ByteArray)) y250 (wrap64 (x5_2 + 1)) l0 (l0.length : Int) (wrap64 (x19_1 + 1))) = some r := RFn.rp H hy250
             have Ny250 := Aside0.mk hy250
             clear hy250
             have H' := Aside0.mk H
             clear H
             go_wp2_with (first | ((with_reducible refine gate_builtin (b := .append) (xs := #[.tmp 34, .tmp 36]) rfl ?_); (try (refine gate_guard (by rfl) ?_; dsimp only)); at_builtin; refine Kd.R_append (Kd.int .i64) (w0 := w) w.heap.size rfl (.tmp 34) (.tmp 36) 46 3 (.int .i64 0) 8 rfl Tryd.underlying46 info3 rfl (by decide) (by omega) u4 x4_1 x5_2 [.int .i64 x5_2] (fun _ => True) (fun _ => False) rfl rfl ?aP (fun _ hk => hk.elim) ?aF ?aO ?aB ?aS ?aL ?_; (case aP => exact rfl); (case aB => exact (RFn.bel)); (case aF => exact (fun _ _ => trivial)); (case aO => exact (RFn.mR HO_4)); (case aS => exact (below_size (RFn.bel))); (case aL => have := LMc13.out; omega); intro v251 w14 ho hb hg hat; rw [← Ny250.out] at ho; have n0_ := Aside0.mk (hb); have n1_ := Aside0.mk (ho); clear HB; clear HO_4; have HB := n0_; have HO252 := n1_; clear n0_ n1_; clear ho hb hg hat))
             repeat (go_quiet (first | ((with_reducible refine gate_builtin (b := .append) (xs := #[.tmp 34, .tmp 36]) rfl ?_); (try (refine gate_guard (by rfl) ?_; dsimp only)); at_builtin; refine Kd.R_append (Kd.int .i64) (w0 := w) w.heap.size rfl (.tmp 34) (.tmp 36) 46 3 (.int .i64 0) 8 rfl Tryd.underlying46 info3 rfl (by decide) (by omega) u4 x4_1 x5_2 [.int .i64 x5_2] (fun _ => True) (fun _ => False) rfl rfl ?aP (fun _ hk => hk.elim) ?aF ?aO ?aB ?aS ?aL ?_; (case aP => exact rfl); (case aB => exact (RFn.bel)); (case aF => exact (fun _ _ => trivial)); (case aO => exact (RFn.mR HO_4)); (case aS => exact (below_size (RFn.bel))); (case aL => have := LMc13.out; omega); intro v251 w14 ho hb hg hat; rw [← Ny250.out] at ho; have n0_ := Aside0.mk (hb); have n1_ := Aside0.mk (ho); clear HB; clear HO_4; have HB := n0_; have HO252 := n1_; clear n0_ n1_; clear ho hb hg hat)); try go_wp2_with (first | ((with_reducible refine gate_builtin (b := .append) (xs := #[.tmp 34, .tmp 36]) rfl ?_); (try (refine gate_guard (by rfl) ?_; dsimp only)); at_builtin; refine Kd.R_append (Kd.int .i64) (w0 := w) w.heap.size rfl (.tmp 34) (.tmp 36) 46 3 (.int .i64 0) 8 rfl Tryd.underlying46 info3 rfl (by decide) (by omega) u4 x4_1 x5_2 [.int .i64 x5_2] (fun _ => True) (fun _ => False) rfl rfl ?aP (fun _ hk => hk.elim) ?aF ?aO ?aB ?aS ?aL ?_; (case aP => exact rfl); (case aB => exact (RFn.bel)); (case aF => exact (fun _ _ => trivial)); (case aO => exact (RFn.mR HO_4)); (case aS => exact (below_size (RFn.bel))); (case aL => have := LMc13.out; omega); intro v251 w14 ho hb hg hat; rw [← Ny250.out] at ho; have n0_ := Aside0.mk (hb); have n1_ := Aside0.mk (ho); clear HB; clear HO_4; have HB := n0_; have HO252 := n1_; clear n0_ n1_; clear ho hb hg hat)))
             go_roundg k2
             case measure => have := HK1.out; have := HK2.out; omega
             case rel => exact ⟨(x3_2 ++ (⟨#[119, 10]⟩ : ByteArray)), (y250), (wrap64 (x5_2 + 1)), (wrap64 (x19_1 + 1)), (by first | rfl | (simp; done) | (simp [*]; done)), (by first | rfl | (simp; done) | (simp [*]; done)), (by first | rfl | (simp; done) | (simp [*]; done)), H', ⟨by have := HK1.out; have := HK2.out; omega⟩, ⟨RFn.mR HO252⟩, ⟨RFn.bel⟩⟩
            ·rw [if_neg c13] at H
             exact absurd H (by simp)
           ·rw [if_neg c12] at H
            exact absurd H (by simp)
       ·rw [if_neg c9] at H
        exact absurd H (by simp)
      ·rw [if_neg c8] at H
       exact absurd H (by simp)
     ·rw [if_neg c7] at H
      have c7b0 : decide (x19_1 < (l0.length : Int)) = false := decide_eq_false c7
      clear c7
      obtain ⟨⟨t253, t254⟩, A15, H⟩ := RFn.bn H
      have HC16 := Aside0.mk H
      clear H
      go_upto_region 21 with (first | (go_at_call 10; (with_reducible refine (lex_Lines.calls x3_1 t253 t254 _ A15.out (Go.Proofs.YtffdhekmnoajiaaDoor.X.LaidW.below hLd_ RFn.bels)).mono ?_); rintro e w17 ⟨v255, rfl, ho0, hb⟩; have n0_ := Aside0.mk (Kd.R_below (RFn.mR HO_4) hb); have n1_ := Aside0.mk (Kd.S_lower ho0 (below_size (RFn.bel))); have n2_ := Aside0.mk (below_step (RFn.bel) hb); clear HO_4; clear HB; have HO_4 := n0_; have HO256 := n1_; have HB := n2_; clear n0_ n1_ n2_; (try clear hb); (try clear ho0)))
      repeat (go_quiet (first | (go_at_call 10; (with_reducible refine (lex_Lines.calls x3_1 t253 t254 _ A15.out (Go.Proofs.YtffdhekmnoajiaaDoor.X.LaidW.below hLd_ RFn.bels)).mono ?_); rintro e w17 ⟨v255, rfl, ho0, hb⟩; have n0_ := Aside0.mk (Kd.R_below (RFn.mR HO_4) hb); have n1_ := Aside0.mk (Kd.S_lower ho0 (below_size (RFn.bel))); have n2_ := Aside0.mk (below_step (RFn.bel) hb); clear HO_4; clear HB; have HO_4 := n0_; have HO256 := n1_; have HB := n2_; clear n0_ n1_ n2_; (try clear hb); (try clear ho0))); go_upto_region 21 with (first | (go_at_call 10; (with_reducible refine (lex_Lines.calls x3_1 t253 t254 _ A15.out (Go.Proofs.YtffdhekmnoajiaaDoor.X.LaidW.below hLd_ RFn.bels)).mono ?_); rintro e w17 ⟨v255, rfl, ho0, hb⟩; have n0_ := Aside0.mk (Kd.R_below (RFn.mR HO_4) hb); have n1_ := Aside0.mk (Kd.S_lower ho0 (below_size (RFn.bel))); have n2_ := Aside0.mk (below_step (RFn.bel) hb); clear HO_4; clear HB; have HO_4 := n0_; have HO256 := n1_; have HB := n2_; clear n0_ n1_ n2_; (try clear hb); (try clear ho0))))
      (try simp only [Act.put, List.setIfInBounds_toArray, List.set_cons_zero, List.set_cons_succ])
      go_cut [54] (fun v54 wc => ∃ (kq : Nat) (x54_15 : Bool), v54 = .bool x54_15 ∧ Aside0 (law05_LexNumbers.j2 kq x4_1 t253 x54_15 = some r) ∧ Aside0 (kq ≤ k1) ∧ Aside0 (Kd.R (Kd.int .i64) 3 wc w.heap.size (fun _ => True) u4 x4_1) ∧ Aside0 (Kd.S k42 42 wc w.heap.size (fun _ => True) v255 t253) ∧ Aside0 (Below w.heap.size w wc))
      case first =>
       have H := HC16.out
       clear HC16
       by_cases c18 : t254 = 0
       ·rw [if_pos c18] at H
        have c18b0 : (t254 == 0) = true := beq_iff_eq.mpr c18
        have c18b1 : (t254 != 0) = false := bne_eq_false_iff_eq.mpr c18
        clear c18
        (first | rw [c18b0] | (simp only [i64_w, i32_w]; rw [c18b0]) | skip)
        have H' := Aside0.mk H
        clear H
        obtain ⟨Ao19, co19, eo19⟩ := Kd.S_slice HO256.out
        subst eo19
        obtain ⟨Ao20, co20, eo20⟩ := Kd.R_slice HO_4.out
        subst eo20
        go_wp2
        repeat (go_quiet (fail); try go_wp2)
        go_meet
        case rel => exact ⟨_, (((t253.length : Int) != (x4_1.length : Int))), (by first | rfl | (simp; done) | (simp [*]; done)), H', ⟨by have := HK1.out; first | omega | exact Nat.le_refl _⟩, ⟨RFn.mR HO_4⟩, ⟨by (with_reducible repeat (first | apply Kd.S_alloc | apply Kd.S_drewN | apply Kd.S_drew)); exact HO256.out⟩, ⟨RFn.bel⟩⟩
       ·rw [if_neg c18] at H
        have c18b0 : (t254 == 0) = false := beq_eq_false_iff_ne.mpr c18
        have c18b1 : (t254 != 0) = true := bne_iff_ne.mpr c18
        (first | rw [c18b0] | (simp only [i64_w, i32_w]; rw [c18b0]) | skip)
        have H' := Aside0.mk H
        clear H
        go_wp2
        repeat (go_quiet (fail); try go_wp2)
        go_meet
        case rel => exact ⟨_, (true), (by first | rfl | (simp; done) | (simp [*]; done)), H', ⟨by have := HK1.out; first | omega | exact Nat.le_refl _⟩, ⟨RFn.mR HO_4⟩, ⟨by (with_reducible repeat (first | apply Kd.S_alloc | apply Kd.S_drewN | apply Kd.S_drew)); exact HO256.out⟩, ⟨RFn.bel⟩⟩
      case rest =>
       clear HC16
       try clear c3
       try clear c4
       try clear c4b0
       try clear c4b1
       try clear c7
       try clear c7b0
       try clear c8
       try clear c8b0
       try clear c9
       try clear c9b0
       try clear c10
       try clear c10b0
       try clear c11
       try clear c11b0
       try clear c11b1
       try clear c11b2
       try clear c12
       try clear c12b0
       try clear c12b1
       try clear c12b2
       try clear c13
       try clear c18
       try clear c18b0
       try clear c18b1
       try clear hx249_0
       try clear p249
       try clear q249
       obtain ⟨kq, x54_15, rfl, HA, HJ15, HO_4, HO_8, HB⟩ := hcut
       cases kq with
       | zero => exact absurd HA.out (by simp [law05_LexNumbers.j2])
       | succ kj15 =>
        have H := HA.out
        clear HA
        simp only [law05_LexNumbers.j2] at H
        by_cases c21 : x54_15 = true
        ·subst c21
         have H1 : (some false) = some r := by rw [if_pos rfl] at H; exact H
         clear H
         have H := H1
         clear H1
         obtain rfl := Option.some.inj H
         go_wp2
         repeat (go_quiet (fail); try go_wp2)
         go_ret
         exact ⟨by first | rfl | (simp [errW_none, errW_some] <;> rfl) | (simp [*, errW_none, errW_some] <;> rfl), RFn.bel⟩
        ·replace c21 := Bool.eq_false_iff.mpr c21
         subst c21
         have H1 : (law05_LexNumbers.l2 kj15 x4_1 t253 (t253.length : Int) 0) = some r := by rw [if_neg (show ¬ (false = true) by decide)] at H; exact H
         clear H
         have H := H1
         clear H1
         have H' := Aside0.mk H
         clear H
         obtain ⟨Ao22, co22, eo22⟩ := Kd.S_slice HO_8.out
         subst eo22
         go_wp2
         repeat (go_quiet (fail); try go_wp2)
         go_loopg [57] kj15 (fun kq v57 w' => ∃ (x57_3 : Int), v57 = .int .i64 x57_3 ∧ Aside0 (law05_LexNumbers.l2 kq x4_1 t253 (t253.length : Int) x57_3 = some r) ∧ Aside0 (kq ≤ kj15) ∧ Aside0 (Kd.R (Kd.int .i64) 3 w' w.heap.size (fun _ => True) u4 x4_1) ∧ Aside0 (Kd.S k42 42 w' w.heap.size (fun _ => True) (.slice Ao22 t253.length co22) t253) ∧ Aside0 (Below w.heap.size w w'))
         case atStart => exact ⟨(0), (by first | rfl | (simp; done) | (simp [*]; done)), H', ⟨Nat.le_refl _⟩, ⟨RFn.mR HO_4⟩, ⟨by (with_reducible repeat (first | apply Kd.S_alloc | apply Kd.S_drewN | apply Kd.S_drew)); exact HO_8.out⟩, ⟨RFn.bel⟩⟩
         case round =>
          clear H'
          try clear c3
          try clear c4
          try clear c4b0
          try clear c4b1
          try clear c7
          try clear c7b0
          try clear c8
          try clear c8b0
          try clear c9
          try clear c9b0
          try clear c10
          try clear c10b0
          try clear c11
          try clear c11b0
          try clear c11b1
          try clear c11b2
          try clear c12
          try clear c12b0
          try clear c12b1
          try clear c12b2
          try clear c13
          try clear c18
          try clear c18b0
          try clear c18b1
          try clear c21
          try clear hx249_0
          try clear p249
          try clear q249
          obtain ⟨x57_3, rfl, HA, HK3, HO_4, HO_55, HB⟩ := hrel
          cases gk with
          | zero => exact absurd HA.out (by simp [law05_LexNumbers.l2])
          | succ k3 =>
           have H := HA.out
           clear HA
           simp only [law05_LexNumbers.l2] at H
           by_cases c23 : x57_3 < (t253.length : Int)
           ·rw [if_pos c23] at H
            have c23b0 : decide (x57_3 < (t253.length : Int)) = true := decide_eq_true c23
            clear c23
            by_cases c24 : 0 ≤ x57_3
            ·rw [if_pos c24] at H
             have c24b0 : decide (0 ≤ x57_3) = true := decide_eq_true c24
             clear c24
             by_cases c25 : x57_3 < (t253.length : Int)
             ·rw [if_pos c25] at H
              have c25b0 : decide (x57_3 < (t253.length : Int)) = true := decide_eq_true c25
              clear c25
              by_cases c26 : x57_3 < (x4_1.length : Int)
              ·rw [if_pos c26] at H
               have c26b0 : decide (x57_3 < (x4_1.length : Int)) = true := decide_eq_true c26
               clear c26
               by_cases c27 : ((rd_T42 t253 x57_3).f0) = (rd x4_1 x57_3)
               ·rw [if_pos c27] at H
                have c27b0 : (((rd_T42 t253 x57_3).f0) == (rd x4_1 x57_3)) = true := beq_iff_eq.mpr c27
                have c27b1 : (((rd_T42 t253 x57_3).f0) != (rd x4_1 x57_3)) = false := bne_eq_false_iff_eq.mpr c27
                clear c27
                by_cases c28 : (((rd_T42 t253 x57_3).f1).length : Int) = 1
                ·rw [if_pos c28] at H
                 have c28b0 : ((((rd_T42 t253 x57_3).f1).length : Int) == 1) = true := beq_iff_eq.mpr c28
                 have c28b1 : ((((rd_T42 t253 x57_3).f1).length : Int) != 1) = false := bne_eq_false_iff_eq.mpr c28
                 clear c28
                 have H' := Aside0.mk H
                 clear H
                 have p257 : 0 ≤ (x57_3 : Int) := RFn.od
                 have q257 : x57_3 < (t253.length : Int) := RFn.od
                 obtain ⟨ad257, A257_1, c257_1, e257, hx257_0, hx257_1, hl257_1, hi257_1⟩ := at_T42 (Kd.S_reads' HO_55.out).2.2 x57_3 p257 q257
                 cases e257
                 obtain ⟨ce257, hce257, hMe257, hcc257⟩ := Kd.S_get HO_55.out z42 x57_3 p257 (by first | exact q257 | exact RFn.od | (have e_ := (Kd.S_reads' HO_55.out).1; omega))
                 obtain ⟨ve257_1, rfl, ge257_1⟩ := k42_openM hMe257
                 have hv257_1 := hcc257 1 _ rfl
                 rw [add_field _ _ 1 (by omega)] at hv257_1
                 replace hv257_1 := Option.some.inj (hv257_1.symm.trans hx257_1)
                 rw [hv257_1] at ge257_1
                 have HL257_1 := Aside0.mk (show Kd.R Kd.string 9 _ _ _ _ ((rd_T42 t253 x57_3).f1) from ge257_1)
                 clear hv257_1 ge257_1
                 clear hcc257 hce257
                 have HR257_1 := Aside0.mk hi257_1
                 have HC257_1 := Aside0.mk hl257_1
                 clear hi257_1 hl257_1
                 replace p257 := eq_true p257
                 replace q257 := eq_true q257
                 go_wp2_with (first | ((with_reducible refine gate_dst (N := 11) rfl ?_); (try (refine gate_guard (by rfl) ?_; dsimp only)); refine box_event ?hg (N := 11) ?hd (cs := #[.int .i64 0, .slice none 0 0]) (t := 42) ?hr ?_; (case hd => rfl); (case hg => rfl); (case hr => first | (go_simp; done) | (go_simp; rfl)); intro gb258 hg w29 hbox hb; have n0_ := Aside0.mk (Kd.R_below (RFn.mR HO_4) hb); have n1_ := Aside0.mk (Kd.S_below (Kd.S_elderB (by (with_reducible repeat (first | apply Kd.S_alloc | apply Kd.S_drewN | apply Kd.S_drew)); exact HO_55.out) gb258 (Nat.le_of_eq hg.symm)) hb); have n2_ := Aside0.mk (Kd.R_below (RFn.mR HL257_1) hb); have n3_ := Aside0.mk (Kd.C_below (by repeat (first | (with_reducible exact HR257_1.out) | (with_reducible refine Kd.C_alloc ?_ _) | (with_reducible refine Kd.C_drewN ?_ _) | (with_reducible refine Kd.C_drew ?_) | exact HR257_1.out)) hb); have n4_ := Aside0.mk (below_step (RFn.bel) hb); have n5_ := Aside0.mk (hbox); have n6_ := Aside0.mk ((by rw [hg]; exact (below_size (RFn.bel)) : w.heap.size ≤ gb258)); have n7_ := Aside0.mk ((by rw [hg]; exact (below_size (RFn.bel)) : w.heap.size ≤ gb258)); clear HO_4; clear HO_55; clear HL257_1; clear HR257_1; clear HB; have HO_4 := n0_; have HO_55 := n1_; have HL257_1 := n2_; have HR257_1 := n3_; have HB := n4_; have BK258 := n5_; have GW258 := n6_; have GE258 := n7_; clear n0_ n1_ n2_ n3_ n4_ n5_ n6_ n7_; clear hb hbox hg; obtain ⟨hcz30_0, hcz30_1⟩ := RFn.bc2 BK258; obtain ⟨hfz30_0, hfz30_1⟩ := RFn.bf2 BK258; obtain ⟨Ao31, co31, eo31⟩ := Kd.R_slice HO_4.out; subst eo31; have p259 : 0 ≤ (x57_3 : Int) := RFn.od; have q259 : x57_3 < (x4_1.length : Int) := RFn.od; obtain ⟨ad259, e259, hx259_0⟩ := Kd.at_int (Kd.R_reads' HO_4.out).2.2 x57_3 p259 q259; cases e259; have hn259_0 : ad259.block ≠ gb258 := Kd.own_blk (Kd.R_ne HO_4.out BK258.out (by decide)); have hn259_1 : ad259.block ≠ gb258 := Kd.own_blk (Kd.R_ne HO_4.out BK258.out (by decide)); replace hx259_0 := (cell_far (p := ⟨gb258, 0, none⟩) (RFn.nb hn259_0) (.int .i64 ((rd_T42 t253 x57_3).f0))).trans hx259_0; replace hx259_0 := (cell_far (p := ⟨gb258, 1, none⟩) (RFn.nb hn259_1) (.slice A257_1 ((rd_T42 t253 x57_3).f1).length c257_1)).trans hx259_0; (try have hy259_0 := fun (n_ : Nat) => (show ((((w29.drewN n_).setCell ⟨gb258, 0, none⟩ (.int .i64 ((rd_T42 t253 x57_3).f0))).setCell ⟨gb258, 1, none⟩ (.slice A257_1 ((rd_T42 t253 x57_3).f1).length c257_1))).cell? _ = some _ from hx259_0)); clear hn259_0; clear hn259_1; replace p259 := eq_true p259; replace q259 := eq_true q259))
                 repeat (go_quiet (first | ((with_reducible refine gate_dst (N := 11) rfl ?_); (try (refine gate_guard (by rfl) ?_; dsimp only)); refine box_event ?hg (N := 11) ?hd (cs := #[.int .i64 0, .slice none 0 0]) (t := 42) ?hr ?_; (case hd => rfl); (case hg => rfl); (case hr => first | (go_simp; done) | (go_simp; rfl)); intro gb258 hg w29 hbox hb; have n0_ := Aside0.mk (Kd.R_below (RFn.mR HO_4) hb); have n1_ := Aside0.mk (Kd.S_below (Kd.S_elderB (by (with_reducible repeat (first | apply Kd.S_alloc | apply Kd.S_drewN | apply Kd.S_drew)); exact HO_55.out) gb258 (Nat.le_of_eq hg.symm)) hb); have n2_ := Aside0.mk (Kd.R_below (RFn.mR HL257_1) hb); have n3_ := Aside0.mk (Kd.C_below (by repeat (first | (with_reducible exact HR257_1.out) | (with_reducible refine Kd.C_alloc ?_ _) | (with_reducible refine Kd.C_drewN ?_ _) | (with_reducible refine Kd.C_drew ?_) | exact HR257_1.out)) hb); have n4_ := Aside0.mk (below_step (RFn.bel) hb); have n5_ := Aside0.mk (hbox); have n6_ := Aside0.mk ((by rw [hg]; exact (below_size (RFn.bel)) : w.heap.size ≤ gb258)); have n7_ := Aside0.mk ((by rw [hg]; exact (below_size (RFn.bel)) : w.heap.size ≤ gb258)); clear HO_4; clear HO_55; clear HL257_1; clear HR257_1; clear HB; have HO_4 := n0_; have HO_55 := n1_; have HL257_1 := n2_; have HR257_1 := n3_; have HB := n4_; have BK258 := n5_; have GW258 := n6_; have GE258 := n7_; clear n0_ n1_ n2_ n3_ n4_ n5_ n6_ n7_; clear hb hbox hg; obtain ⟨hcz30_0, hcz30_1⟩ := RFn.bc2 BK258; obtain ⟨hfz30_0, hfz30_1⟩ := RFn.bf2 BK258; obtain ⟨Ao31, co31, eo31⟩ := Kd.R_slice HO_4.out; subst eo31; have p259 : 0 ≤ (x57_3 : Int) := RFn.od; have q259 : x57_3 < (x4_1.length : Int) := RFn.od; obtain ⟨ad259, e259, hx259_0⟩ := Kd.at_int (Kd.R_reads' HO_4.out).2.2 x57_3 p259 q259; cases e259; have hn259_0 : ad259.block ≠ gb258 := Kd.own_blk (Kd.R_ne HO_4.out BK258.out (by decide)); have hn259_1 : ad259.block ≠ gb258 := Kd.own_blk (Kd.R_ne HO_4.out BK258.out (by decide)); replace hx259_0 := (cell_far (p := ⟨gb258, 0, none⟩) (RFn.nb hn259_0) (.int .i64 ((rd_T42 t253 x57_3).f0))).trans hx259_0; replace hx259_0 := (cell_far (p := ⟨gb258, 1, none⟩) (RFn.nb hn259_1) (.slice A257_1 ((rd_T42 t253 x57_3).f1).length c257_1)).trans hx259_0; (try have hy259_0 := fun (n_ : Nat) => (show ((((w29.drewN n_).setCell ⟨gb258, 0, none⟩ (.int .i64 ((rd_T42 t253 x57_3).f0))).setCell ⟨gb258, 1, none⟩ (.slice A257_1 ((rd_T42 t253 x57_3).f1).length c257_1))).cell? _ = some _ from hx259_0)); clear hn259_0; clear hn259_1; replace p259 := eq_true p259; replace q259 := eq_true q259)); try go_wp2_with (first | ((with_reducible refine gate_dst (N := 11) rfl ?_); (try (refine gate_guard (by rfl) ?_; dsimp only)); refine box_event ?hg (N := 11) ?hd (cs := #[.int .i64 0, .slice none 0 0]) (t := 42) ?hr ?_; (case hd => rfl); (case hg => rfl); (case hr => first | (go_simp; done) | (go_simp; rfl)); intro gb258 hg w29 hbox hb; have n0_ := Aside0.mk (Kd.R_below (RFn.mR HO_4) hb); have n1_ := Aside0.mk (Kd.S_below (Kd.S_elderB (by (with_reducible repeat (first | apply Kd.S_alloc | apply Kd.S_drewN | apply Kd.S_drew)); exact HO_55.out) gb258 (Nat.le_of_eq hg.symm)) hb); have n2_ := Aside0.mk (Kd.R_below (RFn.mR HL257_1) hb); have n3_ := Aside0.mk (Kd.C_below (by repeat (first | (with_reducible exact HR257_1.out) | (with_reducible refine Kd.C_alloc ?_ _) | (with_reducible refine Kd.C_drewN ?_ _) | (with_reducible refine Kd.C_drew ?_) | exact HR257_1.out)) hb); have n4_ := Aside0.mk (below_step (RFn.bel) hb); have n5_ := Aside0.mk (hbox); have n6_ := Aside0.mk ((by rw [hg]; exact (below_size (RFn.bel)) : w.heap.size ≤ gb258)); have n7_ := Aside0.mk ((by rw [hg]; exact (below_size (RFn.bel)) : w.heap.size ≤ gb258)); clear HO_4; clear HO_55; clear HL257_1; clear HR257_1; clear HB; have HO_4 := n0_; have HO_55 := n1_; have HL257_1 := n2_; have HR257_1 := n3_; have HB := n4_; have BK258 := n5_; have GW258 := n6_; have GE258 := n7_; clear n0_ n1_ n2_ n3_ n4_ n5_ n6_ n7_; clear hb hbox hg; obtain ⟨hcz30_0, hcz30_1⟩ := RFn.bc2 BK258; obtain ⟨hfz30_0, hfz30_1⟩ := RFn.bf2 BK258; obtain ⟨Ao31, co31, eo31⟩ := Kd.R_slice HO_4.out; subst eo31; have p259 : 0 ≤ (x57_3 : Int) := RFn.od; have q259 : x57_3 < (x4_1.length : Int) := RFn.od; obtain ⟨ad259, e259, hx259_0⟩ := Kd.at_int (Kd.R_reads' HO_4.out).2.2 x57_3 p259 q259; cases e259; have hn259_0 : ad259.block ≠ gb258 := Kd.own_blk (Kd.R_ne HO_4.out BK258.out (by decide)); have hn259_1 : ad259.block ≠ gb258 := Kd.own_blk (Kd.R_ne HO_4.out BK258.out (by decide)); replace hx259_0 := (cell_far (p := ⟨gb258, 0, none⟩) (RFn.nb hn259_0) (.int .i64 ((rd_T42 t253 x57_3).f0))).trans hx259_0; replace hx259_0 := (cell_far (p := ⟨gb258, 1, none⟩) (RFn.nb hn259_1) (.slice A257_1 ((rd_T42 t253 x57_3).f1).length c257_1)).trans hx259_0; (try have hy259_0 := fun (n_ : Nat) => (show ((((w29.drewN n_).setCell ⟨gb258, 0, none⟩ (.int .i64 ((rd_T42 t253 x57_3).f0))).setCell ⟨gb258, 1, none⟩ (.slice A257_1 ((rd_T42 t253 x57_3).f1).length c257_1))).cell? _ = some _ from hx259_0)); clear hn259_0; clear hn259_1; replace p259 := eq_true p259; replace q259 := eq_true q259)))
                 go_roundg k3
                 case measure => have := HK1.out; have := HJ15.out; have := HK3.out; omega
                 case rel => exact ⟨(wrap64 (x57_3 + 1)), (by first | rfl | (simp; done) | (simp [*]; done)), H', ⟨by have := HK1.out; have := HJ15.out; have := HK3.out; omega⟩, ⟨by (with_reducible repeat (first | apply Kd.R_alloc | apply Kd.R_drewN | apply Kd.R_drew)); exact Kd.R_mono (Kd.R_far (p := ⟨gb258, 1, none⟩) (Kd.R_far (p := ⟨gb258, 0, none⟩) (Kd.R_types HO_4.out BK258.out (by decide)) (fun _ hk => hk.2) (.int .i64 ((rd_T42 t253 x57_3).f0))) (fun _ hk => hk.2) (.slice A257_1 ((rd_T42 t253 x57_3).f1).length c257_1)) (fun _ hk => by first | exact trivial | exact trivial)⟩, ⟨by (with_reducible repeat (first | apply Kd.S_alloc | apply Kd.S_drewN | apply Kd.S_drew)); exact Kd.S_mono (Kd.S_far (p := ⟨gb258, 1, none⟩) (Kd.S_far (p := ⟨gb258, 0, none⟩) (Kd.S_mono HO_55.out (fun k_ hk => (⟨hk, hk.2⟩ : _ ∧ k_ ≠ gb258))) (fun _ hk => hk.2) (.int .i64 ((rd_T42 t253 x57_3).f0))) (fun _ hk => hk.2) (.slice A257_1 ((rd_T42 t253 x57_3).f1).length c257_1)) (fun _ hk => by first | exact trivial | exact trivial)⟩, ⟨RFn.bels⟩⟩
                ·rw [if_neg c28] at H
                 have c28b0 : ((((rd_T42 t253 x57_3).f1).length : Int) == 1) = false := beq_eq_false_iff_ne.mpr c28
                 have c28b1 : ((((rd_T42 t253 x57_3).f1).length : Int) != 1) = true := bne_iff_ne.mpr c28
                 obtain rfl := Option.some.inj H
                 have p257 : 0 ≤ (x57_3 : Int) := RFn.od
                 have q257 : x57_3 < (t253.length : Int) := RFn.od
                 obtain ⟨ad257, A257_1, c257_1, e257, hx257_0, hx257_1, hl257_1, hi257_1⟩ := at_T42 (Kd.S_reads' HO_55.out).2.2 x57_3 p257 q257
                 cases e257
                 obtain ⟨ce257, hce257, hMe257, hcc257⟩ := Kd.S_get HO_55.out z42 x57_3 p257 (by first | exact q257 | exact RFn.od | (have e_ := (Kd.S_reads' HO_55.out).1; omega))
                 obtain ⟨ve257_1, rfl, ge257_1⟩ := k42_openM hMe257
                 have hv257_1 := hcc257 1 _ rfl
                 rw [add_field _ _ 1 (by omega)] at hv257_1
                 replace hv257_1 := Option.some.inj (hv257_1.symm.trans hx257_1)
                 rw [hv257_1] at ge257_1
                 have HL257_1 := Aside0.mk (show Kd.R Kd.string 9 _ _ _ _ ((rd_T42 t253 x57_3).f1) from ge257_1)
                 clear hv257_1 ge257_1
                 clear hcc257 hce257
                 have HR257_1 := Aside0.mk hi257_1
                 have HC257_1 := Aside0.mk hl257_1
                 clear hi257_1 hl257_1
                 replace p257 := eq_true p257
                 replace q257 := eq_true q257
                 go_wp2_with (first | ((with_reducible refine gate_dst (N := 11) rfl ?_); (try (refine gate_guard (by rfl) ?_; dsimp only)); refine box_event ?hg (N := 11) ?hd (cs := #[.int .i64 0, .slice none 0 0]) (t := 42) ?hr ?_; (case hd => rfl); (case hg => rfl); (case hr => first | (go_simp; done) | (go_simp; rfl)); intro gb258 hg w32 hbox hb; have n0_ := Aside0.mk (Kd.R_below (RFn.mR HO_4) hb); have n1_ := Aside0.mk (Kd.S_below (Kd.S_elderB (by (with_reducible repeat (first | apply Kd.S_alloc | apply Kd.S_drewN | apply Kd.S_drew)); exact HO_55.out) gb258 (Nat.le_of_eq hg.symm)) hb); have n2_ := Aside0.mk (Kd.R_below (RFn.mR HL257_1) hb); have n3_ := Aside0.mk (Kd.C_below (by repeat (first | (with_reducible exact HR257_1.out) | (with_reducible refine Kd.C_alloc ?_ _) | (with_reducible refine Kd.C_drewN ?_ _) | (with_reducible refine Kd.C_drew ?_) | exact HR257_1.out)) hb); have n4_ := Aside0.mk (below_step (RFn.bel) hb); have n5_ := Aside0.mk (hbox); have n6_ := Aside0.mk ((by rw [hg]; exact (below_size (RFn.bel)) : w.heap.size ≤ gb258)); have n7_ := Aside0.mk ((by rw [hg]; exact (below_size (RFn.bel)) : w.heap.size ≤ gb258)); clear HO_4; clear HO_55; clear HL257_1; clear HR257_1; clear HB; have HO_4 := n0_; have HO_55 := n1_; have HL257_1 := n2_; have HR257_1 := n3_; have HB := n4_; have BK258 := n5_; have GW258 := n6_; have GE258 := n7_; clear n0_ n1_ n2_ n3_ n4_ n5_ n6_ n7_; clear hb hbox hg; obtain ⟨hcz33_0, hcz33_1⟩ := RFn.bc2 BK258; obtain ⟨hfz33_0, hfz33_1⟩ := RFn.bf2 BK258; obtain ⟨Ao34, co34, eo34⟩ := Kd.R_slice HO_4.out; subst eo34; have p259 : 0 ≤ (x57_3 : Int) := RFn.od; have q259 : x57_3 < (x4_1.length : Int) := RFn.od; obtain ⟨ad259, e259, hx259_0⟩ := Kd.at_int (Kd.R_reads' HO_4.out).2.2 x57_3 p259 q259; cases e259; have hn259_0 : ad259.block ≠ gb258 := Kd.own_blk (Kd.R_ne HO_4.out BK258.out (by decide)); have hn259_1 : ad259.block ≠ gb258 := Kd.own_blk (Kd.R_ne HO_4.out BK258.out (by decide)); replace hx259_0 := (cell_far (p := ⟨gb258, 0, none⟩) (RFn.nb hn259_0) (.int .i64 ((rd_T42 t253 x57_3).f0))).trans hx259_0; replace hx259_0 := (cell_far (p := ⟨gb258, 1, none⟩) (RFn.nb hn259_1) (.slice A257_1 ((rd_T42 t253 x57_3).f1).length c257_1)).trans hx259_0; (try have hy259_0 := fun (n_ : Nat) => (show ((((w32.drewN n_).setCell ⟨gb258, 0, none⟩ (.int .i64 ((rd_T42 t253 x57_3).f0))).setCell ⟨gb258, 1, none⟩ (.slice A257_1 ((rd_T42 t253 x57_3).f1).length c257_1))).cell? _ = some _ from hx259_0)); clear hn259_0; clear hn259_1; replace p259 := eq_true p259; replace q259 := eq_true q259))
                 repeat (go_quiet (first | ((with_reducible refine gate_dst (N := 11) rfl ?_); (try (refine gate_guard (by rfl) ?_; dsimp only)); refine box_event ?hg (N := 11) ?hd (cs := #[.int .i64 0, .slice none 0 0]) (t := 42) ?hr ?_; (case hd => rfl); (case hg => rfl); (case hr => first | (go_simp; done) | (go_simp; rfl)); intro gb258 hg w32 hbox hb; have n0_ := Aside0.mk (Kd.R_below (RFn.mR HO_4) hb); have n1_ := Aside0.mk (Kd.S_below (Kd.S_elderB (by (with_reducible repeat (first | apply Kd.S_alloc | apply Kd.S_drewN | apply Kd.S_drew)); exact HO_55.out) gb258 (Nat.le_of_eq hg.symm)) hb); have n2_ := Aside0.mk (Kd.R_below (RFn.mR HL257_1) hb); have n3_ := Aside0.mk (Kd.C_below (by repeat (first | (with_reducible exact HR257_1.out) | (with_reducible refine Kd.C_alloc ?_ _) | (with_reducible refine Kd.C_drewN ?_ _) | (with_reducible refine Kd.C_drew ?_) | exact HR257_1.out)) hb); have n4_ := Aside0.mk (below_step (RFn.bel) hb); have n5_ := Aside0.mk (hbox); have n6_ := Aside0.mk ((by rw [hg]; exact (below_size (RFn.bel)) : w.heap.size ≤ gb258)); have n7_ := Aside0.mk ((by rw [hg]; exact (below_size (RFn.bel)) : w.heap.size ≤ gb258)); clear HO_4; clear HO_55; clear HL257_1; clear HR257_1; clear HB; have HO_4 := n0_; have HO_55 := n1_; have HL257_1 := n2_; have HR257_1 := n3_; have HB := n4_; have BK258 := n5_; have GW258 := n6_; have GE258 := n7_; clear n0_ n1_ n2_ n3_ n4_ n5_ n6_ n7_; clear hb hbox hg; obtain ⟨hcz33_0, hcz33_1⟩ := RFn.bc2 BK258; obtain ⟨hfz33_0, hfz33_1⟩ := RFn.bf2 BK258; obtain ⟨Ao34, co34, eo34⟩ := Kd.R_slice HO_4.out; subst eo34; have p259 : 0 ≤ (x57_3 : Int) := RFn.od; have q259 : x57_3 < (x4_1.length : Int) := RFn.od; obtain ⟨ad259, e259, hx259_0⟩ := Kd.at_int (Kd.R_reads' HO_4.out).2.2 x57_3 p259 q259; cases e259; have hn259_0 : ad259.block ≠ gb258 := Kd.own_blk (Kd.R_ne HO_4.out BK258.out (by decide)); have hn259_1 : ad259.block ≠ gb258 := Kd.own_blk (Kd.R_ne HO_4.out BK258.out (by decide)); replace hx259_0 := (cell_far (p := ⟨gb258, 0, none⟩) (RFn.nb hn259_0) (.int .i64 ((rd_T42 t253 x57_3).f0))).trans hx259_0; replace hx259_0 := (cell_far (p := ⟨gb258, 1, none⟩) (RFn.nb hn259_1) (.slice A257_1 ((rd_T42 t253 x57_3).f1).length c257_1)).trans hx259_0; (try have hy259_0 := fun (n_ : Nat) => (show ((((w32.drewN n_).setCell ⟨gb258, 0, none⟩ (.int .i64 ((rd_T42 t253 x57_3).f0))).setCell ⟨gb258, 1, none⟩ (.slice A257_1 ((rd_T42 t253 x57_3).f1).length c257_1))).cell? _ = some _ from hx259_0)); clear hn259_0; clear hn259_1; replace p259 := eq_true p259; replace q259 := eq_true q259)); try go_wp2_with (first | ((with_reducible refine gate_dst (N := 11) rfl ?_); (try (refine gate_guard (by rfl) ?_; dsimp only)); refine box_event ?hg (N := 11) ?hd (cs := #[.int .i64 0, .slice none 0 0]) (t := 42) ?hr ?_; (case hd => rfl); (case hg => rfl); (case hr => first | (go_simp; done) | (go_simp; rfl)); intro gb258 hg w32 hbox hb; have n0_ := Aside0.mk (Kd.R_below (RFn.mR HO_4) hb); have n1_ := Aside0.mk (Kd.S_below (Kd.S_elderB (by (with_reducible repeat (first | apply Kd.S_alloc | apply Kd.S_drewN | apply Kd.S_drew)); exact HO_55.out) gb258 (Nat.le_of_eq hg.symm)) hb); have n2_ := Aside0.mk (Kd.R_below (RFn.mR HL257_1) hb); have n3_ := Aside0.mk (Kd.C_below (by repeat (first | (with_reducible exact HR257_1.out) | (with_reducible refine Kd.C_alloc ?_ _) | (with_reducible refine Kd.C_drewN ?_ _) | (with_reducible refine Kd.C_drew ?_) | exact HR257_1.out)) hb); have n4_ := Aside0.mk (below_step (RFn.bel) hb); have n5_ := Aside0.mk (hbox); have n6_ := Aside0.mk ((by rw [hg]; exact (below_size (RFn.bel)) : w.heap.size ≤ gb258)); have n7_ := Aside0.mk ((by rw [hg]; exact (below_size (RFn.bel)) : w.heap.size ≤ gb258)); clear HO_4; clear HO_55; clear HL257_1; clear HR257_1; clear HB; have HO_4 := n0_; have HO_55 := n1_; have HL257_1 := n2_; have HR257_1 := n3_; have HB := n4_; have BK258 := n5_; have GW258 := n6_; have GE258 := n7_; clear n0_ n1_ n2_ n3_ n4_ n5_ n6_ n7_; clear hb hbox hg; obtain ⟨hcz33_0, hcz33_1⟩ := RFn.bc2 BK258; obtain ⟨hfz33_0, hfz33_1⟩ := RFn.bf2 BK258; obtain ⟨Ao34, co34, eo34⟩ := Kd.R_slice HO_4.out; subst eo34; have p259 : 0 ≤ (x57_3 : Int) := RFn.od; have q259 : x57_3 < (x4_1.length : Int) := RFn.od; obtain ⟨ad259, e259, hx259_0⟩ := Kd.at_int (Kd.R_reads' HO_4.out).2.2 x57_3 p259 q259; cases e259; have hn259_0 : ad259.block ≠ gb258 := Kd.own_blk (Kd.R_ne HO_4.out BK258.out (by decide)); have hn259_1 : ad259.block ≠ gb258 := Kd.own_blk (Kd.R_ne HO_4.out BK258.out (by decide)); replace hx259_0 := (cell_far (p := ⟨gb258, 0, none⟩) (RFn.nb hn259_0) (.int .i64 ((rd_T42 t253 x57_3).f0))).trans hx259_0; replace hx259_0 := (cell_far (p := ⟨gb258, 1, none⟩) (RFn.nb hn259_1) (.slice A257_1 ((rd_T42 t253 x57_3).f1).length c257_1)).trans hx259_0; (try have hy259_0 := fun (n_ : Nat) => (show ((((w32.drewN n_).setCell ⟨gb258, 0, none⟩ (.int .i64 ((rd_T42 t253 x57_3).f0))).setCell ⟨gb258, 1, none⟩ (.slice A257_1 ((rd_T42 t253 x57_3).f1).length c257_1))).cell? _ = some _ from hx259_0)); clear hn259_0; clear hn259_1; replace p259 := eq_true p259; replace q259 := eq_true q259)))
                 go_ret
                 exact ⟨by first | rfl | (simp [errW_none, errW_some] <;> rfl) | (simp [*, errW_none, errW_some] <;> rfl), RFn.bels⟩
               ·rw [if_neg c27] at H
                have c27b0 : (((rd_T42 t253 x57_3).f0) == (rd x4_1 x57_3)) = false := beq_eq_false_iff_ne.mpr c27
                have c27b1 : (((rd_T42 t253 x57_3).f0) != (rd x4_1 x57_3)) = true := bne_iff_ne.mpr c27
                obtain rfl := Option.some.inj H
                have p257 : 0 ≤ (x57_3 : Int) := RFn.od
                have q257 : x57_3 < (t253.length : Int) := RFn.od
                obtain ⟨ad257, A257_1, c257_1, e257, hx257_0, hx257_1, hl257_1, hi257_1⟩ := at_T42 (Kd.S_reads' HO_55.out).2.2 x57_3 p257 q257
                cases e257
                obtain ⟨ce257, hce257, hMe257, hcc257⟩ := Kd.S_get HO_55.out z42 x57_3 p257 (by first | exact q257 | exact RFn.od | (have e_ := (Kd.S_reads' HO_55.out).1; omega))
                obtain ⟨ve257_1, rfl, ge257_1⟩ := k42_openM hMe257
                have hv257_1 := hcc257 1 _ rfl
                rw [add_field _ _ 1 (by omega)] at hv257_1
                replace hv257_1 := Option.some.inj (hv257_1.symm.trans hx257_1)
                rw [hv257_1] at ge257_1
                have HL257_1 := Aside0.mk (show Kd.R Kd.string 9 _ _ _ _ ((rd_T42 t253 x57_3).f1) from ge257_1)
                clear hv257_1 ge257_1
                clear hcc257 hce257
                have HR257_1 := Aside0.mk hi257_1
                have HC257_1 := Aside0.mk hl257_1
                clear hi257_1 hl257_1
                replace p257 := eq_true p257
                replace q257 := eq_true q257
                go_wp2_with (first | ((with_reducible refine gate_dst (N := 11) rfl ?_); (try (refine gate_guard (by rfl) ?_; dsimp only)); refine box_event ?hg (N := 11) ?hd (cs := #[.int .i64 0, .slice none 0 0]) (t := 42) ?hr ?_; (case hd => rfl); (case hg => rfl); (case hr => first | (go_simp; done) | (go_simp; rfl)); intro gb258 hg w35 hbox hb; have n0_ := Aside0.mk (Kd.R_below (RFn.mR HO_4) hb); have n1_ := Aside0.mk (Kd.S_below (Kd.S_elderB (by (with_reducible repeat (first | apply Kd.S_alloc | apply Kd.S_drewN | apply Kd.S_drew)); exact HO_55.out) gb258 (Nat.le_of_eq hg.symm)) hb); have n2_ := Aside0.mk (Kd.R_below (RFn.mR HL257_1) hb); have n3_ := Aside0.mk (Kd.C_below (by repeat (first | (with_reducible exact HR257_1.out) | (with_reducible refine Kd.C_alloc ?_ _) | (with_reducible refine Kd.C_drewN ?_ _) | (with_reducible refine Kd.C_drew ?_) | exact HR257_1.out)) hb); have n4_ := Aside0.mk (below_step (RFn.bel) hb); have n5_ := Aside0.mk (hbox); have n6_ := Aside0.mk ((by rw [hg]; exact (below_size (RFn.bel)) : w.heap.size ≤ gb258)); have n7_ := Aside0.mk ((by rw [hg]; exact (below_size (RFn.bel)) : w.heap.size ≤ gb258)); clear HO_4; clear HO_55; clear HL257_1; clear HR257_1; clear HB; have HO_4 := n0_; have HO_55 := n1_; have HL257_1 := n2_; have HR257_1 := n3_; have HB := n4_; have BK258 := n5_; have GW258 := n6_; have GE258 := n7_; clear n0_ n1_ n2_ n3_ n4_ n5_ n6_ n7_; clear hb hbox hg; obtain ⟨hcz36_0, hcz36_1⟩ := RFn.bc2 BK258; obtain ⟨hfz36_0, hfz36_1⟩ := RFn.bf2 BK258; obtain ⟨Ao37, co37, eo37⟩ := Kd.R_slice HO_4.out; subst eo37; have p259 : 0 ≤ (x57_3 : Int) := RFn.od; have q259 : x57_3 < (x4_1.length : Int) := RFn.od; obtain ⟨ad259, e259, hx259_0⟩ := Kd.at_int (Kd.R_reads' HO_4.out).2.2 x57_3 p259 q259; cases e259; have hn259_0 : ad259.block ≠ gb258 := Kd.own_blk (Kd.R_ne HO_4.out BK258.out (by decide)); have hn259_1 : ad259.block ≠ gb258 := Kd.own_blk (Kd.R_ne HO_4.out BK258.out (by decide)); replace hx259_0 := (cell_far (p := ⟨gb258, 0, none⟩) (RFn.nb hn259_0) (.int .i64 ((rd_T42 t253 x57_3).f0))).trans hx259_0; replace hx259_0 := (cell_far (p := ⟨gb258, 1, none⟩) (RFn.nb hn259_1) (.slice A257_1 ((rd_T42 t253 x57_3).f1).length c257_1)).trans hx259_0; (try have hy259_0 := fun (n_ : Nat) => (show ((((w35.drewN n_).setCell ⟨gb258, 0, none⟩ (.int .i64 ((rd_T42 t253 x57_3).f0))).setCell ⟨gb258, 1, none⟩ (.slice A257_1 ((rd_T42 t253 x57_3).f1).length c257_1))).cell? _ = some _ from hx259_0)); clear hn259_0; clear hn259_1; replace p259 := eq_true p259; replace q259 := eq_true q259))
                repeat (go_quiet (first | ((with_reducible refine gate_dst (N := 11) rfl ?_); (try (refine gate_guard (by rfl) ?_; dsimp only)); refine box_event ?hg (N := 11) ?hd (cs := #[.int .i64 0, .slice none 0 0]) (t := 42) ?hr ?_; (case hd => rfl); (case hg => rfl); (case hr => first | (go_simp; done) | (go_simp; rfl)); intro gb258 hg w35 hbox hb; have n0_ := Aside0.mk (Kd.R_below (RFn.mR HO_4) hb); have n1_ := Aside0.mk (Kd.S_below (Kd.S_elderB (by (with_reducible repeat (first | apply Kd.S_alloc | apply Kd.S_drewN | apply Kd.S_drew)); exact HO_55.out) gb258 (Nat.le_of_eq hg.symm)) hb); have n2_ := Aside0.mk (Kd.R_below (RFn.mR HL257_1) hb); have n3_ := Aside0.mk (Kd.C_below (by repeat (first | (with_reducible exact HR257_1.out) | (with_reducible refine Kd.C_alloc ?_ _) | (with_reducible refine Kd.C_drewN ?_ _) | (with_reducible refine Kd.C_drew ?_) | exact HR257_1.out)) hb); have n4_ := Aside0.mk (below_step (RFn.bel) hb); have n5_ := Aside0.mk (hbox); have n6_ := Aside0.mk ((by rw [hg]; exact (below_size (RFn.bel)) : w.heap.size ≤ gb258)); have n7_ := Aside0.mk ((by rw [hg]; exact (below_size (RFn.bel)) : w.heap.size ≤ gb258)); clear HO_4; clear HO_55; clear HL257_1; clear HR257_1; clear HB; have HO_4 := n0_; have HO_55 := n1_; have HL257_1 := n2_; have HR257_1 := n3_; have HB := n4_; have BK258 := n5_; have GW258 := n6_; have GE258 := n7_; clear n0_ n1_ n2_ n3_ n4_ n5_ n6_ n7_; clear hb hbox hg; obtain ⟨hcz36_0, hcz36_1⟩ := RFn.bc2 BK258; obtain ⟨hfz36_0, hfz36_1⟩ := RFn.bf2 BK258; obtain ⟨Ao37, co37, eo37⟩ := Kd.R_slice HO_4.out; subst eo37; have p259 : 0 ≤ (x57_3 : Int) := RFn.od; have q259 : x57_3 < (x4_1.length : Int) := RFn.od; obtain ⟨ad259, e259, hx259_0⟩ := Kd.at_int (Kd.R_reads' HO_4.out).2.2 x57_3 p259 q259; cases e259; have hn259_0 : ad259.block ≠ gb258 := Kd.own_blk (Kd.R_ne HO_4.out BK258.out (by decide)); have hn259_1 : ad259.block ≠ gb258 := Kd.own_blk (Kd.R_ne HO_4.out BK258.out (by decide)); replace hx259_0 := (cell_far (p := ⟨gb258, 0, none⟩) (RFn.nb hn259_0) (.int .i64 ((rd_T42 t253 x57_3).f0))).trans hx259_0; replace hx259_0 := (cell_far (p := ⟨gb258, 1, none⟩) (RFn.nb hn259_1) (.slice A257_1 ((rd_T42 t253 x57_3).f1).length c257_1)).trans hx259_0; (try have hy259_0 := fun (n_ : Nat) => (show ((((w35.drewN n_).setCell ⟨gb258, 0, none⟩ (.int .i64 ((rd_T42 t253 x57_3).f0))).setCell ⟨gb258, 1, none⟩ (.slice A257_1 ((rd_T42 t253 x57_3).f1).length c257_1))).cell? _ = some _ from hx259_0)); clear hn259_0; clear hn259_1; replace p259 := eq_true p259; replace q259 := eq_true q259)); try go_wp2_with (first | ((with_reducible refine gate_dst (N := 11) rfl ?_); (try (refine gate_guard (by rfl) ?_; dsimp only)); refine box_event ?hg (N := 11) ?hd (cs := #[.int .i64 0, .slice none 0 0]) (t := 42) ?hr ?_; (case hd => rfl); (case hg => rfl); (case hr => first | (go_simp; done) | (go_simp; rfl)); intro gb258 hg w35 hbox hb; have n0_ := Aside0.mk (Kd.R_below (RFn.mR HO_4) hb); have n1_ := Aside0.mk (Kd.S_below (Kd.S_elderB (by (with_reducible repeat (first | apply Kd.S_alloc | apply Kd.S_drewN | apply Kd.S_drew)); exact HO_55.out) gb258 (Nat.le_of_eq hg.symm)) hb); have n2_ := Aside0.mk (Kd.R_below (RFn.mR HL257_1) hb); have n3_ := Aside0.mk (Kd.C_below (by repeat (first | (with_reducible exact HR257_1.out) | (with_reducible refine Kd.C_alloc ?_ _) | (with_reducible refine Kd.C_drewN ?_ _) | (with_reducible refine Kd.C_drew ?_) | exact HR257_1.out)) hb); have n4_ := Aside0.mk (below_step (RFn.bel) hb); have n5_ := Aside0.mk (hbox); have n6_ := Aside0.mk ((by rw [hg]; exact (below_size (RFn.bel)) : w.heap.size ≤ gb258)); have n7_ := Aside0.mk ((by rw [hg]; exact (below_size (RFn.bel)) : w.heap.size ≤ gb258)); clear HO_4; clear HO_55; clear HL257_1; clear HR257_1; clear HB; have HO_4 := n0_; have HO_55 := n1_; have HL257_1 := n2_; have HR257_1 := n3_; have HB := n4_; have BK258 := n5_; have GW258 := n6_; have GE258 := n7_; clear n0_ n1_ n2_ n3_ n4_ n5_ n6_ n7_; clear hb hbox hg; obtain ⟨hcz36_0, hcz36_1⟩ := RFn.bc2 BK258; obtain ⟨hfz36_0, hfz36_1⟩ := RFn.bf2 BK258; obtain ⟨Ao37, co37, eo37⟩ := Kd.R_slice HO_4.out; subst eo37; have p259 : 0 ≤ (x57_3 : Int) := RFn.od; have q259 : x57_3 < (x4_1.length : Int) := RFn.od; obtain ⟨ad259, e259, hx259_0⟩ := Kd.at_int (Kd.R_reads' HO_4.out).2.2 x57_3 p259 q259; cases e259; have hn259_0 : ad259.block ≠ gb258 := Kd.own_blk (Kd.R_ne HO_4.out BK258.out (by decide)); have hn259_1 : ad259.block ≠ gb258 := Kd.own_blk (Kd.R_ne HO_4.out BK258.out (by decide)); replace hx259_0 := (cell_far (p := ⟨gb258, 0, none⟩) (RFn.nb hn259_0) (.int .i64 ((rd_T42 t253 x57_3).f0))).trans hx259_0; replace hx259_0 := (cell_far (p := ⟨gb258, 1, none⟩) (RFn.nb hn259_1) (.slice A257_1 ((rd_T42 t253 x57_3).f1).length c257_1)).trans hx259_0; (try have hy259_0 := fun (n_ : Nat) => (show ((((w35.drewN n_).setCell ⟨gb258, 0, none⟩ (.int .i64 ((rd_T42 t253 x57_3).f0))).setCell ⟨gb258, 1, none⟩ (.slice A257_1 ((rd_T42 t253 x57_3).f1).length c257_1))).cell? _ = some _ from hx259_0)); clear hn259_0; clear hn259_1; replace p259 := eq_true p259; replace q259 := eq_true q259)))
                go_ret
                exact ⟨by first | rfl | (simp [errW_none, errW_some] <;> rfl) | (simp [*, errW_none, errW_some] <;> rfl), RFn.bels⟩
              ·rw [if_neg c26] at H
               exact absurd H (by simp)
             ·rw [if_neg c25] at H
              exact absurd H (by simp)
            ·rw [if_neg c24] at H
             exact absurd H (by simp)
           ·rw [if_neg c23] at H
            have c23b0 : decide (x57_3 < (t253.length : Int)) = false := decide_eq_false c23
            clear c23
            obtain rfl := Option.some.inj H
            go_wp2
            repeat (go_quiet (fail); try go_wp2)
            go_ret
            exact ⟨by first | rfl | (simp [errW_none, errW_some] <;> rfl) | (simp [*, errW_none, errW_some] <;> rfl), RFn.bel⟩
 ·replace c3 := Bool.eq_false_iff.mpr c3
  subst c3
  have H1 : (some false) = some r := by rw [if_neg (show ¬ (false = true) by decide)] at H; exact H
  clear H
  have H := H1
  clear H1
  obtain rfl := Option.some.inj H
  go_enter Tryd.func6, Tryd.ntmps6
  go_wp2_with (first | (go_at_call 8; (with_reducible refine (law05_alive.calls k  false _ A2.out (Go.Proofs.YtffdhekmnoajiaaDoor.X.LaidW.below hLd_ RFn.bels)).mono ?_); rintro e w38 ⟨rfl, hb⟩; have n0_ := Aside0.mk (below_step (RFn.bel) hb); clear HB; have HB := n0_; clear n0_; (try clear hb)))
  repeat (go_quiet (first | (go_at_call 8; (with_reducible refine (law05_alive.calls k  false _ A2.out (Go.Proofs.YtffdhekmnoajiaaDoor.X.LaidW.below hLd_ RFn.bels)).mono ?_); rintro e w38 ⟨rfl, hb⟩; have n0_ := Aside0.mk (below_step (RFn.bel) hb); clear HB; have HB := n0_; clear n0_; (try clear hb))); try go_wp2_with (first | (go_at_call 8; (with_reducible refine (law05_alive.calls k  false _ A2.out (Go.Proofs.YtffdhekmnoajiaaDoor.X.LaidW.below hLd_ RFn.bels)).mono ?_); rintro e w38 ⟨rfl, hb⟩; have n0_ := Aside0.mk (below_step (RFn.bel) hb); clear HB; have HB := n0_; clear n0_; (try clear hb))))
  go_ret
  exact ⟨by first | rfl | (simp [errW_none, errW_some] <;> rfl) | (simp [*, errW_none, errW_some] <;> rfl), RFn.bel⟩
/-- THE ONE PURE STATEMENT of law05_LexNumbers: ours. -/
def law05_LexNumbers.Pure : Prop := ∀ (l0 : List Int), l0.length ≤ 9223372036854775807 → (∀ x ∈ l0, (Lit.int .u8 x).wf = true) → ∃ k, law05_LexNumbers.f k l0 = some true
end Go.Proofs.YtffdhekmnoajiaaDoor.Q
