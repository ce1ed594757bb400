import Derived.Test.YtgheapbhakamaaaQx8
import Derived.Test.YtgheapbhakamaaaQx9
import Derived.Test.YtgheapbhakamaaaQx7
import Derived.Test.YtgheapbhakamaaaQx12
import Derived.Test.YtgheapbhakamaaaQx17
import Derived.Test.YtgheapbhakamaaaQx10
import Derived.Maps.Own
import Derived.Maps.OwnOps
import Derived.Maps.OwnSet
import Derived.Maps.RangeWalk
import Derived.WalkKit
import Derived.BigQuiet
import Derived.Deep.QuietTactic
import Derived.RegionTactic
/- FactPicks' walk, by hand -/
set_option linter.unusedVariables false
set_option linter.unusedSimpArgs false
namespace Go.Proofs.Ytgheapbhakamaaa.XP
open Go Go.RowKit Go.Maps Go.Proofs.YtgheapbhakamaaaW.PrintWords Go.Proofs.YtgheapbhakamaaaW.PrintLast Go.Proofs.YtgheapbhakamaaaW.PrintMore Go.Proofs.Ytgheapbhakamaaa Go.Proofs.Ytgheapbhakamaaa.Q
def sel (c : List S60) (e : ByteArray) (left : Int → Bool) : List S60 := c.filter fun x => (decide (e.toList = []) || (x.f0.f0.toList == e.toList)) && !left x.f0.f4
def pck (c : List S60) (e : ByteArray) (m : Int) : List S60 := c.filter fun x => (decide (e.toList = []) || (x.f0.f0.toList == e.toList)) && decide (x.f0.f4 = m)
structure Rest (l : List S28) (e : ByteArray) (tl c : List S60) : Prop where
 theirs : ∃ k, law09_Theirs.f k l = some tl
 of : ∃ k, fact_Of.f k tl = some (c, 0)
 len : c.length ≤ 1000
 wf : ∀ x ∈ c, -9223372036854775808 ≤ x.f0.f4 ∧ x.f0.f4 ≤ 9223372036854775807
 pick : ∀ m, 0 ≤ m → ∃ k, fact_Pick.f k c e m = some (pck c e m)
 right : ∀ m, 0 ≤ m → ∃ k, fact_Right.f k (pck c e m) = some true
 add : ∀ (left : Int → Bool) m, 0 ≤ m → left m = true → ∃ k, fact_Add.f k (sel c e left) (pck c e m) = some (sel c e (fun z => left z && !(z == m)), 0)
 count : ∀ (left : Int → Bool) m, left m = true → (sel c e (fun z => left z && !(z == m))).length = (sel c e left).length + (pck c e m).length
 pickAll : ∃ k, fact_Pick.f k c e (-1) = some (sel c e fun _ => false)
 pickEach : ∃ k, fact_Pick.f k c ⟨#[]⟩ (-1) = some c
 ours : ∃ o, (∃ k, law09_Ours.f k (sel c e fun _ => false) = some o) ∧ ∃ k, ref09_Same.f k o o = some true
 oursC : ∃ o, (∃ k, law09_Ours.f k c = some o) ∧ ∃ k, ref09_Same.f k o o = some true
theorem law3 : Keyed Try.prog 3 := int_keyed Try.underlying3
theorem zero3 (w : World) : (zeroValue 3).run Try.prog w = .ok (.int .i64 0) w := by kernel_rfl
theorem ranges_below {H : Type} {P : Program} {k : TypeId} {R : Value → Option (DataW H × List MemPlace)} {w w' : World} {b r n : Nat} {D : DataW H} {left : Lit → Bool} {cnt : Nat} (h : w.ranges P k R b r n D left cnt) (hb : Below w.heap.size w w') : w'.ranges P k R b r n D left cnt := by
 have h1 := h.owns.lt
 have h2 := h.lt
 obtain ⟨es, clock, since, seen, c0, hb', F, hs, hD, hr, rest⟩ := h
 exact ⟨es, clock, since, seen, c0, (hb.block b h1).trans hb', F, hs, hD, (hb.block r h2).trans hr, rest⟩
theorem has_step {D : DataW Unit} {l : List S60} {i : Nat} (hi : i < l.length) (hm : IsMap D) (h : ∀ m, Maps.has D (.int .i64 m) = (l.take i).any fun x => decide (x.f0.f4 = m)) {x : S60} (hx : l[i] = x) (d : DataW Unit) (m : Int) : Maps.has (D.put (.int .i64 x.f0.f4) d) (.int .i64 m) = (l.take (i + 1)).any fun x => decide (x.f0.f4 = m) := by
 rw [List.take_succ_eq_append_getElem hi, List.any_append, ← h m, hx]
 by_cases e : x.f0.f4 = m
 ·subst e
  rw [has_put_same (k := .int .i64 x.f0.f4) hm trivial]
  simp
 ·rw [has_put_other (fun e' => e (by injection e' with _ e'; exact e'.symm))]
  simp [e]
theorem sel_start {c : List S60} {e : ByteArray} {D : DataW Unit} {i : Nat} (hi : c.length ≤ i) (h : ∀ m, Maps.has D (.int .i64 m) = (c.take i).any fun x => decide (x.f0.f4 = m)) : sel c e (fun m => Maps.has D (.int .i64 m)) = [] := by
 rw [List.take_of_length_le hi] at h
 unfold sel
 rw [List.filter_eq_nil_iff]
 intro x hx
 have : Maps.has D (.int .i64 x.f0.f4) = true := by rw [h, List.any_eq_true]; exact ⟨x, hx, by simp⟩
 simp only [this]
 simp
theorem sel_len (c : List S60) (e : ByteArray) (left : Int → Bool) : (sel c e left).length ≤ c.length := List.length_filter_le ..
theorem same_i (a b : Int) : (Lit.int .i64 a).sameKey (.int .i64 b) = (a == b) := by
 by_cases e : a = b
 ·subst e; rw [WideAt.sameKey_self (by trivial)]; simp
 ·rw [Maps.sameKey_ne (fun e' => e (by injection e'))]; simp [e]
set_option maxHeartbeats 16000000 in
set_option maxRecDepth 100000 in
theorem picks_rest {l : List S28} {e : ByteArray} {tl c : List S60} (R : Rest l e tl c) (A0 : Option Addr) (c0 : Nat) (w : World) (hr0 : Kd.C k28 w A0 l.length l) (hc0 : l.length ≤ c0) (ha : ∃ k, law09_alive.f k = some true) (hf : ∃ k, law09_Few.f k l = some true) (hs : ∃ k, law09_small.f k l = some true) (he : e.size ≤ 40) :
  Calls Try.prog 7 #[.slice A0 l.length c0, .string e] w fun r w' => r = .returned (.bool true) ∧ Below w.heap.size w w' := by
 have HR0 := Aside0.mk hr0
 have HC0 := Aside0.mk hc0
 have HR := Aside0.mk R
 obtain ⟨ka, ha⟩ := ha
 obtain ⟨kf, hf⟩ := hf
 obtain ⟨ks, hs⟩ := hs
 obtain ⟨kt, ht⟩ := R.theirs
 obtain ⟨ko, ho⟩ := R.of
 have HAL := Aside0.mk ha
 have HF := Aside0.mk hf
 have HS := Aside0.mk hs
 have HT := Aside0.mk ht
 have HO := Aside0.mk ho
 have c1b : decide (40 < (e.size : Int)) = false := decide_eq_false (by omega)
 have hmm := @run_makeMap Try.prog
 have hcl := R.len
 clear ha hf hs ht ho hr0 hc0 R he
 go_enter Try.func7, Try.ntmps7
 go_upto_region 8 with (first
  | (go_at_call 10; refine (law09_alive.calls ka true _ HAL.out).mono ?_; rintro r w1 ⟨rfl, hb⟩; have HB1 := Aside0.mk hb; clear hb)
  | (go_at_call 11; refine (law09_Few.calls kf _ _ l true _ (Kd.C_below HR0.out HB1.out) HC0.out HF.out).mono ?_; rintro r w2 ⟨rfl, hb⟩; have HB2 := Aside0.mk (below_step HB1.out hb); clear hb HB1)
  | (go_at_call 29; refine (law09_small.calls ks _ _ l true _ (Kd.C_below HR0.out HB2.out) HC0.out HS.out).mono ?_; rintro r w3 ⟨rfl, hb⟩; have HB3 := Aside0.mk (below_step HB2.out hb); clear hb HB2)
  | (go_at_call 13; refine (law09_Theirs.calls kt _ _ l tl _ (Kd.C_below HR0.out HB3.out) HC0.out HT.out).mono ?_; rintro r w4 ⟨v4, rfl, hR4, hb⟩; have HB4 := Aside0.mk (below_step HB3.out hb); have HR4 := Aside0.mk hR4; clear hb HB3 hR4; obtain ⟨A4, q4, rfl⟩ := Kd.R_slice HR4.out)
  | (go_at_call 12; refine (fact_Of.calls ko _ _ tl c 0 _ (Kd.R_reads' HR4.out).2.2 (Kd.R_reads' HR4.out).2.1 HO.out).mono ?_; rintro r w5 ⟨v5, rfl, hR5, hb⟩; have HB5 := Aside0.mk (below_step HB4.out hb); have HR5 := Aside0.mk hR5; clear hb HB4 hR5 HR4; obtain ⟨A5, q5, rfl⟩ := Kd.R_slice HR5.out))
 have HCC := Aside0.mk (Kd.R_reads' HR5.out).2.2
 have HQ5 := Aside0.mk (Kd.R_reads' HR5.out).2.1
 clear HR5 HO HT HS HF HAL
 go_wp2
 go_loopg [42] (c.length + 1) (fun kq v42 wr => ∃ (i : Nat) (D : DataW Unit), v42 = .int .i64 (i : Int) ∧ i ≤ c.length ∧ Aside0 (kq + i = c.length + 1) ∧ Aside0 (wr.ownsMap Try.prog 3 (plainElem Try.prog 3) w5.heap.size i D) ∧ Aside0 (∀ m, Maps.has D (.int .i64 m) = (c.take i).any fun x => decide (x.f0.f4 = m)) ∧ Aside0 (Below w5.heap.size w5 wr))
 case atStart => exact ⟨0, .map [], rfl, Nat.zero_le _, ⟨rfl⟩, ⟨World.ownsMap_made _ _ _ _⟩, ⟨fun m => rfl⟩, ⟨(Below.refl _ _).alloc (Nat.le_refl _) _⟩⟩
 case round =>
  obtain ⟨i, D, rfl, hi, HK, HOW, HD, HB⟩ := hrel
  by_cases c3 : i < c.length
  ·have hk := HK.out
   obtain ⟨k1, rfl⟩ : ∃ k1, gk = k1 + 1 := ⟨gk - 1, by omega⟩
   clear hk
   have c3b0 : decide ((i : Int) < (c.length : Int)) = true := decide_eq_true (by omega)
   have c4b0 : decide (0 ≤ (i : Int)) = true := decide_eq_true (by omega)
   obtain ⟨ad, e1, y0, y1, y2, y3, y4, y5⟩ := at_T60 (Kd.C_below HCC.out HB.out) (i : Int) (by omega) (by omega)
   cases e1
   have hx : rd_T60 c (i : Int) = c[i] := by unfold rd_T60; rw [Int.toNat_natCast, List.getD_eq_getElem?_getD, List.getElem?_eq_getElem c3]; rfl
   rw [hx] at y0 y1 y2 y3 y4 y5
   have hwf := HR.out.wf c[i] (List.getElem_mem c3)
   obtain ⟨x, hxx⟩ : ∃ x, c[i] = x := ⟨_, rfl⟩
   rw [hxx] at y0 y1 y2 y3 y4 y5 hwf
   rw [Int.toNat_natCast] at y0 y1 y2 y3 y4 y5
   have p101 : (0 ≤ (i : Int)) = True := eq_true (by omega)
   have q101 : ((i : Int) < (c.length : Int)) = True := eq_true (by omega)
   have hw1 : wrap64 ((i : Int) + 1) = ((i + 1 : Nat) : Int) := by unfold wrap64; omega
   have HXX := Aside0.mk hxx
   clear hx hxx
   have hkey : keyOf Try.prog 3 (.int .i64 x.f0.f4) = some (.int .i64 x.f0.f4) := keyOf_int_mk Try.underlying3 (WalkArith.wf_i64 (by omega))
   go_wp2_with (first
    | (at_lookup; refine wpList_lookup_own_int _ rfl _ _ 58 rfl 3 3 .i64 law3 Try.underlying58 Try.underlying3 (zero3 _) w5.heap.size i D rfl (HOW.out.alloc _) _ _ rfl hkey ?_; intro c hat hwc)
    | (at_mapUpdate; refine wpList_mapUpdate_own _ rfl _ _ _ 58 rfl 3 3 law3 Try.underlying58 _ w5.heap.size i D rfl (HOW.out.alloc _) (by unfold maxLen; omega) _ _ _ rfl rfl hkey _ [] (plainElem_int Try.underlying3 (wrap64_wf _)) ?_; intro w1 hown1 hgrow1))
   go_roundg k1
   case measure => omega
   case rel => exact ⟨i + 1, _, by first | rfl | rw [hw1] | simp, by omega, ⟨by have := HK.out; omega⟩, ⟨hown1⟩, ⟨fun m => has_step c3 HOW.out.isMap HD.out HXX.out _ m⟩, ⟨(HB.out.alloc HB.out.size _).grown hgrow1 (by have := HB.out.size; simp; omega) (fun j hj => by cases hj; exact Nat.le_refl _)⟩⟩
  ·have c3b0 : decide ((i : Int) < (c.length : Int)) = false := decide_eq_false (by omega)
   have HS0 := Aside0.mk (sel_start (e := e) (show c.length ≤ i by omega) HD.out)
   clear hi HK HD
   go_wp2_with (first
    | (at_range; refine wpList_range_own _ rfl _ 58 rfl 3 3 law3 Try.underlying58 _ w5.heap.size i D rfl HOW.out ?_; intro w6 hrg0 hg0 hs0))
   go_frame
   obtain ⟨rr, hrr⟩ : ∃ rr, wr.heap.size = rr := ⟨_, rfl⟩
   rw [hrr] at hrg0 hs0 ⊢
   have HB6 := Aside0.mk (HB.out.grown hg0 HB.out.size (fun j hj => by cases hj))
   have HRR := Aside0.mk (show w5.heap.size ≤ rr by rw [← hrr]; exact HB.out.size)
   have HG0 := Aside0.mk hrg0
   clear hg0 hs0 hrr HOW HB hrg0
   go_loopg [7, 11] (Maps.size D + 1) (fun kq v7 v11 wl => ∃ (left : Lit → Bool) (cnt : Nat), v11 = .int .i64 ((sel c e fun m => left (.int .i64 m)).length : Int) ∧ Aside0 (cnt < kq) ∧ Aside0 (wl.ranges Try.prog 3 (plainElem Try.prog 3) w5.heap.size rr i D left cnt) ∧ Aside0 (Kd.R k60 60 wl 0 (fun k => k ≠ rr) v7 (sel c e fun m => left (.int .i64 m))) ∧ Aside0 (Below w5.heap.size w5 wl))
   case atStart =>
    have e0 := HS0.out
    exact ⟨_, _, by rw [e0]; rfl, ⟨Nat.lt_succ_self _⟩, HG0, ⟨by rw [e0]; exact Kd.R_nil _ _ _ _ _⟩, HB6⟩
   case round =>
    obtain ⟨left, cnt, rfl, HK, HG, HV, HB⟩ := hrel
    obtain ⟨A7, q7, rfl⟩ := Kd.R_slice HV.out
    clear HS0 HG0 HB6
    go_wp2_with (first
     | (at_next; refine wpList_next_ranges_ii _ rfl _ rfl 3 3 .i64 .i64 law3 Try.underlying3 Try.underlying3 w5.heap.size rr i _ _ _ rfl HG.out ?_ ?_))
    ·intro hc0 hl0
     have el : (fun m => left (.int .i64 m)) = fun _ => false := by funext m; exact hl0 _
     rw [el] at HV ⊢
     obtain ⟨o1, ⟨k1, hk1⟩, k3, hk3⟩ := HR.out.ours
     obtain ⟨k2, hk2⟩ := HR.out.pickAll
     obtain ⟨k4, hk4⟩ := HR.out.pickEach
     obtain ⟨o2, ⟨k5, hk5⟩, k6, hk6⟩ := HR.out.oursC
     have H1 := Aside0.mk hk1
     have H2 := Aside0.mk hk2
     have H3 := Aside0.mk hk3
     have H4 := Aside0.mk hk4
     have H5 := Aside0.mk hk5
     have H6 := Aside0.mk hk6
     clear hk1 hk2 hk3 hk4 hk5 hk6 hl0 el HR hmm
     go_wp2_with (first
      | (go_at_call 16; refine (law09_Ours.calls k1 _ _ (sel c e fun _ => false) o1 _ (Kd.R_reads' HV.out).2.2 (Kd.R_reads' HV.out).2.1 H1.out).mono ?_; rintro r u1 ⟨v1, rfl, hR1, hb⟩; have HB1 := Aside0.mk (below_step HB.out hb); have HV1 := Aside0.mk (Kd.R_below (Kd.R_mono (ok' := fun _ => True) HV.out (fun _ _ => trivial)) hb); have HR1 := Aside0.mk hR1; clear hb hR1 HB HV; obtain ⟨B1, p1, rfl⟩ := Kd.R_slice HR1.out)
      | (go_at_call 27; refine (fact_Pick.calls k2 _ _ c e (-1) _ _ (Kd.C_below HCC.out HB1.out) HQ5.out H2.out).mono ?_; rintro r u2 ⟨v2, rfl, hR2, hb⟩; have HB2 := Aside0.mk (below_step HB1.out hb); have HR12 := Aside0.mk (Kd.R_below HR1.out hb); have HR2 := Aside0.mk hR2; clear hb hR2 HB1 HR1; obtain ⟨B2, p2, rfl⟩ := Kd.R_slice HR2.out)
      | (go_at_call 16; refine (law09_Ours.calls k1 _ _ (sel c e fun _ => false) o1 _ (Kd.R_reads' HR2.out).2.2 (Kd.R_reads' HR2.out).2.1 H1.out).mono ?_; rintro r u3 ⟨v3, rfl, hR3, hb⟩; have HB3 := Aside0.mk (below_step HB2.out hb); have HR13 := Aside0.mk (Kd.R_below HR12.out hb); have HR3 := Aside0.mk hR3; clear hb hR3 HB2 HR12 HR2; obtain ⟨B3, p3, rfl⟩ := Kd.R_slice HR3.out)
      | (go_at_call 15; refine (ref09_Same.calls k3 _ _ o1 _ _ o1 true _ (Kd.R_reads' HR13.out).2.2 (Kd.R_reads' HR13.out).2.1 (Kd.R_reads' HR3.out).2.2 (Kd.R_reads' HR3.out).2.1 H3.out).mono ?_; rintro r u4 ⟨rfl, ⟨n4, rfl⟩⟩; have HB4 := Aside0.mk (pw_below_drewN HB3.out n4); clear HB3 HR13 HR3)
      | (go_at_call 27; refine (fact_Pick.calls k4 _ _ c ⟨#[]⟩ (-1) _ _ (Kd.C_below HCC.out HB4.out) HQ5.out H4.out).mono ?_; rintro r u5 ⟨v5, rfl, hR5, hb⟩; have HB5' := Aside0.mk (below_step HB4.out hb); have HR5 := Aside0.mk hR5; clear hb hR5 HB4; obtain ⟨B5, p5, rfl⟩ := Kd.R_slice HR5.out)
      | (go_at_call 16; refine (law09_Ours.calls k5 _ _ c o2 _ (Kd.R_reads' HR5.out).2.2 (Kd.R_reads' HR5.out).2.1 H5.out).mono ?_; rintro r u6 ⟨v6, rfl, hR6, hb⟩; have HB6 := Aside0.mk (below_step HB5'.out hb); have HR6 := Aside0.mk hR6; clear hb hR6 HB5' HR5; obtain ⟨B6, p6, rfl⟩ := Kd.R_slice HR6.out)
      | (go_at_call 16; refine (law09_Ours.calls k5 _ _ c o2 _ (Kd.C_below HCC.out HB6.out) HQ5.out H5.out).mono ?_; rintro r u7 ⟨v7, rfl, hR7, hb⟩; have HB7 := Aside0.mk (below_step HB6.out hb); have HR67 := Aside0.mk (Kd.R_below HR6.out hb); have HR7 := Aside0.mk hR7; clear hb hR7 HB6 HR6; obtain ⟨B7, p7, rfl⟩ := Kd.R_slice HR7.out)
      | (go_at_call 15; refine (ref09_Same.calls k6 _ _ o2 _ _ o2 true _ (Kd.R_reads' HR67.out).2.2 (Kd.R_reads' HR67.out).2.1 (Kd.R_reads' HR7.out).2.2 (Kd.R_reads' HR7.out).2.1 H6.out).mono ?_; rintro r u8 ⟨rfl, ⟨n8, rfl⟩⟩; have HB8 := Aside0.mk (pw_below_drewN HB7.out n8); clear HB7 HR67 HR7))
     go_ret
     exact ⟨rfl, below_step HB5.out HB8.out⟩
    ·intro x el w7 cnt1 hwx hwc hlx hat hrg1 hlt hg1 hs1 hen
     have hrl := HG.out.lt
     have HB7 := Aside0.mk (HB.out.grown hg1 HB.out.size (fun j hj => by cases hj; exact HRR.out))
     have HV7 := Aside0.mk (Kd.R_step HV.out (w1 := w7) (fun k hk hlt => hg1.block k hlt (fun e => hk (Option.some.inj e))))
     have HG7 := Aside0.mk hrg1
     have HLT := Aside0.mk hlt
     have hrl7 : rr < w7.heap.size := by rw [hs1]; exact hrl
     have HRL := Aside0.mk hrl7
     have HLX := Aside0.mk hlx
     clear hat hrg1 hlt hg1 hs1 HV HB HG hwx hwc hlx hrl hrl7
     by_cases c8 : x < 0
     ·have c8b : decide (x < 0) = true := decide_eq_true c8
      go_wp2
      go_ret
      exact ⟨rfl, below_step HB5.out HB7.out⟩
     ·have c8b : decide (x < 0) = false := decide_eq_false c8
      obtain ⟨k1, hk1⟩ := HR.out.pick x (by omega)
      obtain ⟨k2, hk2⟩ := HR.out.add (fun m => left (.int .i64 m)) x (by omega) HLX.out
      obtain ⟨k3, hk3⟩ := HR.out.right x (by omega)
      have hcnt := HR.out.count (fun m => left (.int .i64 m)) x HLX.out
      obtain ⟨S0, hS0⟩ : ∃ S0, (sel c e fun m => left (.int .i64 m)) = S0 := ⟨_, rfl⟩
      obtain ⟨S1, hS1⟩ : ∃ S1, (sel c e fun z => (fun m => left (.int .i64 m)) z && !(z == x)) = S1 := ⟨_, rfl⟩
      obtain ⟨p, hp⟩ : ∃ p, pck c e x = p := ⟨_, rfl⟩
      have hS1l : S1.length ≤ c.length := by rw [← hS1]; exact sel_len _ _ _
      rw [hS0] at HV7 hk2 hcnt ⊢
      rw [hS1] at hk2 hcnt
      rw [hp] at hk1 hk2 hk3 hcnt
      have H1 := Aside0.mk hk1
      have H2 := Aside0.mk hk2
      have H3 := Aside0.mk hk3
      have HCN := Aside0.mk hcnt
      have HS1 := Aside0.mk hS1
      have HSL := Aside0.mk hS1l
      have hwn : wrap64 ((S0.length : Int) + (p.length : Int)) = (S1.length : Int) := by unfold wrap64; omega
      obtain ⟨kk, rfl⟩ : ∃ kk, gk = kk + 1 := ⟨gk - 1, by have := HK.out; omega⟩
      clear hk1 hk2 hk3 hcnt hS0 hS1 hp hS1l HR hmm
      go_wp2_with (first
       | (go_at_call 27; refine (fact_Pick.calls k1 _ _ c e x p _ (Kd.C_below HCC.out HB7.out) HQ5.out H1.out).mono ?_; rintro r u1 ⟨v1, rfl, hR1, hb⟩; have HB1 := Aside0.mk (below_step HB7.out hb); have HG1 := Aside0.mk (ranges_below HG7.out hb); have HV1 := Aside0.mk (Kd.R_below HV7.out hb); have HR1 := Aside0.mk hR1; have HL1 := Aside0.mk (Nat.lt_of_lt_of_le HRL.out hb.size); clear hb hR1 HB7 HV7 HG7 HRL; obtain ⟨B1, p1, rfl⟩ := Kd.R_slice HR1.out)
       | (go_at_call 21; refine (fact_Add.calls k2 _ _ S0 _ _ p S1 0 _ (Kd.R_reads' HV1.out).2.2 (Kd.R_reads' HV1.out).2.1 (Kd.R_reads' HR1.out).2.2 (Kd.R_reads' HR1.out).2.1 H2.out).mono ?_; rintro r u2 ⟨v2, rfl, hR2, hb⟩; have HB2 := Aside0.mk (below_step HB1.out hb); have HG2 := Aside0.mk (ranges_below HG1.out hb); have HR12 := Aside0.mk (Kd.R_below HR1.out hb); have HV2 := Aside0.mk (Kd.R_lower (Kd.R_mono (ok' := fun k => k ≠ rr) (Kd.R_bound hR2) (fun k hk => by have := HL1.out; have := hk.2.1; omega)) (Nat.zero_le _)); clear hb hR2 HB1 HV1 HG1 HR1 HL1; obtain ⟨B2, p2, rfl⟩ := Kd.R_slice HV2.out)
       | (go_at_call 19; refine (fact_Right.calls k3 _ _ p true _ (Kd.R_reads' HR12.out).2.2 (Kd.R_reads' HR12.out).2.1 H3.out).mono ?_; rintro r u3 ⟨rfl, hb⟩; have HB3 := Aside0.mk (below_step HB2.out hb); have HG3 := Aside0.mk (ranges_below HG2.out hb); have HV3 := Aside0.mk (Kd.R_below HV2.out hb); clear hb HB2 HV2 HG2 HR12))
      go_roundg kk
      case measure => omega
      case rel =>
       have el : (fun m => (fun z => left z && !z.sameKey (.int .i64 x)) (.int .i64 m)) = fun z => (fun m => left (.int .i64 m)) z && !(z == x) := by funext m; simp only [same_i]
       refine ⟨_, cnt1, ?_, ⟨by have := HLT.out; have := HK.out; omega⟩, HG3, ⟨?_⟩, HB3⟩
       ·rw [el, HS1.out]; first | rfl | rw [hwn]
       ·rw [el, HS1.out]; exact HV3.out
def PicksH (l : List S28) (e : ByteArray) : Prop := (∃ k, law09_alive.f k = some true) ∧ ((∃ k, law09_Few.f k l = some false) ∨ (∃ k, law09_Few.f k l = some true) ∧ ((∃ k, law09_small.f k l = some false) ∨ (∃ k, law09_small.f k l = some true) ∧ (40 < e.size ∨ e.size ≤ 40 ∧ ∃ tl c, Rest l e tl c)))
set_option maxHeartbeats 16000000 in
set_option maxRecDepth 100000 in
theorem picks_walk {l : List S28} {e : ByteArray} (H : PicksH l e) (A0 : Option Addr) (c0 : Nat) (w : World) (hr0 : Kd.C k28 w A0 l.length l) (hc0 : l.length ≤ c0) :
  Calls Try.prog 7 #[.slice A0 l.length c0, .string e] w fun r w' => r = .returned (.bool true) ∧ Below w.heap.size w w' := by
 obtain ⟨ha, H⟩ := H
 rcases H with hf | ⟨hf, hs | ⟨hs, he | ⟨he, tl, c, R⟩⟩⟩
 ·have HR0 := Aside0.mk hr0
  have HC0 := Aside0.mk hc0
  obtain ⟨ka, ha⟩ := ha
  obtain ⟨kf, hf⟩ := hf
  have HAL := Aside0.mk ha
  have HF := Aside0.mk hf
  clear ha hf hr0 hc0
  go_enter Try.func7, Try.ntmps7
  go_wp2_with (first
   | (go_at_call 10; refine (law09_alive.calls ka true _ HAL.out).mono ?_; rintro r w1 ⟨rfl, hb⟩; have HB1 := Aside0.mk hb; clear hb)
   | (go_at_call 11; refine (law09_Few.calls kf _ _ l false _ (Kd.C_below HR0.out HB1.out) HC0.out HF.out).mono ?_; rintro r w2 ⟨rfl, hb⟩; have HB2 := Aside0.mk (below_step HB1.out hb); clear hb HB1))
  go_ret
  exact ⟨rfl, HB2.out⟩
 ·have HR0 := Aside0.mk hr0
  have HC0 := Aside0.mk hc0
  obtain ⟨ka, ha⟩ := ha
  obtain ⟨kf, hf⟩ := hf
  obtain ⟨ks, hs⟩ := hs
  have HAL := Aside0.mk ha
  have HF := Aside0.mk hf
  have HS := Aside0.mk hs
  clear ha hf hs hr0 hc0
  go_enter Try.func7, Try.ntmps7
  go_wp2_with (first
   | (go_at_call 10; refine (law09_alive.calls ka true _ HAL.out).mono ?_; rintro r w1 ⟨rfl, hb⟩; have HB1 := Aside0.mk hb; clear hb)
   | (go_at_call 11; refine (law09_Few.calls kf _ _ l true _ (Kd.C_below HR0.out HB1.out) HC0.out HF.out).mono ?_; rintro r w2 ⟨rfl, hb⟩; have HB2 := Aside0.mk (below_step HB1.out hb); clear hb HB1)
   | (go_at_call 29; refine (law09_small.calls ks _ _ l false _ (Kd.C_below HR0.out HB2.out) HC0.out HS.out).mono ?_; rintro r w3 ⟨rfl, hb⟩; have HB3 := Aside0.mk (below_step HB2.out hb); clear hb HB2))
  go_ret
  exact ⟨rfl, HB3.out⟩
 ·have HR0 := Aside0.mk hr0
  have HC0 := Aside0.mk hc0
  obtain ⟨ka, ha⟩ := ha
  obtain ⟨kf, hf⟩ := hf
  obtain ⟨ks, hs⟩ := hs
  have HAL := Aside0.mk ha
  have HF := Aside0.mk hf
  have HS := Aside0.mk hs
  have c1b : decide (40 < (e.size : Int)) = true := decide_eq_true (by omega)
  clear ha hf hs hr0 hc0 he
  go_enter Try.func7, Try.ntmps7
  go_wp2_with (first
   | (go_at_call 10; refine (law09_alive.calls ka true _ HAL.out).mono ?_; rintro r w1 ⟨rfl, hb⟩; have HB1 := Aside0.mk hb; clear hb)
   | (go_at_call 11; refine (law09_Few.calls kf _ _ l true _ (Kd.C_below HR0.out HB1.out) HC0.out HF.out).mono ?_; rintro r w2 ⟨rfl, hb⟩; have HB2 := Aside0.mk (below_step HB1.out hb); clear hb HB1)
   | (go_at_call 29; refine (law09_small.calls ks _ _ l true _ (Kd.C_below HR0.out HB2.out) HC0.out HS.out).mono ?_; rintro r w3 ⟨rfl, hb⟩; have HB3 := Aside0.mk (below_step HB2.out hb); clear hb HB2))
  go_ret
  exact ⟨rfl, HB3.out⟩
 ·exact picks_rest R A0 c0 w hr0 hc0 ha hf hs he
end Go.Proofs.Ytgheapbhakamaaa.XP
