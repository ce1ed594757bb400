import Derived.Test.YtgheapbhakamaaaQx9
import Derived.Test.YtgheapbhakamaaaQx17
import Derived.Test.YtgheapbhakamaaaQx10
import Derived.Test.YtgheapbhakamaaaQx6
import Derived.Test.YtgheapbhakamaaaXEntry
import Derived.BigQuiet
import Derived.Deep.QuietTactic
import Derived.RegionTactic
/- FactGets' walk, by hand -/
set_option linter.unusedVariables false
set_option linter.unusedSimpArgs false
namespace Go.Proofs.Ytgheapbhakamaaa.XG
open Go Go.RowKit Go.Maps Go.Proofs.YtgheapbhakamaaaW.PrintWords Go.Proofs.YtgheapbhakamaaaW.PrintLast Go.Proofs.YtgheapbhakamaaaW.PrintMore Go.Proofs.Ytgheapbhakamaaa Go.Proofs.Ytgheapbhakamaaa.Q
def kx (x : S28) : Lit := kLit x.f0.f0 x.f0.f1 x.f0.f2 x.f0.f3 x.f0.f4
def Fk (l : List S28) (i : Nat) (kl : Lit) : Int := ((l.take i).map fun x => if (kx x).sameKey kl = true then x.f1 else 0).sum
def Fe (l : List S28) (i : Nat) (s : Lit) : Int := ((l.take i).map fun x => if (Lit.string x.f0.f0.data.toList).sameKey s = true then x.f1 else 0).sum
def tot (l : List S28) (i : Nat) : Int := ((l.take i).map (·.f1)).sum
def In64 (x : Int) : Prop := -9223372036854775808 ≤ x ∧ x ≤ 9223372036854775807
structure Rest (l : List S28) (tl c : List S60) : Prop where
 theirs : ∃ k, law09_Theirs.f k l = some tl
 of : ∃ k, fact_Of.f k tl = some (c, 0)
 len : l.length ≤ 1000
 wf : ∀ x ∈ l, g28 x
 fk : ∀ i kl, In64 (Fk l i kl)
 fe : ∀ i s, In64 (Fe l i s)
 ft : ∀ i, In64 (tot l i)
 get : ∀ a b d e n, a.size ≤ maxLen → b.size ≤ maxLen → d.size ≤ maxLen → e.size ≤ maxLen → (Lit.int .i64 n).wf = true → ∃ k, fact_Get.f k c a b d e n = some (Fk l l.length (kLit a b d e n))
 sum : ∀ s : ByteArray, s.size ≤ maxLen → ∃ k n, fact_Sum.f k c s ⟨#[]⟩ ⟨#[]⟩ = some (n, 0) ∧ (s.toList ≠ [] → n = Fe l l.length (.string s.data.toList))
 all : ∃ k, fact_Sum.f k c ⟨#[]⟩ ⟨#[]⟩ ⟨#[]⟩ = some (tot l l.length, 0)
theorem sum_step (f : S28 → Int) {l : List S28} {i : Nat} (hi : i < l.length) {x : S28} (hx : l[i] = x) : ((l.take (i + 1)).map f).sum = ((l.take i).map f).sum + f x := by
 rw [List.take_succ_eq_append_getElem hi, List.map_append, List.sum_append, hx]
 simp
theorem wrap_in {x : Int} (h : In64 x) : wrap64 x = x := by unfold In64 at h; unfold wrap64; omega
theorem put_step {D : DataW Unit} (hm : IsMap D) {F F' : Lit → Int} (h : ∀ kl, D.atKey kl (.lit (.int .i64 0)) = .lit (.int .i64 (F kl))) {k0 : Lit} (hk : WideAt.IsKeyLit k0) {c a : Int} (hat : D.atKey k0 (.lit (.int .i64 0)) = .lit (.int .i64 c)) (hF : ∀ kl, F' kl = F kl + if k0.sameKey kl = true then a else 0) (hI : ∀ kl, In64 (F' kl)) (kl : Lit) :
  (D.put k0 (.lit (.int .i64 (wrap64 (c + a))))).atKey kl (.lit (.int .i64 0)) = .lit (.int .i64 (F' kl)) := by
 have ec : c = F k0 := by
  rw [h k0] at hat
  injection hat with hat
  injection hat with _ hat
  exact hat.symm
 by_cases e : kl = k0
 ·subst e
  have e2 : F' kl = F kl + a := by rw [hF, if_pos (WideAt.sameKey_self hk)]
  rw [atKey_put_same hm hk, ec, ← e2, wrap_in (hI kl)]
 ·rw [atKey_put_other e, h kl, hF kl, if_neg (by rw [Maps.sameKey_ne (fun e' => e e'.symm)]; simp)]
  simp
theorem ranges_below {H : Type} {P : Program} {k : TypeId} {R : Value → Option (DataW H × List MemPlace)} {w w' : World} {b r n : Nat} {D : DataW H} {left : Lit → Bool} {cnt : Nat} (h : w.ranges P k R b r n D left cnt) (hb : Below w.heap.size w w') : w'.ranges P k R b r n D left cnt := by
 have h1 := h.owns.lt
 have h2 := h.lt
 obtain ⟨es, clock, since, seen, c0, hb', F, hs, hD, hr, rest⟩ := h
 exact ⟨es, clock, since, seen, c0, (hb.block b h1).trans hb', F, hs, hD, (hb.block r h2).trans hr, rest⟩
theorem owns_below {H : Type} {P : Program} {k : TypeId} {R : Value → Option (DataW H × List MemPlace)} {w w' : World} {b n : Nat} {D : DataW H} (h : w.ownsMap P k R b n D) (hb : Below w.heap.size w w') : w'.ownsMap P k R b n D := by
 have h1 := h.lt
 obtain ⟨es, clock, hb', F, hs, hD⟩ := h
 exact ⟨es, clock, (hb.block b h1).trans hb', F, hs, hD⟩
def mkK (p : ByteArray × ByteArray × ByteArray × ByteArray × Int) : Value := .agg #[.string p.1, .string p.2.1, .string p.2.2.1, .string p.2.2.2.1, .int .i64 p.2.2.2.2]
theorem invK (v : Value) (kl : Lit) (h : keyOf Try.prog 24 v = some kl) : ∃ p, v = mkK p := by
 obtain ⟨a, b, c, d, n, rfl, _⟩ := key_inv h
 exact ⟨(a, b, c, d, n), rfl⟩
theorem invV (v : Value) (y : DataW Unit × List MemPlace) (h : plainElem Try.prog 2 v = some y) : ∃ c, v = Value.int .i64 c := by
 obtain ⟨c, rfl, _⟩ := plainElem_int_inv Try.underlying2 h
 exact ⟨c, rfl⟩
theorem invS (v : Value) (kl : Lit) (h : keyOf Try.prog 9 v = some kl) : ∃ s, v = Value.string s := by
 cases v <;> simp [keyOf, Try.underlying9, mapKey] at h
 exact ⟨_, rfl⟩
theorem keyS {s : ByteArray} {kl : Lit} (h : keyOf Try.prog 9 (.string s) = some kl) : s.size ≤ maxLen ∧ kl = .string s.data.toList := by
 simp [keyOf, Try.underlying9, mapKey] at h
 exact ⟨h.1, h.2.symm⟩
theorem keyK {a b c d : ByteArray} {n : Int} {kl : Lit} (h : keyOf Try.prog 24 (mkK (a, b, c, d, n)) = some kl) : a.size ≤ maxLen ∧ b.size ≤ maxLen ∧ c.size ≤ maxLen ∧ d.size ≤ maxLen ∧ (Lit.int .i64 n).wf = true ∧ kl = kLit a b c d n := by
 obtain ⟨a', b', c', d', n', e, h1, h2, h3, h4, h5⟩ := key_inv h
 have e0 : Value.agg #[.string a, .string b, .string c, .string d, .int .i64 n] = Value.agg #[.string a', .string b', .string c', .string d', .int .i64 n'] := e
 simp at e0
 obtain ⟨rfl, rfl, rfl, rfl, rfl⟩ := e0
 refine ⟨h1, h2, h3, h4, h5, ?_⟩
 have := key_some h1 h2 h3 h4 h5
 have h' : keyOf Try.prog 24 (.agg #[.string a, .string b, .string c, .string d, .int .i64 n]) = some kl := h
 rw [this] at h'
 exact (Option.some.inj h').symm
theorem valV {v : Int} {y : DataW Unit × List MemPlace} (h : plainElem Try.prog 2 (Value.int .i64 v) = some y) {D : DataW Unit} {kl : Lit} {f : Int} (hat : ∀ zd, D.atKey kl zd = y.1) (hD : D.atKey kl (.lit (.int .i64 0)) = .lit (.int .i64 f)) : v = f := by
 obtain ⟨c, e, h2, _⟩ := plainElem_int_inv Try.underlying2 h
 injection e with _ e
 subst e
 rw [hat, h2] at hD
 injection hD with hD
 injection hD
theorem cell_new (w : World) (cs : Array Value) (t : TypeId) (j : Nat) {v : Value} (h : cs[j]? = some v) : ((w.alloc (.cells cs t)).drew).cell? ⟨w.heap.size, j, none⟩ = some v := (blk_cell (blk_drew (blk_new w (.cells cs t))) j).trans h
set_option maxHeartbeats 16000000 in
set_option maxRecDepth 100000 in
theorem gets_rest {l : List S28} {tl c : List S60} (R : Rest l tl c) (A0 : Option Addr) (c0 : Nat) (w : World) (hr0 : Kd.C k28 w A0 l.length l) (hc0 : l.length ≤ c0) (ha : ∃ k, law09_alive.f k = some true) (hf : ∃ k, law09_Few.f k l = some true) (hs : ∃ k, law09_small.f k l = some true) :
  Calls Try.prog 6 #[.slice A0 l.length c0] w fun r w' => r = .returned (.bool true) ∧ Below w.heap.size w w' := by
 have HR0 := Aside0.mk hr0
 have HC0 := Aside0.mk hc0
 have HR := Aside0.mk R
 obtain ⟨ka, ha⟩ := ha
 obtain ⟨kf, hf⟩ := hf
 obtain ⟨ks, hs⟩ := hs
 obtain ⟨kt, ht⟩ := R.theirs
 obtain ⟨ko, ho⟩ := R.of
 have HAL := Aside0.mk ha
 have HF := Aside0.mk hf
 have HS := Aside0.mk hs
 have HT := Aside0.mk ht
 have HO := Aside0.mk ho
 have hmm := @run_makeMap Try.prog
 clear ha hf hs ht ho hr0 hc0 R
 go_enter Try.func6, Try.ntmps6
 go_upto_region 8 with (first
  | (go_at_call 10; refine (law09_alive.calls ka true _ HAL.out).mono ?_; rintro r w1 ⟨rfl, hb⟩; have HB1 := Aside0.mk hb; clear hb)
  | (go_at_call 11; refine (law09_Few.calls kf _ _ l true _ (Kd.C_below HR0.out HB1.out) HC0.out HF.out).mono ?_; rintro r w2 ⟨rfl, hb⟩; have HB2 := Aside0.mk (below_step HB1.out hb); clear hb HB1)
  | (go_at_call 29; refine (law09_small.calls ks _ _ l true _ (Kd.C_below HR0.out HB2.out) HC0.out HS.out).mono ?_; rintro r w3 ⟨rfl, hb⟩; have HB3 := Aside0.mk (below_step HB2.out hb); clear hb HB2)
  | (go_at_call 13; refine (law09_Theirs.calls kt _ _ l tl _ (Kd.C_below HR0.out HB3.out) HC0.out HT.out).mono ?_; rintro r w4 ⟨v4, rfl, hR4, hb⟩; have HB4 := Aside0.mk (below_step HB3.out hb); have HR4 := Aside0.mk hR4; clear hb HB3 hR4; obtain ⟨A4, q4, rfl⟩ := Kd.R_slice HR4.out)
  | (go_at_call 12; refine (fact_Of.calls ko _ _ tl c 0 _ (Kd.R_reads' HR4.out).2.2 (Kd.R_reads' HR4.out).2.1 HO.out).mono ?_; rintro r w5 ⟨v5, rfl, hR5, hb⟩; have HB5 := Aside0.mk (below_step HB4.out hb); have HR5 := Aside0.mk hR5; clear hb HB4 hR5 HR4; obtain ⟨A5, q5, rfl⟩ := Kd.R_slice HR5.out))
 have HCC := Aside0.mk (Kd.R_reads' HR5.out).2.2
 have HQ5 := Aside0.mk (Kd.R_reads' HR5.out).2.1
 have HLL := Aside0.mk (Kd.C_below HR0.out HB5.out)
 have hll := HR.out.len
 clear HR5 HO HT HS HF HAL
 go_wp2
 have e1 : (w5.alloc (.map #[] 0)).heap.size = w5.heap.size + 1 := by simp
 go_loopg [6, 40] (l.length + 1) (fun kq v6 v40 wr => ∃ (i : Nat) (D E : DataW Unit), v6 = .int .i64 (tot l i) ∧ v40 = .int .i64 (i : Int) ∧ i ≤ l.length ∧ Aside0 (kq + i = l.length + 1) ∧ Aside0 (wr.ownsMap Try.prog 24 (plainElem Try.prog 2) w5.heap.size i D) ∧ Aside0 (wr.ownsMap Try.prog 9 (plainElem Try.prog 2) (w5.heap.size + 1) i E) ∧ Aside0 (∀ kl, D.atKey kl (.lit (.int .i64 0)) = .lit (.int .i64 (Fk l i kl))) ∧ Aside0 (∀ kl, E.atKey kl (.lit (.int .i64 0)) = .lit (.int .i64 (Fe l i kl))) ∧ Aside0 (Below w5.heap.size w5 wr))
 case atStart =>
  refine ⟨0, .map [], .map [], rfl, rfl, Nat.zero_le _, ⟨rfl⟩, ⟨(World.ownsMap_made _ _ _ _).alloc _⟩, ⟨?_⟩, ⟨fun kl => rfl⟩, ⟨fun kl => rfl⟩, ⟨((Below.refl _ _).alloc (Nat.le_refl _) _).alloc (by simp) _⟩⟩
  have := World.ownsMap_made (H := Unit) (w5.alloc (.map #[] 0)) Try.prog 9 (plainElem Try.prog 2)
  rw [e1] at this
  exact this
 case round =>
  obtain ⟨i, D, E, rfl, rfl, hi, HK, HOD, HOE, HDD, HEE, HB⟩ := hrel
  by_cases c3 : i < l.length
  ·obtain ⟨k1, rfl⟩ : ∃ k1, gk = k1 + 1 := ⟨gk - 1, by have := HK.out; omega⟩
   have c3b0 : decide ((i : Int) < (l.length : Int)) = true := decide_eq_true (by omega)
   have c4b0 : decide (0 ≤ (i : Int)) = true := decide_eq_true (by omega)
   obtain ⟨ad, e2, y0, y1, y2, y3, y4, y5⟩ := at_T28 (Kd.C_below HLL.out HB.out) (i : Int) (by omega) (by omega)
   cases e2
   have hx : rd_T28 l (i : Int) = l[i] := by unfold rd_T28; rw [Int.toNat_natCast, List.getD_eq_getElem?_getD, List.getElem?_eq_getElem c3]; rfl
   rw [hx] at y0 y1 y2 y3 y4 y5
   have hwf := HR.out.wf l[i] (List.getElem_mem c3)
   obtain ⟨x, hxx⟩ : ∃ x, l[i] = x := ⟨_, rfl⟩
   rw [hxx] at y0 y1 y2 y3 y4 y5 hwf
   rw [Int.toNat_natCast] at y0 y1 y2 y3 y4 y5
   have p101 : (0 ≤ (i : Int)) = True := eq_true (by omega)
   have q101 : ((i : Int) < (l.length : Int)) = True := eq_true (by omega)
   have hw1 : wrap64 ((i : Int) + 1) = ((i + 1 : Nat) : Int) := by unfold wrap64; omega
   have HXX := Aside0.mk hxx
   have HWF := Aside0.mk hwf
   have hwt : wrap64 (tot l i + x.f1) = tot l (i + 1) := by
    have h : tot l (i + 1) = tot l i + x.f1 := sum_step (·.f1) c3 hxx
    rw [← h]
    exact wrap_in (HR.out.ft (i + 1))
   clear hx hxx hwf
   go_upto_region 14 with (fail)
   have hwf := HWF.out
   have hkey : keyOf Try.prog 24 (.agg #[.string x.f0.f0, .string x.f0.f1, .string x.f0.f2, .string x.f0.f3, .int .i64 x.f0.f4]) = some (kx x) := key_some hwf.1.1 hwf.1.2.1 hwf.1.2.2.1 hwf.1.2.2.2.1 hwf.1.2.2.2.2
   have hownW : ((wr.alloc (.cells #[.string x.f0.f0, .string x.f0.f1, .string x.f0.f2, .string x.f0.f3, .int .i64 x.f0.f4, .int .i64 x.f1] 28)).drew).ownsMap Try.prog 24 (plainElem Try.prog 2) w5.heap.size i D := (HOD.out.alloc _).drew
   obtain ⟨cv, st, W2, hl, hm, hl2, hat, hwc, _, hst⟩ := entry_facts hownW (by unfold maxLen; omega) hkey
   obtain ⟨W4, h4, hown4, hg4⟩ := hst (wrap64 (cv + x.f1)) (wrap64_wf _)
   have hlt := HOD.out.lt
   have hb0 : ∀ j, W4.cell? ⟨wr.heap.size, j, none⟩ = ((wr.alloc (.cells #[.string x.f0.f0, .string x.f0.f1, .string x.f0.f2, .string x.f0.f3, .int .i64 x.f0.f4, .int .i64 x.f1] 28)).drew).cell? ⟨wr.heap.size, j, none⟩ := fun j => World.cell?_of_block (hg4.block wr.heap.size (by simp) (fun e => by have := Option.some.inj e; omega))
   have z0 : W4.cell? ⟨wr.heap.size, 0, none⟩ = some (.string x.f0.f0) := (hb0 0).trans (cell_new wr _ _ 0 rfl)
   have z5 : W4.cell? ⟨wr.heap.size, 5, none⟩ = some (.int .i64 x.f1) := (hb0 5).trans (cell_new wr _ _ 5 rfl)
   have HO4 := Aside0.mk hown4
   have HG4 := Aside0.mk hg4
   have HAT := Aside0.mk (put_step HOD.out.isMap HDD.out (klawK_key hkey) hat (F' := Fk l (i + 1)) (fun kl => sum_step (fun x => if (kx x).sameKey kl = true then x.f1 else 0) c3 HXX.out) (HR.out.fk (i + 1)))
   have HB4 := Aside0.mk (((HB.out.alloc HB.out.size _).drew).grown hg4 (by have := HB.out.size; simp; omega) (fun j hj => by cases hj; exact Nat.le_refl _))
   have HE4 := Aside0.mk ((HOE.out.alloc (.cells #[.string x.f0.f0, .string x.f0.f1, .string x.f0.f2, .string x.f0.f3, .int .i64 x.f0.f4, .int .i64 x.f1] 28)).drew.kept hg4 (fun e => by have := Option.some.inj e; omega))
   have hkeyS : keyOf Try.prog 9 (.string x.f0.f0) = some (.string x.f0.f0.data.toList) := Go.WideMaps.keyOf_string_mk Try.underlying9 hwf.1.1
   clear hst hown4 hg4 hat hownW hkey hwf hb0
   go_region
   clear hl hm hl2 h4
   go_wp2_with (first
    | (at_lookup; refine wpList_lookup_own_int _ rfl _ _ 57 rfl 9 2 .i64 lawS Try.underlying57 Try.underlying2 (zeroE _) (w5.heap.size + 1) i E rfl HE4.out _ _ rfl hkeyS ?_; intro ce hate hwce)
    | (at_mapUpdate; refine wpList_mapUpdate_own _ rfl _ _ _ 57 rfl 9 2 lawS Try.underlying57 _ (w5.heap.size + 1) i E rfl HE4.out (by unfold maxLen; omega) _ _ _ rfl rfl hkeyS _ [] (plainElem_int Try.underlying2 (wrap64_wf _)) ?_; intro w6 hown6 hgrow6))
   go_roundg k1
   case measure => omega
   case rel =>
    refine ⟨i + 1, _, _, ?_, ?_, by omega, ⟨by have := HK.out; omega⟩, ⟨HO4.out.kept hgrow6 (fun e => by have := Option.some.inj e; omega)⟩, ⟨hown6⟩, HAT, ⟨put_step HOE.out.isMap HEE.out (lawS.key hkeyS) hate (F' := Fe l (i + 1)) (fun kl => sum_step (fun x => if (Lit.string x.f0.f0.data.toList).sameKey kl = true then x.f1 else 0) c3 HXX.out) (HR.out.fe (i + 1))⟩, ⟨HB4.out.grown hgrow6 HB4.out.size (fun j hj => by cases hj; omega)⟩⟩
    ·first | rfl | rw [hwt]
    ·first | rfl | rw [hw1] | simp
  ·have c3b0 : decide ((i : Int) < (l.length : Int)) = false := decide_eq_false (by omega)
   obtain rfl : i = l.length := by omega
   clear hi HK
   go_wp2_with (first
    | (at_range; refine wpList_range_own _ rfl _ 56 rfl 24 2 lawK Try.underlying56 _ w5.heap.size l.length D rfl HOD.out ?_; intro w6 hrg0 hg0 hs0))
   go_frame
   obtain ⟨rr, hrr⟩ : ∃ rr, wr.heap.size = rr := ⟨_, rfl⟩
   rw [hrr] at hrg0 hs0 ⊢
   have HB6 := Aside0.mk (HB.out.grown hg0 HB.out.size (fun j hj => by cases hj))
   have HE6 := Aside0.mk (HOE.out.kept hg0 (by simp))
   have HER := Aside0.mk (show w5.heap.size + 1 < rr by rw [← hrr]; exact HOE.out.lt)
   have HG0 := Aside0.mk hrg0
   clear hg0 hs0 hrr HOD HOE HB hrg0
   go_loopg [11] (Maps.size D + 1) (fun kq v11 wl => ∃ (left : Lit → Bool) (cnt : Nat), Aside0 (cnt < kq) ∧ Aside0 (wl.ranges Try.prog 24 (plainElem Try.prog 2) w5.heap.size rr l.length D left cnt) ∧ Aside0 (wl.ownsMap Try.prog 9 (plainElem Try.prog 2) (w5.heap.size + 1) l.length E) ∧ Aside0 (Below w5.heap.size w5 wl))
   case atStart => exact ⟨_, _, ⟨Nat.lt_succ_self _⟩, HG0, HE6, HB6⟩
   case round =>
    obtain ⟨left, cnt, HK, HG, HE, HB⟩ := hrel
    clear HG0 HE6 HB6
    go_wp2_with (first
     | (at_next; refine wpList_next_ranges _ rfl _ rfl 24 lawK (plainElem Try.prog 2) mkK (Value.int .i64) invK invV w5.heap.size rr l.length _ _ _ rfl HG.out ?_ ?_))
    ·intro hc0 hl0
     clear hc0 hl0 HG HDD HK HER
     go_wp2_with (first
      | (at_range; refine wpList_range_own _ rfl _ 57 rfl 9 2 lawS Try.underlying57 _ (w5.heap.size + 1) l.length E rfl HE.out ?_; intro w9 hrg0 hg0 hs0))
     go_frame
     obtain ⟨r2, hr2⟩ : ∃ r2, wr.heap.size = r2 := ⟨_, rfl⟩
     rw [hr2] at hrg0 hs0 ⊢
     have HB9 := Aside0.mk (HB.out.grown hg0 HB.out.size (fun j hj => by cases hj))
     have HER := Aside0.mk (show w5.heap.size + 1 < r2 by rw [← hr2]; exact HE.out.lt)
     have HG0 := Aside0.mk hrg0
     clear hg0 hs0 hr2 HE HB hrg0
     go_loopg [12] (Maps.size E + 1) (fun kq v12 wl => ∃ (left : Lit → Bool) (cnt : Nat), Aside0 (cnt < kq) ∧ Aside0 (wl.ranges Try.prog 9 (plainElem Try.prog 2) (w5.heap.size + 1) r2 l.length E left cnt) ∧ Aside0 (Below w5.heap.size w5 wl))
     case atStart => exact ⟨_, _, ⟨Nat.lt_succ_self _⟩, HG0, HB9⟩
     case round =>
      obtain ⟨left, cnt, HK, HG, HB⟩ := hrel
      clear HG0 HB9
      go_wp2_with (first
       | (at_next; refine wpList_next_ranges _ rfl _ rfl 9 lawS (plainElem Try.prog 2) Value.string (Value.int .i64) invS invV (w5.heap.size + 1) r2 l.length _ _ _ rfl HG.out ?_ ?_))
      ·intro hc0 hl0
       clear hc0 hl0 HG HEE HK HER
       obtain ⟨ka, hall⟩ := HR.out.all
       have HAL := Aside0.mk hall
       clear hall HR hmm
       go_wp2_with (first
        | (go_at_call 23; refine (fact_Sum.calls ka _ _ c ⟨#[]⟩ ⟨#[]⟩ ⟨#[]⟩ (tot l l.length) 0 _ (Kd.C_below HCC.out HB.out) HQ5.out HAL.out).mono ?_; rintro r u1 ⟨rfl, hb⟩; have HB1 := Aside0.mk (below_step HB.out hb); clear hb HB))
       go_ret
       exact ⟨rfl, below_step HB5.out HB1.out⟩
      ·intro s v kl y1 y2 w7 cnt1 hky hlx hv hat hrg1 hlt hg1 hs1 hen
       obtain ⟨h1, rfl⟩ := keyS hky
       obtain rfl := valV hv hat (HEE.out _)
       obtain ⟨kg, m, hsum, hm⟩ := HR.out.sum s h1
       have HGT := Aside0.mk hsum
       have HB7 := Aside0.mk (HB.out.grown hg1 HB.out.size (fun j hj => by cases hj; have := HER.out; omega))
       have HG7 := Aside0.mk hrg1
       have HLT := Aside0.mk hlt
       obtain ⟨N, hN⟩ : ∃ N, Fe l l.length (.string s.data.toList) = N := ⟨_, rfl⟩
       obtain ⟨kk, rfl⟩ : ∃ kk, gk = kk + 1 := ⟨gk - 1, by have := HK.out; omega⟩
       rw [hN] at hm hen ⊢
       clear hky hlx hv hat hrg1 hlt hg1 hs1 HB HG h1 hsum hN hmm
       by_cases c9 : s.toList = []
       ·have c9a : (s.toList == ([] : List UInt8)) = true := beq_iff_eq.mpr c9
        have c9b : (s.toList != ([] : List UInt8)) = false := bne_eq_false_iff_eq.mpr c9
        clear hm c9
        go_wp2_with (first
         | (go_at_call 23; refine (fact_Sum.calls kg _ _ c s ⟨#[]⟩ ⟨#[]⟩ m 0 _ (Kd.C_below HCC.out HB7.out) HQ5.out HGT.out).mono ?_; rintro r u1 ⟨rfl, hb⟩; have HB8 := Aside0.mk (below_step HB7.out hb); have HG8 := Aside0.mk (ranges_below HG7.out hb); clear hb HB7 HG7))
        go_roundg kk
        case measure => omega
        case rel => exact ⟨_, cnt1, ⟨by have := HLT.out; have := HK.out; omega⟩, HG8, HB8⟩
       ·have c9a : (s.toList == ([] : List UInt8)) = false := beq_eq_false_iff_ne.mpr c9
        have c9b : (s.toList != ([] : List UInt8)) = true := bne_iff_ne.mpr c9
        obtain rfl := hm c9
        clear c9
        go_wp2_with (first
         | (go_at_call 23; refine (fact_Sum.calls kg _ _ c s ⟨#[]⟩ ⟨#[]⟩ m 0 _ (Kd.C_below HCC.out HB7.out) HQ5.out HGT.out).mono ?_; rintro r u1 ⟨rfl, hb⟩; have HB8 := Aside0.mk (below_step HB7.out hb); have HG8 := Aside0.mk (ranges_below HG7.out hb); clear hb HB7 HG7))
        go_roundg kk
        case measure => omega
        case rel => exact ⟨_, cnt1, ⟨by have := HLT.out; have := HK.out; omega⟩, HG8, HB8⟩
    ·intro a b d f n v kl y1 y2 w7 cnt1 hky hlx hv hat hrg1 hlt hg1 hs1 hen
     obtain ⟨h1, h2, h3, h4, h5, rfl⟩ := keyK hky
     obtain rfl := valV hv hat (HDD.out _)
     obtain ⟨kg, hget⟩ := HR.out.get a b d f n h1 h2 h3 h4 h5
     have HGT := Aside0.mk hget
     have HB7 := Aside0.mk (HB.out.grown hg1 HB.out.size (fun j hj => by cases hj; have := HER.out; omega))
     have HG7 := Aside0.mk hrg1
     have HE7 := Aside0.mk (HE.out.kept hg1 (fun e => by have := Option.some.inj e; have := HER.out; omega))
     have HLT := Aside0.mk hlt
     obtain ⟨N, hN⟩ : ∃ N, Fk l l.length (kLit a b d f n) = N := ⟨_, rfl⟩
     obtain ⟨kk, rfl⟩ : ∃ kk, gk = kk + 1 := ⟨gk - 1, by have := HK.out; omega⟩
     rw [hN] at HGT hen ⊢
     unfold mkK at hen ⊢
     clear hky hlx hv hat hrg1 hlt hg1 hs1 HB HG HE h1 h2 h3 h4 h5 hget hN hmm
     go_wp2_with (first
      | (go_at_call 25; refine (fact_Get.calls kg _ _ c a b d f n N _ (Kd.C_below HCC.out (by repeat (first | exact HB7.out | apply below_alloc | apply pw_below_drewN | apply below_drew1))) HQ5.out HGT.out).mono ?_; rintro r w8 ⟨rfl, hb⟩; have HB8 := Aside0.mk (below_step (HB7.out.alloc HB7.out.size _) hb); have HG8 := Aside0.mk (ranges_below (HG7.out.alloc _) hb); have HE8 := Aside0.mk (owns_below (HE7.out.alloc _) hb); clear hb HB7 HG7 HE7))
     go_roundg kk
     case measure => omega
     case rel => exact ⟨_, cnt1, ⟨by have := HLT.out; have := HK.out; omega⟩, HG8, HE8, HB8⟩
def GetsH (l : List S28) : Prop := (∃ k, law09_alive.f k = some true) ∧ ((∃ k, law09_Few.f k l = some false) ∨ (∃ k, law09_Few.f k l = some true) ∧ ((∃ k, law09_small.f k l = some false) ∨ (∃ k, law09_small.f k l = some true) ∧ ∃ tl c, Rest l tl c))
set_option maxHeartbeats 16000000 in
set_option maxRecDepth 100000 in
theorem gets_walk {l : List S28} (H : GetsH l) (A0 : Option Addr) (c0 : Nat) (w : World) (hr0 : Kd.C k28 w A0 l.length l) (hc0 : l.length ≤ c0) :
  Calls Try.prog 6 #[.slice A0 l.length c0] w fun r w' => r = .returned (.bool true) ∧ Below w.heap.size w w' := by
 obtain ⟨ha, H⟩ := H
 rcases H with hf | ⟨hf, hs | ⟨hs, tl, c, R⟩⟩
 ·have HR0 := Aside0.mk hr0
  have HC0 := Aside0.mk hc0
  obtain ⟨ka, ha⟩ := ha
  obtain ⟨kf, hf⟩ := hf
  have HAL := Aside0.mk ha
  have HF := Aside0.mk hf
  clear ha hf hr0 hc0
  go_enter Try.func6, Try.ntmps6
  go_wp2_with (first
   | (go_at_call 10; refine (law09_alive.calls ka true _ HAL.out).mono ?_; rintro r w1 ⟨rfl, hb⟩; have HB1 := Aside0.mk hb; clear hb)
   | (go_at_call 11; refine (law09_Few.calls kf _ _ l false _ (Kd.C_below HR0.out HB1.out) HC0.out HF.out).mono ?_; rintro r w2 ⟨rfl, hb⟩; have HB2 := Aside0.mk (below_step HB1.out hb); clear hb HB1))
  go_ret
  exact ⟨rfl, HB2.out⟩
 ·have HR0 := Aside0.mk hr0
  have HC0 := Aside0.mk hc0
  obtain ⟨ka, ha⟩ := ha
  obtain ⟨kf, hf⟩ := hf
  obtain ⟨ks, hs⟩ := hs
  have HAL := Aside0.mk ha
  have HF := Aside0.mk hf
  have HS := Aside0.mk hs
  clear ha hf hs hr0 hc0
  go_enter Try.func6, Try.ntmps6
  go_wp2_with (first
   | (go_at_call 10; refine (law09_alive.calls ka true _ HAL.out).mono ?_; rintro r w1 ⟨rfl, hb⟩; have HB1 := Aside0.mk hb; clear hb)
   | (go_at_call 11; refine (law09_Few.calls kf _ _ l true _ (Kd.C_below HR0.out HB1.out) HC0.out HF.out).mono ?_; rintro r w2 ⟨rfl, hb⟩; have HB2 := Aside0.mk (below_step HB1.out hb); clear hb HB1)
   | (go_at_call 29; refine (law09_small.calls ks _ _ l false _ (Kd.C_below HR0.out HB2.out) HC0.out HS.out).mono ?_; rintro r w3 ⟨rfl, hb⟩; have HB3 := Aside0.mk (below_step HB2.out hb); clear hb HB2))
  go_ret
  exact ⟨rfl, HB3.out⟩
 ·exact gets_rest R A0 c0 w hr0 hc0 ha hf hs
end Go.Proofs.Ytgheapbhakamaaa.XG
