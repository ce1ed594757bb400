import Derived.Test.YtgheapbhakamaaaQx0
import Derived.Test.YtgheapbhakamaaaGM
import Derived.Lib.Bytealg

import Derived.Test.YtgheapbhakamaaaQx3
import Derived.Test.YtgheapbhakamaaaQx11
import Derived.Test.YtgheapbhakamaaaQx5
import Derived.Test.YtgheapbhakamaaaQx4


import Derived.Test.YtgheapbhakamaaaQx8



import Derived.Test.YtgheapbhakamaaaQx10
import Derived.Test.YtgheapbhakamaaaQx12
import Derived.Test.YtgheapbhakamaaaQx17
import Derived.Test.YtgheapbhakamaaaQx7
import Derived.Test.YtgheapbhakamaaaQx9



/- several texts of this session in one -/
set_option linter.unusedVariables false
set_option linter.unusedSimpArgs false
namespace Go.Proofs.Ytgheapbhakamaaa.M
open Go Go.RowKit Go.Proofs.YtgheapbhakamaaaW.PrintWords Go.Proofs.Ytgheapbhakamaaa.Q
structure IsCmp {α : Type} (c : α → α → Int) : Prop where
 zero : ∀ {a b}, c a b = 0 ↔ a = b
 swap : ∀ a b, c b a = - c a b
 trans : ∀ {a b d}, c a b ≤ 0 → c b d ≤ 0 → c a d ≤ 0
def lexC {α β : Type} (c1 : α → α → Int) (c2 : β → β → Int) (x y : α × β) : Int := if c1 x.1 y.1 = 0 then c2 x.2 y.2 else c1 x.1 y.1
theorem IsCmp.lex {α β : Type} {c1 : α → α → Int} {c2 : β → β → Int} (h1 : IsCmp c1) (h2 : IsCmp c2) : IsCmp (lexC c1 c2) := by
 refine ⟨?_, ?_, ?_⟩
 ·rintro ⟨a1, a2⟩ ⟨b1, b2⟩
  unfold lexC
  by_cases c : c1 a1 b1 = 0
  ·simp only [c, if_true]
   rw [h2.zero, h1.zero.1 c]; simp
  ·rw [if_neg c]
   constructor
   ·intro h; exact absurd h c
   ·intro h; cases h; exact absurd (h1.zero.2 rfl) c
 ·rintro ⟨a1, a2⟩ ⟨b1, b2⟩
  unfold lexC
  have := h1.swap a1 b1
  have := h2.swap a2 b2
  by_cases c : c1 a1 b1 = 0
  ·rw [if_pos c, if_pos (by simp only; omega)]; assumption
  ·rw [if_neg c, if_neg (by simp only; omega)]; assumption
 ·rintro ⟨a1, a2⟩ ⟨b1, b2⟩ ⟨d1, d2⟩ h k
  unfold lexC at *
  simp only at *
  by_cases c : c1 a1 b1 = 0
  ·obtain rfl := h1.zero.1 c
   rw [if_pos c] at h
   by_cases e : c1 a1 d1 = 0
   ·rw [if_pos e] at k ⊢; exact h2.trans h k
   ·rw [if_neg e] at k ⊢; exact k
  ·rw [if_neg c] at h
   by_cases e : c1 b1 d1 = 0
   ·obtain rfl := h1.zero.1 e
    rw [if_neg c]; exact h
   ·rw [if_neg e] at k
    have t := h1.trans h k
    by_cases z : c1 a1 d1 = 0
    ·obtain rfl := h1.zero.1 z
     have := h1.swap a1 b1
     omega
    ·rw [if_neg z]; exact t
theorem cb_zero : ∀ a b : List UInt8, Lib.compareBytes a b = 0 ↔ a = b
 | [], [] => by simp [Lib.compareBytes]
 | [], b :: ys => by simp [Lib.compareBytes]
 | a :: xs, [] => by simp [Lib.compareBytes]
 | a :: xs, b :: ys => by
  have ih := cb_zero xs ys
  simp only [Lib.compareBytes, List.cons.injEq]
  by_cases h1 : a < b
  ·have : a ≠ b := by rintro rfl; exact absurd h1 (by simp)
   simp [h1, this]
  ·by_cases h2 : b < a
   ·have : a ≠ b := by rintro rfl; exact absurd h2 (by simp)
    simp [h1, h2, this]
   ·have : a = b := by apply UInt8.toNat.inj; simp only [UInt8.lt_iff_toNat_lt] at *; omega
    simp [h1, h2, this, ih]
theorem cb_swap : ∀ a b : List UInt8, Lib.compareBytes b a = - Lib.compareBytes a b
 | [], [] => by simp [Lib.compareBytes]
 | [], b :: ys => by simp [Lib.compareBytes]
 | a :: xs, [] => by simp [Lib.compareBytes]
 | a :: xs, b :: ys => by
  have ih := cb_swap xs ys
  simp only [Lib.compareBytes]
  by_cases h1 : a < b
  ·have : ¬ b < a := by simp only [UInt8.lt_iff_toNat_lt] at *; omega
   simp [h1, this]
  ·by_cases h2 : b < a
   ·simp [h1, h2]
   ·simp [h1, h2, ih]
theorem cb_trans : ∀ a b d : List UInt8, Lib.compareBytes a b ≤ 0 → Lib.compareBytes b d ≤ 0 → Lib.compareBytes a d ≤ 0
 | [], _, [] => by simp [Lib.compareBytes]
 | [], _, d :: zs => by simp [Lib.compareBytes]
 | a :: xs, [], _ => by simp [Lib.compareBytes]
 | a :: xs, b :: ys, [] => by simp [Lib.compareBytes]
 | a :: xs, b :: ys, d :: zs => by
  have ih := cb_trans xs ys zs
  simp only [Lib.compareBytes]
  by_cases h1 : a < b
  ·by_cases h2 : b < d
   ·have : a < d := by simp only [UInt8.lt_iff_toNat_lt] at *; omega
    simp [h1, h2, this]
   ·by_cases h3 : d < b
    ·simp [h1, h2, h3]
    ·have : b = d := by apply UInt8.toNat.inj; simp only [UInt8.lt_iff_toNat_lt] at *; omega
     subst this; simp [h1]
  ·by_cases h4 : b < a
   ·simp [h1, h4]
   ·have : a = b := by apply UInt8.toNat.inj; simp only [UInt8.lt_iff_toNat_lt] at *; omega
    subst this
    simp only [h1, if_false]
    by_cases h2 : a < d
    ·simp [h2]
    ·by_cases h3 : d < a
     ·simp [h2, h3]
     ·simpa [h2, h3] using ih
def cmpB (x y : ByteArray) : Int := Lib.compareBytes x.data.toList y.data.toList
theorem isB : IsCmp cmpB := by
 refine ⟨fun {a b} => ?_, fun a b => cb_swap _ _, fun {a b d} => cb_trans _ _ _⟩
 unfold cmpB
 rw [cb_zero]
 constructor
 ·intro h; obtain ⟨⟨l⟩⟩ := a; obtain ⟨⟨m⟩⟩ := b; cases h; rfl
 ·rintro rfl; rfl
def cmpN (a b : Int) : Int := if a < b then -1 else if b < a then 1 else 0
theorem isN : IsCmp cmpN := by
 have lo : ∀ {a b : Int}, a < b → cmpN a b = -1 := fun h => if_pos h
 have eq : ∀ a : Int, cmpN a a = 0 := fun a => by simp [cmpN]
 have hi : ∀ {a b : Int}, b < a → cmpN a b = 1 := fun h => by unfold cmpN; rw [if_neg (by omega), if_pos h]
 refine ⟨fun {a b} => ?_, fun a b => ?_, fun {a b d} h k => ?_⟩
 ·rcases Int.lt_trichotomy a b with h | h | h
  ·rw [lo h]; omega
  ·subst h; simp [eq]
  ·rw [hi h]; omega
 ·rcases Int.lt_trichotomy a b with h | h | h
  ·rw [lo h, hi h]; rfl
  ·subst h; rw [eq]; rfl
  ·rw [lo h, hi h]
 ·have h1 : a ≤ b := by
   rcases Int.lt_trichotomy a b with e | e | e
   ·omega
   ·omega
   ·rw [hi e] at h; omega
  have k1 : b ≤ d := by
   rcases Int.lt_trichotomy b d with e | e | e
   ·omega
   ·omega
   ·rw [hi e] at k; omega
  rcases Int.lt_trichotomy a d with e | e | e
  ·rw [lo e]; omega
  ·subst e; rw [eq]; omega
  ·omega
def tup (x : S40) : ByteArray × ByteArray × ByteArray × ByteArray × Int := (x.f0, x.f1, x.f2, x.f3, x.f4)
def cmpK (x y : S40) : Int := lexC cmpB (lexC cmpB (lexC cmpB (lexC cmpB cmpN))) (tup x) (tup y)
theorem isK : IsCmp cmpK := by
 have h := isB.lex (isB.lex (isB.lex (isB.lex isN)))
 refine ⟨fun {a b} => ?_, fun a b => h.swap _ _, fun {a b d} => h.trans⟩
 unfold cmpK
 rw [h.zero]
 constructor
 ·intro e; obtain ⟨a0, a1, a2, a3, a4⟩ := a; obtain ⟨b0, b1, b2, b3, b4⟩ := b; simp only [tup, Prod.mk.injEq] at e; obtain ⟨rfl, rfl, rfl, rfl, rfl⟩ := e; rfl
 ·rintro rfl; rfl
def lt (x y : S60) : Bool := decide (cmpK x.f0 y.f0 < 0)
theorem swo : SWO lt := by
 refine ⟨fun {a b} h => ?_, fun {a b c} h1 h2 => ?_⟩
 ·have := isK.swap a.f0 b.f0
  simp only [lt, decide_eq_true_eq, decide_eq_false_iff_not] at *; omega
 ·have s1 := isK.swap a.f0 b.f0
  have s2 := isK.swap b.f0 c.f0
  have s3 := isK.swap a.f0 c.f0
  simp only [lt, decide_eq_false_iff_not] at *
  have := isK.trans (a := a.f0) (b := b.f0) (d := c.f0) (by omega) (by omega)
  omega

theorem byte_eq (a b : ByteArray) : (a.toList == b.toList) = decide (a = b) := by
 rw [Lib.toList_data, Lib.toList_data, Bool.eq_iff_iff, beq_iff_eq, decide_eq_true_eq]
 constructor
 ·intro h; obtain ⟨⟨l⟩⟩ := a; obtain ⟨⟨m⟩⟩ := b; cases h; rfl
 ·rintro rfl; rfl
instance decK : DecidableEq S40 := fun a b => decidable_of_iff (cmpK a b = 0) isK.zero
theorem cmpK_self (a : S40) : cmpK a a = 0 := isK.zero.2 rfl
theorem cmpK_lt_trans {a b c : S40} (h1 : cmpK a b < 0) (h2 : cmpK b c < 0) : cmpK a c < 0 := by
 have h := isK.trans (a := a) (b := b) (d := c) (by omega) (by omega)
 by_cases e : cmpK a c = 0
 ·obtain rfl := isK.zero.1 e
  have := isK.swap a b
  omega
 ·omega
theorem cmpK_irrefl {a : S40} (h : cmpK a a < 0) : False := by rw [cmpK_self] at h; omega
def SK (l : List S40) : Prop := l.Pairwise fun a b => cmpK a b < 0
def ins (k : S40) : List S40 → List S40
 | [] => [k]
 | x :: xs => if cmpK k x = 0 then x :: xs else if cmpK k x < 0 then k :: x :: xs else x :: ins k xs
theorem mem_ins {k y : S40} {l : List S40} : y ∈ ins k l ↔ y = k ∨ y ∈ l := by
 induction l with
 | nil => simp [ins]
 | cons x xs ih =>
  unfold ins
  split
  ·rename_i h
   obtain rfl := isK.zero.1 h
   simp
  ·split
   ·simp
   ·rw [List.mem_cons, ih, List.mem_cons]
    constructor
    ·rintro (h | h | h)
     ·exact .inr (.inl h)
     ·exact .inl h
     ·exact .inr (.inr h)
    ·rintro (h | h | h)
     ·exact .inr (.inl h)
     ·exact .inl h
     ·exact .inr (.inr h)
theorem sk_ins {k : S40} {l : List S40} (h : SK l) : SK (ins k l) := by
 induction l with
 | nil => exact List.pairwise_singleton ..
 | cons x xs ih =>
  obtain ⟨h1, h2⟩ := List.pairwise_cons.1 h
  unfold ins
  split
  ·exact h
  ·split
   ·rename_i h3 h4
    exact List.pairwise_cons.2 ⟨fun y hy => by
     rcases List.mem_cons.1 hy with rfl | hy
     ·exact h4
     ·exact cmpK_lt_trans h4 (h1 y hy), h⟩
   ·rename_i h3 h4
    have := isK.swap k x
    refine List.pairwise_cons.2 ⟨fun y hy => ?_, ih h2⟩
    rcases mem_ins.1 hy with rfl | hy
    ·omega
    ·exact h1 y hy
theorem sk_ext : ∀ {a b : List S40}, SK a → SK b → (∀ x, x ∈ a ↔ x ∈ b) → a = b
 | [], [], _, _, _ => rfl
 | [], y :: ys, _, _, h => by have := (h y).2 List.mem_cons_self; simp at this
 | x :: xs, [], _, _, h => by have := (h x).1 List.mem_cons_self; simp at this
 | x :: xs, y :: ys, ha, hb, h => by
  obtain ⟨a1, a2⟩ := List.pairwise_cons.1 ha
  obtain ⟨b1, b2⟩ := List.pairwise_cons.1 hb
  have hxy : x = y := by
   rcases List.mem_cons.1 ((h x).1 List.mem_cons_self) with e | e
   ·exact e
   ·rcases List.mem_cons.1 ((h y).2 List.mem_cons_self) with e' | e'
    ·exact e'.symm
    ·have h1 := b1 x e
     have h2 := a1 y e'
     have := isK.swap x y
     omega
  subst hxy
  rw [sk_ext a2 b2 fun z => ⟨fun hz => ?_, fun hz => ?_⟩]
  ·rcases List.mem_cons.1 ((h z).1 (List.mem_cons_of_mem _ hz)) with e | e
   ·subst e; exact (cmpK_irrefl (a1 _ hz)).elim
   ·exact e
  ·rcases List.mem_cons.1 ((h z).2 (List.mem_cons_of_mem _ hz)) with e | e
   ·subst e; exact (cmpK_irrefl (b1 _ hz)).elim
   ·exact e
theorem SK.filter {l : List S40} (h : SK l) (p : S40 → Bool) : SK (l.filter p) := List.Pairwise.filter _ h
theorem SK.nodup {l : List S40} (h : SK l) : l.Nodup := List.Pairwise.imp (fun {a b} hab e => by subst e; exact cmpK_irrefl hab) h
def keysFrom (ks : List S40) (l : List S60) : List S40 := l.foldl (fun ks x => ins x.f0 ks) ks
def keysS (l : List S60) : List S40 := keysFrom [] l
theorem mem_keysFrom {y : S40} {l : List S60} : ∀ {ks : List S40}, y ∈ keysFrom ks l ↔ y ∈ ks ∨ ∃ x ∈ l, x.f0 = y := by
 induction l with
 | nil => intro ks; simp [keysFrom]
 | cons x l ih =>
  intro ks
  show y ∈ keysFrom (ins x.f0 ks) l ↔ _
  rw [ih, mem_ins]
  constructor
  ·rintro ((h | h) | ⟨z, h1, h2⟩)
   ·exact .inr ⟨x, List.mem_cons_self, h.symm⟩
   ·exact .inl h
   ·exact .inr ⟨z, List.mem_cons_of_mem _ h1, h2⟩
  ·rintro (h | ⟨z, h1, h2⟩)
   ·exact .inl (.inr h)
   ·rcases List.mem_cons.1 h1 with rfl | h1
    ·exact .inl (.inl h2.symm)
    ·exact .inr ⟨z, h1, h2⟩
theorem sk_keysFrom {l : List S60} : ∀ {ks : List S40}, SK ks → SK (keysFrom ks l) := by
 induction l with
 | nil => intro ks h; exact h
 | cons x l ih => intro ks h; exact ih (sk_ins h)
theorem mem_keysS {y : S40} {l : List S60} : y ∈ keysS l ↔ ∃ x ∈ l, x.f0 = y := by unfold keysS; rw [mem_keysFrom]; simp
theorem sk_keysS (l : List S60) : SK (keysS l) := sk_keysFrom List.Pairwise.nil
theorem len_ins {k : S40} {l : List S40} : (ins k l).length ≤ l.length + 1 := by
 induction l with
 | nil => simp [ins]
 | cons x xs ih => unfold ins; split <;> (try split) <;> simp <;> omega
theorem len_keysFrom {l : List S60} : ∀ {ks : List S40}, (keysFrom ks l).length ≤ ks.length + l.length := by
 induction l with
 | nil => intro ks; simp [keysFrom]
 | cons x l ih =>
  intro ks
  have := ih (ks := ins x.f0 ks)
  have := len_ins (k := x.f0) (l := ks)
  show (keysFrom (ins x.f0 ks) l).length ≤ _
  simp only [List.length_cons]; omega
theorem len_keysS (l : List S60) : (keysS l).length ≤ l.length := by have := len_keysFrom (l := l) (ks := []); simpa [keysS] using this
def am (l : List S60) (k : S40) : List Int := (l.filter fun x => decide (x.f0 = k)).map (·.f1)
def cubeS (am : S40 → List Int) : List S40 → List S60 → List S60 × Int
 | [], out => if out.length > 2000 then ([], 4) else (out, 0)
 | k :: ks, out => if (sumS 0 (am k)).2 = 0 then (if (sumS 0 (am k)).1 = 0 then cubeS am ks out else cubeS am ks (out ++ [⟨k, (sumS 0 (am k)).1⟩])) else ([], (sumS 0 (am k)).2)
theorem cubeS_congr {a b : S40 → List Int} : ∀ {ks : List S40} {out : List S60}, (∀ k ∈ ks, a k = b k) → cubeS a ks out = cubeS b ks out
 | [], _, _ => rfl
 | k :: ks, out, h => by
  unfold cubeS
  rw [h k List.mem_cons_self, cubeS_congr (fun z hz => h z (List.mem_cons_of_mem _ hz)), cubeS_congr (fun z hz => h z (List.mem_cons_of_mem _ hz))]
def ofS (l : List S60) : List S60 × Int := cubeS (am l) (keysS l) []
def sm (l : List S60) (k : S40) : Int := (am l k).sum
def cubK (s : S40 → Int) (ks : List S40) : List S60 := (ks.filter fun k => decide (s k ≠ 0)).map fun k => ⟨k, s k⟩
def cubL (l : List S60) : List S60 := cubK (sm l) (keysS l)
theorem sm_mem {l : List S60} {k : S40} (h : sm l k ≠ 0) : k ∈ keysS l := by
 rw [mem_keysS]
 apply Classical.byContradiction
 intro hn
 apply h
 unfold sm am
 rw [List.filter_eq_nil_iff.2]
 ·rfl
 ·intro x hx e
  exact hn ⟨x, hx, by simpa using e⟩
theorem cubL_ext {l m : List S60} (h : ∀ k, sm l k = sm m k) : cubL l = cubL m := by
 have e : sm l = sm m := funext h
 unfold cubL cubK
 rw [e]
 congr 1
 refine sk_ext ((sk_keysS l).filter _) ((sk_keysS m).filter _) fun x => ?_
 simp only [List.mem_filter, decide_eq_true_eq]
 constructor
 ·rintro ⟨_, h2⟩; exact ⟨sm_mem h2, h2⟩
 ·rintro ⟨_, h2⟩; exact ⟨sm_mem (by rw [e]; exact h2), h2⟩
theorem am_append (l m : List S60) (k : S40) : am (l ++ m) k = am l k ++ am m k := by simp [am]
theorem sm_append (l m : List S60) (k : S40) : sm (l ++ m) k = sm l k + sm m k := by simp [sm, am_append]
theorem sm_nil (k : S40) : sm [] k = 0 := rfl
theorem sm_cons (x : S60) (l : List S60) (k : S40) : sm (x :: l) k = (if x.f0 = k then x.f1 else 0) + sm l k := by
 unfold sm am
 by_cases h : x.f0 = k <;> simp [h]
theorem sm_perm {l m : List S60} (h : l.Perm m) (k : S40) : sm l k = sm m k := by
 induction h with
 | nil => rfl
 | cons x _ ih => rw [sm_cons, sm_cons, ih]
 | swap x y l => rw [sm_cons, sm_cons, sm_cons, sm_cons]; omega
 | trans _ _ h1 h2 => rw [h1, h2]
def neg (x : S60) : S60 := ⟨x.f0, -x.f1⟩
theorem sm_neg (l : List S60) (k : S40) : sm (l.map neg) k = - sm l k := by
 induction l with
 | nil => rfl
 | cons x l ih =>
  rw [List.map_cons, sm_cons, sm_cons, ih]
  show (if x.f0 = k then -x.f1 else 0) + _ = _
  split <;> omega
theorem am_cubK (s : S40 → Int) {ks : List S40} (h : SK ks) (k : S40) : am (cubK s ks) k = if k ∈ ks ∧ s k ≠ 0 then [s k] else [] := by
 induction ks with
 | nil => simp [am, cubK]
 | cons y ys ih =>
  obtain ⟨h1, h2⟩ := List.pairwise_cons.1 h
  have ih := ih h2
  have e : cubK s (y :: ys) = (if s y ≠ 0 then [⟨y, s y⟩] else []) ++ cubK s ys := by
   unfold cubK
   by_cases c : s y = 0 <;> simp [c]
  rw [e, am_append, ih]
  by_cases c : y = k
  ·subst c
   have hn : ¬ y ∈ ys := fun hy => cmpK_irrefl (h1 y hy)
   by_cases d : s y = 0
   ·simp [d, am]
   ·simp [d, am, hn]
  ·have : am (if s y ≠ 0 then [(⟨y, s y⟩ : S60)] else []) k = [] := by
    split <;> simp [am, c]
   rw [this, List.nil_append]
   have : (k ∈ y :: ys) ↔ k ∈ ys := by
    rw [List.mem_cons]; exact ⟨fun h => h.resolve_left (fun e => c e.symm), .inr⟩
   simp only [this]
theorem am_cubL (l : List S60) (k : S40) : am (cubL l) k = if sm l k ≠ 0 then [sm l k] else [] := by
 unfold cubL
 rw [am_cubK _ (sk_keysS l)]
 by_cases h : sm l k = 0
 ·simp [h]
 ·simp [h, sm_mem h]
theorem sm_cubL (l : List S60) (k : S40) : sm (cubL l) k = sm l k := by
 unfold sm
 rw [am_cubL]
 by_cases h : sm l k = 0
 ·rw [if_neg (by simpa using h)]; exact h.symm
 ·rw [if_pos h]; simp [sm]
theorem cubL_cubL (l : List S60) : cubL (cubL l) = cubL l := cubL_ext (sm_cubL l)
theorem cubL_nil {l : List S60} (h : ∀ k, sm l k = 0) : cubL l = [] := by rw [cubL_ext (m := []) h]; rfl
theorem len_cubK (s : S40 → Int) (ks : List S40) : (cubK s ks).length ≤ ks.length := by unfold cubK; rw [List.length_map]; exact List.length_filter_le ..
theorem len_cubL (l : List S60) : (cubL l).length ≤ l.length := Nat.le_trans (len_cubK _ _) (len_keysS l)
theorem cubeS_small {a : S40 → List Int} {s : S40 → Int} : ∀ {ks : List S40} {out : List S60}, (∀ k ∈ ks, sumS 0 (a k) = (s k, 0)) → out.length + ks.length ≤ 2000 → cubeS a ks out = (out ++ cubK s ks, 0)
 | [], out, _, h => by unfold cubeS; rw [if_neg (by simp at h; omega)]; simp [cubK]
 | k :: ks, out, hs, h => by
  simp only [List.length_cons] at h
  have h1 := hs k List.mem_cons_self
  unfold cubeS
  rw [h1]
  simp only [if_true]
  by_cases c : s k = 0
  ·rw [if_pos c, cubeS_small (fun z hz => hs z (List.mem_cons_of_mem _ hz)) (by omega)]
   simp [cubK, c]
  ·rw [if_neg c, cubeS_small (fun z hz => hs z (List.mem_cons_of_mem _ hz)) (by simp; omega)]
   simp [cubK, c]
def szs (l : List Int) : Int := (l.map ab).sum
theorem szs_nonneg (l : List Int) : 0 ≤ szs l := by
 induction l with
 | nil => simp [szs]
 | cons x l ih => have := ab_nonneg x; simp only [szs, List.map_cons, List.sum_cons] at *; omega
theorem szs_cons (x : Int) (l : List Int) : szs (x :: l) = ab x + szs l := rfl
theorem ab_self (x : Int) : -ab x ≤ x ∧ x ≤ ab x := by unfold ab; split <;> omega
theorem sum_szs (l : List Int) : -szs l ≤ l.sum ∧ l.sum ≤ szs l := by
 induction l with
 | nil => simp [szs]
 | cons x l ih => have := ab_self x; rw [szs_cons, List.sum_cons]; omega
theorem sumS_fits {l : List Int} : ∀ {n : Int}, ab n + szs l ≤ 9223372036854775807 → sumS n l = (n + l.sum, 0) := by
 induction l with
 | nil => intro n _; simp [sumS]
 | cons x l ih =>
  intro n h
  rw [szs_cons] at h
  have h1 := ab_self n
  have h2 := ab_self x
  have h3 := szs_nonneg l
  unfold sumS
  rw [if_pos (by unfold I64; omega), ih (by unfold ab at *; split at h <;> split at h <;> split <;> omega), List.sum_cons, Int.add_assoc]
theorem szs_append (l m : List Int) : szs (l ++ m) = szs l + szs m := by simp [szs]
theorem szs_filter (l : List S60) (p : S60 → Bool) : szs ((l.filter p).map (·.f1)) ≤ szs (l.map (·.f1)) := by
 induction l with
 | nil => simp
 | cons x l ih =>
  have := ab_nonneg x.f1
  rw [List.map_cons, szs_cons]
  by_cases c : p x = true
  ·rw [List.filter_cons_of_pos c, List.map_cons, szs_cons]; omega
  ·rw [List.filter_cons_of_neg c]; omega
theorem ofS_small {l : List S60} (h : szs (l.map (·.f1)) ≤ 9223372036854775807) (hl : l.length ≤ 2000) : ofS l = (cubL l, 0) := by
 unfold ofS
 rw [cubeS_small (s := sm l) (fun k _ => ?_) (by have := len_keysS l; simp; omega)]
 ·simp [cubL]
 ·have := szs_filter l (fun x => decide (x.f0 = k))
  rw [sumS_fits (by show ab 0 + szs (am l k) ≤ _; unfold am; simp only [ab]; split <;> omega)]
  simp [sm]
theorem szs_le {l : List Int} {b : Int} (h : ∀ x ∈ l, ab x ≤ b) : szs l ≤ l.length * b := by
 induction l with
 | nil => simp [szs]
 | cons x l ih =>
  have := h x List.mem_cons_self
  have := ih (fun y hy => h y (List.mem_cons_of_mem _ hy))
  rw [szs_cons, List.length_cons, Int.natCast_add, Int.add_mul]; omega
theorem sum_keys (p : S40 → Bool) (l : List S60) : ∀ {ks : List S40}, ks.Nodup → (∀ x ∈ l, x.f0 ∈ ks) → ((ks.filter p).map (sm l)).sum = ((l.filter fun x => p x.f0).map (·.f1)).sum := by
 have one : ∀ (k0 : S40) (v : Int) {ks : List S40}, ks.Nodup → ((ks.filter p).map (fun k => if k0 = k then v else 0)).sum = if k0 ∈ ks ∧ p k0 = true then v else 0 := by
  intro k0 v ks
  induction ks with
  | nil => intro _; simp
  | cons y ys ih =>
   intro h
   obtain ⟨h1, h2⟩ := List.nodup_cons.1 h
   have ih := ih h2
   by_cases c : k0 = y
   ·subst c
    have : (if k0 ∈ ys ∧ p k0 = true then v else 0) = 0 := if_neg (fun h => h1 h.1)
    rw [this] at ih
    by_cases d : p k0 = true
    ·rw [List.filter_cons_of_pos d, List.map_cons, List.sum_cons, ih]; simp [d]
    ·rw [List.filter_cons_of_neg d, ih]; simp [d]
   ·have : (k0 ∈ y :: ys) ↔ k0 ∈ ys := by rw [List.mem_cons]; exact ⟨fun h => h.resolve_left c, .inr⟩
    simp only [this]
    by_cases d : p y = true
    ·rw [List.filter_cons_of_pos d, List.map_cons, List.sum_cons, ih, if_neg c]; omega
    ·rw [List.filter_cons_of_neg d, ih]
 have add : ∀ (f g : S40 → Int) (ks : List S40), (ks.map (fun k => f k + g k)).sum = (ks.map f).sum + (ks.map g).sum := by
  intro f g ks
  induction ks with
  | nil => rfl
  | cons y ys ih => simp only [List.map_cons, List.sum_cons, ih]; omega
 induction l with
 | nil =>
  intro ks _ _
  have : ∀ ks : List S40, (ks.map (sm [])).sum = 0 := by
   intro ks
   induction ks with
   | nil => rfl
   | cons y ys ih => rw [List.map_cons, List.sum_cons, ih, sm_nil]; rfl
  rw [this]; rfl
 | cons x l ih =>
  intro ks h1 h2
  have ih := ih h1 (fun y hy => h2 y (List.mem_cons_of_mem _ hy))
  have e : sm (x :: l) = fun k => (if x.f0 = k then x.f1 else 0) + sm l k := funext (sm_cons x l)
  rw [e, add, ih, one _ _ h1]
  by_cases d : p x.f0 = true
  ·rw [if_pos ⟨h2 x List.mem_cons_self, d⟩, List.filter_cons_of_pos (p := fun x : S60 => p x.f0) (by exact d), List.map_cons, List.sum_cons]
  ·rw [if_neg (fun h => d h.2), List.filter_cons_of_neg (p := fun x : S60 => p x.f0) (by exact d)]; omega
theorem map_cubK (s : S40 → Int) (p : S40 → Bool) (ks : List S40) : (((cubK s ks).filter fun x => p x.f0).map (·.f1)).sum = ((ks.filter p).map s).sum := by
 induction ks with
 | nil => rfl
 | cons y ys ih =>
  have e : cubK s (y :: ys) = (if s y ≠ 0 then [⟨y, s y⟩] else []) ++ cubK s ys := by
   unfold cubK
   by_cases c : s y = 0 <;> simp [c]
  rw [e]
  by_cases c : s y = 0
  ·simp only [c, ne_eq, not_true_eq_false, if_false, List.nil_append, ih]
   by_cases d : p y = true
   ·rw [List.filter_cons_of_pos d, List.map_cons, List.sum_cons, c]; omega
   ·rw [List.filter_cons_of_neg d]
  ·simp only [ne_eq, c, not_false_eq_true, if_true, List.cons_append, List.nil_append]
   by_cases d : p y = true
   ·rw [List.filter_cons_of_pos d, List.filter_cons_of_pos (by exact d), List.map_cons, List.map_cons, List.sum_cons, List.sum_cons, ih]
   ·rw [List.filter_cons_of_neg d, List.filter_cons_of_neg (by exact d), ih]
theorem sum_cubL (p : S40 → Bool) (l : List S60) : (((cubL l).filter fun x => p x.f0).map (·.f1)).sum = ((l.filter fun x => p x.f0).map (·.f1)).sum := by
 unfold cubL
 rw [map_cubK, sum_keys p l (sk_keysS l).nodup (fun x hx => mem_keysS.2 ⟨x, hx, rfl⟩)]
theorem szs_keys (l : List S60) : ∀ {ks : List S40}, ks.Nodup → szs (ks.map (sm l)) ≤ szs (l.map (·.f1)) := by
 have one : ∀ (k0 : S40) (v : Int) {ks : List S40}, ks.Nodup → szs (ks.map (fun k => if k0 = k then v else 0)) ≤ ab v := by
  intro k0 v ks
  induction ks with
  | nil => intro _; have := ab_nonneg v; simp [szs]; exact this
  | cons y ys ih =>
   intro h
   obtain ⟨h1, h2⟩ := List.nodup_cons.1 h
   rw [List.map_cons, szs_cons]
   by_cases c : k0 = y
   ·subst c
    have : szs (ys.map (fun k => if k0 = k then v else 0)) = 0 := by
     clear ih h h2
     induction ys with
     | nil => rfl
     | cons z zs ih =>
      rw [List.map_cons, szs_cons, ih (fun h => h1 (List.mem_cons_of_mem _ h)), if_neg (fun e => h1 (by rw [e]; exact List.mem_cons_self))]; rfl
    rw [this, if_pos rfl]; omega
   ·have := ih h2
    rw [if_neg c]
    have : ab 0 = 0 := rfl
    omega
 have add : ∀ (f g : S40 → Int) (ks : List S40), szs (ks.map (fun k => f k + g k)) ≤ szs (ks.map f) + szs (ks.map g) := by
  intro f g ks
  induction ks with
  | nil => simp [szs]
  | cons y ys ih =>
   simp only [List.map_cons, szs_cons]
   have : ab (f y + g y) ≤ ab (f y) + ab (g y) := by unfold ab; split <;> split <;> split <;> omega
   omega
 induction l with
 | nil =>
  intro ks _
  have : szs (ks.map (sm [])) = 0 := by
   induction ks with
   | nil => rfl
   | cons y ys ih => rw [List.map_cons, szs_cons, ih (by simp_all), sm_nil]; rfl
  rw [this]; simp [szs]
 | cons x l ih =>
  intro ks h1
  have ih := ih h1
  have e : sm (x :: l) = fun k => (if x.f0 = k then x.f1 else 0) + sm l k := funext (sm_cons x l)
  have h2 := add (fun k => if x.f0 = k then x.f1 else 0) (sm l) ks
  have h3 := one x.f0 x.f1 h1
  rw [e, List.map_cons, szs_cons]
  omega
theorem szs_cubL (l : List S60) : szs ((cubL l).map (·.f1)) ≤ szs (l.map (·.f1)) := by
 have h := szs_keys l ((sk_keysS l).filter (fun k => decide (sm l k ≠ 0))).nodup
 unfold cubL cubK
 rw [List.map_map]
 exact h
open Go Go.RowKit Go.Proofs.YtgheapbhakamaaaW.PrintWords Go.Proofs.YtgheapbhakamaaaW.PrintLast Go.Proofs.YtgheapbhakamaaaW.PrintMore Go.Proofs.Ytgheapbhakamaaa.Q
def first : List Int → Int
 | [] => 0
 | x :: xs => if x = 0 then first xs else x
theorem or_l (L : List Int) (hL : L.length < 9223372036854775807) : ∀ (d : Nat) (P R : List Int) (k : Nat), L = P ++ R → R.length = d → d + 1 ≤ k → cmp_Or_int.l0 k 0 L (L.length : Int) (P.length : Int) = some (first R) := by
 intro d
 induction d with
 | zero =>
  intro P R k hLR hR hk
  obtain rfl := List.eq_nil_of_length_eq_zero hR
  obtain ⟨k, rfl⟩ : ∃ j, k = j + 1 := ⟨k - 1, by omega⟩
  rw [cmp_Or_int.l0.eq_2, if_neg (by rw [hLR]; simp)]; rfl
 | succ d ih =>
  intro P R k hLR hR hk
  obtain ⟨k, rfl⟩ : ∃ j, k = j + 1 := ⟨k - 1, by omega⟩
  cases R with
  | nil => simp at hR
  | cons x R =>
   have hl : L.length = P.length + 1 + R.length := by rw [hLR]; simp; omega
   have hx : rd L (P.length : Int) = x := by unfold rd; rw [hLR]; simp
   rw [cmp_Or_int.l0.eq_2, if_pos (by omega), if_pos (by omega), if_pos (by omega), hx]
   simp only [first]
   by_cases c : x = 0
   ·rw [if_pos c, if_pos c, w64_in (by unfold I64; omega)]
    have := ih (P ++ [x]) R k (by rw [hLR]; simp) (by simpa using hR) (by omega)
    rw [List.length_append, List.length_singleton] at this
    exact this
   ·rw [if_neg c, if_neg c]
theorem or_f (L : List Int) (hL : L.length < 9223372036854775807) (k : Nat) (hk : L.length + 1 ≤ k) : cmp_Or_int.f k L = some (first L) := or_l L hL L.length [] L k rfl rfl hk
theorem compare_f (a b : Int) : cmp_Compare_int.f a b = some (cmpN a b) := by
 unfold cmp_Compare_int.f cmp_isNaN_int.f cmpN
 simp only [bne_self_eq_false, Option.bind_some, Bool.false_eq_true, if_false]
 split
 ·rfl
 ·split <;> rfl
theorem first_lex (x y : S40) : first [cmpB x.f0 y.f0, cmpB x.f1 y.f1, cmpB x.f2 y.f2, cmpB x.f3 y.f3, cmpN x.f4 y.f4] = cmpK x y := by
 simp only [first, cmpK, lexC, tup]
 repeat' split
 all_goals first | rfl | omega | skip
theorem cmp_f (x y : S40) (k : Nat) (hk : 6 ≤ k) : fact_Cmp.f k x.f0 x.f1 x.f2 x.f3 x.f4 y.f0 y.f1 y.f2 y.f3 y.f4 = some (cmpK x y) := by
 unfold fact_Cmp.f strings_Compare.f
 simp only [Option.bind_some, compare_f]
 rw [or_f _ (by simp) k (by simpa using hk)]
 simp only [Option.bind_some]
 rw [← first_lex]; rfl
theorem less_cb : ∀ x y : List UInt8, Op.bytesLess x y = decide (Lib.compareBytes x y < 0)
 | [], [] => by simp [Op.bytesLess, Lib.compareBytes]
 | [], b :: ys => by simp [Op.bytesLess, Lib.compareBytes]
 | a :: xs, [] => by simp [Op.bytesLess, Lib.compareBytes]
 | a :: xs, b :: ys => by
  have ih := less_cb xs ys
  simp only [Op.bytesLess, Lib.compareBytes]
  by_cases h1 : a < b
  ·simp [h1]
  ·by_cases h2 : b < a
   ·have : a ≠ b := by rintro rfl; exact h1 h2
    simp [h1, h2, this]
   ·have : a = b := by apply UInt8.toNat.inj; simp only [UInt8.lt_iff_toNat_lt] at *; omega
    subst this
    simp [ih]
theorem cmpB_val (a b : ByteArray) : cmpB a b = if Op.bytesLess a.toList b.toList = true then -1 else if Op.bytesLess b.toList a.toList = true then 1 else 0 := by
 rw [less_cb, less_cb, Lib.toList_data, Lib.toList_data]
 have hs := cb_swap a.data.toList b.data.toList
 have hv : ∀ x y : List UInt8, Lib.compareBytes x y = -1 ∨ Lib.compareBytes x y = 0 ∨ Lib.compareBytes x y = 1 := by
  intro x
  induction x with
  | nil => intro y; cases y <;> simp [Lib.compareBytes]
  | cons a xs ih =>
   intro y
   cases y with
   | nil => simp [Lib.compareBytes]
   | cons b ys =>
    simp only [Lib.compareBytes]
    split
    ·simp
    ·split
     ·simp
     ·exact ih ys
 have := hv a.data.toList b.data.toList
 unfold cmpB
 simp only [decide_eq_true_eq]
 split
 ·omega
 ·split <;> omega
theorem text_f (a b : ByteArray) : ref09_text.f a b = some (cmpB a b) := by
 unfold ref09_text.f
 rw [cmpB_val]
 split
 ·rfl
 ·split <;> rfl
theorem rcmp_l (L : List Int) (hL : L.length = 4) (x y : S40) : ∀ (d : Nat) (P R : List Int) (k : Nat), L = P ++ R → R.length = d → d + 1 ≤ k →
  ref09_Cmp.l0 k L (P.length : Int) x.f0 x.f1 x.f2 x.f3 x.f4 y.f0 y.f1 y.f2 y.f3 y.f4 = some (first (R ++ [cmpN x.f4 y.f4])) := by
 intro d
 induction d with
 | zero =>
  intro P R k hLR hR hk
  obtain rfl := List.eq_nil_of_length_eq_zero hR
  obtain ⟨k, rfl⟩ : ∃ j, k = j + 1 := ⟨k - 1, by omega⟩
  have hP : P.length = 4 := by rw [hLR] at hL; simpa using hL
  rw [ref09_Cmp.l0.eq_2, if_neg (by rw [hP]; decide)]
  simp only [first, List.nil_append, cmpN]
  by_cases h1 : x.f4 < y.f4
  ·simp [h1]
  ·by_cases h2 : y.f4 < x.f4
   ·simp [h1, h2]
   ·simp [h1, h2]
 | succ d ih =>
  intro P R k hLR hR hk
  obtain ⟨k, rfl⟩ : ∃ j, k = j + 1 := ⟨k - 1, by omega⟩
  cases R with
  | nil => simp at hR
  | cons z R =>
   have hl : L.length = P.length + 1 + R.length := by rw [hLR]; simp; omega
   have hx : rd L (P.length : Int) = z := by unfold rd; rw [hLR]; simp
   rw [ref09_Cmp.l0.eq_2, if_pos (by omega), if_pos (by omega), if_pos (by omega), hx]
   simp only [first, List.cons_append]
   by_cases c : z = 0
   ·rw [if_pos c, if_pos c, w64_in (by unfold I64; omega)]
    have := ih (P ++ [z]) R k (by rw [hLR]; simp) (by simpa using hR) (by omega)
    rw [List.length_append, List.length_singleton] at this
    exact this
   ·rw [if_neg c, if_neg c]
theorem rcmp_f (x y : S40) (k : Nat) (hk : 6 ≤ k) : ref09_Cmp.f k x.f0 x.f1 x.f2 x.f3 x.f4 y.f0 y.f1 y.f2 y.f3 y.f4 = some (cmpK x y) := by
 unfold ref09_Cmp.f
 simp only [Option.bind_some, text_f]
 rw [← first_lex]
 exact rcmp_l _ rfl x y 4 [] _ k rfl rfl (by omega)
open Go.RowKit Go.Proofs.YtgheapbhakamaaaW.PrintWords Go.Proofs.YtgheapbhakamaaaW.PrintLast Go.Proofs.YtgheapbhakamaaaW.PrintMore Go.Proofs.Ytgheapbhakamaaa.Q

theorem cmp_lt (x y : S60) : ∃ t, (∀ k, 12 ≤ k → fact_Of_1.f k x.f0.f0 x.f0.f1 x.f0.f2 x.f0.f3 x.f0.f4 x.f1 y.f0.f0 y.f0.f1 y.f0.f2 y.f0.f3 y.f0.f4 y.f1 = some t) ∧ decide (t < 0) = lt x y :=
 ⟨cmpK x.f0 y.f0, fun k hk => by unfold fact_Of_1.f; rw [cmp_f x.f0 y.f0 k (by omega)]; rfl, rfl⟩
theorem stepK {α : Type} {g f : Nat → Option α} {r : α} (N : Nat) (h : ∀ k, N ≤ k → g (k + 1) = f k) (hf : Ev f r) : Ev g r := by
 obtain ⟨K, hK⟩ := hf
 exact ⟨K + N + 1, fun k hk => by
  obtain ⟨j, rfl⟩ : ∃ j, k = j + 1 := ⟨k - 1, by omega⟩
  rw [h j (by omega)]; exact hK j (by omega)⟩
theorem rd_at {L P R : List S60} {x : S60} {i : Nat} (h : L = P ++ x :: R) (hi : P.length = i) : rd_T60 L (i : Int) = x := by
 unfold rd_T60
 rw [Int.toNat_natCast, h, getD_mid hi]
theorem w_add (a b : Nat) (h : a + b ≤ 9223372036854775807) : wrap64 ((a : Int) + (b : Int)) = ((a + b : Nat) : Int) := by
 rw [w64_in (by unfold I64; omega)]; rfl
theorem w_one (a : Nat) (h : a + 1 ≤ 9223372036854775807) : wrap64 ((a : Int) + 1) = ((a + 1 : Nat) : Int) := by
 rw [w64_in (by unfold I64; omega)]; rfl
theorem w_sub (a b : Nat) (h : b ≤ a) (h2 : a ≤ 9223372036854775807) : wrap64 ((a : Int) - (b : Int)) = ((a - b : Nat) : Int) := by
 rw [w64_in (by unfold I64; omega)]; omega
theorem w_pred (a : Nat) (h : 1 ≤ a) (h2 : a ≤ 9223372036854775807) : wrap64 ((a : Int) - 1) = ((a - 1 : Nat) : Int) := by
 rw [w64_in (by unfold I64; omega)]; omega
theorem w_half (a b : Nat) (h : a + b ≤ 9223372036854775807) : wrap64 (IntKind.u64.wrap (wrap64 ((a : Int) + (b : Int))) / 2) = (((a + b) / 2 : Nat) : Int) := by
 rw [w_add a b h, IntWalk.u64_in _ ⟨by omega, by omega⟩, w64_in (by unfold I64; omega)]; rfl

theorem swp_l {S : List S60} (d : Nat) : ∀ (P A M B : List S60) (a b n i : Nat), A.length = d → B.length = d → i + d = n → P.length = a + i → P.length + d + M.length = b + i → P.length + d + M.length + d + S.length ≤ 1099511627776 →
  Ev (fun k => fact_Fact_55.l0 k (P ++ A ++ M ++ B ++ S) (a : Int) (b : Int) (n : Int) (i : Int)) (P ++ B ++ M ++ A ++ S) := by
 induction d with
 | zero =>
  intro P A M B a b n i hA hB hn hP hM hL
  obtain rfl := List.eq_nil_of_length_eq_zero hA
  obtain rfl := List.eq_nil_of_length_eq_zero hB
  refine Ev.step (f := fun _ => some _) (fun k => ?_) (Ev.now _)
  rw [fact_Fact_55.l0.eq_2, if_neg (by omega)]
 | succ d ih =>
  intro P A M B a b n i hA hB hn hP hM hL
  cases A with
  | nil => simp at hA
  | cons x A =>
   cases B with
   | nil => simp at hB
   | cons y B =>
    simp only [List.length_cons, Nat.add_right_cancel_iff] at hA hB
    generalize hLL : P ++ x :: A ++ M ++ y :: B ++ S = L
    have e1 : L = P ++ x :: (A ++ (M ++ y :: (B ++ S))) := by rw [← hLL]; simp
    have e2 : L = (P ++ x :: (A ++ M)) ++ y :: (B ++ S) := by rw [← hLL]; simp
    have hlen : L.length = P.length + (d + 1) + M.length + (d + 1) + S.length := by rw [← hLL]; simp; omega
    have r1 : rd_T60 L ((a + i : Nat) : Int) = x := rd_at e1 hP
    have r2 : rd_T60 L ((b + i : Nat) : Int) = y := rd_at e2 (by simp; omega)
    have e3 : (L.set (a + i) y).set (b + i) x = (P ++ [y]) ++ A ++ (M ++ [x]) ++ B ++ S := by
     rw [e1, set_mid hP, show P ++ y :: (A ++ (M ++ y :: (B ++ S))) = (P ++ y :: (A ++ M)) ++ y :: (B ++ S) by simp, set_mid (by simp; omega)]; simp
    have := ih (P ++ [y]) A (M ++ [x]) B a b n (i + 1) hA hB (by omega) (by simp; omega) (by simp; omega) (by simp; omega)
    have e4 : P ++ [y] ++ B ++ (M ++ [x]) ++ A ++ S = P ++ y :: B ++ M ++ x :: A ++ S := by simp
    rw [← e4]
    refine Ev.step (fun k => ?_) this
    rw [fact_Fact_55.l0.eq_2, if_pos (by omega), w_add b i (by omega), w_add a i (by omega), w_one i (by omega), if_pos (by omega), if_pos (by omega), if_pos (by omega), if_pos (by omega), r1, r2, Int.toNat_natCast, Int.toNat_natCast, ← e3]
theorem swp_f {P A M B S : List S60} {a b n : Nat} (hP : P.length = a) (hA : A.length = n) (hB : B.length = n) (hb : b = a + n + M.length) (hL : a + n + M.length + n + S.length ≤ 1099511627776) :
  Ev (fun k => fact_Fact_55.f k (P ++ A ++ M ++ B ++ S) (a : Int) (b : Int) (n : Int)) (P ++ B ++ M ++ A ++ S) := by
 unfold fact_Fact_55.f
 exact swp_l n P A M B a b n 0 hA hB (by omega) (by omega) (by omega) (by omega)

theorem rot_l (s : Nat) : ∀ (P A B S : List S60) (m i j : Nat), i + j ≤ s → 1 ≤ i → 1 ≤ j → A.length = i → B.length = j → P.length + i = m → P.length + i + j + S.length ≤ 1099511627776 →
  Ev (fun k => fact_Fact_54.l0 k (P ++ A ++ B ++ S) (m : Int) (i : Int) (j : Int)) (P ++ B ++ A ++ S) := by
 induction s with
 | zero => intro P A B S m i j h h1 h2; omega
 | succ s ih =>
  intro P A B S m i j h h1 h2 hA hB hP hL
  by_cases c1 : i = j
  ·subst c1
   have := swp_f (P := P) (A := A) (M := []) (B := B) (S := S) (a := m - i) (b := m) (n := i) (by omega) hA hB (by simp; omega) (by simp; omega)
   simp only [List.append_nil] at this
   refine Ev.step (f := fun k => (fact_Fact_55.f k (P ++ A ++ B ++ S) ((m - i : Nat) : Int) (m : Int) (i : Int)).bind fun t => some t) (fun k => ?_) (Ev.bind this (Ev.now _))
   rw [fact_Fact_54.l0.eq_2, if_pos rfl, w_sub m i (by omega) (by omega)]
  ·by_cases c2 : j < i
   ·obtain ⟨A1, A2, rfl, hA1⟩ : ∃ A1 A2, A = A1 ++ A2 ∧ A1.length = j := ⟨A.take j, A.drop j, (List.take_append_drop ..).symm, by simp; omega⟩
    have hA2 : A2.length = i - j := by simp at hA; omega
    have s1 := swp_f (P := P) (A := A1) (M := A2) (B := B) (S := S) (a := m - i) (b := m) (n := j) (by omega) hA1 hB (by omega) (by omega)
    have s2 := ih (P ++ B) A2 A1 S m (i - j) j (by omega) (by omega) h2 hA2 hA1 (by simp; omega) (by simp; omega)
    have e : P ++ (A1 ++ A2) ++ B ++ S = P ++ A1 ++ A2 ++ B ++ S := by simp
    have e' : P ++ B ++ (A1 ++ A2) ++ S = P ++ B ++ A1 ++ A2 ++ S := by simp
    rw [e, e']
    refine Ev.step (f := fun k => (fact_Fact_55.f k (P ++ A1 ++ A2 ++ B ++ S) ((m - i : Nat) : Int) (m : Int) (j : Int)).bind fun t => fact_Fact_54.l0 k t (m : Int) ((i - j : Nat) : Int) (j : Int)) (fun k => ?_) (Ev.bind s1 s2)
    rw [fact_Fact_54.l0.eq_2, if_neg (by omega), if_pos (show (i : Int) > (j : Int) by omega), w_sub m i (by omega) (by omega), w_sub i j (by omega) (by omega)]
   ·obtain ⟨B1, B2, rfl, hB1⟩ : ∃ B1 B2, B = B1 ++ B2 ∧ B1.length = j - i := ⟨B.take (j - i), B.drop (j - i), (List.take_append_drop ..).symm, by simp; omega⟩
    have hB2 : B2.length = i := by simp at hB; omega
    have s1 := swp_f (P := P) (A := A) (M := B1) (B := B2) (S := S) (a := m - i) (b := m + j - i) (n := i) (by omega) hA hB2 (by omega) (by omega)
    have s2 := ih P B2 B1 (A ++ S) m i (j - i) (by omega) h1 (by omega) hB2 hB1 hP (by simp; omega)
    have e : P ++ A ++ (B1 ++ B2) ++ S = P ++ A ++ B1 ++ B2 ++ S := by simp
    have e' : P ++ (B1 ++ B2) ++ A ++ S = P ++ B1 ++ B2 ++ (A ++ S) := by simp
    have e2 : P ++ B2 ++ B1 ++ A ++ S = P ++ B2 ++ B1 ++ (A ++ S) := by simp
    rw [e, e']
    rw [e2] at s1
    refine Ev.step (f := fun k => (fact_Fact_55.f k (P ++ A ++ B1 ++ B2 ++ S) ((m - i : Nat) : Int) ((m + j - i : Nat) : Int) (i : Int)).bind fun t => fact_Fact_54.l0 k t (m : Int) (i : Int) ((j - i : Nat) : Int)) (fun k => ?_) (Ev.bind s1 s2)
    rw [fact_Fact_54.l0.eq_2, if_neg (by omega), if_neg (show ¬ (i : Int) > (j : Int) by omega), w_sub m i (by omega) (by omega), w_add m j (by omega), w_sub (m + j) i (by omega) (by omega), w_sub j i (by omega) (by omega)]
theorem rot_f {P A B S : List S60} {a m b : Nat} (hP : P.length = a) (hA : a + A.length = m) (hB : m + B.length = b) (h1 : a < m) (h2 : m < b) (hL : b + S.length ≤ 1099511627776) :
  Ev (fun k => fact_Fact_54.f k (P ++ A ++ B ++ S) (a : Int) (m : Int) (b : Int)) (P ++ B ++ A ++ S) := by
 unfold fact_Fact_54.f
 rw [w_sub m a (by omega) (by omega), w_sub b m (by omega) (by omega)]
 exact rot_l _ P A B S m (m - a) (b - m) (Nat.le_refl _) (by omega) (by omega) (by omega) (by omega) (by omega) (by omega)

theorem ins_l1 {P S : List S60} {x : S60} {a b i : Nat} (hP : P.length = a) (n : Nat) : ∀ (A1 A2 : List S60), A1.length = n → (∀ y ∈ A2, lt x y = true) → a + A1.length + A2.length + 1 + S.length ≤ 1099511627776 →
  ∃ B1 B2, B1 ++ B2 = A1 ++ A2 ∧ (∀ y ∈ B2, lt x y = true) ∧ (∀ B y, B1 = B ++ [y] → lt x y = false) ∧
   ∀ r, Ev (fun k => fact_Fact_51.l0 k (P ++ B1 ++ x :: B2 ++ S) (a : Int) (b : Int) (wrap64 ((i : Int) + 1))) r → Ev (fun k => fact_Fact_51.l1 k (P ++ A1 ++ x :: A2 ++ S) (a : Int) (b : Int) (i : Int) ((a + A1.length : Nat) : Int)) r := by
 induction n with
 | zero =>
  intro A1 A2 h1 h2 hL
  obtain rfl := List.eq_nil_of_length_eq_zero h1
  refine ⟨[], A2, rfl, h2, fun B y e => by simp at e, fun r hr => ?_⟩
  refine Ev.step (fun k => ?_) hr
  rw [fact_Fact_51.l1.eq_2, if_neg (by simp)]
 | succ n ih =>
  intro A1 A2 h1 h2 hL
  obtain ⟨A, y, rfl⟩ : ∃ A y, A1 = A ++ [y] := by
   rcases List.eq_nil_or_concat A1 with h | ⟨A, y, h⟩
   ·subst h; simp at h1
   ·exact ⟨A, y, by simpa using h⟩
  have hA : A.length = n := by simpa using h1
  generalize hLL : P ++ (A ++ [y]) ++ x :: A2 ++ S = L
  have e1 : L = (P ++ A ++ [y]) ++ x :: (A2 ++ S) := by rw [← hLL]; simp
  have e2 : L = (P ++ A) ++ y :: (x :: (A2 ++ S)) := by rw [← hLL]; simp
  have hlen : L.length = P.length + A.length + 1 + 1 + A2.length + S.length := by rw [← hLL]; simp; omega
  have r1 : rd_T60 L ((a + (A ++ [y]).length : Nat) : Int) = x := rd_at e1 (by simp; omega)
  have r2 : rd_T60 L ((a + (A ++ [y]).length - 1 : Nat) : Int) = y := rd_at e2 (by simp; omega)
  have hj : (a + (A ++ [y]).length : Nat) = a + A.length + 1 := by simp; omega
  obtain ⟨t, ht, hlt⟩ := cmp_lt x y
  by_cases c : lt x y = true
  ·obtain ⟨B1, B2, hB, hB2, hB1, hr0⟩ := ih A (y :: A2) hA (fun z hz => by rcases List.mem_cons.1 hz with rfl | hz; exact c; exact h2 z hz) (by simp at hL ⊢; omega)
   refine ⟨B1, B2, by rw [hB]; simp, hB2, hB1, fun r hr => ?_⟩
   have := hr0 r hr
   have e3 : (L.set (a + A.length + 1) y).set (a + A.length) x = P ++ A ++ x :: (y :: A2) ++ S := by
    rw [e1, set_mid (by simp; omega), show P ++ A ++ [y] ++ y :: (A2 ++ S) = (P ++ A) ++ y :: (y :: (A2 ++ S)) by simp, set_mid (by simp; omega)]; simp
   refine stepK 12 (fun k hk => ?_) this
   rw [fact_Fact_51.l1.eq_2, hj, if_pos (by omega), w_pred (a + A.length + 1) (by omega) (by omega), if_pos (by omega), if_pos (by omega), if_pos (by omega), if_pos (by omega)]
   rw [hj] at r1
   rw [show a + (A ++ [y]).length - 1 = a + A.length by omega] at r2
   rw [show a + A.length + 1 - 1 = a + A.length by omega, r1, r2, ht k hk]
   simp only [Option.bind_some]
   rw [if_pos (by rw [c] at hlt; simpa using hlt), Int.toNat_natCast, Int.toNat_natCast, ← e3]
  ·have c' : lt x y = false := by simpa using c
   refine ⟨A ++ [y], A2, rfl, h2, fun B z e => ?_, fun r hr => ?_⟩
   ·have := List.append_inj_right' e rfl
    simp at this; rw [← this]; exact c'
   ·rw [hLL] at hr
    refine stepK 12 (fun k hk => ?_) hr
    rw [fact_Fact_51.l1.eq_2, hj, if_pos (by omega), w_pred (a + A.length + 1) (by omega) (by omega), if_pos (by omega), if_pos (by omega), if_pos (by omega), if_pos (by omega)]
    rw [hj] at r1
    rw [show a + (A ++ [y]).length - 1 = a + A.length by omega] at r2
    rw [show a + A.length + 1 - 1 = a + A.length by omega, r1, r2, ht k hk]
    simp only [Option.bind_some]
    rw [if_neg (by rw [c'] at hlt; simpa using hlt)]
theorem last_le {A : List S60} {x : S60} (hs : Srt lt A) (h : ∀ B y, A = B ++ [y] → lt x y = false) : ∀ y ∈ A, le lt y x := by
 intro y hy
 rcases List.eq_nil_or_concat A with e | ⟨B, z, e⟩
 ·subst e; cases hy
 ·have e : A = B ++ [z] := by simpa using e
  subst e
  exact swo.trans (Srt.head swo hs hy) (h B z rfl)
theorem ins_l0 {P S A0 : List S60} {a b : Nat} (hP : P.length = a) (T : List S60) : ∀ (A : List S60) (i : Nat), St lt A0 A → a + A.length = i → i + T.length = b → b + S.length ≤ 1099511627776 →
  ∃ R, St lt (A0 ++ T) R ∧ R.length = A.length + T.length ∧ Ev (fun k => fact_Fact_51.l0 k (P ++ A ++ T ++ S) (a : Int) (b : Int) (i : Int)) (P ++ R ++ S) := by
 induction T generalizing A0 with
 | nil =>
  intro A i hA hi hb hL
  refine ⟨A, by simpa using hA, by simp, ?_⟩
  simp only [List.append_nil]
  refine Ev.step (f := fun _ => some _) (fun k => ?_) (Ev.now _)
  rw [fact_Fact_51.l0.eq_2, if_neg (by simp at hb; omega)]
 | cons x T ih =>
  intro A i hA hi hb hL
  simp only [List.length_cons] at hb
  obtain ⟨B1, B2, hB, hB2, hB1, hr⟩ := ins_l1 (S := T ++ S) (x := x) (a := a) (b := b) (i := i) hP A.length A [] rfl (by simp) (by simp; omega)
  rw [List.append_nil] at hB
  have hs := hA.1
  rw [← hB] at hs
  have s1 := last_le (List.pairwise_append.1 hs).1 hB1
  have hst : St lt (A0 ++ [x]) (B1 ++ x :: B2) := St.comp hA (St.one x) (by rw [← hB]; exact St.insert swo hs s1 hB2)
  have hBl : (B1 ++ x :: B2).length = A.length + 1 := by rw [← hB]; simp; omega
  obtain ⟨R, hR1, hR2, hR3⟩ := ih (A0 := A0 ++ [x]) (B1 ++ x :: B2) (i + 1) hst (by omega) (by omega) hL
  refine ⟨R, by simpa using hR1, by simp at hR2 hBl ⊢; omega, ?_⟩
  have e1 : P ++ A ++ x :: T ++ S = P ++ A ++ x :: [] ++ (T ++ S) := by simp
  have e2 : P ++ B1 ++ x :: B2 ++ (T ++ S) = P ++ (B1 ++ x :: B2) ++ T ++ S := by simp
  have := hr (P ++ R ++ S) (by rw [e2, w_one i (by omega)]; exact hR3)
  rw [e1]
  refine Ev.step (fun k => ?_) this
  rw [fact_Fact_51.l0.eq_2, if_pos (by omega), hi]
theorem ins_f {P A S : List S60} {a b : Nat} (hP : P.length = a) (hb : a + A.length = b) (hL : b + S.length ≤ 1099511627776) :
  ∃ R, St lt A R ∧ R.length = A.length ∧ Ev (fun k => fact_Fact_51.f k (P ++ A ++ S) (a : Int) (b : Int)) (P ++ R ++ S) := by
 unfold fact_Fact_51.f
 rw [w_one a (by omega)]
 cases A with
 | nil =>
  refine ⟨[], St.nil, rfl, ?_⟩
  refine Ev.step (f := fun _ => some _) (fun k => ?_) (Ev.now _)
  rw [fact_Fact_51.l0.eq_2, if_neg (by simp at hb; omega)]
 | cons x T =>
  obtain ⟨R, h1, h2, h3⟩ := ins_l0 (A0 := [x]) (S := S) (b := b) hP T [x] (a + 1) (St.one x) (by simp) (by simp at hb; omega) hL
  refine ⟨R, by simpa using h1, by simp at h2 ⊢; omega, ?_⟩
  have e : P ++ x :: T ++ S = P ++ [x] ++ T ++ S := by simp
  rw [e]; exact h3

theorem sym_l1 {T : List S60} {x : S60} (D : List S60) : ∀ (Q : List S60) (i j : Nat), Q.length = j → i = j + 1 + D.length → i + T.length ≤ 1099511627776 →
  Ev (fun k => fact_Fact_52.l1 k (Q ++ x :: (D ++ T)) (i : Int) (j : Int)) (Q ++ D ++ x :: T) := by
 induction D with
 | nil =>
  intro Q i j hQ hi hL
  have e : Q ++ [] ++ x :: T = Q ++ x :: ([] ++ T) := by simp
  rw [e]
  refine Ev.step (f := fun _ => some _) (fun k => ?_) (Ev.now _)
  rw [fact_Fact_52.l1.eq_2, w_pred i (by omega) (by omega), if_neg (by simp at hi; omega)]
 | cons y D ih =>
  intro Q i j hQ hi hL
  simp only [List.length_cons] at hi
  generalize hLL : Q ++ x :: (y :: D ++ T) = L
  have e1 : L = Q ++ x :: (y :: (D ++ T)) := by rw [← hLL]; simp
  have e2 : L = (Q ++ [x]) ++ y :: (D ++ T) := by rw [← hLL]; simp
  have hlen : L.length = Q.length + 2 + D.length + T.length := by rw [← hLL]; simp; omega
  have r1 : rd_T60 L (j : Int) = x := rd_at e1 hQ
  have r2 : rd_T60 L ((j + 1 : Nat) : Int) = y := rd_at e2 (by simp; omega)
  have e3 : (L.set j y).set (j + 1) x = (Q ++ [y]) ++ x :: (D ++ T) := by
   rw [e1, set_mid hQ, show Q ++ y :: y :: (D ++ T) = (Q ++ [y]) ++ y :: (D ++ T) by simp, set_mid (by simp; omega)]
  have := ih (Q ++ [y]) i (j + 1) (by simp; omega) (by omega) hL
  have e4 : Q ++ y :: D ++ x :: T = Q ++ [y] ++ D ++ x :: T := by simp
  rw [e4]
  refine Ev.step (fun k => ?_) this
  rw [fact_Fact_52.l1.eq_2, w_pred i (by omega) (by omega), if_pos (by omega), w_one j (by omega), if_pos (by omega), if_pos (by omega), if_pos (by omega), if_pos (by omega), r1, r2, Int.toNat_natCast, Int.toNat_natCast, ← e3]
theorem sym_l0 {P S : List S60} {x : S60} {a : Nat} (hP : P.length = a) (d : Nat) : ∀ (B1 Bm B2 : List S60) (i j : Nat), Bm.length ≤ d → Srt lt Bm → a + 1 + B1.length = i → i + Bm.length = j → j + B2.length + S.length ≤ 1099511627776 →
  (∀ y ∈ B1, lt y x = true) → (∀ y ∈ B2, le lt x y) →
  ∃ C1 C2, C1 ++ C2 = B1 ++ Bm ++ B2 ∧ (∀ y ∈ C1, lt y x = true) ∧ (∀ y ∈ C2, le lt x y) ∧
   Ev (fun k => fact_Fact_52.l0 k (P ++ x :: (B1 ++ Bm ++ B2 ++ S)) (a : Int) (i : Int) (j : Int)) (P ++ C1 ++ x :: (C2 ++ S)) := by
 induction d with
 | zero =>
  intro B1 Bm B2 i j hd hs hi hj hL h1 h2
  obtain rfl := List.eq_nil_of_length_eq_zero (Nat.le_zero.1 hd)
  refine ⟨B1, B2, by simp, h1, h2, ?_⟩
  have := sym_l1 (T := B2 ++ S) (x := x) B1 P i a hP (by omega) (by simp at hj ⊢; omega)
  have e : P ++ x :: (B1 ++ [] ++ B2 ++ S) = P ++ x :: (B1 ++ (B2 ++ S)) := by simp
  rw [e]
  refine Ev.step (fun k => ?_) this
  rw [fact_Fact_52.l0.eq_2, if_neg (by simp at hj; omega)]
 | succ d ih =>
  intro B1 Bm B2 i j hd hs hi hj hL h1 h2
  by_cases c0 : i < j
  ·obtain ⟨U, y, V, hUV, hU⟩ : ∃ U y V, Bm = U ++ y :: V ∧ U.length = (i + j) / 2 - i := by
    refine ⟨Bm.take ((i + j) / 2 - i), Bm[(i + j) / 2 - i]'(by omega), Bm.drop ((i + j) / 2 - i + 1), ?_, by simp; omega⟩
    rw [List.getElem_cons_drop, List.take_append_drop]
   subst hUV
   simp only [List.length_append, List.length_cons] at hj hd
   obtain ⟨s1, s2, s3⟩ := List.pairwise_append.1 hs
   obtain ⟨s4, s5⟩ := List.pairwise_cons.1 s2
   generalize hLL : P ++ x :: (B1 ++ (U ++ y :: V) ++ B2 ++ S) = L
   have e1 : L = P ++ x :: (B1 ++ (U ++ y :: V) ++ B2 ++ S) := hLL.symm
   have e2 : L = (P ++ x :: (B1 ++ U)) ++ y :: (V ++ B2 ++ S) := by rw [← hLL]; simp
   have hlen : L.length = a + 1 + B1.length + U.length + 1 + V.length + B2.length + S.length := by rw [← hLL]; simp; omega
   have r1 : rd_T60 L (a : Int) = x := rd_at e1 hP
   have r2 : rd_T60 L (((i + j) / 2 : Nat) : Int) = y := rd_at e2 (by simp; omega)
   obtain ⟨t, ht, hlt⟩ := cmp_lt y x
   by_cases c : lt y x = true
   ·obtain ⟨C1, C2, hC, hC1, hC2, hr⟩ := ih (B1 ++ U ++ [y]) V B2 ((i + j) / 2 + 1) j (by omega) s5 (by simp; omega) (by omega) hL (by
     intro z hz
     simp only [List.mem_append, List.mem_singleton] at hz
     rcases hz with (hz | hz) | hz
     ·exact h1 z hz
     ·exact swo.le_lt (s3 z hz y List.mem_cons_self) c
     ·rw [hz]; exact c) h2
    refine ⟨C1, C2, by rw [hC]; simp, hC1, hC2, ?_⟩
    have e4 : P ++ x :: (B1 ++ U ++ [y] ++ V ++ B2 ++ S) = L := by rw [← hLL]; simp
    rw [e4] at hr
    refine stepK 12 (fun k hk => ?_) hr
    rw [fact_Fact_52.l0.eq_2, if_pos (by omega), w_half i j (by omega), if_pos (by omega), if_pos (by omega), if_pos (by omega), if_pos (by omega), r1, r2, ht k hk]
    simp only [Option.bind_some]
    rw [if_pos (by rw [c] at hlt; simpa using hlt), w_one _ (by omega)]
   ·have c' : lt y x = false := by simpa using c
    obtain ⟨C1, C2, hC, hC1, hC2, hr⟩ := ih B1 U (y :: V ++ B2) i ((i + j) / 2) (by omega) s1 hi (by omega) (by simp; omega) h1 (by
     intro z hz
     simp only [List.cons_append, List.mem_cons, List.mem_append] at hz
     rcases hz with hz | hz | hz
     ·rw [hz]; exact c'
     ·exact swo.trans c' (s4 z hz)
     ·exact h2 z hz)
    refine ⟨C1, C2, by rw [hC]; simp, hC1, hC2, ?_⟩
    have e4 : P ++ x :: (B1 ++ U ++ (y :: V ++ B2) ++ S) = L := by rw [← hLL]; simp
    rw [e4] at hr
    refine stepK 12 (fun k hk => ?_) hr
    rw [fact_Fact_52.l0.eq_2, if_pos (by omega), w_half i j (by omega), if_pos (by omega), if_pos (by omega), if_pos (by omega), if_pos (by omega), r1, r2, ht k hk]
    simp only [Option.bind_some]
    rw [if_neg (by rw [c'] at hlt; simpa using hlt)]
  ·exact ih B1 Bm B2 i j (by omega) hs hi hj hL h1 h2

theorem sym_l3 {T : List S60} {x : S60} (n : Nat) : ∀ (Q D : List S60) (T : List S60) (i j : Nat), D.length = n → Q.length = i → j = i + D.length → j + 1 + T.length ≤ 1099511627776 →
  Ev (fun k => fact_Fact_52.l3 k (Q ++ D ++ x :: T) (i : Int) (j : Int)) (Q ++ x :: (D ++ T)) := by
 induction n with
 | zero =>
  intro Q D T i j hD hQ hj hL
  obtain rfl := List.eq_nil_of_length_eq_zero hD
  have e : Q ++ [] ++ x :: T = Q ++ x :: ([] ++ T) := by simp
  rw [e]
  refine Ev.step (f := fun _ => some _) (fun k => ?_) (Ev.now _)
  rw [fact_Fact_52.l3.eq_2, if_neg (by simp at hj; omega)]
 | succ n ih =>
  intro Q D T i j hD hQ hj hL
  obtain ⟨D, y, rfl⟩ : ∃ D' y, D = D' ++ [y] := by
   rcases List.eq_nil_or_concat D with h | ⟨A, y, h⟩
   ·subst h; simp at hD
   ·exact ⟨A, y, by simpa using h⟩
  simp only [List.length_append, List.length_cons, List.length_nil] at hD hj
  generalize hLL : Q ++ (D ++ [y]) ++ x :: T = L
  have e1 : L = (Q ++ D ++ [y]) ++ x :: T := by rw [← hLL]; simp
  have e2 : L = (Q ++ D) ++ y :: (x :: T) := by rw [← hLL]; simp
  have hlen : L.length = Q.length + D.length + 2 + T.length := by rw [← hLL]; simp; omega
  have r1 : rd_T60 L (j : Int) = x := rd_at e1 (by simp; omega)
  have r2 : rd_T60 L ((j - 1 : Nat) : Int) = y := rd_at e2 (by simp; omega)
  have e3 : (L.set j y).set (j - 1) x = Q ++ D ++ x :: (y :: T) := by
   rw [e1, set_mid (by simp; omega), show Q ++ D ++ [y] ++ y :: T = (Q ++ D) ++ y :: (y :: T) by simp, set_mid (by simp; omega)]
  have := ih Q D (y :: T) i (j - 1) (by omega) hQ (by omega) (by simp; omega)
  have e4 : Q ++ x :: (D ++ [y] ++ T) = Q ++ x :: (D ++ y :: T) := by simp
  rw [e4]
  refine Ev.step (fun k => ?_) this
  rw [fact_Fact_52.l3.eq_2, if_pos (by omega), w_pred j (by omega) (by omega), if_pos (by omega), if_pos (by omega), if_pos (by omega), if_pos (by omega), r1, r2, Int.toNat_natCast, Int.toNat_natCast, ← e3]
theorem sym_l2 {P S : List S60} {x : S60} {a m : Nat} (hP : P.length = a) (d : Nat) : ∀ (A1 Am A2 : List S60) (i j : Nat), Am.length ≤ d → Srt lt Am → a + A1.length = i → i + Am.length = j → j + A2.length = m → m + 1 + S.length ≤ 1099511627776 →
  (∀ y ∈ A1, le lt y x) → (∀ y ∈ A2, lt x y = true) →
  ∃ C1 C2, C1 ++ C2 = A1 ++ Am ++ A2 ∧ (∀ y ∈ C1, le lt y x) ∧ (∀ y ∈ C2, lt x y = true) ∧
   Ev (fun k => fact_Fact_52.l2 k (P ++ (A1 ++ Am ++ A2) ++ x :: S) (m : Int) (i : Int) (j : Int)) (P ++ C1 ++ x :: (C2 ++ S)) := by
 induction d with
 | zero =>
  intro A1 Am A2 i j hd hs hi hj hm hL h1 h2
  obtain rfl := List.eq_nil_of_length_eq_zero (Nat.le_zero.1 hd)
  refine ⟨A1, A2, by simp, h1, h2, ?_⟩
  have := sym_l3 (T := S) (x := x) A2.length (P ++ A1) A2 S i m rfl (by simp; omega) (by simp at hj; omega) hL
  have e : P ++ (A1 ++ [] ++ A2) ++ x :: S = P ++ A1 ++ A2 ++ x :: S := by simp
  rw [e]
  refine Ev.step (fun k => ?_) this
  rw [fact_Fact_52.l2.eq_2, if_neg (by simp at hj; omega)]
 | succ d ih =>
  intro A1 Am A2 i j hd hs hi hj hm hL h1 h2
  by_cases c0 : i < j
  ·obtain ⟨U, y, V, hUV, hU⟩ : ∃ U y V, Am = U ++ y :: V ∧ U.length = (i + j) / 2 - i := by
    refine ⟨Am.take ((i + j) / 2 - i), Am[(i + j) / 2 - i]'(by omega), Am.drop ((i + j) / 2 - i + 1), ?_, by simp; omega⟩
    rw [List.getElem_cons_drop, List.take_append_drop]
   subst hUV
   simp only [List.length_append, List.length_cons] at hj hd
   obtain ⟨s1, s2, s3⟩ := List.pairwise_append.1 hs
   obtain ⟨s4, s5⟩ := List.pairwise_cons.1 s2
   generalize hLL : P ++ (A1 ++ (U ++ y :: V) ++ A2) ++ x :: S = L
   have e1 : L = P ++ (A1 ++ (U ++ y :: V) ++ A2) ++ x :: S := hLL.symm
   have e2 : L = (P ++ A1 ++ U) ++ y :: (V ++ A2 ++ x :: S) := by rw [← hLL]; simp
   have hlen : L.length = a + A1.length + U.length + 1 + V.length + A2.length + 1 + S.length := by rw [← hLL]; simp; omega
   have r1 : rd_T60 L (m : Int) = x := rd_at e1 (by simp; omega)
   have r2 : rd_T60 L (((i + j) / 2 : Nat) : Int) = y := rd_at e2 (by simp; omega)
   obtain ⟨t, ht, hlt⟩ := cmp_lt x y
   by_cases c : lt x y = true
   ·obtain ⟨C1, C2, hC, hC1, hC2, hr⟩ := ih A1 U (y :: V ++ A2) i ((i + j) / 2) (by omega) s1 hi (by omega) (by simp; omega) hL h1 (by
     intro z hz
     simp only [List.cons_append, List.mem_cons, List.mem_append] at hz
     rcases hz with hz | hz | hz
     ·rw [hz]; exact c
     ·exact swo.lt_le c (s4 z hz)
     ·exact h2 z hz)
    refine ⟨C1, C2, by rw [hC]; simp, hC1, hC2, ?_⟩
    have e4 : P ++ (A1 ++ U ++ (y :: V ++ A2)) ++ x :: S = L := by rw [← hLL]; simp
    rw [e4] at hr
    refine stepK 12 (fun k hk => ?_) hr
    rw [fact_Fact_52.l2.eq_2, if_pos (by omega), w_half i j (by omega), if_pos (by omega), if_pos (by omega), if_pos (by omega), if_pos (by omega), r1, r2, ht k hk]
    simp only [Option.bind_some]
    rw [if_pos (by rw [c] at hlt; simpa using hlt)]
   ·have c' : lt x y = false := by simpa using c
    obtain ⟨C1, C2, hC, hC1, hC2, hr⟩ := ih (A1 ++ U ++ [y]) V A2 ((i + j) / 2 + 1) j (by omega) s5 (by simp; omega) (by omega) hm hL (by
     intro z hz
     simp only [List.mem_append, List.mem_singleton] at hz
     rcases hz with (hz | hz) | hz
     ·exact h1 z hz
     ·exact swo.trans (s3 z hz y List.mem_cons_self) c'
     ·rw [hz]; exact c') h2
    refine ⟨C1, C2, by rw [hC]; simp, hC1, hC2, ?_⟩
    have e4 : P ++ (A1 ++ U ++ [y] ++ V ++ A2) ++ x :: S = L := by rw [← hLL]; simp
    rw [e4] at hr
    refine stepK 12 (fun k hk => ?_) hr
    rw [fact_Fact_52.l2.eq_2, if_pos (by omega), w_half i j (by omega), if_pos (by omega), if_pos (by omega), if_pos (by omega), if_pos (by omega), r1, r2, ht k hk]
    simp only [Option.bind_some]
    rw [if_neg (by rw [c'] at hlt; simpa using hlt), w_one _ (by omega)]
  ·exact ih A1 Am A2 i j (by omega) hs hi hj hm hL h1 h2

theorem sym_l4 {L : List S60} {a m b mid p s0 r0 : Nat} (hL : L.length ≤ 1099511627776) (hr0 : r0 ≤ L.length) (hp : p < L.length + s0) (hps : r0 ≤ p + 1)
  (mono : ∀ c c', s0 ≤ c' → c' ≤ c → c < r0 → lt (L.getD (p - c) z60) (L.getD c z60) = false → lt (L.getD (p - c') z60) (L.getD c' z60) = false) (d : Nat) : ∀ (s r : Nat), r - s ≤ d → s0 ≤ s → s ≤ r → r ≤ r0 →
  (∀ c, s0 ≤ c → c < s → lt (L.getD (p - c) z60) (L.getD c z60) = false) → (∀ c, r ≤ c → c < r0 → lt (L.getD (p - c) z60) (L.getD c z60) = true) →
  ∃ t, s0 ≤ t ∧ t ≤ r0 ∧ (∀ c, s0 ≤ c → c < t → lt (L.getD (p - c) z60) (L.getD c z60) = false) ∧ (∀ c, t ≤ c → c < r0 → lt (L.getD (p - c) z60) (L.getD c z60) = true) ∧
   ∀ n z, Ev (fun k => if (t : Int) < (m : Int) then fact_Fact_52.j6 k L (a : Int) (m : Int) (b : Int) (mid : Int) (t : Int) (wrap64 (n - (t : Int))) (decide ((m : Int) < wrap64 (n - (t : Int)))) else fact_Fact_52.j6 k L (a : Int) (m : Int) (b : Int) (mid : Int) (t : Int) (wrap64 (n - (t : Int))) false) z →
    Ev (fun k => fact_Fact_52.l4 k L (a : Int) (m : Int) (b : Int) (mid : Int) n (s : Int) (r : Int) (p : Int)) z := by
 induction d with
 | zero =>
  intro s r hd h1 h2 h3 hA hB
  obtain rfl : s = r := by omega
  refine ⟨s, h1, h3, hA, hB, fun n z hz => ?_⟩
  refine Ev.step (fun k => ?_) hz
  rw [fact_Fact_52.l4.eq_2, if_neg (by omega)]
 | succ d ih =>
  intro s r hd h1 h2 h3 hA hB
  by_cases c0 : s < r
  ·have r1 : rd_T60 L (((s + r) / 2 : Nat) : Int) = L.getD ((s + r) / 2) z60 := by unfold rd_T60; rw [Int.toNat_natCast]
   have r2 : rd_T60 L ((p - (s + r) / 2 : Nat) : Int) = L.getD (p - (s + r) / 2) z60 := by unfold rd_T60; rw [Int.toNat_natCast]
   obtain ⟨t, ht, hlt⟩ := cmp_lt (L.getD (p - (s + r) / 2) z60) (L.getD ((s + r) / 2) z60)
   by_cases c : lt (L.getD (p - (s + r) / 2) z60) (L.getD ((s + r) / 2) z60) = true
   ·obtain ⟨u, h4, h5, h6, h7, hz0⟩ := ih s ((s + r) / 2) (by omega) h1 (by omega) (by omega) hA (by
     intro q hq1 hq2
     by_cases hq3 : r ≤ q
     ·exact hB q hq3 hq2
     ·cases e : lt (L.getD (p - q) z60) (L.getD q z60) with
      | true => rfl
      | false => have := mono q ((s + r) / 2) (by omega) hq1 hq2 e; rw [this] at c; cases c)
    refine ⟨u, h4, h5, h6, h7, fun n z hz => ?_⟩
    refine stepK 12 (fun k hk => ?_) (hz0 n z hz)
    rw [fact_Fact_52.l4.eq_2, if_pos (by omega), w_half s r (by omega), w_sub p ((s + r) / 2) (by omega) (by omega), if_pos (by omega), if_pos (by omega), if_pos (by omega), if_pos (by omega), r1, r2, ht k hk]
    simp only [Option.bind_some]
    rw [if_pos (by rw [c] at hlt; simpa using hlt)]
   ·have c' : lt (L.getD (p - (s + r) / 2) z60) (L.getD ((s + r) / 2) z60) = false := by simpa using c
    obtain ⟨u, h4, h5, h6, h7, hz0⟩ := ih ((s + r) / 2 + 1) r (by omega) (by omega) (by omega) h3 (by
     intro q hq1 hq2
     exact mono ((s + r) / 2) q hq1 (by omega) (by omega) c') hB
    refine ⟨u, h4, h5, h6, h7, fun n z hz => ?_⟩
    refine stepK 12 (fun k hk => ?_) (hz0 n z hz)
    rw [fact_Fact_52.l4.eq_2, if_pos (by omega), w_half s r (by omega), w_sub p ((s + r) / 2) (by omega) (by omega), if_pos (by omega), if_pos (by omega), if_pos (by omega), if_pos (by omega), r1, r2, ht k hk]
    simp only [Option.bind_some]
    rw [if_neg (by rw [c'] at hlt; simpa using hlt), w_one _ (by omega)]
  ·exact ih s r (by omega) h1 h2 h3 hA hB
theorem srt_at {A : List S60} (hs : Srt lt A) {i j : Nat} (hij : i ≤ j) (hj : j < A.length) : le lt (A[i]'(by omega)) (A[j]'hj) := by
 by_cases e : i = j
 ·subst e; exact swo.irrefl _
 ·exact List.pairwise_iff_getElem.1 hs i j (by omega) hj (by omega)
set_option maxHeartbeats 4000000 in
theorem sym_f (d : Nat) : ∀ (P A B S : List S60) (a m b : Nat), A.length + B.length ≤ d → 1 ≤ A.length → 1 ≤ B.length → Srt lt A → Srt lt B → P.length = a → a + A.length = m → m + B.length = b → b + S.length ≤ 1099511627776 →
  ∃ M, St lt (A ++ B) M ∧ M.length = A.length + B.length ∧ Ev (fun k => fact_Fact_52.f k (P ++ A ++ B ++ S) (a : Int) (m : Int) (b : Int)) (P ++ M ++ S) := by
 induction d with
 | zero => intro P A B S a m b hd h1; omega
 | succ d ih =>
  intro P A B S a m b hd hA1 hB1 hA hB hP hm hb hL
  by_cases c1 : A.length = 1
  ·obtain ⟨x, rfl⟩ : ∃ x, A = [x] := List.length_eq_one_iff.1 c1
   obtain ⟨C1, C2, hC, hC1, hC2, hr⟩ := sym_l0 (S := S) (x := x) hP B.length [] B [] m b (Nat.le_refl _) hB (by simp at hm ⊢; omega) hb (by simp; omega) (by simp) (by simp)
   have hC : C1 ++ C2 = B := by simpa using hC
   refine ⟨C1 ++ x :: C2, ?_, ?_, ?_⟩
   ·have := St.insertL swo (B1 := C1) (B2 := C2) (x := x) (by rw [hC]; exact hB) hC1 hC2
    rw [hC] at this; exact this
   ·rw [← hC]; simp; omega
   ·have e : P ++ [x] ++ B ++ S = P ++ x :: ([] ++ B ++ [] ++ S) := by simp
    have e2 : P ++ (C1 ++ x :: C2) ++ S = P ++ C1 ++ x :: (C2 ++ S) := by simp
    rw [e, e2]
    refine Ev.step (fun k => ?_) hr
    rw [fact_Fact_52.f.eq_2, w_sub m a (by omega) (by omega), if_pos (by omega)]
  ·by_cases c2 : B.length = 1
   ·obtain ⟨x, rfl⟩ : ∃ x, B = [x] := List.length_eq_one_iff.1 c2
    obtain ⟨C1, C2, hC, hC1, hC2, hr⟩ := sym_l2 (S := S) (x := x) (m := m) hP A.length [] A [] a m (Nat.le_refl _) hA (by simp) (by omega) (by simp) (by simp at hb; omega) (by simp) (by simp)
    have hC : C1 ++ C2 = A := by simpa using hC
    refine ⟨C1 ++ x :: C2, ?_, ?_, ?_⟩
    ·have := St.insert swo (B1 := C1) (B2 := C2) (x := x) (by rw [hC]; exact hA) hC1 hC2
     rw [hC] at this; exact this
    ·rw [← hC]; simp; omega
    ·have e : P ++ A ++ [x] ++ S = P ++ ([] ++ A ++ []) ++ x :: S := by simp
     have e2 : P ++ (C1 ++ x :: C2) ++ S = P ++ C1 ++ x :: (C2 ++ S) := by simp
     rw [e, e2]
     refine Ev.step (fun k => ?_) hr
     rw [fact_Fact_52.f.eq_2, w_sub m a (by omega) (by omega), if_neg (by omega), w_sub b m (by omega) (by omega), if_pos (by simp at hb; omega)]
   · -- both have two or more
    generalize hLL : P ++ A ++ B ++ S = L
    have hlen : L.length = b + S.length := by rw [← hLL]; simp; omega
    have atA : ∀ t (ht : t < A.length), L.getD (a + t) z60 = A[t] := by
     intro t ht
     rw [← hLL, List.getD_eq_getElem?_getD, List.append_assoc, List.append_assoc, List.getElem?_append_right (by omega), List.getElem?_append_left (by omega), List.getElem?_eq_getElem (by omega)]
     simp only [Option.getD_some]; congr 1; omega
    have atB : ∀ t (ht : t < B.length), L.getD (m + t) z60 = B[t] := by
     intro t ht
     rw [← hLL, List.getD_eq_getElem?_getD, List.append_assoc, List.getElem?_append_right (by simp; omega), List.getElem?_append_left (by simp; omega), List.getElem?_eq_getElem (by simp; omega)]
     simp only [Option.getD_some]; congr 1; simp; omega
    have leA : ∀ i j, a ≤ i → i ≤ j → j < m → le lt (L.getD i z60) (L.getD j z60) := by
     intro i j h1 h2 h3
     rw [show i = a + (i - a) by omega, show j = a + (j - a) by omega, atA _ (by omega), atA _ (by omega)]
     exact srt_at hA (by omega) (by omega)
    have leB : ∀ i j, m ≤ i → i ≤ j → j < b → le lt (L.getD i z60) (L.getD j z60) := by
     intro i j h1 h2 h3
     rw [show i = m + (i - m) by omega, show j = m + (j - m) by omega, atB _ (by omega), atB _ (by omega)]
     exact srt_at hB (by omega) (by omega)
    obtain ⟨mid, hmid⟩ : ∃ mid, mid = (a + b) / 2 := ⟨_, rfl⟩
    obtain ⟨s0, r0, hs0, hr0, hcall⟩ : ∃ s0 r0 : Nat, (s0 = if mid < m then mid + m - b else a) ∧ (r0 = if mid < m then mid else m) ∧
      ∀ z, Ev (fun k => fact_Fact_52.l4 k L (a : Int) (m : Int) (b : Int) (mid : Int) ((mid + m : Nat) : Int) (s0 : Int) (r0 : Int) ((mid + m - 1 : Nat) : Int)) z → Ev (fun k => fact_Fact_52.f k L (a : Int) (m : Int) (b : Int)) z := by
     refine ⟨_, _, rfl, rfl, fun z hz => ?_⟩
     by_cases c : mid < m
     ·rw [if_pos c, if_pos c] at hz
      refine Ev.step (f := fun k => fact_Fact_52.j4 k L (a : Int) (m : Int) (b : Int) (mid : Int) ((mid + m : Nat) : Int) ((mid + m - b : Nat) : Int) (mid : Int)) (fun k => ?_) (Ev.step (fun k => ?_) hz)
      ·rw [fact_Fact_52.f.eq_2, w_sub m a (by omega) (by omega), if_neg (by omega), w_sub b m (by omega) (by omega), if_neg (by omega), w_half a b (by omega), ← hmid, if_pos (by omega), w_add mid m (by omega), w_sub (mid + m) b (by omega) (by omega)]
      ·rw [fact_Fact_52.j4.eq_2, w_pred (mid + m) (by omega) (by omega)]
     ·rw [if_neg c, if_neg c] at hz
      refine Ev.step (f := fun k => fact_Fact_52.j4 k L (a : Int) (m : Int) (b : Int) (mid : Int) ((mid + m : Nat) : Int) (a : Int) (m : Int)) (fun k => ?_) (Ev.step (fun k => ?_) hz)
      ·rw [fact_Fact_52.f.eq_2, w_sub m a (by omega) (by omega), if_neg (by omega), w_sub b m (by omega) (by omega), if_neg (by omega), w_half a b (by omega), ← hmid, if_neg (by omega), w_add mid m (by omega)]
      ·rw [fact_Fact_52.j4.eq_2, w_pred (mid + m) (by omega) (by omega)]
    have hs0' : a ≤ s0 ∧ s0 ≤ r0 ∧ r0 ≤ m ∧ r0 ≤ mid ∧ mid + m ≤ b + s0 := by
     by_cases c : mid < m
     ·rw [if_pos c] at hs0 hr0; omega
     ·rw [if_neg c] at hs0 hr0; omega
    have mono : ∀ c c', s0 ≤ c' → c' ≤ c → c < r0 → lt (L.getD (mid + m - 1 - c) z60) (L.getD c z60) = false → lt (L.getD (mid + m - 1 - c') z60) (L.getD c' z60) = false := by
     intro c c' h1 h2 h3 h4
     have q1 := leA c' c (by omega) h2 (by omega)
     have q2 := leB (mid + m - 1 - c) (mid + m - 1 - c') (by omega) (by omega) (by omega)
     exact swo.trans q1 (swo.trans h4 q2)
    obtain ⟨s, hs1, hs2, hQ, hQ', hz0⟩ := sym_l4 (a := a) (m := m) (b := b) (mid := mid) (p := mid + m - 1) (by omega) (by omega) (by omega) (by omega) mono (r0 - s0) s0 r0 (Nat.le_refl _) (Nat.le_refl _) (by omega) (Nat.le_refl _) (by intro c h1 h2; omega) (by intro c h1 h2; omega)
    obtain ⟨e, he⟩ : ∃ e, e = mid + m - s := ⟨_, rfl⟩
    have hwe : wrap64 (((mid + m : Nat) : Int) - (s : Int)) = (e : Int) := by rw [w_sub _ _ (by omega) (by omega), he]
    obtain ⟨A1, A2, hAA, hA1l⟩ : ∃ A1 A2, A = A1 ++ A2 ∧ A1.length = s - a := ⟨A.take (s - a), A.drop (s - a), (List.take_append_drop ..).symm, by simp; omega⟩
    obtain ⟨B1, B2, hBB, hB1l⟩ : ∃ B1 B2, B = B1 ++ B2 ∧ B1.length = e - m := ⟨B.take (e - m), B.drop (e - m), (List.take_append_drop ..).symm, by simp; omega⟩
    have hA2l : A2.length = m - s := by have := congrArg List.length hAA; simp at this; omega
    have hB2l : B2.length = b - e := by have := congrArg List.length hBB; simp at this; omega
    have atA1 : ∀ t (ht : t < A1.length), L.getD (a + t) z60 = A1[t] := by intro t ht; rw [atA t (by omega)]; simp only [hAA]; rw [List.getElem_append_left ht]
    have atA2 : ∀ t (ht : t < A2.length), L.getD (s + t) z60 = A2[t] := by
     intro t ht; rw [show s + t = a + (s - a + t) by omega, atA _ (by omega)]; simp only [hAA]; rw [List.getElem_append_right (by omega)]; congr 1; omega
    have atB1 : ∀ t (ht : t < B1.length), L.getD (m + t) z60 = B1[t] := by intro t ht; rw [atB t (by omega)]; simp only [hBB]; rw [List.getElem_append_left ht]
    have atB2 : ∀ t (ht : t < B2.length), L.getD (e + t) z60 = B2[t] := by
     intro t ht; rw [show e + t = m + (e - m + t) by omega, atB _ (by omega)]; simp only [hBB]; rw [List.getElem_append_right (by omega)]; congr 1; omega
    have k1 : ∀ x ∈ A1, ∀ y ∈ B2, le lt x y := by
     intro x hx y hy
     obtain ⟨i, hi, rfl⟩ := List.getElem_of_mem hx
     obtain ⟨j, hj, rfl⟩ := List.getElem_of_mem hy
     rw [← atA1 i hi, ← atB2 j hj]
     have hss : s0 < s := by
      by_cases c : mid < m
      ·rw [if_pos c] at hs0 hr0; omega
      ·rw [if_neg c] at hs0 hr0; omega
     have q := hQ (s - 1) (by omega) (by omega)
     rw [show mid + m - 1 - (s - 1) = e by omega] at q
     exact swo.trans (swo.trans (leA (a + i) (s - 1) (by omega) (by omega) (by omega)) q) (leB e (e + j) (by omega) (by omega) (by omega))
    have k2 : ∀ y ∈ B1, ∀ x ∈ A2, lt y x = true := by
     intro y hy x hx
     obtain ⟨j, hj, rfl⟩ := List.getElem_of_mem hy
     obtain ⟨i, hi, rfl⟩ := List.getElem_of_mem hx
     rw [← atA2 i hi, ← atB1 j hj]
     have hss : s < r0 := by
      by_cases c : mid < m
      ·rw [if_pos c] at hs0 hr0; omega
      ·rw [if_neg c] at hs0 hr0; omega
     have q := hQ' s (Nat.le_refl _) hss
     rw [show mid + m - 1 - s = e - 1 by omega] at q
     exact swo.lt_le (swo.le_lt (leB (m + j) (e - 1) (by omega) (by omega) (by omega)) q) (leA s (s + i) (by omega) (by omega) (by omega))
    clear hs0 hr0
    have sA := hA; have sB := hB
    rw [hAA] at sA; rw [hBB] at sB
    obtain ⟨sA1, sA2, sA3⟩ := List.pairwise_append.1 sA
    obtain ⟨sB1, sB2, sB3⟩ := List.pairwise_append.1 sB
    have half : ∀ (P' X Y S' : List S60) (u v w : Nat), X.length + Y.length ≤ d → Srt lt X → Srt lt Y → P'.length = u → u + X.length = v → v + Y.length = w → w + S'.length ≤ 1099511627776 →
      ∃ M, St lt (X ++ Y) M ∧ M.length = X.length + Y.length ∧ ((1 ≤ X.length ∧ 1 ≤ Y.length) → Ev (fun k => fact_Fact_52.f k (P' ++ X ++ Y ++ S') (u : Int) (v : Int) (w : Int)) (P' ++ M ++ S')) ∧ (¬ (1 ≤ X.length ∧ 1 ≤ Y.length) → M = X ++ Y) := by
     intro P' X Y S' u v w g1 g2 g3 g4 g5 g6 g7
     by_cases c : 1 ≤ X.length ∧ 1 ≤ Y.length
     ·obtain ⟨M, m1, m2, m3⟩ := ih P' X Y S' u v w g1 c.1 c.2 g2 g3 g4 g5 g6 g7
      exact ⟨M, m1, m2, fun _ => m3, fun h => absurd c h⟩
     ·refine ⟨X ++ Y, ?_, by simp, fun h => absurd h c, fun _ => rfl⟩
      refine St.of_sorted (List.pairwise_append.2 ⟨g2, g3, fun x hx y hy => absurd ⟨List.length_pos_of_mem hx, List.length_pos_of_mem hy⟩ c⟩)
    obtain ⟨M1, m1a, m1b, m1c, m1d⟩ := half P A1 B1 (A2 ++ B2 ++ S) a s mid (by omega) sA1 sB1 hP (by omega) (by omega) (by simp; omega)
    obtain ⟨M2, m2a, m2b, m2c, m2d⟩ := half (P ++ M1) A2 B2 S mid e b (by omega) sA2 sB2 (by simp; omega) (by omega) (by omega) hL
    refine ⟨M1 ++ M2, ?_, by simp; omega, ?_⟩
    ·rw [hAA, hBB]; exact St.halves swo m1a m2a sA3 sB3 k1 k2
    ·refine hcall _ (hz0 _ _ ?_)
     rw [hwe]
     have hL' : ∀ z, Ev (fun k => fact_Fact_52.j7 k (P ++ A1 ++ B1 ++ (A2 ++ B2 ++ S)) (a : Int) (b : Int) (mid : Int) (s : Int) (e : Int)) z →
       Ev (fun k => if (s : Int) < (m : Int) then fact_Fact_52.j6 k L (a : Int) (m : Int) (b : Int) (mid : Int) (s : Int) (e : Int) (decide ((m : Int) < (e : Int))) else fact_Fact_52.j6 k L (a : Int) (m : Int) (b : Int) (mid : Int) (s : Int) (e : Int) false) z := by
      intro z hz
      by_cases c : s < m ∧ m < e
      ·simp only [if_pos (show (s : Int) < (m : Int) by omega), decide_eq_true (show (m : Int) < (e : Int) by omega)]
       have hrot := rot_f (P := P ++ A1) (A := A2) (B := B1) (S := B2 ++ S) (a := s) (m := m) (b := e) (by simp; omega) (by omega) (by omega) c.1 c.2 (by simp; omega)
       have e1 : P ++ A1 ++ A2 ++ B1 ++ (B2 ++ S) = L := by rw [← hLL, hAA, hBB]; simp
       have e2 : P ++ A1 ++ B1 ++ A2 ++ (B2 ++ S) = P ++ A1 ++ B1 ++ (A2 ++ B2 ++ S) := by simp
       rw [e1, e2] at hrot
       refine Ev.step (f := fun k => (fact_Fact_54.f k L (s : Int) (m : Int) (e : Int)).bind fun t => fact_Fact_52.j7 k t (a : Int) (b : Int) (mid : Int) (s : Int) (e : Int)) (fun k => ?_) (Ev.bind hrot hz)
       rw [fact_Fact_52.j6.eq_2, if_pos rfl]
      ·have e1 : P ++ A1 ++ B1 ++ (A2 ++ B2 ++ S) = L := by
        have : A2 = [] ∨ B1 = [] := by
         by_cases c3 : s < m
         ·exact .inr (List.eq_nil_of_length_eq_zero (by omega))
         ·exact .inl (List.eq_nil_of_length_eq_zero (by omega))
        rw [← hLL, hAA, hBB]
        rcases this with h | h <;> rw [h] <;> simp
       rw [e1] at hz
       have hj : Ev (fun k => fact_Fact_52.j6 k L (a : Int) (m : Int) (b : Int) (mid : Int) (s : Int) (e : Int) false) z := by
        refine Ev.step (fun k => ?_) hz
        rw [fact_Fact_52.j6.eq_2, if_neg (by simp)]
       by_cases c3 : s < m
       ·simp only [if_pos (show (s : Int) < (m : Int) by omega), decide_eq_false (show ¬ (m : Int) < (e : Int) by omega)]; exact hj
       ·simp only [if_neg (show ¬ (s : Int) < (m : Int) by omega)]; exact hj
     refine hL' _ ?_
     have hS2 : Ev (fun k => if (mid : Int) < (e : Int) then (if (e : Int) < (b : Int) then (fact_Fact_52.f k (P ++ M1 ++ (A2 ++ B2 ++ S)) (mid : Int) (e : Int) (b : Int)).bind fun t => some t else some (P ++ M1 ++ (A2 ++ B2 ++ S))) else some (P ++ M1 ++ (A2 ++ B2 ++ S))) (P ++ (M1 ++ M2) ++ S) := by
      have e1 : P ++ M1 ++ A2 ++ B2 ++ S = P ++ M1 ++ (A2 ++ B2 ++ S) := by simp
      have e2 : P ++ M1 ++ M2 ++ S = P ++ (M1 ++ M2) ++ S := by simp
      by_cases c : 1 ≤ A2.length ∧ 1 ≤ B2.length
      ·have := m2c c
       rw [e1, e2] at this
       simp only [if_pos (show (mid : Int) < (e : Int) by omega), if_pos (show (e : Int) < (b : Int) by omega)]
       exact Ev.bind this (Ev.now _)
      ·have h := m2d c
       have e3 : P ++ M1 ++ (A2 ++ B2 ++ S) = P ++ (M1 ++ M2) ++ S := by rw [h]; simp
       by_cases c3 : mid < e
       ·simp only [if_pos (show (mid : Int) < (e : Int) by omega), if_neg (show ¬ (e : Int) < (b : Int) by omega), e3]; exact Ev.now _
       ·simp only [if_neg (show ¬ (mid : Int) < (e : Int) by omega), e3]; exact Ev.now _
     by_cases c : 1 ≤ A1.length ∧ 1 ≤ B1.length
     ·have := m1c c
      refine Ev.step (f := fun k => fact_Fact_52.j8 k (P ++ A1 ++ B1 ++ (A2 ++ B2 ++ S)) (a : Int) (b : Int) (mid : Int) (s : Int) (e : Int) true) (fun k => ?_) ?_
      ·rw [fact_Fact_52.j7.eq_2, if_pos (by omega), decide_eq_true (by omega)]
      ·refine Ev.step (f := fun k => (fact_Fact_52.f k (P ++ A1 ++ B1 ++ (A2 ++ B2 ++ S)) (a : Int) (s : Int) (mid : Int)).bind fun t => if (mid : Int) < (e : Int) then (if (e : Int) < (b : Int) then (fact_Fact_52.f k t (mid : Int) (e : Int) (b : Int)).bind fun t => some t else some t) else some t) (fun k => ?_) (Ev.bind this hS2)
       rw [fact_Fact_52.j8.eq_2, if_pos rfl]
     ·have h := m1d c
      have e3 : P ++ A1 ++ B1 ++ (A2 ++ B2 ++ S) = P ++ M1 ++ (A2 ++ B2 ++ S) := by rw [h]; simp
      rw [e3]
      refine Ev.step (f := fun k => fact_Fact_52.j8 k (P ++ M1 ++ (A2 ++ B2 ++ S)) (a : Int) (b : Int) (mid : Int) (s : Int) (e : Int) false) (fun k => ?_) ?_
      ·rw [fact_Fact_52.j7.eq_2]
       by_cases c3 : a < s
       ·rw [if_pos (by omega), decide_eq_false (by omega)]
       ·rw [if_neg (by omega)]
      ·refine Ev.step (fun k => ?_) hS2
       rw [fact_Fact_52.j8.eq_2, if_neg (by simp)]

theorem stb_l2 {n bs : Nat} (hbs : 1 ≤ bs) (hbs2 : bs ≤ 1099511627776) (hn : n ≤ 1099511627776) (d : Nat) : ∀ (P L0 L : List S60) (a : Nat), L0.length ≤ d → Bk lt bs L0 L → P.length = a → a + L0.length = n →
  ∃ L', Bk lt (2 * bs) L0 L' ∧ ∀ z, Ev (fun k => fact_Fact_45.l1 k (P ++ L') (n : Int) ((2 * bs : Nat) : Int)) z → Ev (fun k => fact_Fact_45.l2 k (P ++ L) (n : Int) (bs : Int) (a : Int) ((a + 2 * bs : Nat) : Int)) z := by
 have w2 : wrap64 (2 * (bs : Int)) = ((2 * bs : Nat) : Int) := by rw [w64_in (by unfold I64; omega)]; omega
 have w2' : wrap64 ((bs : Int) * 2) = ((2 * bs : Nat) : Int) := by rw [w64_in (by unfold I64; omega)]; omega
 induction d with
 | zero =>
  intro P L0 L a hd hB hP ha
  refine ⟨L, .last (by omega) (hB.whole (by omega)) hB.len, fun z hz => ?_⟩
  refine Ev.step (fun k => ?_) hz
  rw [fact_Fact_45.l2.eq_2, if_neg (by omega), w_add a bs (by omega), if_neg (by omega), w2']
 | succ d ih =>
  intro P L0 L a hd hB hP ha
  by_cases c1 : a + 2 * bs ≤ n
  ·obtain ⟨C0, C, R0, R, h1, h2, h3, h4, h5, h6⟩ := hB.first (by omega)
   obtain ⟨D0, D, T0, T, g1, g2, g3, g4, g5, g6⟩ := h6.first (by have := congrArg List.length h1; simp at this; omega)
   obtain ⟨M, m1, m2, m3⟩ := sym_f (C.length + D.length) P C D T a (a + bs) (a + 2 * bs) (Nat.le_refl _) (by omega) (by omega) h5.1 g5.1 hP (by omega) (by omega) (by
    have e1 := hB.len; rw [h2, g2] at e1; simp at e1; omega)
   have hl : (C0 ++ D0).length = 2 * bs := by simp; omega
   have hT : a + 2 * bs + T0.length = n := by have := congrArg List.length h1; rw [g1] at this; simp at this; omega
   obtain ⟨L', l1, l2⟩ := ih (P ++ M) T0 T (a + 2 * bs) (by omega) g6 (by simp; omega) hT
   refine ⟨M ++ L', ?_, fun z hz => ?_⟩
   ·rw [h1, g1, ← List.append_assoc]
    exact .cons hl (by omega) (St.comp h5 g5 m1) l1
   ·have e1 : P ++ M ++ L' = P ++ (M ++ L') := by simp
    have e2 : P ++ C ++ D ++ T = P ++ L := by rw [h2, g2]; simp
    rw [← e1] at hz
    have := l2 z hz
    rw [e2] at m3
    refine Ev.step (f := fun k => (fact_Fact_52.f k (P ++ L) (a : Int) ((a + bs : Nat) : Int) ((a + 2 * bs : Nat) : Int)).bind fun t => fact_Fact_45.l2 k t (n : Int) (bs : Int) ((a + 2 * bs : Nat) : Int) ((a + 2 * bs + 2 * bs : Nat) : Int)) (fun k => ?_) (Ev.bind m3 this)
    rw [fact_Fact_45.l2.eq_2, if_pos (by omega), w_add a bs (by omega), w2, w_add (a + 2 * bs) (2 * bs) (by omega)]
  ·by_cases c2 : a + bs < n
   ·obtain ⟨C0, C, R0, R, h1, h2, h3, h4, h5, h6⟩ := hB.first (by omega)
    have hRl : R0.length = n - a - bs := by have := congrArg List.length h1; simp at this; omega
    have hR := h6.whole (by omega)
    have hRl2 := h6.len
    obtain ⟨M, m1, m2, m3⟩ := sym_f (C.length + R.length) P C R [] a (a + bs) n (Nat.le_refl _) (by omega) (by omega) h5.1 hR.1 hP (by omega) (by omega) (by simp; omega)
    refine ⟨M, .last (by omega) (by rw [h1]; exact St.comp h5 hR m1) (by rw [h1]; simp; omega), fun z hz => ?_⟩
    have e2 : P ++ C ++ R ++ [] = P ++ L := by rw [h2]; simp
    rw [e2, List.append_nil] at m3
    refine Ev.step (f := fun k => (fact_Fact_52.f k (P ++ L) (a : Int) ((a + bs : Nat) : Int) (n : Int)).bind fun t => fact_Fact_45.l1 k t (n : Int) ((2 * bs : Nat) : Int)) (fun k => ?_) (Ev.bind m3 hz)
    rw [fact_Fact_45.l2.eq_2, if_neg (by omega), w_add a bs (by omega), if_pos (by omega), w2']
   ·refine ⟨L, .last (by omega) (hB.whole (by omega)) hB.len, fun z hz => ?_⟩
    refine Ev.step (fun k => ?_) hz
    rw [fact_Fact_45.l2.eq_2, if_neg (by omega), w_add a bs (by omega), if_neg (by omega), w2']
theorem stb_l1 {n : Nat} (hn : n ≤ 549755813888) (d : Nat) : ∀ (L0 L : List S60) (bs : Nat), n - bs ≤ d → 1 ≤ bs → bs ≤ 1099511627776 → Bk lt bs L0 L → L0.length = n →
  ∃ R, St lt L0 R ∧ R.length = n ∧ Ev (fun k => fact_Fact_45.l1 k L (n : Int) (bs : Int)) R := by
 induction d with
 | zero =>
  intro L0 L bs hd h1 h2 hB hL
  refine ⟨L, hB.whole (by omega), by rw [hB.len, hL], ?_⟩
  refine Ev.step (f := fun _ => some _) (fun k => ?_) (Ev.now _)
  rw [fact_Fact_45.l1.eq_2, if_neg (by omega)]
 | succ d ih =>
  intro L0 L bs hd h1 h2 hB hL
  by_cases c : bs < n
  ·obtain ⟨L', hB', hz⟩ := stb_l2 (n := n) h1 h2 (by omega) n [] L0 L 0 (by omega) hB rfl (by omega)
   obtain ⟨R, r1, r2, r3⟩ := ih L0 L' (2 * bs) (by omega) (by omega) (by omega) hB' hL
   refine ⟨R, r1, r2, ?_⟩
   have := hz R (by simpa using r3)
   simp only [List.nil_append, Nat.zero_add] at this
   refine Ev.step (fun k => ?_) this
   rw [fact_Fact_45.l1.eq_2, if_pos (by omega), show wrap64 (2 * (bs : Int)) = ((2 * bs : Nat) : Int) by rw [w64_in (by unfold I64; omega)]; omega]; rfl
  ·refine ⟨L, hB.whole (by omega), by rw [hB.len, hL], ?_⟩
   refine Ev.step (f := fun _ => some _) (fun k => ?_) (Ev.now _)
   rw [fact_Fact_45.l1.eq_2, if_neg (by omega)]
theorem stb_l0 {n : Nat} (hn : n ≤ 549755813888) (d : Nat) : ∀ (P L : List S60) (a : Nat), L.length ≤ d → P.length = a → a + L.length = n →
  ∃ L', Bk lt 20 L L' ∧ ∀ z, Ev (fun k => fact_Fact_45.l1 k (P ++ L') (n : Int) 20) z → Ev (fun k => fact_Fact_45.l0 k (P ++ L) (n : Int) 20 (a : Int) ((a + 20 : Nat) : Int)) z := by
 induction d with
 | zero =>
  intro P L a hd hP ha
  obtain ⟨R, r1, r2, r3⟩ := ins_f (P := P) (A := L) (S := []) (a := a) (b := n) hP ha (by simp; omega)
  refine ⟨R, .last (by omega) r1 r2, fun z hz => ?_⟩
  rw [List.append_nil, List.append_nil] at r3
  refine Ev.step (f := fun k => (fact_Fact_51.f k (P ++ L) (a : Int) (n : Int)).bind fun t => fact_Fact_45.l1 k t (n : Int) 20) (fun k => ?_) (Ev.bind r3 hz)
  rw [fact_Fact_45.l0.eq_2, if_neg (by omega)]
 | succ d ih =>
  intro P L a hd hP ha
  by_cases c : a + 20 ≤ n
  ·obtain ⟨C, T, hCT, hC⟩ : ∃ C T, L = C ++ T ∧ C.length = 20 := ⟨L.take 20, L.drop 20, (List.take_append_drop ..).symm, by simp; omega⟩
   have hT : T.length + 20 = L.length := by rw [hCT]; simp; omega
   obtain ⟨R, r1, r2, r3⟩ := ins_f (P := P) (A := C) (S := T) (a := a) (b := a + 20) hP (by omega) (by omega)
   obtain ⟨L', l1, l2⟩ := ih (P ++ R) T (a + 20) (by omega) (by simp; omega) (by omega)
   refine ⟨R ++ L', by rw [hCT]; exact .cons hC (by omega) r1 l1, fun z hz => ?_⟩
   have := l2 z (by simpa using hz)
   have e : P ++ C ++ T = P ++ L := by rw [hCT]; simp
   rw [e] at r3
   refine Ev.step (f := fun k => (fact_Fact_51.f k (P ++ L) (a : Int) ((a + 20 : Nat) : Int)).bind fun t => fact_Fact_45.l0 k t (n : Int) 20 ((a + 20 : Nat) : Int) ((a + 20 + 20 : Nat) : Int)) (fun k => ?_) (Ev.bind r3 this)
   rw [fact_Fact_45.l0.eq_2, if_pos (by omega), show (20 : Int) = ((20 : Nat) : Int) from rfl, w_add (a + 20) 20 (by omega)]
  ·obtain ⟨R, r1, r2, r3⟩ := ins_f (P := P) (A := L) (S := []) (a := a) (b := n) hP ha (by simp; omega)
   refine ⟨R, .last (by omega) r1 r2, fun z hz => ?_⟩
   rw [List.append_nil, List.append_nil] at r3
   refine Ev.step (f := fun k => (fact_Fact_51.f k (P ++ L) (a : Int) (n : Int)).bind fun t => fact_Fact_45.l1 k t (n : Int) 20) (fun k => ?_) (Ev.bind r3 hz)
   rw [fact_Fact_45.l0.eq_2, if_neg (by omega)]
theorem srt_f {L : List S60} (hL : L.length ≤ 549755813888) : ∃ R, St lt L R ∧ R.length = L.length ∧ Ev (fun k => fact_Fact_31.f k L) R := by
 obtain ⟨L', h1, h2⟩ := stb_l0 hL L.length [] L 0 (Nat.le_refl _) rfl (by omega)
 obtain ⟨R, r1, r2, r3⟩ := stb_l1 hL L.length L L' 20 (by omega) (by omega) (by omega) h1 rfl
 refine ⟨R, r1, r2, ?_⟩
 unfold fact_Fact_31.f fact_Fact_45.f
 have := h2 R (by simpa using r3)
 simp only [List.nil_append, Nat.zero_add] at this
 exact Ev.bind this (Ev.now _)
theorem cadd_f {a b : Int} (ha : I64 a) (hb : I64 b) : cent_Add.f a b = some (addS a b) := by
 unfold cent_Add.f addS
 have hw := w64_i64 (a + b)
 have x1 := xor_neg ha hw
 have x2 := xor_neg hb hw
 have x3 := and_neg x1.1 x2.1
 by_cases c : I64 (a + b)
 ·rw [if_pos c, if_neg (by rw [x3, x1.2, x2.2, w64_in c]; omega), w64_in c]
 ·rw [if_neg c, if_pos (by rw [x3, x1.2, x2.2]; unfold I64 wrap64 at *; omega)]
theorem same_eq (x y : S40) : Of.same x y = decide (x = y) := by
 obtain ⟨a0, a1, a2, a3, a4⟩ := x
 obtain ⟨b0, b1, b2, b3, b4⟩ := y
 unfold Of.same
 rw [Bool.eq_iff_iff]
 simp only [byte_eq, S40.mk.injEq, Bool.and_eq_true, decide_eq_true_eq, beq_iff_eq]
theorem sumF_eq : ∀ {l : List S60} {n : Int}, (∀ x ∈ l, I64 x.f1) → I64 n → Of.sumF n l = some (sumS n (l.map (·.f1)))
 | [], n, _, _ => rfl
 | x :: l, n, h, hn => by
  have hx := h x List.mem_cons_self
  unfold Of.sumF
  rw [cadd_f hn hx, List.map_cons]
  unfold addS sumS
  by_cases c : I64 (n + x.f1)
  ·rw [if_pos c, if_pos c]
   simp only [Option.bind_some, if_true]
   exact sumF_eq (fun y hy => h y (List.mem_cons_of_mem _ hy)) c
  ·rw [if_neg c, if_neg c]; rfl
def runKeys : Nat → List S60 → List S40
 | 0, _ => []
 | _ + 1, [] => []
 | n + 1, x :: xs => x.f0 :: runKeys n ((x :: xs).drop (Of.runLen (x :: xs)))
theorem le_cmp {a b : S60} (h : le lt a b) : cmpK a.f0 b.f0 ≤ 0 := by
 have := isK.swap a.f0 b.f0
 simp only [le, lt, decide_eq_false_iff_not] at h
 omega
theorem run_split {x : S60} {xs : List S60} (hs : Srt lt (x :: xs)) : ∃ A B, x :: xs = A ++ B ∧ Of.runLen (x :: xs) = A.length ∧ A ≠ [] ∧ (∀ y ∈ A, y.f0 = x.f0) ∧ (∀ y ∈ B, cmpK x.f0 y.f0 < 0) := by
 refine ⟨x :: xs.takeWhile (fun y => Of.same y.f0 x.f0), xs.dropWhile (fun y => Of.same y.f0 x.f0), by simp, rfl, by simp, ?_, ?_⟩
 ·intro y hy
  rcases List.mem_cons.1 hy with rfl | hy
  ·rfl
  ·have := List.mem_takeWhile_prop hy
   rw [same_eq] at this
   simpa using this
 ·obtain ⟨h1, h2⟩ := List.pairwise_cons.1 hs
  intro y hy
  have hsub : (xs.dropWhile (fun y => Of.same y.f0 x.f0)).Sublist xs := List.dropWhile_sublist _
  have hle := le_cmp (h1 y (hsub.subset hy))
  by_cases c : cmpK x.f0 y.f0 = 0
  ·exfalso
   obtain hxy := isK.zero.1 c
   cases hd : xs.dropWhile (fun y => Of.same y.f0 x.f0) with
   | nil => rw [hd] at hy; simp at hy
   | cons z zs =>
    have hz : Of.same z.f0 x.f0 = false := by
     have := List.head?_dropWhile_not (fun y : S60 => Of.same y.f0 x.f0) xs
     rw [hd] at this
     simpa using this
    rw [same_eq] at hz
    have hzx : z.f0 ≠ x.f0 := by simpa using hz
    have hs2 : Srt lt (z :: zs) := hd ▸ (List.Pairwise.sublist hsub h2)
    obtain ⟨h3, h4⟩ := List.pairwise_cons.1 hs2
    have hz1 := le_cmp (h1 z (hsub.subset (by rw [hd]; exact List.mem_cons_self)))
    rw [hd] at hy
    rcases List.mem_cons.1 hy with rfl | hy
    ·exact hzx hxy.symm
    ·have hz2 := le_cmp (h3 y hy)
     rw [← hxy] at hz2
     have := isK.swap x.f0 z.f0
     have : cmpK x.f0 z.f0 = 0 := by omega
     exact hzx (isK.zero.1 this).symm
  ·omega
theorem am_all {A : List S60} {k : S40} (h : ∀ y ∈ A, y.f0 = k) : am A k = A.map (·.f1) := by
 unfold am
 rw [List.filter_eq_self.2 (fun y hy => by simp [h y hy])]
theorem am_none {B : List S60} {k : S40} (h : ∀ y ∈ B, y.f0 ≠ k) : am B k = [] := by
 unfold am
 rw [List.filter_eq_nil_iff.2 (fun y hy => by simp [h y hy])]; rfl
theorem mem_runKeys : ∀ {n : Nat} {t : List S60} {k : S40}, Srt lt t → t.length ≤ n → (k ∈ runKeys n t ↔ ∃ x ∈ t, x.f0 = k)
 | 0, t, k, _, hn => by obtain rfl := List.eq_nil_of_length_eq_zero (Nat.le_zero.1 hn); simp [runKeys]
 | n + 1, [], k, _, _ => by simp [runKeys]
 | n + 1, x :: xs, k, hs, hn => by
  obtain ⟨A, B, e, hl, hA, h1, h2⟩ := run_split hs
  unfold runKeys
  rw [hl, e, List.drop_left]
  have hB : Srt lt B := by rw [e] at hs; exact (List.pairwise_append.1 hs).2.1
  have hBn : B.length ≤ n := by
   have : (x :: xs).length = A.length + B.length := by rw [e]; simp
   have : 0 < A.length := by cases A with | nil => exact absurd rfl hA | cons a t => simp
   omega
  rw [List.mem_cons, mem_runKeys hB hBn]
  constructor
  ·rintro (h | ⟨y, hy, he⟩)
   ·cases A with
    | nil => exact absurd rfl hA
    | cons a t => exact ⟨a, by simp, (h1 a List.mem_cons_self).trans h.symm⟩
   ·exact ⟨y, List.mem_append_right _ hy, he⟩
  ·rintro ⟨y, hy, he⟩
   rcases List.mem_append.1 hy with hy | hy
   ·exact .inl (he.symm.trans (h1 y hy))
   ·exact .inr ⟨y, hy, he⟩
theorem sk_runKeys : ∀ {n : Nat} {t : List S60}, Srt lt t → t.length ≤ n → SK (runKeys n t)
 | 0, t, _, _ => List.Pairwise.nil
 | n + 1, [], _, _ => List.Pairwise.nil
 | n + 1, x :: xs, hs, hn => by
  obtain ⟨A, B, e, hl, hA, h1, h2⟩ := run_split hs
  unfold runKeys
  rw [hl, e, List.drop_left]
  have hB : Srt lt B := by rw [e] at hs; exact (List.pairwise_append.1 hs).2.1
  have hBn : B.length ≤ n := by
   have : (x :: xs).length = A.length + B.length := by rw [e]; simp
   have : 0 < A.length := by cases A with | nil => exact absurd rfl hA | cons a t => simp
   omega
  refine List.pairwise_cons.2 ⟨fun y hy => ?_, sk_runKeys hB hBn⟩
  obtain ⟨z, hz, rfl⟩ := (mem_runKeys hB hBn).1 hy
  exact h2 z hz
theorem goF_eq : ∀ {k : Nat} {t out : List S60}, Srt lt t → t.length < k → (∀ x ∈ t, I64 x.f1) → out.length + t.length < 1759218604441 → Of.goF k t out = some (cubeS (am t) (runKeys k t) out)
 | 0, t, _, _, hk, _, _ => by omega
 | k + 1, [], out, _, _, _, _ => by
  unfold Of.goF runKeys cubeS
  rw [if_pos (by rfl)]
  split <;> rfl
 | k + 1, x :: xs, out, hs, hk, hI, ho => by
  obtain ⟨A, B, e, hl, hA, h1, h2⟩ := run_split hs
  have hA0 : 0 < A.length := by cases A with | nil => exact absurd rfl hA | cons a t => simp
  have hlen : (x :: xs).length = A.length + B.length := by rw [e]; simp
  have hB : Srt lt B := by rw [e] at hs; exact (List.pairwise_append.1 hs).2.1
  have r0 : rd_T60 (x :: xs) 0 = x := rfl
  unfold Of.goF runKeys cubeS
  rw [if_neg (by simp), hl, r0, e, List.take_left, List.drop_left]
  have hAm : am (A ++ B) x.f0 = A.map (·.f1) := by
   rw [am_append, am_all h1, am_none (fun y hy e => by have := h2 y hy; rw [e] at this; exact cmpK_irrefl this), List.append_nil]
  have hIA : ∀ y ∈ A, I64 y.f1 := fun y hy => hI y (by rw [e]; exact List.mem_append_left _ hy)
  have hIB : ∀ y ∈ B, I64 y.f1 := fun y hy => hI y (by rw [e]; exact List.mem_append_right _ hy)
  rw [sumF_eq hIA (by unfold I64; omega), hAm]
  simp only [Option.bind_some]
  have hcg : ∀ out, cubeS (am (A ++ B)) (runKeys k B) out = cubeS (am B) (runKeys k B) out := fun out => cubeS_congr (fun z hz => by
   obtain ⟨w, hw, rfl⟩ := (mem_runKeys hB (by omega)).1 hz
   rw [am_append, am_none (fun y hy e => by have := h2 w hw; rw [← e, h1 y hy] at this; exact cmpK_irrefl this), List.nil_append])
  split
  ·split
   ·rw [goF_eq hB (by omega) hIB (by omega), hcg]
   ·rw [if_pos (by omega), goF_eq hB (by omega) hIB (by simp; omega), hcg]
  ·rfl
theorem eqv_key (x y : S60) : eqv lt x y = decide (y.f0 = x.f0) := by
 have := isK.swap x.f0 y.f0
 rw [Bool.eq_iff_iff]
 simp only [eqv, lt, Bool.and_eq_true, Bool.not_eq_true', decide_eq_false_iff_not, decide_eq_true_eq]
 constructor
 ·intro h; exact (isK.zero.1 (by omega : cmpK x.f0 y.f0 = 0)).symm
 ·intro h; rw [h, cmpK_self]; omega
theorem am_st {L R : List S60} (h : St lt L R) (k : S40) : am R k = am L k := by
 have := h.2 ⟨k, 0⟩
 unfold am
 have e : eqv lt (⟨k, 0⟩ : S60) = fun x => decide (x.f0 = k) := funext fun x => eqv_key ⟨k, 0⟩ x
 rw [e] at this
 rw [this]
theorem fits_take {l : List S60} (h : ∀ x ∈ l, I64 x.f1) {L : List S60} (hm : ∀ x ∈ L, x ∈ l) : ∀ x ∈ L, I64 x.f1 := fun x hx => h x (hm x hx)
theorem of_f {l : List S60} (hl : l.length ≤ 549755813888) (hI : ∀ x ∈ l, I64 x.f1) : Ev (fun k => fact_Of.f k l) (ofS l) := by
 obtain ⟨R, h1, h2, h3⟩ := srt_f hl
 unfold fact_Of.f
 simp only [show l.length < 1759218604441 by omega, if_true]
 refine Ev.bind h3 (evk ?_)
 have hm : ∀ x ∈ R, x ∈ l := fun x hx => (h1.mem swo x).1 hx
 rw [goF_eq h1.1 (Nat.lt_succ_self _) (fun x hx => hI x (hm x hx)) (by simp; omega)]
 unfold ofS
 congr 1
 have hk : runKeys (R.length + 1) R = keysS l := sk_ext (sk_runKeys h1.1 (by omega)) (sk_keysS l) fun k => by
  rw [mem_runKeys h1.1 (by omega), mem_keysS]
  exact ⟨fun ⟨x, hx, e⟩ => ⟨x, hm x hx, e⟩, fun ⟨x, hx, e⟩ => ⟨x, (h1.mem swo x).2 hx, e⟩⟩
 rw [hk]
 exact cubeS_congr (fun k _ => am_st h1 k)
theorem add_f {l m : List S60} (hl : l.length + m.length ≤ 549755813888) (hI : ∀ x ∈ l, I64 x.f1) (hJ : ∀ x ∈ m, I64 x.f1) : Ev (fun k => fact_Add.f k l m) (ofS (l ++ m)) := by
 unfold fact_Add.f
 simp only [show l.length + m.length < 1759218604441 by omega, if_true]
 refine of_f (by simpa using hl) (fun x hx => ?_)
 rcases List.mem_append.1 hx with h | h
 ·exact hI x h
 ·exact hJ x h
def tk (k : S24) : S40 := ⟨k.f0, k.f1, k.f2, k.f3, k.f4⟩
def uk (k : S40) : S24 := ⟨k.f0, k.f1, k.f2, k.f3, k.f4⟩
def tf (x : S28) : S60 := ⟨tk x.f0, x.f1⟩
def uf (x : S60) : S28 := ⟨uk x.f0, x.f1⟩
theorem tf_uf (x : S60) : tf (uf x) = x := rfl
theorem uk_tk (x : S24) : uk (tk x) = x := rfl
theorem uf_tf (x : S28) : uf (tf x) = x := rfl
theorem map_tf_uf (l : List S60) : (l.map uf).map tf = l := by rw [List.map_map]; exact List.map_id l
theorem map_uf_tf (l : List S28) : (l.map tf).map uf = l := by rw [List.map_map]; exact List.map_id l
theorem rd28 {L P R : List S28} {x : S28} {i : Nat} (h : L = P ++ x :: R) (hi : P.length = i) : rd_T28 L (i : Int) = x := by
 unfold rd_T28; rw [h, Int.toNat_natCast, List.getD_eq_getElem?_getD, List.getElem?_append_right (by omega), hi, Nat.sub_self]; rfl
theorem rd24 {L P R : List S24} {x : S24} {i : Nat} (h : L = P ++ x :: R) (hi : P.length = i) : rd_T24 L (i : Int) = x := by
 unfold rd_T24; rw [h, Int.toNat_natCast, List.getD_eq_getElem?_getD, List.getElem?_append_right (by omega), hi, Nat.sub_self]; rfl
theorem theirs_l (T : List S28) : ∀ (P L : List S28) (i : Nat), L = P ++ T → P.length = i → L.length < 1759218604441 → Ev (fun k => law09_Theirs.l0 k (P.map tf) L (L.length : Int) (i : Int)) (L.map tf) := by
 induction T with
 | nil =>
  intro P L i hL hi hl
  have e : P = L := by rw [hL]; simp
  subst e
  refine Ev.step (f := fun _ => some _) (fun k => ?_) (Ev.now _)
  rw [law09_Theirs.l0.eq_2, if_neg (by omega)]
 | cons x T ih =>
  intro P L i hL hi hl
  have hlen : L.length = P.length + 1 + T.length := by rw [hL]; simp; omega
  have := ih (P ++ [x]) L (i + 1) (by rw [hL]; simp) (by simp; omega) hl
  refine Ev.step (fun k => ?_) this
  rw [law09_Theirs.l0.eq_2, if_pos (by omega), if_pos (by omega), if_pos (by omega), if_pos (by rw [List.length_map]; omega), rd28 hL hi, w_one i (by omega), List.map_append]
  rfl
theorem theirs_f {l : List S28} (h : l.length < 1759218604441) : Ev (fun k => law09_Theirs.f k l) (l.map tf) := theirs_l l [] l 0 rfl rfl h
theorem ours_l (T : List S60) : ∀ (P L : List S60) (i : Nat), L = P ++ T → P.length = i → L.length < 1759218604441 → Ev (fun k => law09_Ours.l0 k (P.map uf) L (L.length : Int) (i : Int)) (L.map uf) := by
 induction T with
 | nil =>
  intro P L i hL hi hl
  have e : P = L := by rw [hL]; simp
  subst e
  refine Ev.step (f := fun _ => some _) (fun k => ?_) (Ev.now _)
  rw [law09_Ours.l0.eq_2, if_neg (by omega)]
 | cons x T ih =>
  intro P L i hL hi hl
  have hlen : L.length = P.length + 1 + T.length := by rw [hL]; simp; omega
  have := ih (P ++ [x]) L (i + 1) (by rw [hL]; simp) (by simp; omega) hl
  refine Ev.step (fun k => ?_) this
  rw [law09_Ours.l0.eq_2, if_pos (by omega), if_pos (by omega), if_pos (by omega), if_pos (by rw [List.length_map]; omega), rd_at hL hi, w_one i (by omega), List.map_append]
  rfl
theorem ours_f {l : List S60} (h : l.length < 1759218604441) : Ev (fun k => law09_Ours.f k l) (l.map uf) := ours_l l [] l 0 rfl rfl h
theorem few_l (T : List S28) : ∀ (P L : List S28) (i : Nat), L = P ++ T → P.length = i → L.length ≤ 9223372036854775807 → ∃ b, Ev (fun k => law09_Few.l0 k L L (L.length : Int) (i : Int)) b ∧ (b = true → L.length ≤ 150) := by
 induction T with
 | nil =>
  intro P L i hL hi hl
  have e : P = L := by rw [hL]; simp
  subst e
  refine ⟨decide ((P.length : Int) ≤ 150), Ev.step (f := fun _ => some _) (fun k => ?_) (Ev.now _), fun h => by have := of_decide_eq_true h; omega⟩
  rw [law09_Few.l0.eq_2, if_neg (by omega)]
 | cons x T ih =>
  intro P L i hL hi hl
  have hlen : L.length = P.length + 1 + T.length := by rw [hL]; simp; omega
  obtain ⟨b, h1, h2⟩ := ih (P ++ [x]) L (i + 1) (by rw [hL]; simp) (by simp; omega) hl
  have no : ∀ {g : Nat → Option Bool}, (∀ k, g (k + 1) = some false) → ∃ b, Ev g b ∧ (b = true → L.length ≤ 150) := fun h => ⟨false, Ev.step (f := fun _ => some _) h (Ev.now _), fun h => by cases h⟩
  have e : ∀ k, law09_Few.l0 (k + 1) L L (L.length : Int) (i : Int) = if (x.f0.f0.size : Int) > 40 then some false else if (x.f0.f1.size : Int) > 40 then some false else if (x.f0.f2.size : Int) > 40 then some false else if (x.f0.f3.size : Int) > 40 then some false else law09_Few.l0 k L L (L.length : Int) ((i + 1 : Nat) : Int) := fun k => by
   rw [law09_Few.l0.eq_2, if_pos (by omega), if_pos (by omega), if_pos (by omega), rd28 hL hi, w_one i (by omega)]
  by_cases c0 : (x.f0.f0.size : Int) > 40
  ·exact no fun k => by rw [e, if_pos c0]
  by_cases c1 : (x.f0.f1.size : Int) > 40
  ·exact no fun k => by rw [e, if_neg c0, if_pos c1]
  by_cases c2 : (x.f0.f2.size : Int) > 40
  ·exact no fun k => by rw [e, if_neg c0, if_neg c1, if_pos c2]
  by_cases c3 : (x.f0.f3.size : Int) > 40
  ·exact no fun k => by rw [e, if_neg c0, if_neg c1, if_neg c2, if_pos c3]
  exact ⟨b, Ev.step (fun k => by rw [e, if_neg c0, if_neg c1, if_neg c2, if_neg c3]) h1, h2⟩
theorem few_f {l : List S28} (h : l.length ≤ 9223372036854775807) : ∃ b, Ev (fun k => law09_Few.f k l) b ∧ (b = true → l.length ≤ 150) := few_l l [] l 0 rfl rfl h
theorem small_l (T : List S28) : ∀ (P L : List S28) (i : Nat), L = P ++ T → P.length = i → L.length ≤ 9223372036854775807 → (∀ x ∈ P, ab x.f1 ≤ 4503599627370496) → ∃ b, Ev (fun k => law09_small.l0 k L (L.length : Int) (i : Int)) b ∧ (b = true → ∀ x ∈ L, ab x.f1 ≤ 4503599627370496) := by
 induction T with
 | nil =>
  intro P L i hL hi hl hP
  have e : P = L := by rw [hL]; simp
  subst e
  refine ⟨true, Ev.step (f := fun _ => some _) (fun k => ?_) (Ev.now _), fun _ => hP⟩
  rw [law09_small.l0.eq_2, if_neg (by omega)]
 | cons x T ih =>
  intro P L i hL hi hl hP
  have hlen : L.length = P.length + 1 + T.length := by rw [hL]; simp; omega
  have no : ∀ {g : Nat → Option Bool}, (∀ k, g (k + 1) = some false) → ∃ b, Ev g b ∧ (b = true → ∀ x ∈ L, ab x.f1 ≤ 4503599627370496) := fun h => ⟨false, Ev.step (f := fun _ => some _) h (Ev.now _), fun h => by cases h⟩
  have e : ∀ k, law09_small.l0 (k + 1) L (L.length : Int) (i : Int) = if x.f1 > 4503599627370496 then some false else if x.f1 < -4503599627370496 then some false else law09_small.l0 k L (L.length : Int) ((i + 1 : Nat) : Int) := fun k => by
   rw [law09_small.l0.eq_2, if_pos (by omega), if_pos (by omega), if_pos (by omega), rd28 hL hi, w_one i (by omega)]
  by_cases c0 : x.f1 > 4503599627370496
  ·exact no fun k => by rw [e, if_pos c0]
  by_cases c1 : x.f1 < -4503599627370496
  ·exact no fun k => by rw [e, if_neg c0, if_pos c1]
  obtain ⟨b, h1, h2⟩ := ih (P ++ [x]) L (i + 1) (by rw [hL]; simp) (by simp; omega) hl (fun y hy => by
   rcases List.mem_append.1 hy with hy | hy
   ·exact hP y hy
   ·obtain rfl := List.mem_singleton.1 hy; unfold ab; split <;> omega)
  exact ⟨b, Ev.step (fun k => by rw [e, if_neg c0, if_neg c1]) h1, h2⟩
theorem small_f {l : List S28} (h : l.length ≤ 9223372036854775807) : ∃ b, Ev (fun k => law09_small.f k l) b ∧ (b = true → ∀ x ∈ l, ab x.f1 ≤ 4503599627370496) := small_l l [] l 0 rfl rfl h (by simp)
theorem same_l (T : List S28) : ∀ (P L : List S28) (i : Nat), L = P ++ T → P.length = i → L.length ≤ 9223372036854775807 → Ev (fun k => ref09_Same.l0 k L L (i : Int)) true := by
 induction T with
 | nil =>
  intro P L i hL hi hl
  have e : P = L := by rw [hL]; simp
  subst e
  refine Ev.step (f := fun _ => some _) (fun k => ?_) (Ev.now _)
  rw [ref09_Same.l0.eq_2, if_neg (by omega)]
 | cons x T ih =>
  intro P L i hL hi hl
  have hlen : L.length = P.length + 1 + T.length := by rw [hL]; simp; omega
  have := ih (P ++ [x]) L (i + 1) (by rw [hL]; simp) (by simp; omega) hl
  refine Ev.step (fun k => ?_) this
  rw [ref09_Same.l0.eq_2, if_pos (by omega), if_pos (by omega), if_pos (by omega), rd28 hL hi, w_one i (by omega), if_neg (by simp)]
theorem same_f {l : List S28} (h : l.length ≤ 9223372036854775807) : Ev (fun k => ref09_Same.f k l l) true := by
 unfold ref09_Same.f
 simp only [if_true]
 exact same_l l [] l 0 rfl rfl h
def rc : Option S40 → List S60 → Bool
 | _, [] => true
 | none, x :: xs => if x.f1 = 0 then false else rc (some x.f0) xs
 | some q, x :: xs => if x.f1 = 0 then false else if cmpK q x.f0 ≥ 0 then false else rc (some x.f0) xs
def rightS (l : List S60) : Bool := rc none l && decide (l.length ≤ 2000)
theorem rc_some {l : List S60} : ∀ {q : S40}, rc (some q) l = true ↔ (∀ x ∈ l, x.f1 ≠ 0) ∧ SK (q :: l.map (·.f0)) := by
 induction l with
 | nil => intro q; simp [rc, SK]
 | cons x xs ih =>
  intro q
  unfold rc
  by_cases c0 : x.f1 = 0
  ·simp [c0]
  by_cases c1 : cmpK q x.f0 ≥ 0
  ·rw [if_neg c0, if_pos c1]
   refine ⟨fun h => (by cases h), fun h => ?_⟩
   have := (List.pairwise_cons.1 h.2).1 x.f0 (by simp)
   omega
  ·rw [if_neg c0, if_neg c1, ih]
   constructor
   ·rintro ⟨h1, h2⟩
    obtain ⟨h3, h4⟩ := List.pairwise_cons.1 h2
    refine ⟨fun y hy => ?_, List.pairwise_cons.2 ⟨fun y hy => ?_, h2⟩⟩
    ·rcases List.mem_cons.1 hy with rfl | hy
     ·exact c0
     ·exact h1 y hy
    ·rcases List.mem_cons.1 hy with rfl | hy
     ·show cmpK q x.f0 < 0; omega
     ·exact cmpK_lt_trans (by omega) (h3 y hy)
   ·rintro ⟨h1, h2⟩
    exact ⟨fun y hy => h1 y (List.mem_cons_of_mem _ hy), (List.pairwise_cons.1 h2).2⟩
theorem rc_none {l : List S60} : rc none l = true ↔ (∀ x ∈ l, x.f1 ≠ 0) ∧ SK (l.map (·.f0)) := by
 cases l with
 | nil => simp [rc, SK]
 | cons x xs =>
  unfold rc
  by_cases c0 : x.f1 = 0
  ·simp [c0]
  ·rw [if_neg c0, rc_some]
   constructor
   ·rintro ⟨h1, h2⟩
    refine ⟨fun y hy => ?_, h2⟩
    rcases List.mem_cons.1 hy with rfl | hy
    ·exact c0
    ·exact h1 y hy
   ·rintro ⟨h1, h2⟩
    exact ⟨fun y hy => h1 y (List.mem_cons_of_mem _ hy), h2⟩
theorem rightS_cubK {s : S40 → Int} {ks : List S40} (h : SK ks) (hl : ks.length ≤ 2000) : rightS (cubK s ks) = true := by
 unfold rightS
 have h1 : rc none (cubK s ks) = true := rc_none.2 ⟨fun x hx => by
  obtain ⟨k, hk, rfl⟩ := List.mem_map.1 hx
  simpa using (List.mem_filter.1 hk).2, by
  unfold cubK
  rw [List.map_map]
  have : ((fun x : S60 => x.f0) ∘ fun k => (⟨k, s k⟩ : S60)) = id := rfl
  rw [this, List.map_id]
  exact h.filter _⟩
 have := len_cubK s ks
 simp [h1]; omega
theorem last_of {P : List S60} {q : S40} (h : P.getLast?.map (·.f0) = some q) : ∃ P' z, P = P' ++ [z] ∧ z.f0 = q := by
 cases hg : P.getLast? with
 | none => rw [hg] at h; cases h
 | some z =>
  rw [hg] at h
  obtain ⟨P', hP⟩ := List.getLast?_eq_some_iff.1 hg
  exact ⟨P', z, hP, by simpa using h⟩
theorem right_l (T : List S60) : ∀ (P L : List S60) (i : Nat) (p : Option S40), L = P ++ T → P.length = i → L.length < 9223372036854775807 → P.getLast?.map (·.f0) = p → Ev (fun k => fact_Right.l0 k L L (L.length : Int) (i : Int)) (rc p T && decide (L.length ≤ 2000)) := by
 induction T with
 | nil =>
  intro P L i p hL hi hl hp
  have e : P = L := by rw [hL]; simp
  subst e
  refine Ev.step (f := fun _ => some _) (fun k => ?_) (Ev.now _)
  rw [fact_Right.l0.eq_2, if_neg (by omega)]
  simp [rc]
  by_cases c : P.length ≤ 2000
  ·simp [c]; omega
  ·simp [c]; omega
 | cons x T ih =>
  intro P L i p hL hi hl hp
  have hlen : L.length = P.length + 1 + T.length := by rw [hL]; simp; omega
  have hih := ih (P ++ [x]) L (i + 1) (some x.f0) (by rw [hL]; simp) (by simp; omega) hl (by simp)
  cases p with
  | none =>
   have hP : P = [] := by cases P with | nil => rfl | cons a t => simp at hp
   subst hP
   obtain rfl : i = 0 := by simpa using hi.symm
   unfold rc
   by_cases c0 : x.f1 = 0
   ·rw [if_pos c0]
    refine Ev.step (f := fun _ => some _) (fun k => ?_) (Ev.now _)
    rw [fact_Right.l0.eq_2, if_pos (by omega), if_pos (by omega), if_pos (by omega), rd_at hL hi, if_pos c0]; rfl
   ·rw [if_neg c0]
    refine Ev.step (fun k => ?_) hih
    rw [fact_Right.l0.eq_2, if_pos (by omega), if_pos (by omega), if_pos (by omega), rd_at hL hi, if_neg c0, if_neg (by simp), w_one 0 (by omega)]
  | some q =>
   obtain ⟨P', z, hP, hz⟩ := last_of hp
   have hi1 : i = P'.length + 1 := by rw [← hi, hP]; simp
   have hr : rd_T60 L ((i - 1 : Nat) : Int) = z := rd_at (P := P') (R := x :: T) (by rw [hL, hP]; simp) (by omega)
   have e : ∀ k, 6 ≤ k → fact_Right.l0 (k + 1) L L (L.length : Int) (i : Int) = if x.f1 = 0 then some false else if cmpK q x.f0 ≥ 0 then some false else fact_Right.l0 k L L (L.length : Int) ((i + 1 : Nat) : Int) := fun k hk => by
    rw [fact_Right.l0.eq_2, if_pos (by omega), if_pos (by omega), if_pos (by omega), rd_at hL hi]
    by_cases c0 : x.f1 = 0
    ·rw [if_pos c0, if_pos c0]
    rw [if_neg c0, if_neg c0, if_pos (by omega), w_pred i (by omega) (by omega), if_pos (by omega), if_pos (by omega), hr, cmp_f z.f0 x.f0 k hk, hz, w_one i (by omega)]
    simp only [Option.bind_some]
   unfold rc
   by_cases c0 : x.f1 = 0
   ·rw [if_pos c0]
    exact stepK (f := fun _ => some _) 6 (fun k hk => by rw [e k hk, if_pos c0]; rfl) (Ev.now _)
   by_cases c1 : cmpK q x.f0 ≥ 0
   ·rw [if_neg c0, if_pos c1]
    exact stepK (f := fun _ => some _) 6 (fun k hk => by rw [e k hk, if_neg c0, if_pos c1]; rfl) (Ev.now _)
   ·rw [if_neg c0, if_neg c1]
    exact stepK 6 (fun k hk => by rw [e k hk, if_neg c0, if_neg c1]) hih
theorem right_f {l : List S60} (h : l.length < 9223372036854775807) : Ev (fun k => fact_Right.f k l) (rightS l) := right_l l [] l 0 none rfl rfl h rfl
def lk (l : List S60) (k : S40) : Int := match l.find? (fun x => decide (x.f0 = k)) with | some x => x.f1 | none => 0
theorem lk_none {l : List S60} {k : S40} (h : ∀ x ∈ l, x.f0 ≠ k) : lk l k = 0 := by
 unfold lk
 rw [List.find?_eq_none.2 (fun x hx => by simpa using h x hx)]
theorem lk_mid {A B : List S60} {x : S60} {k : S40} (h : ∀ y ∈ A, y.f0 ≠ k) (hx : x.f0 = k) : lk (A ++ x :: B) k = x.f1 := by
 unfold lk
 rw [List.find?_append, List.find?_eq_none.2 (fun y hy => by simpa using h y hy)]
 simp [hx]
theorem get_l {L : List S60} (key : S40) (hS : SK (L.map (·.f0))) (hl : L.length ≤ 1099511627776) (d : Nat) : ∀ (A B C : List S60) (lo hi : Nat), B.length ≤ d → L = A ++ B ++ C → A.length = lo → lo + B.length = hi → (∀ x ∈ A, cmpK x.f0 key < 0) → (∀ x ∈ C, ¬ cmpK x.f0 key < 0) →
  ∃ (i : Int) (b : Bool), Ev (fun k => fact_Key.l0 k L (L.length : Int) (lo : Int) (hi : Int) key.f0 key.f1 key.f2 key.f3 key.f4) (i, b) ∧ (b = true → 0 ≤ i ∧ i < L.length ∧ (rd_T60 L i).f1 = lk L key) ∧ (b = false → lk L key = 0) := by
 induction d with
 | zero =>
  intro A B C lo hi hd hL hA hB h1 h2
  obtain rfl := List.eq_nil_of_length_eq_zero (Nat.le_zero.1 hd)
  simp only [List.length_nil, Nat.add_zero] at hB
  subst hB
  rw [List.append_nil] at hL
  have hlen : L.length = A.length + C.length := by rw [hL]; simp
  have hneA : ∀ x ∈ A, x.f0 ≠ key := fun x hx e => by have := h1 x hx; rw [e] at this; exact cmpK_irrefl this
  cases C with
  | nil =>
   refine ⟨lo, false, Ev.step (f := fun _ => some _) (fun k => ?_) (Ev.now _), fun h => (by cases h), fun _ => lk_none (by rw [hL]; simpa using hneA)⟩
   rw [fact_Key.l0.eq_2, if_neg (by omega), if_neg (by simp at hlen; omega)]
  | cons c C =>
   simp only [List.length_cons] at hlen
   have hr : rd_T60 L (lo : Int) = c := rd_at hL hA
   refine ⟨lo, (cmpK c.f0 key == 0), stepK (f := fun _ => some _) 6 (fun k hk => ?_) (Ev.now _), fun h => ?_, fun h => ?_⟩
   ·rw [fact_Key.l0.eq_2, if_neg (by omega), if_pos (by omega), if_pos (by omega), if_pos (by omega), hr]
    unfold fact_Get_1.f
    rw [cmp_f c.f0 key k hk]; rfl
   ·refine ⟨by omega, by omega, ?_⟩
    rw [hr]
    have hL' := hL
    conv => rhs; rw [hL']
    exact (lk_mid hneA (isK.zero.1 (by simpa using h))).symm
   ·have hc : cmpK c.f0 key ≠ 0 := by simpa using h
    refine lk_none (by
     rw [hL]
     intro x hx e
     rcases List.mem_append.1 hx with hx | hx
     ·exact hneA x hx e
     ·rcases List.mem_cons.1 hx with rfl | hx
      ·exact hc (by rw [e]; exact cmpK_self _)
      ·have h3 := h2 c List.mem_cons_self
       rw [hL, List.map_append, List.map_cons] at hS
       have h4 := (List.pairwise_cons.1 (List.pairwise_append.1 hS).2.1).1 x.f0 (List.mem_map.2 ⟨x, hx, rfl⟩)
       rw [e] at h4; omega)
 | succ d ih =>
  intro A B C lo hi hd hL hA hB h1 h2
  by_cases c0 : lo < hi
  ·obtain ⟨U, y, V, hUV, hU⟩ : ∃ U y V, B = U ++ y :: V ∧ U.length = (lo + hi) / 2 - lo := by
    refine ⟨B.take ((lo + hi) / 2 - lo), B[(lo + hi) / 2 - lo]'(by omega), B.drop ((lo + hi) / 2 - lo + 1), ?_, by simp; omega⟩
    rw [List.getElem_cons_drop, List.take_append_drop]
   subst hUV
   simp only [List.length_append, List.length_cons] at hB hd
   have hlen : L.length = A.length + U.length + 1 + V.length + C.length := by rw [hL]; simp; omega
   have hr : rd_T60 L (((lo + hi) / 2 : Nat) : Int) = y := rd_at (P := A ++ U) (R := V ++ C) (by rw [hL]; simp) (by simp; omega)
   have e : ∀ k, 6 ≤ k → fact_Key.l0 (k + 1) L (L.length : Int) (lo : Int) (hi : Int) key.f0 key.f1 key.f2 key.f3 key.f4 = if cmpK y.f0 key < 0 then fact_Key.l0 k L (L.length : Int) (((lo + hi) / 2 + 1 : Nat) : Int) (hi : Int) key.f0 key.f1 key.f2 key.f3 key.f4 else fact_Key.l0 k L (L.length : Int) (lo : Int) (((lo + hi) / 2 : Nat) : Int) key.f0 key.f1 key.f2 key.f3 key.f4 := fun k hk => by
    rw [fact_Key.l0.eq_2, if_pos (by omega), w_half lo hi (by omega), if_pos (by omega), if_pos (by omega), hr, w_one _ (by omega)]
    unfold fact_Get_1.f
    rw [cmp_f y.f0 key k hk]; rfl
   have hSB : SK ((A ++ U).map (·.f0) ++ y.f0 :: (V ++ C).map (·.f0)) := by
    rw [hL] at hS
    simpa [List.append_assoc] using hS
   obtain ⟨s1, s2, s3⟩ := List.pairwise_append.1 hSB
   obtain ⟨s4, s5⟩ := List.pairwise_cons.1 s2
   by_cases c1 : cmpK y.f0 key < 0
   ·obtain ⟨i, b, r1, r2, r3⟩ := ih (A ++ U ++ [y]) V C ((lo + hi) / 2 + 1) hi (by omega) (by rw [hL]; simp) (by simp; omega) (by omega) (fun x hx => by
     rcases List.mem_append.1 hx with hx | hx
     ·rcases List.mem_append.1 hx with hx | hx
      ·exact h1 x hx
      ·exact cmpK_lt_trans (s3 x.f0 (by simp; exact .inr ⟨x, hx, rfl⟩) y.f0 List.mem_cons_self) c1
     ·obtain rfl := List.mem_singleton.1 hx; exact c1) h2
    exact ⟨i, b, stepK 6 (fun k hk => by rw [e k hk, if_pos c1]) r1, r2, r3⟩
   ·obtain ⟨i, b, r1, r2, r3⟩ := ih A U (y :: V ++ C) lo ((lo + hi) / 2) (by omega) (by rw [hL]; simp) hA (by omega) h1 (fun x hx => by
     rcases List.mem_append.1 hx with hx | hx
     ·rcases List.mem_cons.1 hx with rfl | hx
      ·exact c1
      ·have := s4 x.f0 (by simp; exact .inl ⟨x, hx, rfl⟩)
       intro h; exact c1 (cmpK_lt_trans this h)
     ·exact h2 x hx)
    exact ⟨i, b, stepK 6 (fun k hk => by rw [e k hk, if_neg c1]) r1, r2, r3⟩
  ·have hB0 : B = [] := List.eq_nil_of_length_eq_zero (by omega)
   subst hB0
   exact ih A [] C lo hi (by simp) hL hA hB h1 h2
theorem get_f {l : List S60} (key : S40) (hS : SK (l.map (·.f0))) (hl : l.length ≤ 1099511627776) : Ev (fun k => fact_Get.f k l key.f0 key.f1 key.f2 key.f3 key.f4) (lk l key) := by
 obtain ⟨i, b, r1, r2, r3⟩ := get_l key hS hl l.length [] l [] 0 l.length (Nat.le_refl _) (by simp) rfl (by simp) (by simp) (by simp)
 unfold fact_Get.f fact_Key.f
 refine Ev.bind (f := fun _ bt178 => (if bt178.2 = true then (if 0 ≤ bt178.1 then (if bt178.1 < (l.length : Int) then (some ((rd_T60 l bt178.1).f1)) else (none)) else (none)) else (some 0))) r1 ?_
 cases b with
 | true =>
  obtain ⟨h1, h2, h3⟩ := r2 rfl
  simp only [if_true, h1, h2, h3]; exact Ev.now _
 | false =>
  rw [r3 rfl]
  simp only [Bool.false_eq_true, if_false]; exact Ev.now _
def anyB (of s : ByteArray) : Bool := decide (of.toList = []) || (of.toList == s.toList)
def selE (a b c : ByteArray) (k : S40) : Bool := anyB a k.f0 && (anyB b k.f1 && anyB c k.f2)
theorem any_f (of s : ByteArray) : fact_any.f of s = some (anyB of s) := by
 unfold fact_any.f anyB
 by_cases c : of.toList = []
 ·rw [if_pos c]; simp [c]
 ·rw [if_neg c]; simp [c]
def selA (a b c : ByteArray) (l : List S60) : List Int := (l.filter fun x => selE a b c x.f0).map (·.f1)
theorem sum_l (a b c : ByteArray) (T : List S60) : ∀ (P L : List S60) (n : Int) (i : Nat), L = P ++ T → P.length = i → L.length < 9223372036854775807 → I64 n → (∀ x ∈ T, I64 x.f1) → Ev (fun k => fact_Sum.l0 k a b c n L (L.length : Int) (i : Int)) (sumS n (selA a b c T)) := by
 induction T with
 | nil =>
  intro P L n i hL hi hl hn hI
  have e : P = L := by rw [hL]; simp
  subst e
  refine Ev.step (f := fun _ => some _) (fun k => ?_) (Ev.now _)
  rw [fact_Sum.l0.eq_2, if_neg (by omega)]; rfl
 | cons x T ih =>
  intro P L n i hL hi hl hn hI
  have hlen : L.length = P.length + 1 + T.length := by rw [hL]; simp; omega
  have hx := hI x List.mem_cons_self
  have hIT : ∀ y ∈ T, I64 y.f1 := fun y hy => hI y (List.mem_cons_of_mem _ hy)
  have e : ∀ k, fact_Sum.l0 (k + 1) a b c n L (L.length : Int) (i : Int) = fact_Sum.j1 k a b c n L (L.length : Int) (i : Int) (!selE a b c x.f0) x.f0.f0 x.f0.f1 x.f0.f2 x.f0.f3 x.f0.f4 x.f1 := fun k => by
   rw [fact_Sum.l0.eq_2, if_pos (by omega), if_pos (by omega), if_pos (by omega), rd_at hL hi]
   simp only [any_f, Option.bind_some, selE]
   cases anyB a x.f0.f0 <;> cases anyB b x.f0.f1 <;> simp
  by_cases s : selE a b c x.f0 = true
  ·have hsel : selA a b c (x :: T) = x.f1 :: selA a b c T := by unfold selA; rw [List.filter_cons_of_pos (by exact s)]; rfl
   rw [hsel]
   unfold sumS
   by_cases d : I64 (n + x.f1)
   ·rw [if_pos d]
    refine Ev.step e (Ev.step (fun k => ?_) (ih (P ++ [x]) L (n + x.f1) (i + 1) (by rw [hL]; simp) (by simp; omega) hl d hIT))
    rw [s, fact_Sum.j1.eq_2, if_neg (by simp), cadd_f hn hx, addS, if_pos d]
    simp only [Option.bind_some, if_true]
    rw [w_one i (by omega)]
   ·rw [if_neg d]
    refine Ev.step e (Ev.step (f := fun _ => some _) (fun k => ?_) (Ev.now _))
    rw [s, fact_Sum.j1.eq_2, if_neg (by simp), cadd_f hn hx, addS, if_neg d]
    rfl
  ·have hsel : selA a b c (x :: T) = selA a b c T := by unfold selA; rw [List.filter_cons_of_neg (by exact s)]
   rw [hsel]
   refine Ev.step e (Ev.step (fun k => ?_) (ih (P ++ [x]) L n (i + 1) (by rw [hL]; simp) (by simp; omega) hl hn hIT))
   rw [Bool.not_eq_true] at s
   rw [s, fact_Sum.j1.eq_2, if_pos (by simp), w_one i (by omega)]
theorem sum_f (a b c : ByteArray) {l : List S60} (h : l.length < 9223372036854775807) (hI : ∀ x ∈ l, I64 x.f1) : Ev (fun k => fact_Sum.f k l a b c) (sumS 0 (selA a b c l)) := sum_l a b c l [] l 0 0 rfl rfl h (by unfold I64; omega) hI
def pickP (e : ByteArray) (m : Int) (x : S60) : Bool := anyB e x.f0.f0 && (decide (m < 0) || decide (x.f0.f4 = m))
theorem pick_l (a : ByteArray) (m : Int) (T : List S60) : ∀ (P L acc : List S60) (i : Nat), L = P ++ T → P.length = i → L.length < 1000000 → acc.length ≤ P.length → Ev (fun k => fact_Pick.l0 k a m acc L (L.length : Int) (i : Int)) (acc ++ T.filter (pickP a m)) := by
 induction T with
 | nil =>
  intro P L acc i hL hi hl ha
  have e : P = L := by rw [hL]; simp
  subst e
  refine Ev.step (f := fun _ => some _) (fun k => ?_) (Ev.now _)
  rw [fact_Pick.l0.eq_2, if_neg (by omega)]; simp
 | cons x T ih =>
  intro P L acc i hL hi hl ha
  have hlen : L.length = P.length + 1 + T.length := by rw [hL]; simp; omega
  have hac : acc.length < 1759218604441 := by omega
  have e : ∀ k, fact_Pick.l0 (k + 1) a m acc L (L.length : Int) (i : Int) = if pickP a m x = true then fact_Pick.l0 k a m (acc ++ [x]) L (L.length : Int) ((i + 1 : Nat) : Int) else fact_Pick.l0 k a m acc L (L.length : Int) ((i + 1 : Nat) : Int) := fun k => by
   rw [fact_Pick.l0.eq_2, if_pos (by omega), if_pos (by omega), if_pos (by omega), rd_at hL hi, w_one i (by omega)]
   have hxe : (⟨(⟨x.f0.f0, x.f0.f1, x.f0.f2, x.f0.f3, x.f0.f4⟩ : S40), x.f1⟩ : S60) = x := rfl
   simp only [any_f, Option.bind_some, hac, if_true, pickP, hxe]
   by_cases p0 : anyB a x.f0.f0 = true <;> by_cases p1 : m < 0 <;> by_cases p2 : x.f0.f4 = m <;> simp [p0, p1, p2]
  by_cases s : pickP a m x = true
  ·rw [List.filter_cons_of_pos s]
   have := ih (P ++ [x]) L (acc ++ [x]) (i + 1) (by rw [hL]; simp) (by simp; omega) hl (by simp; omega)
   rw [List.append_assoc] at this
   exact Ev.step (fun k => by rw [e, if_pos s]) this
  ·rw [List.filter_cons_of_neg s]
   exact Ev.step (fun k => by rw [e, if_neg s]) (ih (P ++ [x]) L acc (i + 1) (by rw [hL]; simp) (by simp; omega) hl (by simp; omega))
theorem pick_f (a : ByteArray) (m : Int) {l : List S60} (h : l.length < 1000000) : Ev (fun k => fact_Pick.f k l a m) (l.filter (pickP a m)) := pick_l a m l [] l [] 0 rfl rfl h (Nat.le_refl _)
def kA : S40 := ⟨⟨#[69]⟩, ⟨#[97]⟩, ⟨#[]⟩, ⟨#[]⟩, 0⟩
def kB : S40 := ⟨⟨#[69]⟩, ⟨#[98]⟩, ⟨#[]⟩, ⟨#[]⟩, 0⟩
theorem cmp_ev (x y : S40) : Ev (fun k => fact_Cmp.f k x.f0 x.f1 x.f2 x.f3 x.f4 y.f0 y.f1 y.f2 y.f3 y.f4) (cmpK x y) := ⟨6, fun k hk => cmp_f x y k hk⟩
theorem len_cubeS (a : S40 → List Int) (ks : List S40) : ∀ (out : List S60), (cubeS a ks out).1.length ≤ out.length + ks.length := by
 induction ks with
 | nil => intro out; unfold cubeS; split <;> simp
 | cons k ks ih =>
  intro out
  unfold cubeS
  split
  ·split
   ·have := ih out; simp only [List.length_cons]; omega
   ·have := ih (out ++ [⟨k, (sumS 0 (a k)).1⟩]); simp only [List.length_cons, List.length_append, List.length_nil] at *; omega
  ·simp
theorem len_ofS (l : List S60) : (ofS l).1.length ≤ l.length := by
 have := len_cubeS (am l) (keysS l) []
 have := len_keysS l
 unfold ofS
 simp only [List.length_nil] at *
 omega
theorem alive_f : Ev (fun k => law09_alive.f k) true := by
 have i1 : ∀ x ∈ [(⟨kB, 5⟩ : S60), ⟨kA, 1⟩, ⟨kA, 2⟩], I64 x.f1 := by
  intro x hx
  simp only [List.mem_cons, List.not_mem_nil, or_false] at hx
  rcases hx with rfl | rfl | rfl <;> (unfold I64; simp)
 have i2 : ∀ x ∈ [(⟨kA, 3⟩ : S60), ⟨kB, 5⟩], I64 x.f1 := by
  intro x hx
  simp only [List.mem_cons, List.not_mem_nil, or_false] at hx
  rcases hx with rfl | rfl <;> (unfold I64; simp)
 have i3 : ∀ x ∈ [(⟨kB, -5⟩ : S60)], I64 x.f1 := by
  intro x hx
  simp only [List.mem_cons, List.not_mem_nil, or_false] at hx
  rcases hx with rfl; unfold I64; simp
 have e1 : ofS [(⟨kB, 5⟩ : S60), ⟨kA, 1⟩, ⟨kA, 2⟩] = ([⟨kA, 3⟩, ⟨kB, 5⟩], 0) := by kernel_rfl
 have e2 : sumS 0 (selA ⟨#[]⟩ ⟨#[]⟩ ⟨#[]⟩ [(⟨kA, 3⟩ : S60), ⟨kB, 5⟩]) = (8, 0) := by kernel_rfl
 have e3 : ofS ([(⟨kA, 3⟩ : S60), ⟨kB, 5⟩] ++ [(⟨kB, -5⟩ : S60)]) = ([⟨kA, 3⟩], 0) := by kernel_rfl
 have e4 : lk [(⟨kA, 3⟩ : S60), ⟨kB, 5⟩] kB = 5 := by kernel_rfl
 have e5 : cmpK kA kB = -1 := by kernel_rfl
 have e6 : rightS [(⟨kA, 3⟩ : S60), ⟨kB, 5⟩] = true := by kernel_rfl
 have e7 : [(⟨kA, 3⟩ : S60), ⟨kB, 5⟩].filter (pickP ⟨#[69]⟩ 0) = [⟨kA, 3⟩, ⟨kB, 5⟩] := by kernel_rfl
 have e8 : rc none [(⟨kA, 3⟩ : S60), ⟨kB, 5⟩] = true := by kernel_rfl
 have h1 := of_f (l := [(⟨kB, 5⟩ : S60), ⟨kA, 1⟩, ⟨kA, 2⟩]) (by simp) i1
 rw [e1] at h1
 have h2 := sum_f ⟨#[]⟩ ⟨#[]⟩ ⟨#[]⟩ (l := [(⟨kA, 3⟩ : S60), ⟨kB, 5⟩]) (by simp) i2
 rw [e2] at h2
 have h3 := add_f (l := [(⟨kA, 3⟩ : S60), ⟨kB, 5⟩]) (m := [(⟨kB, -5⟩ : S60)]) (by simp) i2 i3
 rw [e3] at h3
 have h4 := get_f kB (rc_none.1 e8).2 (by simp)
 rw [e4] at h4
 have h6 := right_f (l := [(⟨kA, 3⟩ : S60), ⟨kB, 5⟩]) (by simp)
 rw [e6] at h6
 have h7 := pick_f ⟨#[69]⟩ 0 (l := [(⟨kA, 3⟩ : S60), ⟨kB, 5⟩]) (by simp)
 rw [e7] at h7
 unfold law09_alive.f
 refine Ev.bind h1 (Ev.bind h2 (Ev.bind h3 ?_))
 refine Ev.step (f := fun k => (fact_Get.f k [(⟨kA, 3⟩ : S60), ⟨kB, 5⟩] kB.f0 kB.f1 kB.f2 kB.f3 kB.f4).bind fun t209 => if t209 = 5 then ((fact_Cmp.f k kA.f0 kA.f1 kA.f2 kA.f3 kA.f4 kB.f0 kB.f1 kB.f2 kB.f3 kB.f4).bind fun t210 => (if t210 = (-1) then ((fact_Right.f k [(⟨kA, 3⟩ : S60), ⟨kB, 5⟩]).bind fun t211 => (if t211 = true then ((fact_Pick.f k [(⟨kA, 3⟩ : S60), ⟨kB, 5⟩] (⟨#[69]⟩ : ByteArray) 0).bind fun t212 => (some ((t212.length : Int) == 2))) else (some false))) else (some false))) else (some false)) (fun k => ?_) ?_
 ·rw [law09_alive.j0.eq_2, if_pos (by rfl), if_pos (by rfl), if_pos (by simp), if_pos (by rfl), if_pos (by rfl), if_pos (by rfl), if_pos (by rfl), if_pos (by rfl)]; rfl
 ·refine Ev.bind h4 ?_
  simp only [if_true]
  have hc := cmp_ev kA kB
  rw [e5] at hc
  refine Ev.bind hc ?_
  simp only [if_true]
  refine Ev.bind h6 ?_
  simp only [if_true]
  refine Ev.bind h7 (Ev.now _)
theorem ints {l : List S28} (h : ∀ x ∈ l, g28 x) : ∀ x ∈ l, I64 x.f1 := fun x hx => wf_i64 (h x hx).2
theorem ints_tf {l : List S28} (h : ∀ x ∈ l, I64 x.f1) : ∀ x ∈ l.map tf, I64 x.f1 := fun x hx => by
 obtain ⟨y, hy, rfl⟩ := List.mem_map.1 hx; exact h y hy
theorem szs_small {l : List S28} (h : ∀ x ∈ l, ab x.f1 ≤ 4503599627370496) (hl : l.length ≤ 150) : szs ((l.map tf).map (·.f1)) ≤ 675539944105574400 := by
 have := szs_le (l := (l.map tf).map (·.f1)) (b := 4503599627370496) (fun x hx => by
  obtain ⟨y, hy, rfl⟩ := List.mem_map.1 hx
  obtain ⟨z, hz, rfl⟩ := List.mem_map.1 hy
  exact h z hz)
 simp only [List.length_map] at this
 omega
theorem cubL_i64 {l : List S60} {b : Int} (h : szs (l.map (·.f1)) ≤ b) (hb : b ≤ 9223372036854775807) : ∀ x ∈ cubL l, I64 x.f1 := by
 intro x hx
 have h1 := szs_cubL l
 have h2 : ∀ (L : List Int) (y : Int), y ∈ L → ab y ≤ szs L := by
  intro L
  induction L with
  | nil => intro y hy; simp at hy
  | cons z L ih =>
   intro y hy
   have := szs_nonneg L
   have := ab_nonneg z
   rw [szs_cons]
   rcases List.mem_cons.1 hy with rfl | hy
   ·omega
   ·have := ih y hy; omega
 have := h2 ((cubL l).map (·.f1)) x.f1 (List.mem_map.2 ⟨x, hx, rfl⟩)
 have := ab_self x.f1
 unfold I64; omega
end Go.Proofs.Ytgheapbhakamaaa.M
