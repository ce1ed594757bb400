/- Proved: for all int64 amounts, lists of int64 weights and numbers of parts, the parts and the share are the document's, or refused as it says. No condition but what Go itself can hold. -/
import Derived.Test.YtjfnhhfgjomliaaQx10
import Derived.Test.YtjfnhhfgjomliaaR4All
set_option linter.unusedVariables false
set_option linter.unusedSimpArgs false
namespace Go.Proofs.Ytjfnhhfgjomliaa.Pure
open Go.RowKit Go.Proofs.Ytjfnhhfgjomliaa.Q Go.Proofs.Ytjfnhhfgjomliaa.M Go.Proofs.YtjfnhhfgjomliaaW.PrintWords Go.Proofs.YtjfnhhfgjomliaaW.PrintLast

theorem SplitTells : law04_SplitTells.Pure := by
  intro a l p wa hlen0 hmem0 wp
  have ha := wf_i64 wa
  have hmem : ∀ x ∈ l, I64 x := fun x hx => wf_i64 (hmem0 x hx)
  refine Ev.rounds (g := fun k => law04_SplitTells.f k a l p) ?_
  unfold law04_SplitTells.f
  refine Ev.bind alive_f ?_
  simp only [if_true]
  by_cases c0 : (l.length : Int) > 200
  · simp only [if_pos c0]; exact Ev.now _
  simp only [if_neg c0]
  obtain ⟨L, hE, hno, hok⟩ := by_split ha hmem
  obtain ⟨M, hF, hlen, hval⟩ := rby04_f ha hmem hno hok
  have hL : L.length ≤ 1000 := by
    by_cases e : byErr l = 0
    · obtain ⟨S, left, δ, h1, h2, h3, h4, h5, h6, h7⟩ := byok_val (hok e); omega
    · rw [hno e]; exact Nat.zero_le _
  have hs := same_f hlen hL hval
  refine Ev.bind hE (Ev.bind hF ?_)
  by_cases c : p < 0 ∨ 10000 < p
  · refine Ev.bind (share_bad c) (Ev.bind (rshare_bad c) (Ev.bind hs ?_))
    simp only [if_true]; exact Ev.now _
  · refine Ev.bind (share_f ha (by omega) (by omega)) (Ev.bind (rshare_f ha (by omega) (by omega)) (Ev.bind hs ?_))
    simp only [if_true]; exact Ev.now _
end Go.Proofs.Ytjfnhhfgjomliaa.Pure
