/- The program's JoinWords and the reference's tell the same of every two texts: for all texts, the law's function answers true. -/
import Derived.Test.YtdiahgdjeacolaaPx7
import Derived.Test.YtdiahgdjeacolaaPx19
import Derived.Test.YtdiahgdjeacolaaPx21
import Derived.Test.YtdiahgdjeacolaaPx22
import Derived.Test.YtdiahgdjeacolaaTh
import Derived.Test.YtdiahgdjeacolaaBrB
namespace Go.Proofs.Ytdiahgdjeacolaa.Pure
open Go.RowKit Go.Proofs.Ytdiahgdjeacolaa.P Go.Proofs.YtdiahgdjeacolaaW.PrintWords Go.Proofs.YtdiahgdjeacolaaW.PrintLast Go.Proofs.Ytdiahgdjeacolaa.Br
theorem FnExactJoinWords : laws_FnExactJoinWords.Pure := by
  intro a b _ _
  apply Ev.rounds
  unfold laws_FnExactJoinWords.f
  by_cases h : (a.size : Int) > 1048576
  · simp only [if_pos h]; exact Ev.now _
  by_cases h2 : (b.size : Int) > 1048576
  · simp only [if_neg h, if_pos h2]; exact Ev.now _
  simp only [if_neg h, if_neg h2]
  have hn : a.size ≤ 1048576 := by omega
  have hm : b.size ≤ 1048576 := by omega
  suffices ∃ r, Ev (fun k => spec_JoinWords.f k a b) r ∧ Ev (fun k => impl_JoinWords.f k a b) r by
    obtain ⟨r, h3, h4⟩ := this
    refine Ev.bind h3 (Ev.bind h4 ?_)
    simp only [if_true]
    exact Ev.now _
  unfold spec_JoinWords.f impl_JoinWords.f
  cases ha : okw a with
  | false =>
    refine ⟨((⟨#[]⟩ : ByteArray), 1), Ev.bind (specOk_ev a hn) ?_, Ev.bind (valid_ev a hn) ?_⟩ <;> rw [ha] <;> exact Ev.now _
  | true =>
    cases hb : okw b with
    | false =>
      refine ⟨((⟨#[]⟩ : ByteArray), 1), Ev.bind (specOk_ev a hn) ?_, Ev.bind (valid_ev a hn) ?_⟩
      · simp only [ha, if_true]; refine Ev.bind (specOk_ev b hm) ?_; rw [hb]; exact Ev.now _
      · simp only [ha, if_true]; refine Ev.bind (valid_ev b hm) ?_; rw [hb]; exact Ev.now _
    | true =>
      have e := okw_append ha hb
      have s1 := okw_size ha
      have s2 := okw_size hb
      have hs := ByteArray.size_append (a := a) (b := b)
      refine ⟨if a.size + b.size ≤ 60 then (a ++ b, 0) else ((⟨#[]⟩ : ByteArray), 3), Ev.bind (specOk_ev a hn) ?_, Ev.bind (valid_ev a hn) ?_⟩
      · simp only [ha, if_true]; refine Ev.bind (specOk_ev b hm) ?_
        simp only [hb, if_true, if_pos (show a.size + b.size ≤ 9223372036854775807 by omega), spec_l01Told.f]
        by_cases h5 : a.size + b.size ≤ 60
        · simp only [if_pos h5, if_neg (show ¬ ((a ++ b).size : Int) > 60 by omega)]; exact Ev.now _
        · simp only [if_neg h5, if_pos (show ((a ++ b).size : Int) > 60 by omega)]; exact Ev.now _
      · simp only [ha, if_true]; refine Ev.bind (valid_ev b hm) ?_
        simp only [hb, if_true, if_pos (show a.size + b.size ≤ 9223372036854775807 by omega), impl_orLimit.f]
        refine Ev.bind (a := if a.size + b.size ≤ 60 then (a ++ b, 0) else ((⟨#[]⟩ : ByteArray), 3)) ?_ ?_
        · refine Ev.bind (valid_ev (a ++ b) (by omega)) ?_
          rw [e]
          by_cases h5 : a.size + b.size ≤ 60
          · simp only [h5, decide_true, if_true]; exact Ev.now _
          · simp only [h5, decide_false, if_false, Bool.false_eq_true]; exact Ev.now _
        · exact Ev.now _
end Go.Proofs.Ytdiahgdjeacolaa.Pure
