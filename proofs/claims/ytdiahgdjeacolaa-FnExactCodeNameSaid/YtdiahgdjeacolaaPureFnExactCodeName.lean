/- The program's CodeName and the reference's tell the same of every number: for each number, the law's function answers true. -/
import Derived.Test.YtdiahgdjeacolaaPx3
import Derived.Test.YtdiahgdjeacolaaPx4
import Derived.Test.YtdiahgdjeacolaaTh
namespace Go.Proofs.Ytdiahgdjeacolaa.Pure
open Go.RowKit Go.Proofs.Ytdiahgdjeacolaa.P Go.Proofs.YtdiahgdjeacolaaW.PrintWords Go.Proofs.YtdiahgdjeacolaaW.PrintLast
theorem FnExactCodeName : laws_FnExactCodeName.Pure := by
  intro a _
  have key : ∃ r, spec_CodeName.f a = some r ∧ impl_CodeName.f a = some r := by
    unfold spec_CodeName.f impl_CodeName.f spec_l00In.f
    simp only [Option.bind_some]
    by_cases h1 : a < 0
    · exact ⟨_, by rw [if_neg (by omega)]; rfl, by rw [if_pos h1]⟩
    · by_cases h2 : a ≥ 9
      · exact ⟨_, by rw [if_pos (by omega)]; simp only [Option.bind_some]; rw [if_neg (by simp; omega)], by rw [if_neg h1, if_pos h2]⟩
      · refine ⟨rdOf ByteArray.empty impl_CodeName.names a, ?_, by rw [if_neg h1, if_neg h2]⟩
        rw [if_pos (by omega)]
        simp only [Option.bind_some]
        rw [if_pos (by simp; omega), if_pos (by omega), if_pos (by simp; omega)]
        rfl
  obtain ⟨r, h1, h2⟩ := key
  unfold laws_FnExactCodeName.f
  rw [h1, h2]
  simp
end Go.Proofs.Ytdiahgdjeacolaa.Pure
