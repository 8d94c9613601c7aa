/- FnExactRankSigns returns true for every table: program and reference tell the same rank of a sign matrix, and of nothing else. No conditions. -/
import Derived.Test.YtadepmjfhcmkoaaFLawsFnExactRankSigns
import Derived.Test.YtadepmjfhcmkoaaQPath
namespace Go.Proofs.Ytadepmjfhcmkoaa.Pure
open Go.Proofs.Ytadepmjfhcmkoaa.B Go.Proofs.Ytadepmjfhcmkoaa.P
open Go.RowKit Go.Proofs.YtadepmjfhcmkoaaW.PrintWords Go.Proofs.YtadepmjfhcmkoaaW.PrintLast Go.Proofs.YtadepmjfhcmkoaaW.PrintMore
set_option linter.unusedVariables false
set_option linter.unusedSimpArgs false
theorem FnExactRankSigns : laws_FnExactRankSigns.Pure := by
  intro m hl _ _
  rcases rank_both m hl with ⟨_, h1, h2⟩ | ⟨_, h1, h2⟩
  · exact ⟨_, _, h1.rounds, h2.rounds⟩
  · exact ⟨_, _, h1.rounds, h2.rounds⟩
end Go.Proofs.Ytadepmjfhcmkoaa.Pure
