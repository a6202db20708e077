/- The examples of scripts work. -/
import Derived.Test.YtpfmoolpeecobaaP0
namespace Go.Proofs.Ytpfmoolpeecobaa
open Go Go.Proofs Go.Proofs.Ytpfmoolpeecobaa.Ev
set_option maxRecDepth 1000000
theorem works28_ran : isT (ev Try.prog 20000 (.call 28 [] ⟨.leaf, 0⟩)) = true := by decide +kernel
theorem works28_ok (L : Heap) : ACall Try.prog 28 [] L (.bool true) L := by
  obtain ⟨L1, h⟩ := isT_iff works28_ran
  exact (ACall.of_ev names_ok mix h).lift rfl rfl L
end Go.Proofs.Ytpfmoolpeecobaa
