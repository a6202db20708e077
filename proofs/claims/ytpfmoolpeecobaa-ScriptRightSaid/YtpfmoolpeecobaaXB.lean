/- What the evaluator asks of the program, and a closed law's row out of a run of the evaluator. -/
import Derived.Test.YtpfmoolpeecobaaX13
import Derived.Test.YtpfmoolpeecobaaProg
import Derived.Test.YtpfmoolpeecobaaChecked
namespace Go.Proofs.Ytpfmoolpeecobaa
open Ev
set_option maxRecDepth 1000000
theorem names_all : (Try.prog.funcs.all fun fn => !(fn.name == "runtime.NumGoroutine")) = true := by decide +kernel
theorem names_ok : NamesOk Try.prog := by
  intro f fn h
  have h1 := names_all
  rw [Array.all_eq_true_iff_forall_mem] at h1
  have h2 := h1 fn (Array.mem_of_getElem? h)
  simpa using h2
theorem mix : Try.prog.follows .mixedOrders = true := by decide +kernel
end Go.Proofs.Ytpfmoolpeecobaa
