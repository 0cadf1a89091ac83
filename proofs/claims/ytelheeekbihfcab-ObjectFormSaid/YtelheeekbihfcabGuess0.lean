/- What is guessed of the empty object's file. -/
import Derived.Test.YtelheeekbihfcabGuess
import Derived.Test.YtelheeekbihfcabGoodEq
set_option linter.unusedVariables false
namespace Go.Proofs.Ytelheeekbihfcab.Ob
open Go.RowKit Go.Proofs Go.Proofs.Ytelheeekbihfcab.PObjectReads Go.Proofs.YtelheeekbihfcabW.PrintWords
set_option maxRecDepth 100000 in
theorem len0 : (fileB 0 0 [] []).length = 504 := by kernel_rfl
set_option maxRecDepth 100000 in
theorem guess0 : object_reader_guess.f 30 (fileB 0 0 [] []) = some (0, 0, [], [], true) := by kernel_rfl
theorem byte1 : rd (fileB 0 0 [] []) 1 = 69 := by kernel_rfl
end Go.Proofs.Ytelheeekbihfcab.Ob
