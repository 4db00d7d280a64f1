/- A label's size in the laws. No condition but a sound length. -/
import Derived.Test.YtckdocofmffheaaQ2
import Derived.Test.YtckdocofmffheaaSl
namespace Go.Proofs.Ytckdocofmffheaa.Pv
set_option linter.unusedSimpArgs false
set_option linter.unusedVariables false
open Go.RowKit Go.Proofs.Ytckdocofmffheaa.Q Go.Proofs.YtckdocofmffheaaW.PrintWords Go.Proofs.YtckdocofmffheaaW.PrintLast Go.Proofs.YtckdocofmffheaaW.PrintMore
theorem szLabel_eq (n : Int) (s : ByteArray) (gs : s.size ≤ 9223372036854775807) (a : Int) (ha : 0 ≤ a) (hb : a ≤ 1048576) : laws_szLabel.f n s a = some (spend a s.size) := by
  unfold laws_szLabel.f
  rw [w_id (by omega) (by omega)]
  by_cases h : a - (s.size : Int) < 0
  · rw [if_pos h, spend_no (by omega)]
  · rw [if_neg h, spend_yes (by omega)]
end Go.Proofs.Ytckdocofmffheaa.Pv
