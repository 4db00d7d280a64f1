/- A rule's size in the laws. No condition but sound lengths. -/
import Derived.Test.YtckdocofmffheaaDoorQ1
import Derived.Test.YtckdocofmffheaaDoorSl
namespace Go.Proofs.YtckdocofmffheaaDoor.Pv
set_option linter.unusedSimpArgs false
set_option linter.unusedVariables false
open Go.RowKit Go.Proofs.YtckdocofmffheaaDoor.Q Go.Proofs.YtckdocofmffheaaDoorW.PrintWords Go.Proofs.YtckdocofmffheaaDoorW.PrintLast Go.Proofs.YtckdocofmffheaaDoorW.PrintMore
theorem szRule_eq (p : ByteArray) (n : Int) (s : ByteArray) (gp : p.size ≤ 9223372036854775807) (gs : s.size ≤ 9223372036854775807) (a : Int) (ha : 0 ≤ a) (hb : a ≤ 1048576) : laws_szRule.f p n s a = some (spend a (p.size + s.size)) := by
  unfold laws_szRule.f
  rw [w_id (x := a - (p.size : Int)) (by omega) (by omega)]
  by_cases h : a - (p.size : Int) < 0
  · rw [if_pos h, spend_no (by omega)]
  · rw [if_neg h, w_id (by omega) (by omega)]
    by_cases h2 : a - (p.size : Int) - (s.size : Int) < 0
    · rw [if_pos h2, spend_no (by omega)]
    · rw [if_neg h2, spend_yes (by omega)]
      congr 1
      omega
end Go.Proofs.YtckdocofmffheaaDoor.Pv
