import Derived.Test.YtijfbnkohnlmaaaX0
import Derived.Test.YtijfbnkohnlmaaaShelf
namespace Go.Proofs.Ytijfbnkohnlmaaa.X
open Go.RowKit Go.Proofs.YtijfbnkohnlmaaaW.PrintWords Go.Proofs.YtijfbnkohnlmaaaW.PrintLast
set_option linter.unusedVariables false
set_option linter.unusedSimpArgs false
def utf_Compare.f (a b : ByteArray) : Option Int := some (Lib.compareBytes a.data.toList b.data.toList)
theorem utf_Compare.calls (a0 a1 : ByteArray) (r : Int) (w : World) (h : utf_Compare.f a0 a1 = some r) :
    Calls Try.prog 19 #[.string a0, .string a1] w fun e w' => e = .returned (.int .i64 r) ∧ Drawn0 w w' := by
  obtain rfl := Option.some.inj h
  generalize hc : Lib.compareBytes a0.data.toList a1.data.toList = c
  go_enter Try.func19, Try.ntmps19
  go_wp2_with (go_at_call 31; refine (Try.strings_Compare a0 a1 _).mono ?_; rw [hc]; rintro e w1 ⟨rfl, rfl⟩)
  go_ret
  exact ⟨rfl, Drawn0.refl _⟩
end Go.Proofs.Ytijfbnkohnlmaaa.X
