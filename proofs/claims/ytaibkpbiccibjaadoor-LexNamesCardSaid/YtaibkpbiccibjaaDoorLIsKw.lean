/- lex.IsKeyword in the print's form. -/
import Derived.Test.YtaibkpbiccibjaaDoorLKw
set_option linter.unusedVariables false
namespace Go.Proofs.YtaibkpbiccibjaaDoor.PAll
open Go.RowKit Go.Proofs.YtaibkpbiccibjaaDoorW.PrintWords Go.Proofs.YtaibkpbiccibjaaDoorW.PrintLast Go.Proofs.YtaibkpbiccibjaaDoorW.PrintMore
def lex_IsKeyword.f (a0 : ByteArray) : Option (Bool) := some (isKw a0.data.toList)
theorem lex_IsKeyword.calls (a0 : ByteArray) (r : Bool) (w : World) (h : lex_IsKeyword.f a0 = some r) (hL : LaidL w) :
    Calls Tryd.prog 17 #[.string a0] w fun e w' => e = .returned (.bool r) ∧ Below w.heap.size w w' := by
  obtain rfl := Option.some.inj h
  exact isKeyword_walk a0 w hL
end Go.Proofs.YtaibkpbiccibjaaDoor.PAll
