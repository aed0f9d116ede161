/- What the claims of this seat share, part 9 of 9: what the program's functions compute. -/
import Derived.Test.YtjeecehhcajfaaaDoorQBB4
import Derived.Test.YtjeecehhcajfaaaDoorQBB8
section
namespace Go.Proofs.YtjeecehhcajfaaaDoor.M
open Go.RowKit Go.Proofs.YtjeecehhcajfaaaDoorW.PrintWords Go.Proofs.YtjeecehhcajfaaaDoorW.PrintLast
set_option linter.unusedVariables false
theorem F13.run : ∀ k, F13.f (k + 60) months = some true := fun k => by kernel_rfl
theorem F13.true : Ev (fun k => F13.f k months) true :=
 ⟨60, fun k hk => by
  obtain ⟨j, rfl⟩ : ∃ j, k = j + 60 := ⟨k - 60, by omega⟩; exact F13.run j⟩
end Go.Proofs.YtjeecehhcajfaaaDoor.M
end
