/- Tools and contracts under the laws of this seat: DevEvFz. -/
import Derived.Test.YtlejldoefoppaaaGreatDoorE02
set_option linter.unusedVariables false
set_option linter.unusedSimpArgs false
namespace Go.Ev
def HS.frz : HS → HS
 | .live o => .fz o
 | h => h
section
variable {C : Cfg}
end
end Go.Ev
