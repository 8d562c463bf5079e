/- Functions over pointers to structs of lists: the callee's side. -/
import Derived.Test.YteheolldcpjkcaaGreatQvXRes
import Derived.Test.YteheolldcpjkcaaGreatQvXCall
set_option linter.unusedSimpArgs false
set_option linter.unusedVariables false
set_option linter.unusedSectionVars false
namespace Go.Proofs.YteheolldcpjkcaaGreat.X
open Go Go.RowKit
variable [CW]
variable {C:Cx} {fr:Fr} {g:Sg} {a:Act} {w:World} {E:Env}
end Go.Proofs.YteheolldcpjkcaaGreat.X
