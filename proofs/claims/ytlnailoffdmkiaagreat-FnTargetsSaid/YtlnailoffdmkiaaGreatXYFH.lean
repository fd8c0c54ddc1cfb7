/-
  THE SIZE of a module.
-/
import Derived.Test.YtlnailoffdmkiaaGreatXYFM
import Derived.Test.YtlnailoffdmkiaaGreatXYlaw
import Derived.Test.YtlnailoffdmkiaaGreatXYpl
set_option linter.unusedVariables false
namespace M
def SIns.sz (a : SIns) : Nat := 0
theorem SIns.sz_eq (a : SIns) : a.sz = 0 := rfl
def SCore.sz (a : SCore) : Nat := (a.Name).length + szL SIns.sz (a.Code)
theorem SCore.sz_eq (a : SCore) : a.sz = (a.Name).length + szL SIns.sz (a.Code) := rfl
def SImport.sz (a : SImport) : Nat := (a.Name).length
theorem SImport.sz_eq (a : SImport) : a.sz = (a.Name).length := rfl
def SModule.sz (a : SModule) : Nat := szL SImport.sz (a.Imports) + szL SCore.sz (a.Cores)
theorem SModule.sz_eq (a : SModule) : a.sz = szL SImport.sz (a.Imports) + szL SCore.sz (a.Cores) := rfl
end M
