/- Texts that a proof of this claim uses, joined: Lw.S27. -/
import Derived.Test.YtffnaiofjjgcgaaTc
import Derived.Test.YtffnaiofjjgcgaaTy
import Derived.Test.YtffnaiofjjgcgaaDvb
import Derived.KernelRfl
set_option linter.all false
/- The examples of layer 27. -/
namespace Dv

theorem sane17 : runP E (dC E 200) 17 [] = some (.bool true) := by kernel_rfl
theorem sane17' : runP E (dL E) 17 [] = some (.bool true) := runP_mono (fun _ _ _ h => dC_dL _ _ _ h) sane17

end Dv
