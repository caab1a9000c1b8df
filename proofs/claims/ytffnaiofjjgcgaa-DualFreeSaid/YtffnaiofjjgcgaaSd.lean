/- Texts that a proof of this claim uses, joined: Lw.S29. -/
import Derived.Test.YtffnaiofjjgcgaaTc
import Derived.Test.YtffnaiofjjgcgaaTy
import Derived.Test.YtffnaiofjjgcgaaDvb
import Derived.KernelRfl
set_option linter.all false
/- The examples of layer 29; typed multipliers. -/
namespace Dv

theorem sane35 : runP E (dC E 200) 35 [] = some (.bool true) := by kernel_rfl
theorem sane35' : runP E (dL E) 35 [] = some (.bool true) := runP_mono (fun _ _ _ h => dC_dL _ _ _ h) sane35

end Dv
