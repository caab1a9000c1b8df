/- Texts that a proof of this claim uses, joined: Lw.S28. -/
import Derived.Test.YtffnaiofjjgcgaaTc
import Derived.Test.YtffnaiofjjgcgaaDvb
import Derived.KernelRfl
set_option linter.all false
/- The examples of layer 28. -/
namespace Dv

theorem sane1 : runP E (dC E 200) 1 [] = some (.bool true) := by kernel_rfl
theorem sane1' : runP E (dL E) 1 [] = some (.bool true) := runP_mono (fun _ _ _ h => dC_dL _ _ _ h) sane1

end Dv
