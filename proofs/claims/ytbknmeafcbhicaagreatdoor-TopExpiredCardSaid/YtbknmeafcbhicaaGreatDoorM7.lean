/- Texts of this proof, put together by program; each has its own remark. -/
import Derived.Test.YtbknmeafcbhicaaGreatDoorM6

/- The run of a function without arguments, reckoned by the kernel: it yields true, in every world, and leaves what was there as it was. -/
namespace Go.Proofs.YtbknmeafcbhicaaGreatDoor.Ev.Aw
open Go
theorem run_awake:trueR (evCallF (tabF tabT) 100000 60 8 [] m0)=true:=by kernel_rfl
theorem awake (w:World):Calls Tryz.prog 8 #[] w fun e w'=>e=.returned (.bool true)∧Ext w w':=closed_true (sound_of tabT_eq tabL_ok mixed 100000 60) run_awake w
end Go.Proofs.YtbknmeafcbhicaaGreatDoor.Ev.Aw
