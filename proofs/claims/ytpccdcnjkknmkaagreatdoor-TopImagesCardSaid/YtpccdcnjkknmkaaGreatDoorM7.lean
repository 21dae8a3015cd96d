/- Texts of this proof, put together by program; each has its own remark. -/
import Derived.Test.YtpccdcnjkknmkaaGreatDoorM6

namespace Go.Proofs.YtpccdcnjkknmkaaGreatDoor.Ev.Aw
open Go
theorem vC5:uU3 (yN6 (tabF tabT) 100000 60 10 [] m0)=true:=by kernel_rfl
theorem awake (w:World):Calls Tryz.prog 10 #[] w fun e w'=>e=.returned (.bool true)/\Ext w w':=xY5 (vZ8 rfl uV5 mixed 100000 60) vC5 w
end Go.Proofs.YtpccdcnjkknmkaaGreatDoor.Ev.Aw
