/- Texts of this proof, put together by program; each has its own remark. -/
import Derived.Test.YtpccdcnjkknmkaaGreatDoorRows
import Derived.JoinedOf

namespace Go.Proofs.YtpccdcnjkknmkaaGreatDoor.topImages
open Go
theorem fact0:(Rows.topImagesRow.wf (OpenSpec.ofChange (OpenSpec.ofChange Rows.topImagesSpec).bare))=true:=by kernel_rfl
theorem fact1:(laidOutB Tryz.pinned.checked.prog)=true:=by kernel_rfl
theorem fact2:(mapsRowed Tryz.pinned.checked.prog)=true:=by kernel_rfl
theorem fact3:(Tryz.f3.params.all (Tryz.pinned.checked.prog.readableRec ·))=true:=by kernel_rfl
theorem fact4:(namedTie Tryz.pinned.checked.prog Rows.topImagesRow.named (OpenSpec.ofChange Rows.topImagesSpec).bare.vars)=true:=by kernel_rfl
theorem fact5:((Rows.topImagesRow.stops == []))=true:=by kernel_rfl
theorem fact6:((Tryz.pinned.checked.prog.stops == []))=true:=by kernel_rfl
theorem fact7:((Rows.topImagesRow.knobs == []))=true:=by kernel_rfl
theorem fact8:((Tryz.pinned.checked.prog.stopKnobs == []))=true:=by kernel_rfl
theorem fact9:((Rows.topImagesRow.inPlace == Tryz.pinned.checked.prog.inPlace 3))=true:=by kernel_rfl
theorem qV9:((Rows.topImagesRow.unfollowed == Tryz.pinned.checked.prog.unfollowed 3))=true:=by kernel_rfl
theorem qV8:((Rows.topImagesRow.recurses == Tryz.pinned.checked.prog.recurses 3))=true:=by kernel_rfl
theorem qV7:((Rows.topImagesRow.named == Tryz.pinned.checked.prog.varsNamed 3))=true:=by kernel_rfl
theorem qV6:((Rows.topImagesRow.maps == (Tryz.f3.params.toList++(OpenSpec.ofChange Rows.topImagesSpec).bare.plain.varTypes Tryz.pinned.checked.prog).any (Tryz.pinned.checked.prog.mapsRec ·)))=true:=by kernel_rfl
theorem qV5:((Rows.topImagesRow.ifaces == (Tryz.f3.params.toList++(OpenSpec.ofChange Rows.topImagesSpec).bare.plain.varTypes Tryz.pinned.checked.prog).any (Tryz.pinned.checked.prog.ifacesRec ·)))=true:=by kernel_rfl
theorem qV4:((Rows.topImagesRow.mapsOut == Tryz.pinned.checked.prog.mapsAmong Tryz.f3.resultTypes.toList))=true:=by kernel_rfl
theorem qV3:((Rows.topImagesRow.loops == (Tryz.f3.params.toList++(OpenSpec.ofChange Rows.topImagesSpec).bare.plain.varTypes Tryz.pinned.checked.prog).any (Tryz.pinned.checked.prog.loopsFrom ·)))=true:=by kernel_rfl
theorem qV2:((Rows.topImagesRow.wideKeys == (Tryz.f3.params.toList++(OpenSpec.ofChange Rows.topImagesSpec).bare.plain.varTypes Tryz.pinned.checked.prog++Tryz.f3.resultTypes.toList).any (Tryz.pinned.checked.prog.wideKeysFrom ·)))=true:=by kernel_rfl
theorem qV1:((OpenSpec.ofChange Rows.topImagesSpec).bare.vars.all (Tryz.pinned.checked.prog.varReadable ·))=true:=by kernel_rfl
theorem qV0:(Tryz.f3.resultTypes.all (fun t=>Tryz.pinned.checked.prog.readableRec t&&decide (t < Tryz.pinned.checked.prog.types.size)))=true:=by kernel_rfl
theorem qU9:((Rows.topImagesRow.ifacesOut == Tryz.f3.resultTypes.toList.any (Tryz.pinned.checked.prog.ifacesRec ·)))=true:=by kernel_rfl
theorem qU8:((Rows.topImagesRow.loopsOut == Tryz.f3.resultTypes.toList.any (Tryz.pinned.checked.prog.loopsFrom ·)))=true:=by kernel_rfl
theorem qU7:((Rows.topImagesRow.plainKeys == Tryz.pinned.checked.prog.plainKeys))=true:=by kernel_rfl
theorem qU6:(Rows.topImagesRow.shortTexts.isNone)=true:=by kernel_rfl
theorem qU5:(Tryz.pinned.checked.prog.stopsHeard)=true:=by kernel_rfl
theorem qU4:(Tryz.pinned.checked.prog.mayEnter)=true:=by kernel_rfl
theorem qU3:((Rows.topImagesRow.lifted == Tryz.pinned.checked.prog.liftsFinal))=true:=by kernel_rfl
theorem qU2:((Tryz.pinned.checked.prog.make == some Rows.topImagesRow.make))=true:=by kernel_rfl
theorem fact28:((Rows.topImagesRow.kinds == (if Rows.topImagesRow.domain.isEmpty then [] else Tryz.f3.params.toList.map fun t=>match Tryz.pinned.checked.prog.underlying t with | some (.int k)=>some k | _=>none)))=true:=by kernel_rfl
theorem qU1:((Rows.topImagesRow.pinned == Rows.topImagesRow.pinnedBy))=true:=by kernel_rfl
theorem qU0:((Rows.topImagesRow.veiled == (Tryz.f3.params.toList++(OpenSpec.ofChange Rows.topImagesSpec).bare.plain.varTypes Tryz.pinned.checked.prog++Tryz.f3.resultTypes.toList).any (Tryz.pinned.checked.prog.veiledRec ·)))=true:=by kernel_rfl
theorem qT9:(Rows.topImagesRow.veiledFits Tryz.pinned.checked.prog Tryz.f3.params.toList (Tryz.f3.params.toList++(OpenSpec.ofChange Rows.topImagesSpec).bare.plain.varTypes Tryz.pinned.checked.prog++Tryz.f3.resultTypes.toList))=true:=by kernel_rfl
end Go.Proofs.YtpccdcnjkknmkaaGreatDoor.topImages
