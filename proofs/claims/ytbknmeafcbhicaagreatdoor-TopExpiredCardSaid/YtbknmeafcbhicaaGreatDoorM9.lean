/- Texts of this proof, put together by program; each has its own remark. -/
import Derived.Test.YtbknmeafcbhicaaGreatDoorRows
import Derived.JoinedOf

/- The closed facts of the row of TopExpired, one theorem each, put together. Written by program (genfacts.py). -/
namespace Go.Proofs.YtbknmeafcbhicaaGreatDoor.topExpired
open Go
theorem fact0:(Rows.topExpiredRow.wf (OpenSpec.ofChange (OpenSpec.ofChange Rows.topExpiredSpec).bare))=true:=by kernel_rfl
theorem fact1:(laidOutB Tryz.pinned.checked.prog)=true:=by kernel_rfl
theorem fact2:(mapsRowed Tryz.pinned.checked.prog)=true:=by kernel_rfl
theorem fact3:(Tryz.f3.params.all (Tryz.pinned.checked.prog.readableRec ·))=true:=by kernel_rfl
theorem fact4:(namedTie Tryz.pinned.checked.prog Rows.topExpiredRow.named (OpenSpec.ofChange Rows.topExpiredSpec).bare.vars)=true:=by kernel_rfl
theorem fact5:((Rows.topExpiredRow.stops == []))=true:=by kernel_rfl
theorem fact6:((Tryz.pinned.checked.prog.stops == []))=true:=by kernel_rfl
theorem fact7:((Rows.topExpiredRow.knobs == []))=true:=by kernel_rfl
theorem fact8:((Tryz.pinned.checked.prog.stopKnobs == []))=true:=by kernel_rfl
theorem fact9:((Rows.topExpiredRow.inPlace == Tryz.pinned.checked.prog.inPlace 3))=true:=by kernel_rfl
theorem fact10:((Rows.topExpiredRow.unfollowed == Tryz.pinned.checked.prog.unfollowed 3))=true:=by kernel_rfl
theorem fact11:((Rows.topExpiredRow.recurses == Tryz.pinned.checked.prog.recurses 3))=true:=by kernel_rfl
theorem fact12:((Rows.topExpiredRow.named == Tryz.pinned.checked.prog.varsNamed 3))=true:=by kernel_rfl
theorem fact13:((Rows.topExpiredRow.maps == (Tryz.f3.params.toList++(OpenSpec.ofChange Rows.topExpiredSpec).bare.plain.varTypes Tryz.pinned.checked.prog).any (Tryz.pinned.checked.prog.mapsRec ·)))=true:=by kernel_rfl
theorem fact14:((Rows.topExpiredRow.ifaces == (Tryz.f3.params.toList++(OpenSpec.ofChange Rows.topExpiredSpec).bare.plain.varTypes Tryz.pinned.checked.prog).any (Tryz.pinned.checked.prog.ifacesRec ·)))=true:=by kernel_rfl
theorem fact15:((Rows.topExpiredRow.mapsOut == Tryz.pinned.checked.prog.mapsAmong Tryz.f3.resultTypes.toList))=true:=by kernel_rfl
theorem fact16:((Rows.topExpiredRow.loops == (Tryz.f3.params.toList++(OpenSpec.ofChange Rows.topExpiredSpec).bare.plain.varTypes Tryz.pinned.checked.prog).any (Tryz.pinned.checked.prog.loopsFrom ·)))=true:=by kernel_rfl
theorem fact17:((Rows.topExpiredRow.wideKeys == (Tryz.f3.params.toList++(OpenSpec.ofChange Rows.topExpiredSpec).bare.plain.varTypes Tryz.pinned.checked.prog++Tryz.f3.resultTypes.toList).any (Tryz.pinned.checked.prog.wideKeysFrom ·)))=true:=by kernel_rfl
theorem fact18:((OpenSpec.ofChange Rows.topExpiredSpec).bare.vars.all (Tryz.pinned.checked.prog.varReadable ·))=true:=by kernel_rfl
theorem fact19:(Tryz.f3.resultTypes.all (fun t=>Tryz.pinned.checked.prog.readableRec t&&decide (t < Tryz.pinned.checked.prog.types.size)))=true:=by kernel_rfl
theorem fact20:((Rows.topExpiredRow.ifacesOut == Tryz.f3.resultTypes.toList.any (Tryz.pinned.checked.prog.ifacesRec ·)))=true:=by kernel_rfl
theorem fact21:((Rows.topExpiredRow.loopsOut == Tryz.f3.resultTypes.toList.any (Tryz.pinned.checked.prog.loopsFrom ·)))=true:=by kernel_rfl
theorem fact22:((Rows.topExpiredRow.plainKeys == Tryz.pinned.checked.prog.plainKeys))=true:=by kernel_rfl
theorem fact23:(Rows.topExpiredRow.shortTexts.isNone)=true:=by kernel_rfl
theorem fact24:(Tryz.pinned.checked.prog.stopsHeard)=true:=by kernel_rfl
theorem fact25:(Tryz.pinned.checked.prog.mayEnter)=true:=by kernel_rfl
theorem fact26:((Rows.topExpiredRow.lifted == Tryz.pinned.checked.prog.liftsFinal))=true:=by kernel_rfl
theorem fact27:((Tryz.pinned.checked.prog.make == some Rows.topExpiredRow.make))=true:=by kernel_rfl
theorem fact29:((Rows.topExpiredRow.pinned == Rows.topExpiredRow.pinnedBy))=true:=by kernel_rfl
theorem fact30:((Rows.topExpiredRow.veiled == (Tryz.f3.params.toList++(OpenSpec.ofChange Rows.topExpiredSpec).bare.plain.varTypes Tryz.pinned.checked.prog++Tryz.f3.resultTypes.toList).any (Tryz.pinned.checked.prog.veiledRec ·)))=true:=by kernel_rfl
theorem fact31:(Rows.topExpiredRow.veiledFits Tryz.pinned.checked.prog Tryz.f3.params.toList (Tryz.f3.params.toList++(OpenSpec.ofChange Rows.topExpiredSpec).bare.plain.varTypes Tryz.pinned.checked.prog++Tryz.f3.resultTypes.toList))=true:=by kernel_rfl
end Go.Proofs.YtbknmeafcbhicaaGreatDoor.topExpired
