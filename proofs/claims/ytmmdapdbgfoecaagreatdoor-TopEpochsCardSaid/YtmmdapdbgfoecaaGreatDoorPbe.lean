/- Part 31 of TopEpochs' proof: what the functions that it reaches do, each with its conditions. -/
import Derived.Test.YtmmdapdbgfoecaaGreatDoorPaa
import Derived.JoinedOf
import Derived.KernelRfl
import Derived.SevenTiedAt
set_option linter.unusedVariables false
set_option linter.unusedSimpArgs false
set_option maxHeartbeats 6400000
set_option maxRecDepth 100000
section
namespace Go.Proofs.YtmmdapdbgfoecaaGreatDoor.topEpochs
open Go.Proofs.Tryz
theorem andT {a b:Bool} (h:a=true) (k:b=true):(a&&b)=true:=by rw [h,k];rfl
theorem fact0:(Rows.topEpochsRow.wf (OpenSpec.ofChange Rows.topEpochsSpec))=true:=zK
theorem fact1:(laidOutB prog)=true:=zK
theorem fact2:(mapsRowed prog)=true:=zK
theorem fact3:(Tryz.f4.params.all (prog.readableRec ·))=true:=zK
theorem fact4:(namedTie prog Rows.topEpochsRow.named Rows.topEpochsSpec.vars)=true:=zK
theorem fact5:((Rows.topEpochsRow.stops==[]))=true:=zK
theorem fact6:((prog.stops==[]))=true:=zK
theorem fact7:((Rows.topEpochsRow.knobs==[]))=true:=zK
theorem fact8:((prog.stopKnobs==[]))=true:=zK
theorem fact9:((Rows.topEpochsRow.inPlace==prog.inPlace 4))=true:=zK
theorem fact10:((Rows.topEpochsRow.unfollowed==prog.unfollowed 4))=true:=zK
theorem fact11:((Rows.topEpochsRow.recurses==prog.recurses 4))=true:=zK
theorem fact12:((Rows.topEpochsRow.named==prog.varsNamed 4))=true:=zK
theorem fact13:((Rows.topEpochsRow.maps==(Tryz.f4.params.toList++Rows.topEpochsSpec.plain.varTypes prog).any (prog.mapsRec ·)))=true:=zK
theorem fact14:((Rows.topEpochsRow.ifaces==(Tryz.f4.params.toList++Rows.topEpochsSpec.plain.varTypes prog).any (prog.ifacesRec ·)))=true:=zK
theorem fact15:((Rows.topEpochsRow.mapsOut==prog.mapsAmong Tryz.f4.resultTypes.toList))=true:=zK
theorem fact16:((Rows.topEpochsRow.loops==(Tryz.f4.params.toList++Rows.topEpochsSpec.plain.varTypes prog).any (prog.loopsFrom ·)))=true:=zK
theorem fact17:((Rows.topEpochsRow.wideKeys==(Tryz.f4.params.toList++Rows.topEpochsSpec.plain.varTypes prog++Tryz.f4.resultTypes.toList).any (prog.wideKeysFrom ·)))=true:=zK
theorem fact18:(Rows.topEpochsSpec.vars.all (prog.varReadable ·))=true:=zK
theorem fact19:(Tryz.f4.resultTypes.all (λt=>prog.readableRec t&&decide (t<prog.types.size)))=true:=zK
theorem fact20:((Rows.topEpochsRow.ifacesOut==Tryz.f4.resultTypes.toList.any (prog.ifacesRec ·)))=true:=zK
theorem fact21:((Rows.topEpochsRow.loopsOut==Tryz.f4.resultTypes.toList.any (prog.loopsFrom ·)))=true:=zK
theorem fact22:((Rows.topEpochsRow.plainKeys==prog.plainKeys))=true:=zK
theorem fact23:(Rows.topEpochsRow.shortTexts.isNone)=true:=zK
theorem fact24:(prog.stopsHeard)=true:=zK
theorem fact25:(prog.mayEnter)=true:=zK
theorem fact26:((Rows.topEpochsRow.lifted==prog.liftsFinal))=true:=zK
theorem fact27:((prog.make==some Rows.topEpochsRow.make))=true:=zK
theorem fact28:((Rows.topEpochsRow.kinds==(if Rows.topEpochsRow.domain.isEmpty then [] else Tryz.f4.params.toList.map λt=>match prog.underlying t with | some (.int k)=>some k | _=>none)))=true:=zK
theorem fact29:((Rows.topEpochsRow.pinned==Rows.topEpochsRow.pinnedBy))=true:=zK
theorem fact30:((Rows.topEpochsRow.veiled==(Tryz.f4.params.toList++Rows.topEpochsSpec.plain.varTypes prog++Tryz.f4.resultTypes.toList).any (prog.veiledRec ·)))=true:=zK
theorem fact31:(Rows.topEpochsRow.veiledFits prog Tryz.f4.params.toList (Tryz.f4.params.toList++Rows.topEpochsSpec.plain.varTypes prog++Tryz.f4.resultTypes.toList))=true:=zK
end Go.Proofs.YtmmdapdbgfoecaaGreatDoor.topEpochs
end
section
namespace Go.Proofs.YtmmdapdbgfoecaaGreatDoor.topEpochs
open Go.Proofs.Tryz
theorem rowNamed:Tryz.pinned.checked.prog.funcNamed Rows.topEpochsRow.func=some 4:=zK
theorem rowInst:Tryz.f4.isInstance Tryz.pinned.checked.prog Rows.topEpochsRow.origin Rows.topEpochsRow.targs:=of_decide_eq_true zK
theorem rowWrap:Tryz.f4.isWrapper Tryz.pinned.checked.prog Rows.topEpochsRow.wrapper Rows.topEpochsRow.mainSum:=by unfold Func.isWrapper;first | (rw [if_pos (by decide +kernel)];kernel_rfl) | (rw [if_neg (by decide +kernel)];exact ⟨rfl,rfl⟩)
theorem rowWf:Rows.topEpochsRow.wfByText (OpenSpec.ofChange Rows.topEpochsSpec)=true:=zK
theorem rowMain:Tryz.pinned.checked.prog.mainIs=some (true, "b552d7cbcc5e53d862ff40e74d95dea5edc1cc93d21f4395b612e222efb769ea".toList):=zK
theorem rowLooks:true=Tryz.pinned.checked.prog.looks []:=zK
theorem rowStand:([31,3,3,3].all λa=>!prog.wantsStandIn a)=true:=zK
theorem rowGoes:false=Rows.topEpochsRow.goesBy Tryz.pinned.checked.prog:=zK
end Go.Proofs.YtmmdapdbgfoecaaGreatDoor.topEpochs
end
