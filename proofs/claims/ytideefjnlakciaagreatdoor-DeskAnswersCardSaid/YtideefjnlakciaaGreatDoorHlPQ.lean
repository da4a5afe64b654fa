/- metronomelaw.DeskAnswers returns true, whatever the text: for every input; the card ties what start-up lays. -/
import Derived.Test.YtideefjnlakciaaGreatDoorQ00
import Derived.Test.YtideefjnlakciaaGreatDoorQ35
import Derived.Test.YtideefjnlakciaaGreatDoorQ02
import Derived.SizedLaws
import Derived.ChangeMaps5
import Derived.Stop.Joined
import Derived.SevenTiedAt
set_option maxRecDepth 1000000
set_option maxHeartbeats 20000000
set_option linter.unusedVariables false
set_option linter.unusedSimpArgs false
namespace Go.Proofs.YtideefjnlakciaaGreatDoor
open Go.RowKit Go.Proofs.Tryz
section
open Go.ChangeShapes Go.WideShapes Go.ChangeAt
theorem rb(os:Os)(started:os.Started)(H:Type)(enc:TypeId×Value->H):ReturnsInHanded {} checked os 4 .any (fun w args=>(Rows.deskAnswersSpec.pre enc prog f4 [] false w args/\laidMetH prog Rows.deskAnswersRow.laid w)/\sizedMet enc prog f4 (OpenSpec.ofChange Rows.deskAnswersSpec) false w args) (Rows.deskAnswersSpec.post enc prog f4 false true false false):=by
 refine returnsInHanded_of_change_and (C:=checked) (X:=fun w _=>laidMetH prog Rows.deskAnswersRow.laid w) (fun _ _ _ Y h=>h.of_heap Y) own started ai func4 (ChangeSpec.witness_shaped (enc:=enc) (C:=checked) (os:=os) (X:=fun w _=>laidMetH prog Rows.deskAnswersRow.laid w) false (rz os) #[.string ⟨#[]⟩] 8 (World.laidAll_os _ _ _) (rZ os _) ai ai ai (uL os _)) ?_;intro W base args s gs before T J a2 O Z _;have E:(DataW.weightsEach prog (f4.params.toList++Rows.deskAnswersSpec.plain.varTypes prog) (s++gs)).all (· <=reachBytes)=true:=O;clear O;have z: ∀(j:Nat) t v,f4.params[j]? =some t->args[j]? =some v->Value.okWide prog W .any base t v:=T;have U:=J;obtain⟨p,q,hA0,a0,rfl,ap,a3⟩:=J;have I:DataW.TrodAll enc prog W 0 (fun _=>true) true f4.params.toList args.toList s p:=hA0;rw[params4] at I z E;obtain⟨v0,a5,d0,aA,a4,ao,al,rfl,rfl,h0,ad⟩:=trodAll_cons I;obtain⟨rfl,rfl,rfl⟩:=trodAll_nil ad;obtain rfl:args= #[v0]:=by cases args;simp_all
 have fin:Calls prog 4 #[v0] W fun e w'=>e=.returned (.bool true)/\Below W.heap.size W w':=by obtain⟨a,rfl,rfl,rfl,-⟩:=Go.ChangeMaps.open_string underlying9 (z 0 9 v0 rfl rfl) h0;have K:=sized_string E (j:=0) (t:=9) (bytes:=a.data.toList) rfl rfl;rw[show a.data.toList.length=a.size from ak] at K;simp only[reachBytes] at K;obtain⟨aa,hF⟩:=zf Z;exact AT a W aa hF ah
 refine fin.mono fun e am ⟨he,ac⟩=> ?_;subst he;exact⟨_,rfl,IL rfl (fun s hd=>by match s,hd with|[d0],_=>rfl) (by rw[params4];intro t u;simp at u;subst u;exact⟨ai,dv ai⟩) ai U ac⟩
theorem sW:Rows.DeskAnswersSaid:=OpenClaim.holds_of_wide 4 f4 rfl rfl rfl rfl rfl rfl rfl ⟨rfl,rfl,rfl,rfl,rfl⟩ rfl rfl rfl rfl rfl ai func4 ai (dv ai) (by unfold Func.isWrapper;first|(rw[aM (by decide+kernel)];kernel_rfl)|(rw[aI (by decide+kernel)];exact⟨rfl,rfl⟩)) (fun os started H enc _=>rb os started H enc)
theorem deskAnswers_holds:Rows.DeskAnswersCardSaid:=Claim7.holds_tied_plain_at .later [] _ _ _ _ sW (fun _ h=>by cases h) ai (fun _ h=>by cases h) deskAnswers_row_tie rfl ⟨rfl,rfl⟩ ai rfl (fun f fn s u=>by obtain rfl:f=4:=bg ((show prog.funcNamed "metronome/metronomelaw.DeskAnswers" =some 4 from ai).symm.trans s)|>.symm;obtain rfl:fn=f4:=(bg (func4.symm.trans u)).symm;exact⟨ai,fun j t e=>by rw[params4] at e;have hm:=Array.mem_of_getElem? e;simp at hm;subst hm;exact(show prog.wantsStandIn _=false from ai)⟩) ai
#print axioms deskAnswers_holds
end
end Go.Proofs.YtideefjnlakciaaGreatDoor
