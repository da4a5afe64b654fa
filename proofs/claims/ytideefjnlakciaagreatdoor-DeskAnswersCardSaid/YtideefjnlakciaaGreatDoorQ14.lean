/- errors.As at an Errno, or an At around one, into an Errno's variable; and api.Tell; condition: errors.errorType holds what start-up lays there. -/
import Derived.Test.YtideefjnlakciaaGreatDoorQ00
import Derived.Test.YtideefjnlakciaaGreatDoorQ01
import Derived.LaidEql
import Derived.LaidEqlPtr
import Derived.Stop.Asserts
import Derived.RowKitTokens
import Derived.StillTactics
set_option maxRecDepth 1000000
set_option maxHeartbeats 20000000
set_option linter.unusedVariables false
set_option linter.unusedSimpArgs false
namespace Go.Proofs.YtideefjnlakciaaGreatDoor
open Go.RowKit Go.Proofs.Tryz
section
open Go.Extern.Stop Go.Stop Go.Extern
abbrev mG(t:Nat):Value:=.pointer (some ⟨10,t,none⟩)
abbrev nQ(w:World):Prop:=w.cell? ⟨4,0,none⟩=some (.iface 277 (.agg #[mG 48]))
theorem tp(t:Addr)(w:World):(ReflectliteValue.unpack (.iface 181 (.pointer (some t)))).run prog w=.ok (.agg #[mG 181,.pointer (some ⟨w.heap.size,0,none⟩),.int .u64 150]) (w.alloc (.cells #[.pointer (some t)] 181)):=ai
theorem Ac(a:Addr)(w:World):(ReflectliteValue.methodAny (ReflectliteValue.valueError "reflectlite.Value.Type" 0) (fun t _ _ _=>ReflectliteType.toType t) #[.agg #[mG 181,.pointer (some a),.int .u64 150]]).run prog w=.ok (.iface 277 (.agg #[mG 181])) w:=ai
theorem qO(h:Value)(w:World):(Go.method 452 277 (.agg #[h]) "Kind").run prog w=.ok (231,h) w:=ai
theorem As(w:World):((ReflectliteType.abiMethod fun t=>Functor.map (fun a:Nat=>Value.int IntKind.u8 (a:Int)) (Rtype.kind t)) #[mG 181]).run prog w=.ok (.int .u8 22) w:=ai
theorem AX(w:World):((ReflectliteType.abiMethod fun t=>Functor.map (fun a:Nat=>Value.int IntKind.u8 (a:Int)) (Rtype.kind t)) #[mG 61]).run prog w=.ok (.int .u8 2) w:=ai
theorem Q7(z:Sem Value)(f:TypeId->Addr->Nat->Nat->Sem Value)(v:Value):ReflectliteValue.method z f #[v]=(do match<-ReflectliteValue.parts v with|none=>z|some (t,a,e)=>f t a e (e%32)):=rfl
theorem yc(a:Addr)(w:World):(ReflectliteValue.parts (.agg #[mG 181,.pointer (some a),.int .u64 150])).run prog w=.ok (some (181,a,150)) w:=ai
theorem xy(a p:Addr)(W:World)(e:W.cell? a=some (.pointer (some p))):(ReflectliteValue.method (ReflectliteValue.valueError "reflectlite.Value.IsNil" 0) ReflectliteValue.isNil #[.agg #[mG 181,.pointer (some a),.int .u64 150]]).run prog W=.ok (.bool false) W:=by rw[Q7];simp only[bZ,yc,Result.andThen];simp[ReflectliteValue.isNil,loadVar,isAgg,underlying,underlying181,e,Result.andThen]
theorem qK(h:Value)(w:World):(Go.method 452 277 (.agg #[h]) "Elem").run prog w=.ok (250,.agg #[h]) w:=ai
theorem mC(h:Value)(w:World):(Go.method 452 277 (.agg #[h]) "Implements").run prog w=.ok (251,.agg #[h]) w:=ai
theorem lC(h:Value)(w:World):(Go.method 452 277 (.agg #[h]) "AssignableTo").run prog w=.ok (248,.agg #[h]) w:=ai
theorem Bp(w:World):(ReflectliteType.method ReflectliteType.elem #[.agg #[mG 181]]).run prog w=.ok (.iface 277 (.agg #[mG 61])) w:=ai
theorem qg(w:World):(ReflectliteType.relation "Implements" ReflectliteType.implements_ #[.agg #[mG 61],.iface 277 (.agg #[mG 48])]).run prog w=.ok (.bool true) w:=ai
theorem wm(v:Value)(w:World):(ReflectliteType.typeOf #[.iface 61 v]).run prog w=.ok (.iface 277 (.agg #[mG 61])) w:=ai
theorem pM(w:World):(ReflectliteType.relation "AssignableTo" ReflectliteType.assignableTo #[.agg #[mG 61],.iface 277 (.agg #[mG 61])]).run prog w=.ok (.bool true) w:=ai
theorem tE(e:Int)(w:World):(ReflectliteValue.unpack (.iface 61 (.int .i64 e))).run prog w=.ok (.agg #[mG 61,.pointer (some ⟨w.heap.size,0,none⟩),.int .u64 130]) (w.alloc (.cells #[.int .i64 e] 61)):=ai
theorem CI(w:World):(Rtype.elem? 181).run prog w=.ok (some 61) w:=ai
theorem Ow(p:Addr)(w:World):(ReflectliteValue.mk 61 p ReflectliteValue.flagAddr).run prog w=.ok (.agg #[mG 61,.pointer (some p),.int .u64 386]) w:=ai
theorem xU(a p:Addr)(W:World)(e:W.cell? a=some (.pointer (some p))):(ReflectliteValue.method (ReflectliteValue.valueError "reflectlite.Value.Elem" 0) ReflectliteValue.elem #[.agg #[mG 181,.pointer (some a),.int .u64 150]]).run prog W=.ok (.agg #[mG 61,.pointer (some p),.int .u64 386]) W:=by rw[Q7];simp only[bZ,yc,Result.andThen];simp[ReflectliteValue.elem,loadVar,isAgg,underlying,underlying181,e,Result.andThen,CI,Ow]
theorem Rm (v x : Value) : ReflectliteValue.set #[v, x] = (do
 let (some (dst, a, fl), some (src, b, _)) := (← ReflectliteValue.parts v, ← ReflectliteValue.parts x)
  | unsupported (.noEntry "extern/(internal/reflectlite.Value).Set.zeroValue")
 if fl / ReflectliteValue.flagAddr % 2 == 0 then unsupported (.noEntry "extern/(internal/reflectlite.Value).Set.unaddressable")
 let val ← loadVar src b
 if ← Rtype.directlyAssignable dst src then storeVar dst a val
 else if ← Rtype.implements dst src then
  if (← Rtype.kind src) == 20 then
   match val with
   | .nilIface => unsupported (.noEntry "extern/reflectlite: a nil value of one interface type handed on as a value of another")
   | _ => storeVar dst a val
  else storeVar dst a (.iface src val)
 else panicString ("reflectlite.Set: value of type " ++ (← Rtype.spelt src) ++ " is not assignable to type " ++ (← Rtype.spelt dst))
 pure (.tuple #[])) := rfl
theorem Cb(a:Addr)(w:World):(ReflectliteValue.parts (.agg #[mG 61,.pointer (some a),.int .u64 386])).run prog w=.ok (some (61,a,386)) w:=ai
theorem Gu(a:Addr)(w:World):(ReflectliteValue.parts (.agg #[mG 61,.pointer (some a),.int .u64 130])).run prog w=.ok (some (61,a,130)) w:=ai
theorem B5(w:World):(Rtype.directlyAssignable 61 61).run prog w=.ok true w:=ai
theorem Ei(h b:Addr)(e:Int)(old:Value)(W:World)(u:W.cell? b=some (.int .i64 e))(j:W.cell? h=some old)(s:W.frozen? h=false):(ReflectliteValue.set #[.agg #[mG 61,.pointer (some h),.int .u64 386],.agg #[mG 61,.pointer (some b),.int .u64 130]]).run prog W=.ok (.tuple #[]) (W.setCell h (.int .i64 e)):=by rw[Rm];simp only[bZ,Cb,Gu,Result.andThen];simp[ReflectliteValue.flagAddr,loadVar,isAgg,underlying,underlying61,u,Result.andThen,B5,storeVar,Value.cells,storeCells,Addr.add];rw[run_store prog W h _ _ (by rfl)];simp[j,s]
theorem Ln(v:Value)(e:TypeId)(w:World):(Instr.typeAssert (.iface 258 v) e 282 true).run prog w=.ok (.tuple #[.nilIface,.bool false]) w:=run_typeAssert_lacksB underlying282 ai ai v e w
theorem yY(v:Value)(e:TypeId)(w:World):(Instr.typeAssert (.iface 258 v) e 285 true).run prog w=.ok (.tuple #[.iface 258 v,.bool true]) w:=run_typeAssert_hasB underlying285 ai v e w
theorem CK(v:Value)(w:World):(ReflectliteType.typeOf #[.iface 258 v]).run prog w=.ok (.iface 277 (.agg #[mG 258])) w:=ai
theorem vN(w:World):(ReflectliteType.relation "AssignableTo" ReflectliteType.assignableTo #[.agg #[mG 258],.iface 277 (.agg #[mG 61])]).run prog w=.ok (.bool false) w:=ai
theorem tP(a:Addr)(w:World):(Go.method 452 258 (.pointer (some a)) "Unwrap").run prog w=.ok (246,.pointer (some a)) w:=ai
theorem Iv(e:Int)(t:Addr)(old:Value)(w:World)(j:nQ w)(h:w.cell? t=some old)(z:w.frozen? t=false):Calls prog 108 #[.iface 61 (.int .i64 e),.iface 181 (.pointer (some t))] w fun u w'=>u=.returned (.bool true)/\w'=((((w.alloc (.cells #[.pointer (some t)] 181)).alloc (.cells #[mG 181,.pointer (some ⟨w.heap.size,0,none⟩),.int .u64 150] 236)).alloc (.cells #[mG 181,.pointer (some ⟨w.heap.size,0,none⟩),.int .u64 150] 236)).alloc (.cells #[.int .i64 e] 61)).setCell t (.int .i64 e):=by
 have h6:= @bA prog 149 _ (fun args=>ReflectliteValue.unpack (args.getD 0 (.tuple #[]))) func149 ai ai ai ai;have h7:= @bA prog 150 _ (ReflectliteValue.methodAny (ReflectliteValue.valueError "reflectlite.Value.Type" 0) (fun t _ _ _=>ReflectliteType.toType t)) func150 ai ai ai ai;have h8:= @bA prog 151 _ (ReflectliteValue.method (ReflectliteValue.valueError "reflectlite.Value.IsNil" 0) ReflectliteValue.isNil) func151 ai ai ai ai;have h27:= @bA prog 231 _ (ReflectliteType.abiMethod fun t=>do pure (.int .u8 (<-Rtype.kind t))) func231 ai ai ai ai;have h37:= @bA prog 250 _ (ReflectliteType.method ReflectliteType.elem) func250 ai ai ai ai;have h38:= @bA prog 251 _ (ReflectliteType.relation "Implements" ReflectliteType.implements_) func251 ai ai ai ai;have h10:= @bA prog 182 _ ReflectliteType.typeOf func182 ai ai ai ai;have h35:= @bA prog 248 _ (ReflectliteType.relation "AssignableTo" ReflectliteType.assignableTo) func248 ai ai ai ai;have h11:= @bA prog 183 _ (ReflectliteValue.method (ReflectliteValue.valueError "reflectlite.Value.Elem" 0) ReflectliteValue.elem) func183 ai ai ai ai;have h12:= @bA prog 184 _ ReflectliteValue.set func184 ai ai ai ai;have U:=wm;have Y:=lC;have a25:=pM;have v25:=tE;have f6:=tp;have f7:=Ac;have E:=qO;have X:=qK;have I:=mC;have O:=As;have T:=AX;have K:=Bp;have i25:=qg;have n8:=xy ⟨w.heap.size,0,none⟩ t ((w.alloc (.cells #[.pointer (some t)] 181)).alloc (.cells #[mG 181,.pointer (some ⟨w.heap.size,0,none⟩),.int .u64 150] 236)) ak;have C:4<w.heap.size:=aG w ⟨4,0,none⟩ j;have J:((w.alloc (.cells #[.pointer (some t)] 181)).alloc (.cells #[mG 181,.pointer (some ⟨w.heap.size,0,none⟩),.int .u64 150] 236)).cell? ⟨4,0,none⟩=some (.iface 277 (.agg #[mG 48])):=by rw[bF _ _ ⟨4,0,none⟩ af,bF _ _ ⟨4,0,none⟩ C];exact j
 have s:t.block<w.heap.size:=aG w t h;have el:=xU ⟨w.heap.size,0,none⟩ t (((w.alloc (.cells #[.pointer (some t)] 181)).alloc (.cells #[mG 181,.pointer (some ⟨w.heap.size,0,none⟩),.int .u64 150] 236)).alloc (.cells #[mG 181,.pointer (some ⟨w.heap.size,0,none⟩),.int .u64 150] 236)) (by rw[bF _ _ ⟨w.heap.size,0,none⟩ ag];simp);have st:=Ei t ⟨w.heap.size+1+1+1,0,none⟩ e old ((((w.alloc (.cells #[.pointer (some t)] 181)).alloc (.cells #[mG 181,.pointer (some ⟨w.heap.size,0,none⟩),.int .u64 150] 236)).alloc (.cells #[mG 181,.pointer (some ⟨w.heap.size,0,none⟩),.int .u64 150] 236)).alloc (.cells #[.int .i64 e] 61)) (by rw[World.cell?_alloc_at _ _ _ _ ak];rfl) (by rw[bF _ _ t ag,bF _ _ t ag,bF _ _ t ag,bF _ _ t s];exact h) (by rw[cH _ _ t ag,cH _ _ t ag,cH _ _ t ag,cH _ _ t (bH s)];exact z);go_enter func108,ntmps108;go_wp2;refine wp_loop_rounds 1 ?_;rw[rounds_succ];go_wp2;go_ret;exact⟨rfl,rfl⟩
end
end Go.Proofs.YtideefjnlakciaaGreatDoor
