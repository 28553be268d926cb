/- errors.As at the tunnel's own error, and told. -/
import Derived.Test.YtollcbacpoohlaaGreatDoorBase
import Derived.Test.YtollcbacpoohlaaGreatDoorChecked
import Derived.LaidEql
import Derived.Stop.Asserts
import Derived.RowKitTokens
namespace Go.Proofs.YtollcbacpoohlaaGreatDoor
open Go.RowKit Go.Extern.Stop Go.Stop Go.Extern

/-- The variable errors.errorType, as the program lays it. -/
def Et (w : World) : Prop := w.cell? ⟨0, 0, none⟩ = some (.iface 139 (.agg #[.pointer (some ⟨1, 72, none⟩)]))
theorem Et.keeps {S : List Nat} {w w' : World} (h : Et w) (hk : Keeps S w w') (hn : 0 ∉ S) : Et w' := (hk.cell (p := ⟨0, 0, none⟩) (World.block_lt_of_cell? w _ h) hn).trans h

theorem as_nil (t : Value) (w : World) :
    Calls Tryz.prog 61 #[.nilIface, t] w fun e w' => e = .returned (.bool false) ∧ w = w' := by
  go_enter Tryz.func61, Tryz.ntmps61
  go_wp2
  go_ret
  exact ⟨rfl, rfl⟩

theorem ew_valueOfP (t : Addr) (w : World) : (ReflectliteValue.unpack (.iface 100 (.pointer (some t)))).run Tryz.prog w
    = .ok (.agg #[.pointer (some ⟨1, 100, none⟩), .pointer (some ⟨w.heap.size, 0, none⟩), .int .u64 150]) (w.alloc (.cells #[.pointer (some t)] 100)) := by kernel_rfl
theorem ew_typeP (a : Addr) (w : World) : (ReflectliteValue.methodAny (ReflectliteValue.valueError "reflectlite.Value.Type" 0) (fun t _ _ _ => ReflectliteType.toType t) #[.agg #[.pointer (some ⟨1, 100, none⟩), .pointer (some a), .int .u64 150]]).run Tryz.prog w
    = .ok (.iface 139 (.agg #[.pointer (some ⟨1, 100, none⟩)])) w := by kernel_rfl
theorem ew_methodKind (h : Value) (w : World) : (Go.method 290 139 (.agg #[h]) "Kind").run Tryz.prog w = .ok (122, h) w := by kernel_rfl
theorem ew_kindP (w : World) : ((ReflectliteType.abiMethod fun t => (fun a : Nat => Value.int IntKind.u8 (a : Int)) <$> Rtype.kind t) #[.pointer (some ⟨1, 100, none⟩)]).run Tryz.prog w = .ok (.int .u8 22) w := by kernel_rfl
theorem ew_kindS (w : World) : ((ReflectliteType.abiMethod fun t => (fun a : Nat => Value.int IntKind.u8 (a : Int)) <$> Rtype.kind t) #[.pointer (some ⟨1, 75, none⟩)]).run Tryz.prog w = .ok (.int .u8 25) w := by kernel_rfl
theorem rlm (z : Sem Value) (f : TypeId → Addr → Nat → Nat → Sem Value) (v : Value) :
    ReflectliteValue.method z f #[v] = (do match ← ReflectliteValue.parts v with | none => z | some (t, a, fl) => f t a fl (fl % 32)) := rfl
theorem ew_partsP (a : Addr) (w : World) : (ReflectliteValue.parts (.agg #[.pointer (some ⟨1, 100, none⟩), .pointer (some a), .int .u64 150])).run Tryz.prog w = .ok (some (100, a, 150)) w := by kernel_rfl
theorem ew_isNilP (a p : Addr) (W : World) (ha : W.cell? a = some (.pointer (some p))) :
    (ReflectliteValue.method (ReflectliteValue.valueError "reflectlite.Value.IsNil" 0) ReflectliteValue.isNil #[.agg #[.pointer (some ⟨1, 100, none⟩), .pointer (some a), .int .u64 150]]).run Tryz.prog W = .ok (.bool false) W := by
  rw [rlm]
  simp only [Sem.run_bind, ew_partsP, Result.andThen]
  simp [ReflectliteValue.isNil, loadVar, isAgg, underlying, Tryz.underlying100, ha, Result.andThen]
theorem ew_methodElem (h : Value) (w : World) : (Go.method 290 139 (.agg #[h]) "Elem").run Tryz.prog w = .ok (132, .agg #[h]) w := by kernel_rfl
theorem ew_methodImplements (h : Value) (w : World) : (Go.method 290 139 (.agg #[h]) "Implements").run Tryz.prog w = .ok (133, .agg #[h]) w := by kernel_rfl
theorem ew_methodAssignableTo (h : Value) (w : World) : (Go.method 290 139 (.agg #[h]) "AssignableTo").run Tryz.prog w = .ok (130, .agg #[h]) w := by kernel_rfl
theorem ew_elemP (w : World) : (ReflectliteType.method ReflectliteType.elem #[.agg #[.pointer (some ⟨1, 100, none⟩)]]).run Tryz.prog w = .ok (.iface 139 (.agg #[.pointer (some ⟨1, 75, none⟩)])) w := by kernel_rfl
theorem ew_implementsS (w : World) : (ReflectliteType.relation "Implements" ReflectliteType.implements_ #[.agg #[.pointer (some ⟨1, 75, none⟩)], .iface 139 (.agg #[.pointer (some ⟨1, 72, none⟩)])]).run Tryz.prog w = .ok (.bool true) w := by kernel_rfl
theorem ew_typeOfS (v : Value) (w : World) : (ReflectliteType.typeOf #[.iface 75 v]).run Tryz.prog w = .ok (.iface 139 (.agg #[.pointer (some ⟨1, 75, none⟩)])) w := by kernel_rfl
theorem ew_assignableS (w : World) : (ReflectliteType.relation "AssignableTo" ReflectliteType.assignableTo #[.agg #[.pointer (some ⟨1, 75, none⟩)], .iface 139 (.agg #[.pointer (some ⟨1, 75, none⟩)])]).run Tryz.prog w = .ok (.bool true) w := by kernel_rfl
theorem ew_valueOfS (n : Int) (w : World) : (ReflectliteValue.unpack (.iface 75 (.agg #[.int .i64 n]))).run Tryz.prog w
    = .ok (.agg #[.pointer (some ⟨1, 75, none⟩), .pointer (some ⟨w.heap.size, 0, none⟩), .int .u64 153]) (w.alloc (.cells #[.int .i64 n] 75)) := by kernel_rfl
theorem ew_elemOfP (w : World) : (Rtype.elem? 100).run Tryz.prog w = .ok (some 75) w := by kernel_rfl
theorem ew_mkS (p : Addr) (w : World) : (ReflectliteValue.mk 75 p ReflectliteValue.flagAddr).run Tryz.prog w = .ok (.agg #[.pointer (some ⟨1, 75, none⟩), .pointer (some p), .int .u64 409]) w := by kernel_rfl
theorem ew_elemVP (a p : Addr) (W : World) (ha : W.cell? a = some (.pointer (some p))) :
    (ReflectliteValue.method (ReflectliteValue.valueError "reflectlite.Value.Elem" 0) ReflectliteValue.elem #[.agg #[.pointer (some ⟨1, 100, none⟩), .pointer (some a), .int .u64 150]]).run Tryz.prog W
      = .ok (.agg #[.pointer (some ⟨1, 75, none⟩), .pointer (some p), .int .u64 409]) W := by
  rw [rlm]
  simp only [Sem.run_bind, ew_partsP, Result.andThen]
  simp [ReflectliteValue.elem, loadVar, isAgg, underlying, Tryz.underlying100, ha, Result.andThen, ew_elemOfP, ew_mkS]
theorem rls (v x : Value) : ReflectliteValue.set #[v, x] = (do
    let (some (dst, a, fl), some (src, b, _)) := (← ReflectliteValue.parts v, ← ReflectliteValue.parts x)
      | unsupported (.noEntry "extern/(internal/reflectlite.Value).Set.zeroValue")
    if fl / ReflectliteValue.flagAddr % 2 == 0 then unsupported (.noEntry "extern/(internal/reflectlite.Value).Set.unaddressable")
    let val ← loadVar src b
    if ← Rtype.directlyAssignable dst src then storeVar dst a val
    else if ← Rtype.implements dst src then
      if (← Rtype.kind src) == 20 then
        match val with
        | .nilIface => unsupported (.noEntry "extern/reflectlite: a nil value of one interface type handed on as a value of another")
        | _ => storeVar dst a val
      else storeVar dst a (.iface src val)
    else panicString ("reflectlite.Set: value of type " ++ (← Rtype.spelt src) ++ " is not assignable to type " ++ (← Rtype.spelt dst))
    pure (.tuple #[])) := rfl
theorem ew_partsSa (a : Addr) (w : World) : (ReflectliteValue.parts (.agg #[.pointer (some ⟨1, 75, none⟩), .pointer (some a), .int .u64 409])).run Tryz.prog w = .ok (some (75, a, 409)) w := by kernel_rfl
theorem ew_partsS (a : Addr) (w : World) : (ReflectliteValue.parts (.agg #[.pointer (some ⟨1, 75, none⟩), .pointer (some a), .int .u64 153])).run Tryz.prog w = .ok (some (75, a, 153)) w := by kernel_rfl
theorem ew_directS (w : World) : (Rtype.directlyAssignable 75 75).run Tryz.prog w = .ok true w := by kernel_rfl
theorem ew_sizeS (w : World) : (sizeOf 75).run Tryz.prog w = .ok 1 w := by kernel_rfl
theorem ew_setS (ta : Addr) (b : Nat) (n : Int) (old : Value) (W : World) (hb : W.cell? ⟨b, 0, none⟩ = some (.int .i64 n)) (ht : W.cell? ta = some old) (hf : W.frozen? ta = false) :
    (ReflectliteValue.set #[.agg #[.pointer (some ⟨1, 75, none⟩), .pointer (some ta), .int .u64 409], .agg #[.pointer (some ⟨1, 75, none⟩), .pointer (some ⟨b, 0, none⟩), .int .u64 153]]).run Tryz.prog W
      = .ok (.tuple #[]) (W.setCell ta (.int .i64 n)) := by
  rw [rls]
  simp only [Sem.run_bind, ew_partsSa, ew_partsS, Result.andThen]
  have hl : (loadVar 75 ⟨b, 0, none⟩).run Tryz.prog W = .ok (.agg #[.int .i64 n]) W := by
    simp [loadVar, isAgg, underlying, Tryz.underlying75, Result.andThen]
    have hc := run_loadCells_list (P := Tryz.prog) (w := W) ⟨b, 0, none⟩ [.int .i64 n] (fun j v hj => by
      match j, hj with
      | 0, hj => cases hj; simpa [Addr.add] using hb)
    simp only [List.length_cons, List.length_nil, Nat.zero_add] at hc
    simp [hc]
  simp [ReflectliteValue.flagAddr, hl, Result.andThen, ew_directS, storeVar, Value.cells, storeCells, Addr.add]
  rw [run_store Tryz.prog W ta _ _ (by rfl)]
  simp [ht, hf]

set_option maxHeartbeats 4000000 in
theorem as_hit (n : Int) (t : Addr) (old : Value) (w : World) (hg : Et w) (ht0 : w.cell? t = some old) (hf0 : w.frozen? t = false) :
    Calls Tryz.prog 61 #[.iface 75 (.agg #[.int .i64 n]), .iface 100 (.pointer (some t))] w fun ev w' => ev = .returned (.bool true) ∧ w' = ((((w.alloc (.cells #[.pointer (some t)] 100)).alloc (.cells #[.pointer (some ⟨1, 100, none⟩), .pointer (some ⟨w.heap.size, 0, none⟩), .int .u64 150] 123)).alloc (.cells #[.pointer (some ⟨1, 100, none⟩), .pointer (some ⟨w.heap.size, 0, none⟩), .int .u64 150] 123)).alloc (.cells #[.int .i64 n] 75)).setCell t (.int .i64 n) := by
  unfold Et at hg
  have h6 := @run_callFunc_extern Tryz.prog 78 _ (fun args => ReflectliteValue.unpack (args.getD 0 (.tuple #[]))) Tryz.func78 (by kernel_rfl) (by kernel_rfl) (by kernel_rfl) (by kernel_rfl)
  have h7 := @run_callFunc_extern Tryz.prog 79 _ (ReflectliteValue.methodAny (ReflectliteValue.valueError "reflectlite.Value.Type" 0) (fun t _ _ _ => ReflectliteType.toType t)) Tryz.func79 (by kernel_rfl) (by kernel_rfl) (by kernel_rfl) (by kernel_rfl)
  have h8 := @run_callFunc_extern Tryz.prog 80 _ (ReflectliteValue.method (ReflectliteValue.valueError "reflectlite.Value.IsNil" 0) ReflectliteValue.isNil) Tryz.func80 (by kernel_rfl) (by kernel_rfl) (by kernel_rfl) (by kernel_rfl)
  have h27 := @run_callFunc_extern Tryz.prog 122 _ (ReflectliteType.abiMethod fun t => do pure (.int .u8 (← Rtype.kind t))) Tryz.func122 (by kernel_rfl) (by kernel_rfl) (by kernel_rfl) (by kernel_rfl)
  have h37 := @run_callFunc_extern Tryz.prog 132 _ (ReflectliteType.method ReflectliteType.elem) Tryz.func132 (by kernel_rfl) (by kernel_rfl) (by kernel_rfl) (by kernel_rfl)
  have h38 := @run_callFunc_extern Tryz.prog 133 _ (ReflectliteType.relation "Implements" ReflectliteType.implements_) Tryz.func133 (by kernel_rfl) (by kernel_rfl) (by kernel_rfl) (by kernel_rfl)
  have h10 := @run_callFunc_extern Tryz.prog 97 _ ReflectliteType.typeOf Tryz.func97 (by kernel_rfl) (by kernel_rfl) (by kernel_rfl) (by kernel_rfl)
  have h35 := @run_callFunc_extern Tryz.prog 130 _ (ReflectliteType.relation "AssignableTo" ReflectliteType.assignableTo) Tryz.func130 (by kernel_rfl) (by kernel_rfl) (by kernel_rfl) (by kernel_rfl)
  have h11 := @run_callFunc_extern Tryz.prog 98 _ (ReflectliteValue.method (ReflectliteValue.valueError "reflectlite.Value.Elem" 0) ReflectliteValue.elem) Tryz.func98 (by kernel_rfl) (by kernel_rfl) (by kernel_rfl) (by kernel_rfl)
  have h12 := @run_callFunc_extern Tryz.prog 99 _ ReflectliteValue.set Tryz.func99 (by kernel_rfl) (by kernel_rfl) (by kernel_rfl) (by kernel_rfl)
  have tO := ew_typeOfS
  have mA := ew_methodAssignableTo
  have a25 := ew_assignableS
  have v25 := ew_valueOfS
  have f6 := ew_valueOfP
  have f7 := ew_typeP
  have mK := ew_methodKind
  have mE := ew_methodElem
  have mI := ew_methodImplements
  have k27 := ew_kindP
  have k25 := ew_kindS
  have e27 := ew_elemP
  have i25 := ew_implementsS
  have n8 := ew_isNilP ⟨w.heap.size, 0, none⟩ t ((w.alloc (.cells #[.pointer (some t)] 100)).alloc (.cells #[.pointer (some ⟨1, 100, none⟩), .pointer (some ⟨w.heap.size, 0, none⟩), .int .u64 150] 123)) (by simp)
  have hlt : 0 < w.heap.size := World.block_lt_of_cell? w _ hg
  have hg2 : ((w.alloc (.cells #[.pointer (some t)] 100)).alloc (.cells #[.pointer (some ⟨1, 100, none⟩), .pointer (some ⟨w.heap.size, 0, none⟩), .int .u64 150] 123)).cell? ⟨0, 0, none⟩ = some (.iface 139 (.agg #[.pointer (some ⟨1, 72, none⟩)])) := by
    rw [World.cell?_alloc_lt _ _ ⟨0, 0, none⟩ (by simp <;> omega), World.cell?_alloc_lt _ _ ⟨0, 0, none⟩ hlt]; exact hg
  have htl : t.block < w.heap.size := World.block_lt_of_cell? w _ ht0
  have el := ew_elemVP ⟨w.heap.size, 0, none⟩ t (((w.alloc (.cells #[.pointer (some t)] 100)).alloc (.cells #[.pointer (some ⟨1, 100, none⟩), .pointer (some ⟨w.heap.size, 0, none⟩), .int .u64 150] 123)).alloc (.cells #[.pointer (some ⟨1, 100, none⟩), .pointer (some ⟨w.heap.size, 0, none⟩), .int .u64 150] 123)) (by rw [World.cell?_alloc_lt _ _ ⟨w.heap.size, 0, none⟩ (by simp; omega)]; simp)
  have st := ew_setS t (w.heap.size + 1 + 1 + 1) n old ((((w.alloc (.cells #[.pointer (some t)] 100)).alloc (.cells #[.pointer (some ⟨1, 100, none⟩), .pointer (some ⟨w.heap.size, 0, none⟩), .int .u64 150] 123)).alloc (.cells #[.pointer (some ⟨1, 100, none⟩), .pointer (some ⟨w.heap.size, 0, none⟩), .int .u64 150] 123)).alloc (.cells #[.int .i64 n] 75))
    (by rw [World.cell?_alloc_at _ _ _ _ (by simp)]; rfl)
    (by rw [World.cell?_alloc_lt _ _ t (by simp; omega), World.cell?_alloc_lt _ _ t (by simp; omega), World.cell?_alloc_lt _ _ t (by simp; omega), World.cell?_alloc_lt _ _ t htl]; exact ht0)
    (by rw [World.frozen?_alloc_old _ _ t (by simp; omega), World.frozen?_alloc_old _ _ t (by simp; omega), World.frozen?_alloc_old _ _ t (by simp; omega), World.frozen?_alloc_old _ _ t (Nat.ne_of_lt htl)]; exact hf0)
  go_enter Tryz.func61, Tryz.ntmps61
  go_wp2
  refine wp_loop_rounds 1 ?_
  rw [rounds_succ]
  go_wp2
  go_ret
  exact ⟨rfl, rfl⟩

theorem told_nil (w : World) : Calls Tryz.prog 31 #[.nilIface] w fun e w' => e = .returned (.int .i64 0) ∧ Keeps [] w w' := by
  go_enter Tryz.func31, Tryz.ntmps31
  go_wp2_with (go_at_call 61; refine (as_nil _ _).mono ?_; rintro e w' ⟨rfl, rfl⟩)
  go_ret
  exact ⟨rfl, (Keeps.refl [] w).alloc _⟩

theorem told_why (n : Int) (w : World) (hg : Et w) : Calls Tryz.prog 31 #[.iface 75 (.agg #[.int .i64 n])] w fun e w' => e = .returned (.int .i64 n) ∧ Keeps [] w w' := by
  have hE : Et (w.alloc (.cells #[.int .i64 0] 75)) := hg.keeps ((Keeps.refl [] w).alloc _) (by simp)
  have hb := Blk.new w 75 #[.int .i64 0]
  have HE := Lib.hid hE
  have HB := Lib.hid hb
  clear hE hb hg
  go_enter Tryz.func31, Tryz.ntmps31
  go_wp2_with (fail)
  refine (as_hit n ⟨w.heap.size, 0, none⟩ _ _ HE.out (HB.out.cell 0) (HB.out.frozen 0)).mono ?_
  rintro e w' ⟨rfl, hw⟩
  have hc : w'.cell? ⟨w.heap.size, 0, none⟩ = some (.int .i64 n) := by
    rw [hw]
    exact ((((HB.out.alloc _).alloc _).alloc _).alloc _ |>.set_ 0 (.int .i64 n)).cell 0
  have hk : Keeps [] w w' := by
    rw [hw]
    exact ((((((Keeps.refl [] w).alloc _).alloc _).alloc _).alloc _).alloc _).setCell (p := ⟨w.heap.size, 0, none⟩) (.inr (Nat.le_refl _)) _
  have HK := Lib.hid hk
  clear hw hk
  go_wp2
  go_ret
  exact ⟨rfl, HK.out⟩
end Go.Proofs.YtollcbacpoohlaaGreatDoor
