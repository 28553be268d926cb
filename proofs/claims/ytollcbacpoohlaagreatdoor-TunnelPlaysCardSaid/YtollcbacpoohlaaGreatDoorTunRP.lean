/- The walks of same, of the calls of no tunnel; two answers compared. -/
import Derived.Test.YtollcbacpoohlaaGreatDoorTunRO
import Derived.Test.YtollcbacpoohlaaGreatDoorTunU
import Derived.Deep.Fields
import Derived.Laws.StructEq
namespace Go.Proofs.YtollcbacpoohlaaGreatDoor
open Go.RowKit
attribute [local go_sem ↓] Go.wp_at_zero Go.wp_at_succ

theorem said_guardType : Tryz.prog.eqGuardType Tryz.prog.depth 35 = false := by kernel_rfl
theorem said_under : Tryz.prog.underlying 35 = some (.struct (Tryz.prog.fieldsOf 35)) := by kernel_rfl
theorem said_stood : Tryz.prog.stoodInHeld 35 = false := by kernel_rfl
theorem said_eqIn (k r : Int) (s : ByteArray) (w : World) : (Op.equalIn 10000 35 (.agg #[.int .i64 k, .string s, .int .i64 r]) (.agg #[.int .i64 k, .string s, .int .i64 r])).run Tryz.prog w = .ok true w := by
  rw [show (10000 : Nat) = 9999 + 1 from rfl, run_equalIn_agg w 9999 35 _ _ said_under said_stood]
  simp [Program.fieldsOf, Tryz.underlying35, Op.eqFields, go_sem, Tryz.underlying3, Tryz.underlying9, Tryz.underlying26]
theorem said_neq (k r : Int) (s : ByteArray) (w : World) : (binOp .neq 35 (.agg #[.int .i64 k, .string s, .int .i64 r]) (.agg #[.int .i64 k, .string s, .int .i64 r])).run Tryz.prog w = .ok (.bool false) w := by
  rw [run_neq_struct, show (Op.equalIn 10000 35 (.agg #[.int .i64 k, .string s, .int .i64 r]) (.agg #[.int .i64 k, .string s, .int .i64 r])).run Tryz.prog w = .ok true w from said_eqIn k r s w]
  rfl
theorem said_guard (op : BinOp) (x y : Operand) (xs ys : Array Value) (w : World) : (eqGuard op 35 x y (.agg xs) (.agg ys)).run Tryz.prog w = .ok () w := run_eqGuard_agg w op 35 x y xs ys said_guardType

theorem uEvent_nil (n : Int) (w : World) : Calls Tryz.prog 8 #[.pointer none, .int .i64 n] w fun e w' => e = .returned (.int .i64 1) ∧ w = w' := by
  go_enter Tryz.func8, Tryz.ntmps8
  go_wp2
  go_ret
  exact ⟨rfl, rfl⟩
theorem uState_nil (w : World) : Calls Tryz.prog 9 #[.pointer none] w fun e w' => e = .returned (.int .i64 0) ∧ w = w' := by
  go_enter Tryz.func9, Tryz.ntmps9
  go_wp2
  go_ret
  exact ⟨rfl, rfl⟩
theorem uStop_nil (w : World) : Calls Tryz.prog 10 #[.pointer none] w fun e w' => e = .returned (.int .i64 0) ∧ w = w' := by
  go_enter Tryz.func10, Tryz.ntmps10
  go_wp2
  go_ret
  exact ⟨rfl, rfl⟩

theorem same_any (L : TL) (T : RT) (cap : Nat) (t : Tu) (side : Int) (w : World) (h : TuAt w L cap t) (hr : RtAt w T cap t) :
    Calls Tryz.prog 13 #[.pointer (some ⟨L.b, 0, none⟩), .pointer (some ⟨T.b, 0, none⟩), .int .i64 side] w fun e w' => e = .returned (.bool true) ∧ Keeps [] w w' := by
  obtain ⟨x, y, z, hc⟩ : ∃ x y z, t.counts side = (x, y, z) := ⟨_, _, _, rfl⟩
  have HU := Lib.hid (uCounts_any L cap t side x y z hc w h)
  have HV := Lib.hid (fun (wz : World) (hz : RtAt wz T cap t) => vCounts_any T cap t side x y z hc wz hz)
  have HR := Lib.hid hr
  clear hc h hr
  go_enter Tryz.func13, Tryz.ntmps13
  go_wp2_with (fail)
  refine HU.out.mono ?_
  rintro e w1 ⟨rfl, hk⟩
  have HK1 := Lib.hid hk
  clear hk
  go_wp2_with (fail)
  refine (HV.out _ (HR.out.keep HK1.out)).mono ?_
  rintro e w2 ⟨rfl, hk⟩
  have HK2 := Lib.hid (HK1.out.trans hk)
  clear hk
  go_wp2
  go_ret
  exact ⟨rfl, HK2.out⟩
end Go.Proofs.YtollcbacpoohlaaGreatDoor
