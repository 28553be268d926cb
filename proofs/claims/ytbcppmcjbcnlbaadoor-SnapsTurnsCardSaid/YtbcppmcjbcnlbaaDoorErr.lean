/- errors.Is by its contracts, where the target is a sentinel. -/
import Derived.Test.YtbcppmcjbcnlbaaDoorLaid
import Derived.Test.YtbcppmcjbcnlbaaDoorChecked
import Derived.LaidEql
import Derived.Stop.Asserts
import Derived.RowKitTokens
namespace Go.Proofs.YtbcppmcjbcnlbaaDoor
open Go.RowKit Go.Extern.Stop Go.Stop Go.Extern Go.Extern.ReflectliteType

theorem is_TypeOf (v : Value) (w : World) : (Extern.ReflectliteType.typeOf #[.iface 92 v]).run Tryd.prog w = .ok (.iface 82 (.agg #[.pointer (some ⟨3, 92, none⟩)])) w := by kernel_rfl
/-- rtype's Comparable, as the model has it. -/
noncomputable def cmpM : Array Value → Sem Value := Extern.ReflectliteType.method fun t => do Extern.Rtype.noPackHeld "Comparable" t; pure (.bool (← typeInfo t).comparable)
theorem is_Comparable (w : World) : (cmpM #[.agg #[.pointer (some ⟨3, 92, none⟩)]]).run Tryd.prog w = .ok (.bool true) w := by kernel_rfl
theorem is_MethodComparable (v : Value) (w : World) : (Go.method 229 82 v "Comparable").run Tryd.prog w = .ok (74, v) w := by kernel_rfl
theorem is_Comp : (Tryd.prog.info? 92).map (·.comparable) = some true := by kernel_rfl
theorem is_Size : (Tryd.prog.info? 117).map (·.size) = some 1 := by kernel_rfl
theorem is_noIs (v : Value) (xT : TypeId) (w : World) : (Instr.typeAssert (.iface 92 v) xT 84 true).run Tryd.prog w = .ok (.tuple #[.nilIface, .bool false]) w := run_typeAssert_lacksB Tryd.underlying84 (by kernel_rfl) (by kernel_rfl) v xT w
theorem is_noUnwrap (v : Value) (xT : TypeId) (w : World) : (Instr.typeAssert (.iface 92 v) xT 87 true).run Tryd.prog w = .ok (.tuple #[.nilIface, .bool false]) w := run_typeAssert_lacksB Tryd.underlying87 (by kernel_rfl) (by kernel_rfl) v xT w
theorem is_noUnwraps (v : Value) (xT : TypeId) (w : World) : (Instr.typeAssert (.iface 92 v) xT 89 true).run Tryd.prog w = .ok (.tuple #[.nilIface, .bool false]) w := run_typeAssert_lacksB Tryd.underlying89 (by kernel_rfl) (by kernel_rfl) v xT w

set_option maxRecDepth 100000 in
/-- errors.Is(x, x), x a sentinel. -/
theorem is_same (a : Addr) (w : World) :
    Calls Tryd.prog 45 #[.iface 92 (.pointer (some a)), .iface 92 (.pointer (some a))] w fun e w' => e = .returned (.bool true) ∧ w = w' := by
  obtain ⟨i, hi, hcmp⟩ := Option.map_eq_some_iff.1 is_Comp
  obtain ⟨j, hj, hjs⟩ := Option.map_eq_some_iff.1 is_Size
  have h8 := @run_callFunc_extern Tryd.prog 52 _ Extern.ReflectliteType.typeOf Tryd.func52 (by kernel_rfl) (by kernel_rfl) (by kernel_rfl) (by kernel_rfl)
  have h32 := @run_callFunc_extern Tryd.prog 74 _ cmpM Tryd.func74 (by kernel_rfl) (by kernel_rfl) (by kernel_rfl) (by kernel_rfl)
  have tT := is_TypeOf
  have cT := is_Comparable
  have mR := is_MethodComparable
  have heq := run_eql_iface_ptr_same (P := Tryd.prog) w a Tryd.underlying48 Tryd.underlying92 hi hcmp hj
  go_enter Tryd.func45, Tryd.ntmps45
  go_wp2
  refine wp_loop_rounds 1 ?_
  rw [rounds_succ]
  go_wp2
  go_ret
  exact ⟨rfl, rfl⟩

/-- errors.Is(nil, x). -/
theorem is_nil (b : Addr) (w : World) :
    Calls Tryd.prog 45 #[.nilIface, .iface 92 (.pointer (some b))] w fun e w' => e = .returned (.bool false) ∧ w = w' := by
  have hn := run_eql_iface_nil_left (P := Tryd.prog) w 92 (.pointer (some b)) Tryd.underlying48
  go_enter Tryd.func45, Tryd.ntmps45
  go_wp2
  go_ret
  exact ⟨rfl, rfl⟩

set_option maxRecDepth 100000 in
/-- errors.Is(x, y), two sentinels. -/
theorem is_other (a b : Addr) (ca cb : Array Value) (ta tb : TypeId) (w : World) (hne : a ≠ b) (ha : w.heap[a.block]? = some (.cells ca ta (0, 0))) (hb : w.heap[b.block]? = some (.cells cb tb (0, 0))) :
    Calls Tryd.prog 45 #[.iface 92 (.pointer (some a)), .iface 92 (.pointer (some b))] w fun e w' => e = .returned (.bool false) ∧ w = w' := by
  obtain ⟨i, hi, hcmp⟩ := Option.map_eq_some_iff.1 is_Comp
  obtain ⟨j, hj, hjs⟩ := Option.map_eq_some_iff.1 is_Size
  have h8 := @run_callFunc_extern Tryd.prog 52 _ Extern.ReflectliteType.typeOf Tryd.func52 (by kernel_rfl) (by kernel_rfl) (by kernel_rfl) (by kernel_rfl)
  have h32 := @run_callFunc_extern Tryd.prog 74 _ cmpM Tryd.func74 (by kernel_rfl) (by kernel_rfl) (by kernel_rfl) (by kernel_rfl)
  have tT := is_TypeOf
  have cT := is_Comparable
  have mR := is_MethodComparable
  have nE := is_noIs
  have uE := is_noUnwrap
  have vE := is_noUnwraps
  have heq := run_eql_iface_ptr_other (P := Tryd.prog) w Tryd.underlying48 Tryd.underlying92 hi hcmp hj (by rw [hjs]; decide) hne ha hb
  go_enter Tryd.func45, Tryd.ntmps45
  go_wp2
  refine wp_loop_rounds 1 ?_
  rw [rounds_succ]
  go_wp2
  go_ret
  exact ⟨rfl, rfl⟩

/-- An error as the program hands it on: none, or a sentinel. -/
def errV (e : Nat → Addr) : Option Nat → Value
  | none => .nilIface
  | some g => .iface 92 (.pointer (some (e g)))

/-- errors.Is, of an error of the program's own. -/
theorem is_own {w : World} {gs : List Nat} {e : Nat → Addr} (h : Sents w 92 gs e) (x : Option Nat) (g : Nat) (hx : ∀ y, x = some y → y ∈ gs) (hg : g ∈ gs) (b : Bool) (hb : (x == some g) = b) :
    Calls Tryd.prog 45 #[errV e x, .iface 92 (.pointer (some (e g)))] w fun r w' => r = .returned (.bool b) ∧ w = w' := by
  subst hb
  cases x with
  | none => exact is_nil _ w
  | some y =>
    by_cases hy : y = g
    · subst hy
      have : (some y == some y) = true := by simp
      rw [this]
      exact is_same _ w
    · have : (some y == some g) = false := by simp [hy]
      rw [this]
      obtain ⟨c1, t1, h1⟩ := h.row y (hx y rfl)
      obtain ⟨c2, t2, h2⟩ := h.row g hg
      exact is_other _ _ _ _ _ _ w (h.ne y (hx y rfl) g hg hy) h1 h2
end Go.Proofs.YtbcppmcjbcnlbaaDoor
