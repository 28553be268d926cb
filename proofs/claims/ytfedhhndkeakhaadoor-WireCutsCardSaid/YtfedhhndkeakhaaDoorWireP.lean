/- Frames, in plain Lean: no program in sight. -/
import Derived.Test.YtfedhhndkeakhaaDoorBase
namespace Go.Proofs.YtfedhhndkeakhaaDoor

/-- A frame. -/
structure Fr where
  kind : Int
  stream : Int
  data : ByteArray
def Fr.cells (f : Fr) : Array Value := #[.int .i64 f.kind, .int .i64 f.stream, .string f.data]
def Fr.v (f : Fr) : Value := .agg #[.int .i64 f.kind, .int .i64 f.stream, .string f.data]
def fr0 : Fr := ⟨0, 0, ⟨#[]⟩⟩

/-- How long data may be. -/
def spanOf (k : Int) : Option (Int × Int) :=
  if k = 1 then some (1, 64) else if k = 2 then some (32, 32) else if k = 3 then some (1, 64) else if k = 4 then some (1, 512) else if k = 5 then some (2, 2) else if k = 6 then some (0, 0) else if k = 7 then some (0, 0) else if k = 8 then some (0, 8) else none
def ownK (k : Int) : Bool := k == 1 || k == 2 || k == 8
def rightF (f : Fr) : Bool := match spanOf f.kind with
  | none => false
  | some (lo, hi) => decide (lo ≤ (f.data.size : Int)) && decide ((f.data.size : Int) ≤ hi) && decide (0 ≤ f.stream) && decide (f.stream ≤ 65535) && (ownK f.kind == (f.stream == 0))

/-- The number of two bytes. -/
def num2 (s : ByteArray) : Int := match s.data.toList with
  | [a, b] => (a.toNat : Int) * 256 + b.toNat
  | _ => 0
/-- A number's bytes. -/
def two (n : Int) : ByteArray := ⟨#[UInt8.ofNat (n / 256).toNat, UInt8.ofNat (n % 256).toNat]⟩
def bytesA (n : Int) : ByteArray × Int := if n < 0 ∨ 65535 < n then (⟨#[]⟩, 2) else (two n, 0)
def encA (f : Fr) : ByteArray × Int := if rightF f then (⟨#[UInt8.ofNat f.kind.toNat]⟩ ++ two f.stream ++ two f.data.size ++ f.data, 0) else (⟨#[]⟩, 33)
end Go.Proofs.YtfedhhndkeakhaaDoor
