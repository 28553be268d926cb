/- Kept listings, in plain Lean: no program in sight. -/
import Derived.Test.YtbcppmcjbcnlbaaDoorBase
namespace Go.Proofs.YtbcppmcjbcnlbaaDoor

/-- A listing that is kept. -/
structure Sn where
  cur : Int
  items : List ByteArray
  used : Int
/-- Some, and the next cursor. -/
structure Po where
  l : List Sn
  next : Int
def po0 : Po := ⟨[], 0⟩
def byteB (b : UInt8) : Bool := decide (32 ≤ b.toNat) && decide (b.toNat ≤ 126)
def plainB (s : ByteArray) : Bool := s.data.toList.all byteB
def wordB (s : ByteArray) : Bool := decide (s.size ≤ 64) && plainB s
def itemsB (l : List ByteArray) : Bool := decide (l.length ≤ 64) && l.all wordB
def tickM : Int := 1000000000000
def countedB (p : Po) : Bool := decide (1 ≤ p.next) && decide (p.next ≤ 1000000000000) && decide (p.l.length ≤ 3)
def curB (next : Int) (met : List Int) (s : Sn) : Bool := !met.contains s.cur && decide (1 ≤ s.cur) && decide (s.cur < next)
def apartB (next : Int) : List Int → List Sn → Bool
  | _, [] => true
  | met, s :: l => curB next met s && apartB next (met ++ [s.cur]) l
def usedB (last : Int) (s : Sn) : Bool := decide (last ≤ s.used) && decide (s.used ≤ 1000000000000)
def sortedB : Int → List Sn → Bool
  | _, [] => true
  | last, s :: l => usedB last s && sortedB s.used l
def wholeB (l : List Sn) : Bool := l.all fun s => itemsB s.items
def rightP (p : Po) : Bool := countedB p && apartB p.next [] p.l && sortedB 0 p.l && wholeB p.l
def lastU (l : List Sn) : Int := (l.getLast?.map (·.used)).getD 0
def checkB (p : Po) (now : Int) : Bool := rightP p && decide (lastU p.l ≤ now) && decide (now ≤ 1000000000000)
def freshB (now : Int) (s : Sn) : Bool := decide (now - s.used < 1000)
/-- What is left of the old ones. -/
def pinL (l : List Sn) (now : Int) : List Sn := if (l.filter (freshB now)).length = 3 then (l.filter (freshB now)).drop 1 else l.filter (freshB now)
def pinA (p : Po) (items : List ByteArray) (now : Int) : Po × Int × Int :=
  if checkB p now && itemsB items && decide (p.next < 1000000000000) then (⟨pinL p.l now ++ [⟨p.next, items, now⟩], p.next + 1⟩, p.next, 0) else (po0, 0, 160)
def hitB (cursor from_ now : Int) (s : Sn) : Bool := s.cur == cursor && freshB now s && decide (0 ≤ from_) && decide (from_ ≤ s.items.length)
/-- The place of the first that is met, if any. -/
def findN (f : Sn → Bool) : List Sn → Option Nat
  | [] => none
  | s :: l => if f s then some 0 else (findN f l).map (· + 1)
theorem findN_lt {f : Sn → Bool} : ∀ {l : List Sn} {i : Nat}, findN f l = some i → ∃ h : i < l.length, f l[i] = true
  | [], i, h => by cases h
  | s :: l, i, h => by
    unfold findN at h
    split at h
    · rename_i hf
      cases h
      exact ⟨by simp, hf⟩
    · cases hf : findN f l with
      | none => rw [hf] at h; cases h
      | some j =>
        rw [hf] at h
        cases h
        obtain ⟨h1, h2⟩ := findN_lt hf
        exact ⟨by simp; omega, by simpa using h2⟩
def minI (a b : Int) : Int := if a ≤ b then a else b
/-- The page's end, of a listing of m items. -/
def pageE (m : Nat) (from_ n : Int) : Int := if from_ + n < m then from_ + n else m
def pageA (p : Po) (cursor from_ n now : Int) : Po × List ByteArray × Int × Int :=
  if checkB p now then
    if n < 1 ∨ 10 < n then (po0, [], 0, 2)
    else match findN (hitB cursor from_ now) p.l with
      | none => (po0, [], 0, 161)
      | some i => match p.l[i]? with
        | none => (po0, [], 0, 161)
        | some s => (⟨p.l.eraseIdx i ++ [{ s with used := now }], p.next⟩, (s.items.drop from_.toNat).take (pageE s.items.length from_ n - from_).toNat,
            if pageE s.items.length from_ n = s.items.length then -1 else pageE s.items.length from_ n, 0)
  else (po0, [], 0, 160)

theorem checkB_small {p : Po} {now : Int} (h : checkB p now = true) : p.l.length ≤ 3 ∧ 1 ≤ p.next ∧ p.next ≤ 1000000000000 ∧ now ≤ 1000000000000 ∧ lastU p.l ≤ now := by
  simp only [checkB, rightP, countedB, Bool.and_eq_true, decide_eq_true_eq] at h
  omega
end Go.Proofs.YtbcppmcjbcnlbaaDoor
