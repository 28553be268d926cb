/- Taking a frame, in plain Lean. -/
import Derived.Test.YtfedhhndkeakhaaDoorWireC
namespace Go.Proofs.YtfedhhndkeakhaaDoor
open Go.RowKit

def byte0 (t : ByteArray) : Int := match t.data.toList with
  | a :: _ => (a.toNat : Int)
  | [] => 0
def n35 (t : ByteArray) : Int := num2 (t.extract 3 5)
def frOf (t : ByteArray) : Fr := ⟨byte0 t, num2 (t.extract 1 3), t.extract 5 (5 + n35 t).toNat⟩
def kindE (t : ByteArray) : Option Nat := if t.size = 0 then some 2 else if byte0 t < 1 ∨ 8 < byte0 t then some 3 else none
def headE (t : ByteArray) : Option Nat := if t.size < 5 then some 2 else if 512 < n35 t then some 4 else none
def dataE (t : ByteArray) : Option Nat := if (t.size : Int) < 5 + n35 t then some 2 else if rightF (frOf t) then none else some 0
def tryE (t : ByteArray) : Option Nat := match kindE t with
  | some g => some g
  | none => match headE t with
    | some g => some g
    | none => dataE t
def takeA (s : ByteArray) (at_ : Int) : Fr × Int × Option Nat :=
  if at_ < 0 ∨ (s.size : Int) < at_ then (fr0, 0, some 1)
  else match tryE (s.extract at_.toNat s.size) with
    | some g => (fr0, 0, some g)
    | none => (frOf (s.extract at_.toNat s.size), at_ + 5 + n35 (s.extract at_.toNat s.size), none)
theorem num2_bd (s : ByteArray) : 0 ≤ num2 s ∧ num2 s ≤ 65535 := by
  unfold num2
  split
  · rename_i a b _
    have := a.toNat_lt
    have := b.toNat_lt
    omega
  · omega
theorem extract_size (s : ByteArray) (a b : Nat) : (s.extract a b).size = min b s.size - a := by simp [ByteArray.size_extract]
theorem tryE_lt (t : ByteArray) (g : Nat) (h : tryE t = some g) : g < 5 := by
  have hk : ∀ g, kindE t = some g → g < 5 := fun g h => by
    unfold kindE at h
    repeat' split at h
    all_goals first | (cases h; omega) | cases h
  have hh : ∀ g, headE t = some g → g < 5 := fun g h => by
    unfold headE at h
    repeat' split at h
    all_goals first | (cases h; omega) | cases h
  have hd : ∀ g, dataE t = some g → g < 5 := fun g h => by
    unfold dataE at h
    repeat' split at h
    all_goals first | (cases h; omega) | cases h
  unfold tryE at h
  cases h1 : kindE t with
  | some g1 => rw [h1] at h; cases h; exact hk _ h1
  | none =>
    rw [h1] at h
    dsimp only at h
    cases h2 : headE t with
    | some g1 => rw [h2] at h; cases h; exact hh _ h2
    | none => rw [h2] at h; exact hd _ h

set_option maxRecDepth 100000 in
theorem long_any (t : ByteArray) (ht : t.size ≤ maxLen) (h5 : 5 ≤ t.size) (w : World) :
    Calls Tryd.prog 39 #[.agg #[.string t]] w fun r w' => r = .returned (.int .i64 (n35 t)) ∧ ∃ n, (w.alloc (.cells #[.string t] 68)).drewN n = w' := by
  unfold maxLen at ht
  have h1 : (5 : Int) ≤ (t.size : Int) := by omega
  have hsz : (t.extract 3 5).size ≤ maxLen := by rw [extract_size]; unfold maxLen; omega
  have HSZ := Lib.hid hsz
  clear hsz h5
  go_enter Tryd.func39, Tryd.ntmps39
  go_wp2_with (fail)
  refine (number_any _ HSZ.out _).mono ?_
  rintro r w1 ⟨rfl, n, rfl⟩
  go_wp2
  go_ret
  exact ⟨rfl, n, rfl⟩

theorem long_k (t : ByteArray) (ht : t.size ≤ maxLen) (h5 : 5 ≤ t.size) (w : World) :
    Calls Tryd.prog 39 #[.agg #[.string t]] w fun r w' => r = .returned (.int .i64 (n35 t)) ∧ Keeps [] w w' :=
  (long_any t ht h5 w).mono fun _r _w' ⟨h1, n, h2⟩ => ⟨h1, h2 ▸ ((Keeps.refl [] w).alloc _).drewN n⟩

/-- A taker's cells. -/
def tk (t : ByteArray) (k st : Int) (d : ByteArray) : Array Value := #[.string t, .int .i64 k, .int .i64 st, .string d]
theorem tk_cells {w : World} {g : Nat} {t : ByteArray} {k st : Int} {d : ByteArray} (h : Blk w g 70 (tk t k st d)) :
    w.cell? ⟨g, 0, none⟩ = some (.string t) ∧ w.cell? ⟨g, 1, none⟩ = some (.int .i64 k) ∧ w.cell? ⟨g, 2, none⟩ = some (.int .i64 st) ∧ w.cell? ⟨g, 3, none⟩ = some (.string d) :=
  ⟨h.cell 0, h.cell 1, h.cell 2, h.cell 3⟩
theorem bytes_zero (t : ByteArray) (h : t.size = 0) : t = ⟨#[]⟩ := by
  obtain ⟨⟨l⟩⟩ := t
  cases l with
  | nil => rfl
  | cons a r => cases h
theorem byte0_eq (t : ByteArray) (hp : 0 < t.size) : ((t[0]'hp).toNat : Int) = byte0 t := by
  obtain ⟨⟨l⟩⟩ := t
  cases l with
  | nil => cases hp
  | cons a r => rfl
theorem bytes_some (t : ByteArray) (hp : 0 < t.size) : t.toList.isEmpty = false := by
  rw [ByteArray.toList_eq]
  obtain ⟨⟨l⟩⟩ := t
  cases l with
  | nil => cases hp
  | cons a r => rfl

set_option maxRecDepth 100000 in
set_option maxHeartbeats 1000000 in
theorem kind_any (g : Nat) (t : ByteArray) (ht : t.size ≤ maxLen) (k st : Int) (d : ByteArray) (w : World) (hb : Blk w g 70 (tk t k st d)) (e : Nat → Addr) (he : Env w e) (x : Option Nat) (hx : kindE t = x) :
    Calls Tryd.prog 36 #[.pointer (some ⟨g, 0, none⟩)] w fun r w' => r = .returned (errV e x) ∧ Blk w' g 70 (tk t (if x = none then byte0 t else k) st d) ∧ Keeps [g] w w' := by
  have HB := Lib.hid hb
  obtain ⟨c0, c1, c2, c3⟩ := tk_cells hb
  have f1 := hb.frozen 1
  have e2 := he.cell 2 (by simp)
  have e3 := he.cell 3 (by simp)
  unfold maxLen at ht
  by_cases h0 : t.size = 0
  · obtain rfl := bytes_zero t h0
    obtain rfl : x = some 2 := by rw [← hx]; rfl
    clear hb he ht hx c1 c2 c3 h0
    go_enter Tryd.func36, Tryd.ntmps36
    go_wp2
    go_ret
    exact ⟨rfl, HB.out, Keeps.refl [g] w⟩
  · have hp : 0 < t.size := by omega
    have hB := byte0_eq t hp
    have hem := bytes_some t hp
    have hb0 := (t[0]'hp).toNat_lt
    rw [← hB]
    have hx2 : (if ((t[0]'hp).toNat : Int) < 1 ∨ 8 < ((t[0]'hp).toNat : Int) then some 3 else none) = x := by
      rw [← hx, hB]; unfold kindE; rw [if_neg (c := t.size = 0) h0]; rfl
    clear hB hx he hb h0
    by_cases hk : ((t[0]'hp).toNat : Int) < 1 ∨ 8 < ((t[0]'hp).toNat : Int)
    · obtain rfl : x = some 3 := by rw [← hx2, if_pos hk]
      rcases (show ((t[0]'hp).toNat : Int) < 1 ∨ (¬ ((t[0]'hp).toNat : Int) < 1 ∧ 8 < ((t[0]'hp).toNat : Int)) by omega) with h1 | ⟨h1, h2⟩
      all_goals
        clear hx2 hk c1 c2 c3
        go_enter Tryd.func36, Tryd.ntmps36
        go_wp2
        go_ret
        exact ⟨rfl, HB.out, Keeps.refl [g] w⟩
    · obtain rfl : x = none := by rw [← hx2, if_neg hk]
      have h1 : ¬ ((t[0]'hp).toNat : Int) < 1 := by omega
      have h2 : ¬ 8 < ((t[0]'hp).toNat : Int) := by omega
      clear hx2 hk c2 c3
      go_enter Tryd.func36, Tryd.ntmps36
      go_wp2
      go_ret
      exact ⟨rfl, HB.out.set_ 1 _, (Keeps.refl [g] w).setCell (.inl (by simp)) _⟩

set_option maxRecDepth 100000 in
set_option maxHeartbeats 1000000 in
theorem head_any (g : Nat) (t : ByteArray) (ht : t.size ≤ maxLen) (k st : Int) (d : ByteArray) (w : World) (hb : Blk w g 70 (tk t k st d)) (e : Nat → Addr) (he : Env w e) (hg : ∀ i ∈ [0, 1, 2, 3, 4], i ≠ g ∧ (e i).block ≠ g) (x : Option Nat) (hx : headE t = x) :
    Calls Tryd.prog 37 #[.pointer (some ⟨g, 0, none⟩)] w fun r w' => r = .returned (errV e x) ∧ Blk w' g 70 (tk t k (if t.size < 5 then st else num2 (t.extract 1 3)) d) ∧ Keeps [g] w w' := by
  have HB := Lib.hid hb
  have HE := Lib.hid he
  have HT := Lib.hid ht
  have HG := Lib.hid hg
  obtain ⟨c0, c1, c2, c3⟩ := tk_cells hb
  have f2 := hb.frozen 2
  have e2 := he.cell 2 (by simp)
  unfold maxLen at ht
  by_cases h5 : t.size < 5
  · obtain rfl : x = some 2 := by rw [← hx]; unfold headE; rw [if_pos h5]
    rw [if_pos h5]
    have h6 : (t.size : Int) < 5 := by omega
    clear hb he hx h5 c1 c2 c3 hg
    go_enter Tryd.func37, Tryd.ntmps37
    go_wp2
    go_ret
    exact ⟨rfl, HB.out, Keeps.refl [g] w⟩
  · have hx2 : (if 512 < n35 t then some 4 else none) = x := by rw [← hx]; unfold headE; rw [if_neg (c := t.size < 5) h5]
    rw [if_neg h5]
    have h6 : (5 : Int) ≤ (t.size : Int) := by omega
    have H5 : Hid (5 ≤ t.size) := Lib.hid (by omega)
    have hsz : (t.extract 1 3).size ≤ maxLen := by rw [extract_size]; unfold maxLen; omega
    have HSZ := Lib.hid hsz
    have HX := Lib.hid hx2
    have hk0 := Keeps.refl [g] w
    clear hb he hx hx2 h5 c1 c3 hg hsz
    go_enter Tryd.func37, Tryd.ntmps37
    go_wp2_with (fail)
    refine (number_any _ HSZ.out _).mono ?_
    rintro r w1 ⟨rfl, n, rfl⟩
    go_wp2_with (fail)
    have hb2 : Blk ((w.setCell ⟨g, 2, none⟩ (.int .i64 (num2 (t.extract 1 3)))).drewN n) g 70 (tk t k (num2 (t.extract 1 3)) d) := HB.out.set_ 2 _
    have hk2 : Keeps [g] w ((w.setCell ⟨g, 2, none⟩ (.int .i64 (num2 (t.extract 1 3)))).drewN n) := ((Keeps.refl [g] w).setCell (.inl (by simp)) _).drewN n
    refine (long_k t HT.out H5.out _).mono ?_
    rintro r w2 ⟨rfl, hk⟩
    have hb3 := hb2.keeps hk (by simp)
    have hk3 := hk2.trans (hk.mono (S' := [g]) (by simp))
    have hE3 := Sents.keeps HE.out hk3 (fun i hi => ⟨by simpa using (HG.out i hi).1, by simpa using (HG.out i hi).2⟩)
    have e4 := hE3.cell 4 (by simp)
    have HB3 := Lib.hid hb3
    have HK3 := Lib.hid hk3
    clear hb2 hk2 hk hb3 hk3 hE3
    by_cases h512 : 512 < n35 t
    · obtain rfl : x = some 4 := by rw [← HX.out, if_pos h512]
      go_wp2
      go_ret
      exact ⟨rfl, HB3.out, HK3.out⟩
    · obtain rfl : x = none := by rw [← HX.out, if_neg h512]
      go_wp2
      go_ret
      exact ⟨rfl, HB3.out, HK3.out⟩
end Go.Proofs.YtfedhhndkeakhaaDoor
