/- WireG: plain laws of frames and their bytes. -/
import Derived.Test.YtfedhhndkeakhaaDoorWireY
namespace Go.Proofs.YtfedhhndkeakhaaDoor

/-- A text's bytes. -/
def ls (s : ByteArray) : List UInt8 := s.data.toList
theorem ls_append (s t : ByteArray) : ls (s ++ t) = ls s ++ ls t := ByteArray.toList_data_append
theorem ls_extract (s : ByteArray) (a b : Nat) : ls (s.extract a b) = ((ls s).drop a).take (b - a) := by
  unfold ls
  rw [ByteArray.data_extract, Array.toList_extract]
theorem ls_size (s : ByteArray) : s.size = (ls s).length := rfl
theorem ls_ext {s t : ByteArray} (h : ls s = ls t) : s = t := ByteArray.ext (Array.toList_inj.1 h)
theorem ls_empty : ls ⟨#[]⟩ = [] := rfl

/-- What stands in the first five bytes. -/
theorem head5 {u : ByteArray} {k a b c d : UInt8} {r : List UInt8} (h : ls u = k :: a :: b :: c :: d :: r) :
    byte0 u = k.toNat ∧ num2 (u.extract 1 3) = (a.toNat : Int) * 256 + b.toNat ∧ n35 u = (c.toNat : Int) * 256 + d.toNat ∧ u.size = 5 + r.length ∧ ∀ m, ls (u.extract 5 (5 + m)) = r.take m := by
  have e1 : ls (u.extract 1 3) = [a, b] := by rw [ls_extract, h]; rfl
  have e2 : ls (u.extract 3 5) = [c, d] := by rw [ls_extract, h]; rfl
  refine ⟨?_, ?_, ?_, ?_, fun m => ?_⟩
  · unfold byte0
    rw [show u.data.toList = k :: a :: b :: c :: d :: r from h]
  · unfold num2
    rw [show (u.extract 1 3).data.toList = [a, b] from e1]
  · unfold n35 num2
    rw [show (u.extract 3 5).data.toList = [c, d] from e2]
  · rw [ls_size, h]; simp; omega
  · rw [ls_extract, h, Nat.add_sub_cancel_left]; rfl
theorem five {l : List UInt8} (h : 5 ≤ l.length) : ∃ k a b c d r, l = k :: a :: b :: c :: d :: r := by
  match l, h with
  | k :: a :: b :: c :: d :: r, _ => exact ⟨k, a, b, c, d, r, rfl⟩

theorem enc_ls {f : Fr} (h : rightF f = true) : ∃ k a b c d, ls (encA f).1 = k :: a :: b :: c :: d :: ls f.data ∧ (k.toNat : Int) = f.kind ∧ (a.toNat : Int) * 256 + b.toNat = f.stream ∧ (c.toNat : Int) * 256 + d.toNat = f.data.size := by
  obtain ⟨h1, h2, h3, h4, h5⟩ := right_bd h
  refine ⟨UInt8.ofNat f.kind.toNat, UInt8.ofNat (f.stream / 256).toNat, UInt8.ofNat (f.stream % 256).toNat, UInt8.ofNat ((f.data.size : Int) / 256).toNat, UInt8.ofNat ((f.data.size : Int) % 256).toNat, ?_, ?_, ?_, ?_⟩
  · unfold encA
    rw [h]
    show ls (⟨#[UInt8.ofNat f.kind.toNat]⟩ ++ two f.stream ++ two f.data.size ++ f.data) = _
    rw [ls_append, ls_append, ls_append]
    rfl
  · simp; omega
  · simp; omega
  · simp; omega
theorem num_back (a b : UInt8) (n : Int) (h : (a.toNat : Int) * 256 + b.toNat = n) : UInt8.ofNat (n / 256).toNat = a ∧ UInt8.ofNat (n % 256).toNat = b := by
  have ha := a.toNat_lt
  have hb := b.toNat_lt
  have e1 : (n / 256).toNat = a.toNat := by omega
  have e2 : (n % 256).toNat = b.toNat := by omega
  rw [e1, e2]
  simp
/-- A frame that begins some bytes is taken from them. -/
theorem try_frame {u : ByteArray} {f : Fr} {r : List UInt8} (hr : rightF f = true) (h : ls u = ls (encA f).1 ++ r) : tryE u = none ∧ frOf u = f ∧ n35 u = f.data.size := by
  obtain ⟨k, a, b, c, d, he, hk, hs, hn⟩ := enc_ls hr
  obtain ⟨h1, h2, h3, h4, h5⟩ := right_bd hr
  rw [he] at h
  obtain ⟨g1, g2, g3, g4, g5⟩ := head5 h
  have e1 : n35 u = f.data.size := by rw [g3, hn]
  have e2 : frOf u = f := by
    have : u.extract 5 (5 + n35 u).toNat = f.data := ls_ext (by
      rw [e1, show (5 + (f.data.size : Int)).toNat = 5 + f.data.size by omega, g5, ls_size]
      simp)
    unfold frOf
    rw [this, g1, g2, hk, hs]
  refine ⟨?_, e2, e1⟩
  have hl : 5 + f.data.size ≤ u.size := by
    rw [g4]
    simp [ls_size]
  have hkk : kindE u = none := by
    unfold kindE
    rw [if_neg (by omega), if_neg (by rw [g1, hk]; omega)]
  have hh : headE u = none := by
    unfold headE
    rw [if_neg (by omega), if_neg (by rw [e1]; omega)]
  have hd : dataE u = none := by
    unfold dataE
    rw [if_neg (by rw [e1]; omega), e2, hr]
    rfl
  unfold tryE
  rw [hkk, hh, hd]
/-- A frame that is cut asks for more. -/
theorem try_short {u : ByteArray} {f : Fr} {r : List UInt8} {m : Nat} (hr : rightF f = true) (h : ls u = (ls (encA f).1 ++ r).take m) (hm : m < 5 + f.data.size) : tryE u = some 2 := by
  obtain ⟨k, a, b, c, d, he, hk, hs, hn⟩ := enc_ls hr
  obtain ⟨h1, h2, h3, h4, h5⟩ := right_bd hr
  have hz : u.size = m := by
    rw [ls_size, h, he]
    simp [ls_size] at hm ⊢
    omega
  by_cases h0 : m = 0
  · unfold tryE kindE
    rw [if_pos (by omega)]
  · have hb : byte0 u = f.kind := by
      rw [he] at h
      obtain ⟨j, rfl⟩ : ∃ j, m = j + 1 := ⟨m - 1, by omega⟩
      have : u.data.toList = k :: (a :: b :: c :: d :: (ls f.data ++ r)).take j := h
      unfold byte0
      rw [this, ← hk]
    have hkk : kindE u = none := by
      unfold kindE
      rw [if_neg (by omega), if_neg (by rw [hb]; omega)]
    by_cases h5' : m < 5
    · have hh : headE u = some 2 := by
        unfold headE
        rw [if_pos (by omega)]
      unfold tryE
      rw [hkk, hh]
    · obtain ⟨j, rfl⟩ : ∃ j, m = j + 5 := ⟨m - 5, by omega⟩
      rw [he] at h
      obtain ⟨g1, g2, g3, g4, g5⟩ := head5 (u := u) (r := (ls f.data ++ r).take j) h
      have hh : headE u = none := by
        unfold headE
        rw [if_neg (by omega), if_neg (by rw [g3, hn]; omega)]
      have hd : dataE u = some 2 := by
        unfold dataE
        rw [if_pos (by rw [g3, hn]; omega)]
      unfold tryE
      rw [hkk, hh, hd]

/-- What is taken has these bytes. -/
theorem enc_of_try {u : ByteArray} (h : tryE u = none) : (encA (frOf u)).1 = u.extract 0 (5 + n35 u).toNat ∧ rightF (frOf u) = true ∧ 0 ≤ n35 u ∧ 5 + n35 u ≤ u.size := by
  have hbd := num2_bd (u.extract 3 5)
  have hk : kindE u = none := by
    unfold tryE at h
    cases hk : kindE u with
    | none => rfl
    | some g => rw [hk] at h; cases h
  have hh : headE u = none := by
    unfold tryE at h
    rw [hk] at h
    cases hh : headE u with
    | none => rfl
    | some g => rw [hh] at h; cases h
  have hd : dataE u = none := by
    unfold tryE at h
    rw [hk, hh] at h
    exact h
  have hz : 5 ≤ u.size := by
    unfold headE at hh
    split at hh
    · cases hh
    · omega
  have hl : 5 + n35 u ≤ u.size := by
    unfold dataE at hd
    split at hd
    · cases hd
    · omega
  have hr : rightF (frOf u) = true := by
    unfold dataE at hd
    rw [if_neg (by omega)] at hd
    split at hd
    · assumption
    · cases hd
  obtain ⟨k, a, b, c, d, r, hu⟩ := five (l := ls u) hz
  obtain ⟨g1, g2, g3, g4, g5⟩ := head5 hu
  have h0 : 0 ≤ n35 u := hbd.1
  refine ⟨?_, hr, h0, hl⟩
  obtain ⟨n, hn⟩ : ∃ n : Nat, n35 u = n := ⟨(n35 u).toNat, by omega⟩
  have hdt : ls (frOf u).data = r.take n := by
    show ls (u.extract 5 (5 + n35 u).toNat) = _
    rw [hn, show (5 + (n : Int)).toNat = 5 + n by omega, g5]
  have hsz : ((frOf u).data.size : Int) = n := by
    rw [ls_size, hdt, List.length_take]
    omega
  have hke : UInt8.ofNat (frOf u).kind.toNat = k := by
    show UInt8.ofNat (byte0 u).toNat = k
    rw [g1]
    simp
  obtain ⟨q1, q2⟩ := num_back a b (frOf u).stream g2.symm
  obtain ⟨q3, q4⟩ := num_back c d ((frOf u).data.size : Int) (by rw [hsz, ← hn, g3])
  apply ls_ext
  unfold encA
  rw [hr]
  show ls (⟨#[UInt8.ofNat (frOf u).kind.toNat]⟩ ++ two (frOf u).stream ++ two (frOf u).data.size ++ (frOf u).data) = _
  rw [ls_append, ls_append, ls_append, hdt, ls_extract, hu, hn, hke]
  unfold two
  rw [q1, q2, q3, q4, show (5 + (n : Int)).toNat - 0 = n + 5 by omega]
  rfl
end Go.Proofs.YtfedhhndkeakhaaDoor
