/- The walks of words.Right, and of areItems. -/
import Derived.Test.YtbcppmcjbcnlbaaDoorSnapP
import Derived.Test.YtbcppmcjbcnlbaaDoorErr
import Derived.Test.YtbcppmcjbcnlbaaDoorMapI
import Derived.Test.YtbcppmcjbcnlbaaDoorIterC
import Derived.Laws.RangeAny
namespace Go.Proofs.YtbcppmcjbcnlbaaDoor
open Go.RowKit Go.Shelf
attribute [local go_sem ↓] Go.wp_at_zero Go.wp_at_succ

theorem byteB_high (b : UInt8) (h : 128 ≤ b.toNat) : byteB b = false := by
  unfold byteB; simp; omega
theorem plain_take (s : ByteArray) (k : Nat) (h : k < s.size) : (s.data.toList.take (k + 1)).all byteB = ((s.data.toList.take k).all byteB && byteB (s[k]'h)) := by
  rw [List.take_succ_eq_append_getElem (by simpa using h), List.all_append]
  simp; rfl
theorem plain_bad (s : ByteArray) (k : Nat) (h : k < s.size) (hb : byteB (s[k]'h) = false) : plainB s = false := by
  unfold plainB
  apply Bool.eq_false_iff.2
  intro ha
  rw [List.all_eq_true] at ha
  have := ha (s[k]'h) (by
    have : s.data.toList[k]'(by simpa using h) ∈ s.data.toList := List.getElem_mem _
    exact this)
  rw [hb] at this
  cases this
theorem keeps_iter (w : World) (s : ByteArray) (k : Nat) : Keeps [] w (w.iter s k) := (Keeps.refl [] w).alloc _

set_option maxRecDepth 100000 in
set_option maxHeartbeats 1000000 in
theorem isPlain_any (s : ByteArray) (b : Bool) (hb : plainB s = b) (w : World) : Calls Tryd.prog 50 #[.string s] w fun r w' => r = .returned (.bool b) ∧ Keeps [] w w' := by
  have HB := Lib.hid hb
  clear hb
  go_enter Tryd.func50, Tryd.ntmps50
  go_wp2
  go_loopw [4] (fun _ w' => ∃ k : Nat, k ≤ s.size ∧ w' = w.iter s k ∧ Hid ((s.data.toList.take k).all byteB = true)) (fun _ w' => s.size - w'.iterPos w.heap.size)
  case atStart => exact ⟨0, Nat.zero_le _, rfl, Lib.hid rfl⟩
  case round =>
    obtain ⟨k, hk, rfl, HO⟩ := hrel
    by_cases hp : k < s.size
    · obtain ⟨c, hc⟩ : ∃ c, (s[k]'hp) = c := ⟨_, rfl⟩
      by_cases ha : c.toNat < 128
      · have hnx : ∀ ty, (Instr.next (.pointer (some ⟨w.heap.size, 0, none⟩)) true ty).run Tryd.prog (w.iter s k) = .ok (.tuple #[.bool true, .int .i64 k, .int .i32 c.toNat]) (w.iter s (k + 1)) := fun ty => by
          have := run_next_ascii (P := Tryd.prog) w s k ty hp (by rw [hc]; exact ha)
          rw [hc] at this
          exact this
        have HC := Lib.hid hc
        have HP := Lib.hid hp
        have HNX := Lib.hid (plain_take s k hp)
        clear hc
        cases hcb : byteB c with
        | true =>
          have h32 : ¬ (c.toNat : Int) < 32 := by unfold byteB at hcb; simp at hcb; omega
          have h126 : ¬ (126 : Int) < (c.toNat : Int) := by unfold byteB at hcb; simp at hcb; omega
          have HO2 : Hid ((s.data.toList.take (k + 1)).all byteB = true) := Lib.hid (by rw [HNX.out, HO.out, HC.out, hcb]; rfl)
          clear hcb
          go_wp2
          go_roundw
          case rel => exact ⟨k + 1, by omega, rfl, HO2⟩
          case measure => simp; omega
        | false =>
          obtain rfl : b = false := by rw [← HB.out]; exact plain_bad s k HP.out (by rw [HC.out]; exact hcb)
          have hor : (c.toNat : Int) < 32 ∨ (¬ (c.toNat : Int) < 32 ∧ (126 : Int) < (c.toNat : Int)) := by unfold byteB at hcb; simp at hcb; omega
          clear hcb
          rcases hor with h32 | ⟨h32, h126⟩
          all_goals
            go_wp2
            go_ret
            exact ⟨rfl, keeps_iter w s _⟩
      · obtain rfl : b = false := by rw [← HB.out]; exact plain_bad s k hp (by rw [hc]; exact byteB_high c (by omega))
        have hd := decode_high s k hp (by rw [hc]; omega)
        obtain ⟨r, hr⟩ : ∃ r : Nat, (Utf8.decode s k).1 = r := ⟨_, rfl⟩
        obtain ⟨q, hq⟩ : ∃ q, k + (Utf8.decode s k).2 = q := ⟨_, rfl⟩
        have hnx : ∀ ty, (Instr.next (.pointer (some ⟨w.heap.size, 0, none⟩)) true ty).run Tryd.prog (w.iter s k) = .ok (.tuple #[.bool true, .int .i64 k, .int .i32 r]) (w.iter s q) := fun ty => by
          have := run_next_any (P := Tryd.prog) w s k ty hp
          rw [hr, hq] at this
          exact this
        have h32 : ¬ (r : Int) < 32 := by omega
        have h126 : (126 : Int) < (r : Int) := by omega
        clear hc hd hr hq
        go_wp2
        go_ret
        exact ⟨rfl, keeps_iter w s _⟩
    · obtain rfl : k = s.size := by omega
      obtain rfl : b = true := by
        rw [← HB.out]
        have := HO.out
        rwa [List.take_of_length_le (by simp)] at this
      have hnx : ∀ ty, (Instr.next (.pointer (some ⟨w.heap.size, 0, none⟩)) true ty).run Tryd.prog (w.iter s s.size) = _ := fun ty => run_next_end w s s.size ty hp
      go_wp2
      go_ret
      exact ⟨rfl, keeps_iter w s _⟩

set_option maxRecDepth 100000 in
theorem word_any (s : ByteArray) (hs : s.size ≤ maxLen) (b : Bool) (hb : wordB s = b) (w : World) : Calls Tryd.prog 43 #[.string s] w fun r w' => r = .returned (.bool b) ∧ Keeps [] w w' := by
  have HS := Lib.hid hs
  unfold maxLen at hs
  unfold wordB at hb
  by_cases h : s.size ≤ 64
  · rw [decide_eq_true h, Bool.true_and] at hb
    have HB := Lib.hid hb
    have h1 : (s.size : Int) ≤ 64 := by omega
    clear hb
    go_enter Tryd.func43, Tryd.ntmps43
    go_wp2_with (fail)
    refine (isPlain_any s b HB.out _).mono ?_
    rintro r w' ⟨rfl, hk⟩
    go_wp2
    go_ret
    exact ⟨rfl, hk⟩
  · rw [decide_eq_false h, Bool.false_and] at hb
    subst hb
    have h1 : ¬ (s.size : Int) ≤ 64 := by omega
    go_enter Tryd.func43, Tryd.ntmps43
    go_wp2_with (fail)
    go_ret
    exact ⟨rfl, Keeps.refl [] w⟩

set_option maxRecDepth 100000 in
theorem isOther_any (s : ByteArray) (hs : s.size ≤ maxLen) (b : Bool) (hb : wordB s = b) (w : World) : Calls Tryd.prog 42 #[.string s] w fun r w' => r = .returned (.bool (!b)) ∧ Keeps [] w w' := by
  have HB := Lib.hid hb
  have HS := Lib.hid hs
  clear hb hs
  go_enter Tryd.func42, Tryd.ntmps42
  go_wp2_with (fail)
  refine (word_any s HS.out b HB.out _).mono ?_
  rintro r w' ⟨rfl, hk⟩
  go_wp2
  go_ret
  exact ⟨rfl, hk⟩

/-- The slice at a holds these texts. -/
def StrsAt (w : World) (g off : Nat) (L : List ByteArray) : Prop := ∀ i (h : i < L.length), w.cell? ⟨g, off + i, none⟩ = some (.string L[i])
def StrsIn (w : World) (a : Option Addr) (L : List ByteArray) : Prop := L ≠ [] → ∃ g off cs fz, a = some ⟨g, off, none⟩ ∧ w.heap[g]? = some (.cells cs 9 fz) ∧ StrsAt w g off L
/-- No block of texts is among these. -/
def NoStr (w : World) (S : List Nat) : Prop := ∀ k ∈ S, ∀ cs fz, w.heap[k]? ≠ some (.cells cs 9 fz)
theorem StrsIn.keepsS {S : List Nat} {w w' : World} {a : Option Addr} {L : List ByteArray} (h : StrsIn w a L) (hk : Keeps S w w') (hS : NoStr w S) : StrsIn w' a L := fun hn => by
  obtain ⟨g, off, cs, fz, ha, hg, hat⟩ := h hn
  have hl := (Array.getElem?_eq_some_iff.1 hg).1
  have hgS : g ∉ S := fun hm => hS g hm cs fz hg
  exact ⟨g, off, cs, fz, ha, (hk.block g hl hgS).trans hg, fun i hi => (hk.cell (p := ⟨g, off + i, none⟩) hl hgS).trans (hat i hi)⟩
theorem NoStr.nil (w : World) : NoStr w [] := fun _ h => by cases h
theorem StrsIn.keeps {w w' : World} {a : Option Addr} {L : List ByteArray} (h : StrsIn w a L) (hk : Keeps [] w w') : StrsIn w' a L := h.keepsS hk (NoStr.nil w)
theorem StrsIn.take {w : World} {a : Option Addr} {L : List ByteArray} (h : StrsIn w a L) (k : Nat) : StrsIn w a (L.take k) := fun hn => by
  obtain ⟨g, off, cs, fz, ha, hg, hat⟩ := h (by rintro rfl; simp at hn)
  exact ⟨g, off, cs, fz, ha, hg, fun i hi => by
    have hi2 : i < L.length := by simp at hi; omega
    rw [hat i hi2]; simp⟩

set_option maxRecDepth 100000 in
set_option maxHeartbeats 1000000 in
/-- slices.IndexFunc at the predicate 'no word'. -/
theorem indexOther_any (a : Option Addr) (c : Nat) (L : List ByteArray) (b : Bool) (hb : L.all wordB = b) (w : World) (hL : StrsIn w a L) (hlen : L.length ≤ 1000000) (hs : ∀ s ∈ L, s.size ≤ maxLen) :
    Calls Tryd.prog 51 #[.slice a L.length c, .func (.func 42) #[] #[]] w fun r w' => (∃ i : Int, r = .returned (.int .i64 i) ∧ (decide (0 ≤ i) = !b)) ∧ Keeps [] w w' := by
  have HB := Lib.hid hb
  have HL := Lib.hid hL
  have HS := Lib.hid hs
  obtain ⟨N, hN⟩ : ∃ N, L.length = N := ⟨_, rfl⟩
  have HN := Lib.hid hN
  have hNN : N ≤ 1000000 := by omega
  rw [hN]
  clear hb hL hs hN hlen
  go_enter Tryd.func51, Tryd.ntmps51
  go_wp2
  go_loopw [5, 8] (fun _ i wr => ∃ k : Nat, k ≤ N ∧ i = .int .i64 k ∧ Hid ((L.take k).all wordB = true) ∧ Hid (Keeps [] w wr)) (fun _ i _ => N - (intOf i).toNat)
  case atStart => exact ⟨0, Nat.zero_le _, rfl, Lib.hid rfl, Lib.hid (Keeps.refl [] w)⟩
  case round =>
    obtain ⟨k, hk, rfl, HO, HK⟩ := hrel
    by_cases hlt : k < N
    · have hk1 : k < L.length := by rw [HN.out]; exact hlt
      obtain ⟨g, off, cs, fz, rfl, hgb, hat⟩ := HL.out (by rintro rfl; simp at hk1)
      have hg := (Array.getElem?_eq_some_iff.1 hgb).1
      obtain ⟨x, hx⟩ : ∃ x, L[k] = x := ⟨_, rfl⟩
      have q1 := hat k hk1
      rw [hx, ← HK.out.cell (by exact hg) (by simp)] at q1
      have i1 : (0 : Int) ≤ (k : Int) := by omega
      have i2 : (k : Int) < (N : Int) := by omega
      have hxs : x.size ≤ maxLen := HS.out x (by rw [← hx]; exact List.getElem_mem _)
      have htk : (L.take (k + 1)).all wordB = ((L.take k).all wordB && wordB x) := by
        rw [List.take_succ_eq_append_getElem hk1, List.all_append, hx]; simp
      have hmem : x ∈ L := by rw [← hx]; exact List.getElem_mem _
      have HM := Lib.hid hmem
      have HT := Lib.hid htk
      have HXS := Lib.hid hxs
      clear hat hx htk hxs hmem hk1 hgb
      cases hr : wordB x with
      | true =>
        have HO2 : Hid ((L.take (k + 1)).all wordB = true) := Lib.hid (by rw [HT.out, HO.out, hr]; rfl)
        have HR := Lib.hid hr
        clear hr
        go_wp2_with (fail)
        refine (isOther_any x HXS.out true HR.out _).mono ?_
        rintro r w2 ⟨rfl, hk2⟩
        have HK2 := Lib.hid (HK.out.trans hk2)
        clear hk2
        go_wp2
        go_roundw
        case rel => exact ⟨k + 1, by omega, by go_num, HO2, HK2⟩
        case measure => simp [intOf]; omega
      | false =>
        obtain rfl : b = false := by
          rw [← HB.out]
          apply Bool.eq_false_iff.2
          intro ha
          rw [List.all_eq_true] at ha
          have := ha x HM.out
          rw [hr] at this
          cases this
        have HR := Lib.hid hr
        clear hr
        go_wp2_with (fail)
        refine (isOther_any x HXS.out false HR.out _).mono ?_
        rintro r w2 ⟨rfl, hk2⟩
        have HK2 := Lib.hid (HK.out.trans hk2)
        clear hk2
        go_wp2
        go_ret
        exact ⟨⟨_, rfl, by simp⟩, HK2.out⟩
    · obtain rfl : k = N := by omega
      obtain rfl : b = true := by
        rw [← HB.out]
        have := HO.out
        rwa [List.take_of_length_le (by rw [HN.out]; exact Nat.le_refl _)] at this
      go_wp2
      go_ret
      exact ⟨⟨_, rfl, by simp⟩, HK.out⟩

set_option maxRecDepth 100000 in
theorem containsOther_any (a : Option Addr) (c : Nat) (L : List ByteArray) (b : Bool) (hb : L.all wordB = b) (w : World) (hL : StrsIn w a L) (hlen : L.length ≤ 1000000) (hs : ∀ s ∈ L, s.size ≤ maxLen) :
    Calls Tryd.prog 44 #[.slice a L.length c, .func (.func 42) #[] #[]] w fun r w' => r = .returned (.bool (!b)) ∧ Keeps [] w w' := by
  have HB := Lib.hid hb
  have HL := Lib.hid hL
  have HS := Lib.hid hs
  have HN := Lib.hid hlen
  clear hb hL hs hlen
  go_enter Tryd.func44, Tryd.ntmps44
  go_wp2_with (fail)
  refine (indexOther_any a c L b HB.out _ HL.out HN.out HS.out).mono ?_
  rintro r w' ⟨⟨i, rfl, hi⟩, hk⟩
  have HK := Lib.hid hk
  clear hk
  go_wp2
  go_ret
  exact ⟨rfl, HK.out⟩

set_option maxRecDepth 100000 in
theorem areItems_any (a : Option Addr) (c : Nat) (L : List ByteArray) (b : Bool) (hb : itemsB L = b) (w : World) (hL : StrsIn w a L) (hlen : L.length ≤ 1000000) (hs : ∀ s ∈ L, s.size ≤ maxLen) :
    Calls Tryd.prog 24 #[.slice a L.length c] w fun r w' => r = .returned (.bool b) ∧ Keeps [] w w' := by
  have HL := Lib.hid hL
  have HS := Lib.hid hs
  have HN := Lib.hid hlen
  unfold itemsB at hb
  by_cases h : L.length ≤ 64
  · rw [decide_eq_true h, Bool.true_and] at hb
    have HB := Lib.hid hb
    have h1 : (L.length : Int) ≤ 64 := by omega
    clear hb hL hs
    go_enter Tryd.func24, Tryd.ntmps24
    go_wp2_with (fail)
    refine (containsOther_any a c L b HB.out _ HL.out HN.out HS.out).mono ?_
    rintro r w' ⟨rfl, hk⟩
    have HK := Lib.hid hk
    clear hk
    go_wp2
    go_ret
    exact ⟨by simp, HK.out⟩
  · rw [decide_eq_false h, Bool.false_and] at hb
    subst hb
    have h1 : ¬ (L.length : Int) ≤ 64 := by omega
    clear hL hs
    go_enter Tryd.func24, Tryd.ntmps24
    go_wp2_with (fail)
    go_ret
    exact ⟨rfl, Keeps.refl [] w⟩
end Go.Proofs.YtbcppmcjbcnlbaaDoor
