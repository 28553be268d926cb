/- The walk of a timer's Keys. -/
import Derived.Test.YtkkajcakgihckaaTimW
namespace Go.Proofs.Ytkkajcakgihckaa
open Go.RowKit Go.Shelf
attribute [local go_sem] Oper.semAt_some
attribute [local go_sem ↓] Go.wp_at_zero Go.wp_at_succ

theorem NewI.block {w : World} {base : Nat} {v : Value} {ys : List Int} (h : NewI w base v ys) : ∀ j, v.ownBlock = some j → base ≤ j := fun j hj => by
  rcases h.2 with ⟨rfl, _⟩ | ⟨g, cap, cur, rfl, hb, _⟩
  · simp [Value.ownBlock] at hj
  · obtain rfl : g = j := by simpa [Value.ownBlock] using hj
    exact hb

set_option maxRecDepth 100000 in
set_option maxHeartbeats 2000000 in
theorem tmkeys_any (F : List Nat) (t n : Nat) (L : List Ke) (ys : List Int) (hys : keysL L = ys) (w : World) (h : TiAt w F t n L) :
    Calls Try.prog 18 #[.pointer (some ⟨t, 0, none⟩)] w fun e w' => (∃ v, e = .returned v ∧ NewI w' w.heap.size v ys) ∧ Keeps [] w w' := by
  obtain ⟨i0, hi, hz0, hz1, hz2⟩ := info_parts tint_info10
  have HYS := Lib.hid hys
  have hle := h.good.le
  obtain ⟨G, hG, hGF⟩ := h
  have c0 := hG.row.head.cell 0
  simp at c0
  have hk0 : Keeps [] w (w.alloc (.cells #[G.v] 53)) := (Keeps.refl [] w).alloc _
  have hS := sorted_any w.heap.size t n L G (w.alloc (.cells #[G.v] 53)) (hG.keeps hk0 (by simp)) ((Blk.new w 53 #[G.v]).cell 0)
  obtain ⟨a0, cc, hv⟩ := owns_val hG.row.row
  rw [hv] at hS c0
  have HK0 := Lib.hid hk0
  rw [hv] at HK0
  obtain ⟨M, hM⟩ : ∃ M, L.length = M := ⟨_, rfl⟩
  have HM := Lib.hid hM
  clear hys hk0 hG hv hGF
  go_enter Try.func18, Try.ntmps18
  go_wp2_with (first
    | (go_at_call 30; refine (values_any _ _ _ _).mono ?_; rintro e w1 ⟨rfl, rfl⟩)
    | (go_at_call 29; refine hS.mono ?_; rintro e w2 ⟨⟨v2, rfl, hp2⟩, k2⟩; clear hS; obtain ⟨a, c, g, b, rfl, ha, hgb, hc⟩ := hp2; have HA := Lib.hid ha; have HC := Lib.hid hc; have HGB := Lib.hid hgb; have K2 := Lib.hid (HK0.out.trans k2); have HSZ : Hid (w.heap.size + 1 ≤ w2.heap.size) := Lib.hid (by have := k2.size; rw [World.size_alloc] at this; omega); clear ha hc hgb k2; rw [HM.out]))
  go_loopw [3, 15] (fun v i wr => ∃ k : Nat, k ≤ M ∧ i = .int .i64 k ∧ Hid (NewI wr w2.heap.size v (ys.take k)) ∧ Hid (Keeps [] w2 wr)) (fun _ i _ => M - (intOf i).toNat)
  case atStart => exact ⟨0, Nat.zero_le _, rfl, Lib.hid (World.ownsRow_nil _ _ _ _), Lib.hid (Keeps.refl _ _)⟩
  case round =>
    obtain ⟨k, hk, rfl, HR, HK⟩ := hrel
    by_cases hlt : k < M
    · have hkL : k < L.length := by rw [HM.out]; exact hlt
      obtain ⟨h1, h2, h3⟩ := HC.out k hkL
      obtain rfl := HA.out (by omega)
      obtain ⟨z, hz⟩ : ∃ z, (L[k]).key = z := ⟨_, rfl⟩
      have q1 : wr.cell? ⟨g, k, none⟩ = some (.pointer (some ⟨b k, 0, none⟩)) := (HK.out.cell (p := ⟨g, k, none⟩) (World.block_lt_of_cell? w2 _ h1) (by simp)).trans h1
      have q2 : wr.cell? ⟨b k, 0, none⟩ = some (.int .i64 z) := by rw [← hz]; exact (HK.out.cell (p := ⟨b k, 0, none⟩) (World.block_lt_of_cell? w2 _ h3) (by simp)).trans h3
      have i1 : (0 : Int) ≤ (k : Int) := by omega
      have i2 : (k : Int) < (M : Int) := by omega
      have htk : ys.take (k + 1) = ys.take k ++ [z] := by
        have hyl : k < ys.length := by rw [← HYS.out]; unfold keysL; simpa using hkL
        rw [List.take_succ_eq_append_getElem hyl]
        congr 2
        rw [← hz]
        have : ys[k]? = some (L[k]).key := by rw [← HYS.out]; unfold keysL; rw [List.getElem?_map, List.getElem?_eq_getElem hkL]; rfl
        rw [List.getElem?_eq_getElem hyl] at this
        simpa using this
      have hln : (ys.take k).length = k := by rw [List.length_take]; have : ys.length = M := by rw [← HYS.out]; unfold keysL; rw [List.length_map, HM.out]
                                              omega
      have hsz := HK.out.size
      have HTK := Lib.hid htk
      have HLN := Lib.hid hln
      have hrow : wr.ownsRow w2.heap.size 3 1 u3 k ((ys.take k).map (Value.int .i64)) := by
        have h4 := HR.out.1
        have h5 := HR.out
        unfold NewI at h5
        rw [hln] at h5
        exact h5
      have HRW := Lib.hid hrow
      clear h1 h2 h3 hz htk hln hrow hkL
      go_wp2_with (at_builtin; refine wpList_append_lies _ rfl _ _ _ (by rfl) w2.heap.size 3 i0 _ 1 8 Try.underlying32 hi hz0 hz1 hz2 rfl (by omega) u3 k _ (by rfl) (World.ownsRow.alloc HRW.out _) ⟨wr.heap.size, 0, none⟩ 1 1 _ (by rfl) (by rfl) (World.news_of_block (heap_alloc_new _ _)) (by simp [Value.oneCell']) (by omega) (by unfold maxLen; omega) (by omega) (by simp; omega) (wr.heap.size + 1) (by simp) ?_; intro g2 cap2 w4 hown1 hgrow hat hlt2)
      go_roundw
      case rel =>
        refine ⟨k + 1, by omega, by go_num, Lib.hid ?_, Lib.hid ?_⟩
        · unfold NewI
          rw [HTK.out, List.map_append, List.length_append, HLN.out]
          exact hown1
        · exact (HK.out.alloc _).grown hgrow (fun j hj => by
            have := HR.out.block j hj
            right; omega)
      case measure => simp [intOf]; omega
    · obtain rfl : k = M := by omega
      go_wp2
      go_ret
      have hyl : ys.length = k := by rw [← HYS.out]; unfold keysL; rw [List.length_map, HM.out]
      have hrw := HR.out
      rw [List.take_of_length_le (by omega)] at hrw
      exact ⟨⟨_, rfl, hrw.to (by have := HSZ.out; omega)⟩, K2.out.trans HK.out⟩
end Go.Proofs.Ytkkajcakgihckaa
