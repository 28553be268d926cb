/- The walks of the queue's first and of the function that it hands back. -/
import Derived.Test.YtollcbacpoohlaaGreatDoorFifoD
import Derived.Test.YtollcbacpoohlaaGreatDoorIter
namespace Go.Proofs.YtollcbacpoohlaaGreatDoor
open Go.RowKit Go.Shelf
attribute [local go_sem] Oper.semAt_some
attribute [local go_sem ↓] Go.wp_at_zero Go.wp_at_succ

set_option maxHeartbeats 400000 in
theorem first_any (p : Addr) (n : Int) (w : World) :
    Calls Tryz.prog 101 #[.pointer (some p), .int .i64 n] w fun e w' => e = .returned (.func (.func 107) #[] #[.pointer (some ⟨w.heap.size + 1, 0, none⟩), .pointer (some ⟨w.heap.size, 0, none⟩), .pointer (some ⟨w.heap.size + 2, 0, none⟩)])
      ∧ ((w.alloc (.cells #[.pointer (some p)] 80)).alloc (.cells #[.int .i64 n] 3)).alloc (.cells #[.func (.func 89) #[.pointer (some p)] #[]] 83) = w' := by
  go_enter Tryz.func101, Tryz.ntmps101
  go_wp2
  go_ret
  exact ⟨rfl, rfl⟩
/-- What first hands back captures three variables: the queue, a number, at. -/
structure FirstAt (W : World) (B0 b bb cap fr : Nat) (A : Array Value) (q : List UInt8) (m : Int) : Prop where
  f : Blk W B0 80 #[.pointer (some ⟨b, 0, none⟩)]
  n : Blk W (B0 + 1) 3 #[.int .i64 m]
  at_ : Blk W (B0 + 2) 83 #[.func (.func 89) #[.pointer (some ⟨b, 0, none⟩)] #[]]
  fi : FiAt W b bb cap fr A q

theorem FirstAt.same {W W' : World} {B0 b bb cap fr : Nat} {A : Array Value} {q : List UInt8} {m : Int} (h : FirstAt W B0 b bb cap fr A q m) (hs : SameOn [B0, B0 + 1, B0 + 2, b, bb] W W') : FirstAt W' B0 b bb cap fr A q m :=
  ⟨hs.blk (by simp) h.f, hs.blk (by simp) h.n, hs.blk (by simp) h.at_, hs.blk (by simp) h.fi.head, hs.blk (by simp) h.fi.ring, h.fi.size, h.fi.pos, h.fi.le, h.fi.from_, h.fi.len, h.fi.holds⟩

set_option maxRecDepth 100000 in
set_option maxHeartbeats 1000000 in
theorem first1_in (n l B0 b bb cap fr : Nat) (A : Array Value) (q : List UInt8) (m : Int) (J Jx : List UInt8 → World → Prop)
    (hJ : ∀ pre W k, J pre W → J pre (W.drewN k)) (hY : ∀ pre x W, J pre W → pre.length < (q.take m.toNat).length → YieldAt Fence.wide (n - 1) Tryz.prog l #[.int .u8 (x.toNat : Int)] W fun e W' =>
      (e = .returned (.bool true) ∧ J (pre ++ [x]) W' ∧ SameOn [B0, B0 + 1, B0 + 2, b, bb] W W') ∨ (e = .returned (.bool false) ∧ Jx (pre ++ [x]) W'))
    (W : World) (hF : FirstAt W B0 b bb cap fr A q m) (h0 : J [] W) :
    CallsIn Fence.wide n Tryz.prog 107 #[.func (.yield l) #[] #[], .pointer (some ⟨B0 + 1, 0, none⟩), .pointer (some ⟨B0, 0, none⟩), .pointer (some ⟨B0 + 2, 0, none⟩)] W fun e W' => (∃ v, e = .returned v) ∧
      ((∃ ys, ys = q.take m.toNat ∧ J ys W') ∨ (∃ pre, pre <+: q.take m.toNat ∧ Jx pre W')) := by
  have hcn : W.cell? ⟨B0 + 1, 0, none⟩ = some (.int .i64 m) := hF.n.cell 0
  have hcf : W.cell? ⟨B0, 0, none⟩ = some (.pointer (some ⟨b, 0, none⟩)) := hF.f.cell 0
  have hc2 := hF.fi.c2
  refine callsIn_of_wp Tryz.func107 rfl trivial ?_ rfl
  simp only [Tryz.ntmps107, List.size_toArray, List.length_cons, List.length_nil, Nat.reduceAdd, Nat.reduceSub, Array.replicate_succ, Array.replicate_zero, List.push_toArray, List.append_toArray, List.nil_append, List.cons_append]
  gi_wp2
  refine wpIn_scope_wide (wpIn_seq (wpIn_label ?_))
  gi_wp2
  gi_quiet (fail)
  have hL : (q.take m.toNat).length = min m.toNat q.length := List.length_take
  generalize hM : (if (q.length : Int) < m then (q.length : Int) else m) = M
  have hK1 : M.toNat ≤ q.length := by split at hM <;> omega
  have hK4 : M.toNat ≤ (q.take m.toNat).length := by split at hM <;> omega
  have hK5 : (q.take m.toNat).length ≤ M.toNat := by split at hM <;> omega
  have hM1 : M ≤ 4096 := by have := hF.fi.len; have := hF.fi.le; split at hM <;> omega
  have hTM : q.take M.toNat = q.take m.toNat := by
    have : M.toNat = min m.toNat q.length := by split at hM <;> omega
    rw [this, ← List.take_eq_take_min]
  have HTM := Lib.hid hTM
  clear hM hL hTM
  have hJ0 : J [] (W.drewN nq) := hJ _ _ _ h0
  have hF0 : FirstAt (W.drewN nq) B0 b bb cap fr A q m := hF.same (fun _ _ => rfl)
  have hFF := Lib.hid hF0
  clear hF hF0 hcn hcf hc2
  have HJJ := Lib.hid hJ
  clear h0
  gi_wp2
  gi_loopw [5, 13] (fun _ i wr => ∃ k : Nat, i = .int .i64 k ∧ k ≤ M.toNat ∧ J (q.take k) wr ∧ Hid (FirstAt wr B0 b bb cap fr A q m)) (fun _ i _ => M.toNat - (intOf i).toNat)
  case atStart => exact ⟨0, rfl, Nat.zero_le _, hJ0, hFF⟩
  case round =>
    obtain ⟨k, rfl, hk, hJs, hFs⟩ := hrel
    by_cases hlt : k < M.toNat
    · obtain ⟨j, hj⟩ : ∃ j, (fr + k) % cap = j := ⟨_, rfl⟩
      have hF := hFs.out
      have hcf : wr.cell? ⟨B0, 0, none⟩ = some (.pointer (some ⟨b, 0, none⟩)) := hF.f.cell 0
      have hca : wr.cell? ⟨B0 + 2, 0, none⟩ = some (.func (.func 89) #[.pointer (some ⟨b, 0, none⟩)] #[]) := hF.at_.cell 0
      have hc0 := hF.fi.c0
      have hc1 := hF.fi.c1
      have hlq : k < q.length := by omega
      have hjc : j < cap := by rw [← hj]; exact Nat.mod_lt _ (by have := hF.fi.pos; omega)
      have hjx : wr.cell? ⟨bb, j, none⟩ = some (.int .u8 (q[k].toNat : Int)) := by rw [hF.fi.ring.cell, ← hj]; exact hF.fi.holds k hlq
      have hpos := hF.fi.pos
      have hfc := hF.fi.from_
      have hle := hF.fi.le
      have hlen := hF.fi.len
      have hj1 : (0 : Int) ≤ (j : Int) := by omega
      have hj2 : (j : Int) < (cap : Int) := by omega
      have htk : q.take k ++ [q[k]] = q.take (k + 1) := by rw [List.take_succ_eq_append_getElem hlq]
      have hYN : ∀ N, YieldAt Fence.wide (n - 1) Tryz.prog l #[.int .u8 (q[k].toNat : Int)] (wr.drewN N) fun e W' => ∃ g : Bool, e = .returned (.bool g) ∧ Hid (g = true → J (q.take (k + 1)) W' ∧ SameOn [B0, B0 + 1, B0 + 2, b, bb] wr W') ∧ Hid (g = false → Jx (q.take (k + 1)) W') := fun N => by
        have h1 := hY (q.take k) q[k] (wr.drewN N) (hJ _ _ _ hJs) (by rw [List.length_take]; omega)
        rw [htk] at h1
        exact yield_one h1
      have HY := Lib.hid hYN
      have HJ := Lib.hid hj
      have HT := Lib.hid htk
      have HJs := Lib.hid hJs
      obtain ⟨x, hx⟩ : ∃ x : Int, x = (q[k].toNat : Int) := ⟨_, rfl⟩
      rw [← hx] at hjx HY
      have HFA := Lib.hid hF
      clear hYN hj htk hJs hF hx hY hJ hJ0 hFF hFs hK1
      have hmo : Tryz.prog.follows .mixedOrders = true := by kernel_rfl
      have hn1 : Fence.wide.depth.isSome = true → 1 ≤ n := by intro h; cases h
      gi_wp2_with (fail)
      gi_region_with_o (first | (refine ⟨trivial, hn1, ?_⟩; gi_at_call 89; refine (callsIn_wide.2 (at_any b bb cap fr k j HJ.out _ ?_ ?_ ?_ ?_ ?_ ?_)).mono ?_ <;> first | (simp [*]; done) | omega | (rintro e w' ⟨rfl, n2, rfl⟩; obtain ⟨fn, tmps, assign, body, hy, hR⟩ := HY.out (1 + n2))) | (refine ⟨hn1, ?_⟩; refine hR.mono ?_; rintro e W3 ⟨g, rfl, hT, hF⟩))
      all_goals
        have hF3 : g = true → Hid (FirstAt W3 B0 b bb cap fr A q m) := fun h => HFA.out.same (hT.out h).2
        have hJ3 : g = true → J (q.take (k + 1)) W3 := fun h => (hT.out h).1
        have HF3 := Lib.hid hF3
        have HJ3 := Lib.hid hJ3
        have hX3 : g = false → Jx (q.take (k + 1)) W3 := fun h => hF.out h
        have HX3 := Lib.hid hX3
        clear hF3 hJ3 hT hX3 hF
        cases g with
        | true =>
          have HA := HF3.out rfl
          have HB := Lib.hid (HJ3.out rfl)
          clear HF3 HJ3 HX3
          gi_wp2
          go_roundw
          case rel => exact ⟨k + 1, by go_num, by omega, HB.out, HA⟩
          case measure => simp [intOf]; omega
        | false =>
          have HA := Lib.hid (HX3.out rfl)
          clear HF3 HJ3 HX3
          gi_wp2
          try rw [Exit.noGoto_normal]
          go_end0
          exact ⟨⟨_, rfl⟩, .inr ⟨q.take (k + 1), by rw [← HTM.out, show q.take (k + 1) = (q.take M.toNat).take (k + 1) by rw [List.take_take, Nat.min_eq_left (by omega)]]; exact List.take_prefix _ _, HA.out⟩⟩
    · obtain rfl : k = M.toNat := by omega
      have HJs := Lib.hid hJs
      clear hJs hK1 hK4 hK5 hJ0 hFF hFs hJ
      gi_wp2
      try rw [Exit.noGoto_normal]
      go_end0
      exact ⟨⟨_, rfl⟩, .inl ⟨_, rfl, by rw [← HTM.out]; exact HJs.out⟩⟩
end Go.Proofs.YtollcbacpoohlaaGreatDoor
