/- Listings in memory; the walk of the iterator over a pool's; told; Clone. -/
import Derived.Test.YtbcppmcjbcnlbaaDoorSnapA
import Derived.Sort.LoopGhostIn
namespace Go.Proofs.YtbcppmcjbcnlbaaDoor
open Go.RowKit Go.Shelf
attribute [local go_sem] Oper.semAt_some
attribute [local go_sem ↓] Go.wp_at_zero Go.wp_at_succ

/-- A listing as it lies in memory: its items are a slice. -/
structure SV where
  cur : Int
  ia : Option Addr
  il : Nat
  ic : Nat
  used : Int
def SV.cells (s : SV) : List Value := [.int .i64 s.cur, .slice s.ia s.il s.ic, .int .i64 s.used]
def SV.arr (s : SV) : Array Value := #[.int .i64 s.cur, .slice s.ia s.il s.ic, .int .i64 s.used]
def SV.v (s : SV) : Value := .agg #[.int .i64 s.cur, .slice s.ia s.il s.ic, .int .i64 s.used]

/-- The slice at a, of capacity c, is these texts. -/
structure StrsV (w : World) (a : Option Addr) (c : Nat) (xs : List ByteArray) : Prop where
  le : xs.length ≤ c
  at_ : StrsIn w a xs
  small : xs.length ≤ 1000000
  size : ∀ x ∈ xs, x.size ≤ maxLen
  nil : a = none → c = 0
theorem StrsV.keepsS {S : List Nat} {w w' : World} {a : Option Addr} {c : Nat} {xs : List ByteArray} (h : StrsV w a c xs) (hk : Keeps S w w') (hS : NoStr w S) : StrsV w' a c xs := ⟨h.le, h.at_.keepsS hk hS, h.small, h.size, h.nil⟩
theorem StrsV.keeps {w w' : World} {a : Option Addr} {c : Nat} {xs : List ByteArray} (h : StrsV w a c xs) (hk : Keeps [] w w') : StrsV w' a c xs := ⟨h.le, h.at_.keeps hk, h.small, h.size, h.nil⟩

/-- The slice at a holds these listings' cells. -/
def RowIn (w : World) (a : Option Addr) (V : List SV) : Prop := V ≠ [] → ∃ g off cs fz, a = some ⟨g, off, none⟩ ∧ w.heap[g]? = some (.cells cs 39 fz) ∧ ∀ i (h : i < V.length),
  w.cell? ⟨g, off + i * 3, none⟩ = some (.int .i64 V[i].cur) ∧ w.cell? ⟨g, off + i * 3 + 1, none⟩ = some (.slice V[i].ia V[i].il V[i].ic) ∧ w.cell? ⟨g, off + i * 3 + 2, none⟩ = some (.int .i64 V[i].used)
theorem RowIn.keepsS {S : List Nat} {w w' : World} {a : Option Addr} {V : List SV} (h : RowIn w a V) (hk : Keeps S w w') (hS : ∀ k ∈ S, ∀ (cs : Array Value) (fz : Nat × Nat), w.heap[k]? ≠ some (Obj.cells cs 39 fz)) : RowIn w' a V := fun hn => by
  obtain ⟨g, off, cs, fz, ha, hb, hat⟩ := h hn
  have hg := (Array.getElem?_eq_some_iff.1 hb).1
  have hgS : g ∉ S := fun hm => hS g hm cs fz hb
  exact ⟨g, off, cs, fz, ha, (hk.block g hg hgS).trans hb, fun i hi => by
    obtain ⟨h0, h1, h2⟩ := hat i hi
    exact ⟨(hk.cell (p := ⟨g, off + i * 3, none⟩) hg hgS).trans h0, (hk.cell (p := ⟨g, off + i * 3 + 1, none⟩) hg hgS).trans h1, (hk.cell (p := ⟨g, off + i * 3 + 2, none⟩) hg hgS).trans h2⟩⟩
theorem RowIn.keeps {w w' : World} {a : Option Addr} {V : List SV} (h : RowIn w a V) (hk : Keeps [] w w') : RowIn w' a V := h.keepsS hk (fun _ h => by cases h)

/-- What lies in memory is these listings. -/
def Mt1 (w : World) (v : SV) (s : Sn) : Prop := v.cur = s.cur ∧ v.used = s.used ∧ v.il = s.items.length ∧ StrsV w v.ia v.ic s.items
def Mt (w : World) : List SV → List Sn → Prop
  | [], [] => True
  | v :: V, s :: L => Mt1 w v s ∧ Mt w V L
  | _, _ => False
theorem Mt1.keeps {w w' : World} {v : SV} {s : Sn} (h : Mt1 w v s) (hk : Keeps [] w w') : Mt1 w' v s := ⟨h.1, h.2.1, h.2.2.1, h.2.2.2.keeps hk⟩
theorem Mt1.keepsS {S : List Nat} {w w' : World} {v : SV} {s : Sn} (h : Mt1 w v s) (hk : Keeps S w w') (hS : NoStr w S) : Mt1 w' v s := ⟨h.1, h.2.1, h.2.2.1, h.2.2.2.keepsS hk hS⟩
theorem Mt.keepsS {S : List Nat} {w w' : World} (hk : Keeps S w w') (hS : NoStr w S) : ∀ {V : List SV} {L : List Sn}, Mt w V L → Mt w' V L
  | [], [], _ => trivial
  | _ :: _, _ :: _, h => ⟨h.1.keepsS hk hS, Mt.keepsS hk hS h.2⟩
  | [], _ :: _, h => h.elim
  | _ :: _, [], h => h.elim
theorem Mt.keeps {w w' : World} (hk : Keeps [] w w') : ∀ {V : List SV} {L : List Sn}, Mt w V L → Mt w' V L
  | [], [], _ => trivial
  | _ :: _, _ :: _, h => ⟨h.1.keeps hk, Mt.keeps hk h.2⟩
  | [], _ :: _, h => h.elim
  | _ :: _, [], h => h.elim
theorem Mt.len {w : World} : ∀ {V : List SV} {L : List Sn}, Mt w V L → V.length = L.length
  | [], [], _ => rfl
  | _ :: _, _ :: _, h => by rw [List.length_cons, List.length_cons, Mt.len h.2]
  | [], _ :: _, h => h.elim
  | _ :: _, [], h => h.elim
theorem Mt.get {w : World} : ∀ {V : List SV} {L : List Sn}, Mt w V L → ∀ (i : Nat) (h : i < V.length) (h' : i < L.length), Mt1 w V[i] L[i]
  | _ :: _, _ :: _, h, 0, _, _ => h.1
  | _ :: _, _ :: _, h, i + 1, h1, h2 => Mt.get h.2 i (by simpa using h1) (by simpa using h2)
theorem Mt.app {w : World} : ∀ {V V' : List SV} {L L' : List Sn}, Mt w V L → Mt w V' L' → Mt w (V ++ V') (L ++ L')
  | [], _, [], _, _, h => h
  | _ :: _, _, _ :: _, _, h, h' => ⟨h.1, Mt.app h.2 h'⟩
  | [], _, _ :: _, _, h, _ => h.elim
  | _ :: _, _, [], _, h, _ => h.elim
theorem Mt.drop {w : World} : ∀ {V : List SV} {L : List Sn} (k : Nat), Mt w V L → Mt w (V.drop k) (L.drop k)
  | _, _, 0, h => h
  | [], [], _ + 1, _ => trivial
  | _ :: _, _ :: _, k + 1, h => Mt.drop k h.2
  | [], _ :: _, _ + 1, h => h.elim
  | _ :: _, [], _ + 1, h => h.elim
theorem Mt.erase {w : World} : ∀ {V : List SV} {L : List Sn} (k : Nat), Mt w V L → Mt w (V.eraseIdx k) (L.eraseIdx k)
  | [], [], _, _ => trivial
  | _ :: _, _ :: _, 0, h => h.2
  | _ :: _, _ :: _, k + 1, h => ⟨h.1, Mt.erase k h.2⟩
  | [], _ :: _, _, h => h.elim
  | _ :: _, [], _, h => h.elim

/-- A value that is this pool. -/
structure PoolV (w : World) (a : Option Addr) (c : Nat) (V : List SV) (p : Po) : Prop where
  le : V.length ≤ c
  small : V.length ≤ 1000000
  row : RowIn w a V
  mt : Mt w V p.l
theorem PoolV.keeps {w w' : World} {a : Option Addr} {c : Nat} {V : List SV} {p : Po} (h : PoolV w a c V p) (hk : Keeps [] w w') : PoolV w' a c V p := ⟨h.le, h.small, h.row.keeps hk, h.mt.keeps hk⟩
def poolAgg (a : Option Addr) (n c : Nat) (next : Int) : Value := .agg #[.slice a n c, .int .i64 next]

theorem snaps_any (a : Option Addr) (n c : Nat) (next : Int) (w : World) :
    Calls Tryd.prog 47 #[.agg #[.slice a n c, .int .i64 next]] w fun r w' => r = .returned (.func (.func 54) #[] #[.pointer (some ⟨w.heap.size, 0, none⟩)]) ∧ w.alloc (.cells #[.slice a n c, .int .i64 next] 59) = w' := by
  go_enter Tryd.func47, Tryd.ntmps47
  go_wp2
  go_ret
  exact ⟨rfl, rfl⟩

/-- What the iterator hands over. -/
def itemS (x : SV × Nat) : Array Value := #[.int .i64 (x.2 : Int), .agg #[.int .i64 x.1.cur, (.slice x.1.ia x.1.il x.1.ic), .int .i64 x.1.used]]
theorem zip_take (V : List SV) (k : Nat) (h : k < V.length) : V.zipIdx.take (k + 1) = V.zipIdx.take k ++ [(V[k], k)] := by
  rw [List.take_succ_eq_append_getElem (by simpa using h)]
  simp

theorem zip_pre {V : List SV} {pre : List (SV × Nat)} {x : SV × Nat} (h : pre ++ [x] <+: V.zipIdx) : ∃ hk : pre.length < V.length, pre = V.zipIdx.take pre.length ∧ x = (V[pre.length], pre.length) := by
  obtain ⟨t, ht⟩ := h
  have hl := congrArg List.length ht
  simp only [List.length_append, List.length_cons, List.length_nil, List.length_zipIdx] at hl
  have hk : pre.length < V.length := by omega
  refine ⟨hk, ?_, ?_⟩
  · rw [← ht, List.append_assoc, List.take_left]
  · have h1 : V.zipIdx[pre.length]? = some x := by rw [← ht]; simp
    rw [List.getElem?_eq_getElem (by simpa using hk)] at h1
    simpa using (Option.some.inj h1).symm

set_option maxRecDepth 100000 in
set_option maxHeartbeats 1000000 in
theorem snaps1_in (n l pb : Nat) (a : Option Addr) (c : Nat) (V : List SV) (hV : V.length ≤ 1000000) (J Jx : List (SV × Nat) → World → Prop) (W : World) (hJ : Low W.heap.size J) (hR : ∀ s A, J s A → RowIn A a V)
    (hY : ∀ pre x W1, J pre W1 → pre ++ [x] <+: V.zipIdx → YieldAt Fence.wide (n - 1) Tryd.prog l (itemS x) W1 fun e W' =>
      (e = .returned (.bool true) ∧ J (pre ++ [x]) W' ∧ FarK W.heap.size W1 W') ∨ (e = .returned (.bool false) ∧ Jx (pre ++ [x]) W'))
    (hF : W.cell? ⟨pb, 0, none⟩ = some (.slice a V.length c)) (h0 : J [] W) :
    CallsIn Fence.wide n Tryd.prog 54 #[.func (.yield l) #[] #[], .pointer (some ⟨pb, 0, none⟩)] W fun e W' => (∃ v, e = .returned v) ∧
      (J V.zipIdx W' ∨ (∃ pre, pre <+: V.zipIdx ∧ Jx pre W')) := by
  have HJ := Lib.hid hJ
  have HR := Lib.hid hR
  have HY := Lib.hid hY
  have HJ0 := Lib.hid h0
  obtain ⟨N, hN⟩ : ∃ N, V.length = N := ⟨_, rfl⟩
  have HN := Lib.hid hN
  rw [hN] at hF hV
  clear hJ hR hY h0 hN
  have hn1 : Fence.wide.depth.isSome = true → 1 ≤ n := by intro h; cases h
  refine callsIn_of_wp Tryd.func54 rfl trivial ?_ rfl
  simp only [Tryd.ntmps54, List.size_toArray, List.length_cons, List.length_nil, Nat.reduceAdd, Nat.reduceSub, Array.replicate_succ, Array.replicate_zero, List.push_toArray, List.append_toArray, List.nil_append, List.cons_append]
  gi_wp2
  refine wpIn_scope_wide (wpIn_seq (wpIn_label ?_))
  gi_wp2
  gi_loopw [9] (fun i wr => ∃ k : Nat, i = .int .i64 k ∧ k ≤ N ∧ Hid (J (V.zipIdx.take k) wr) ∧ W.heap.size ≤ wr.heap.size) (fun i _ => N - (intOf i).toNat)
  case atStart => exact ⟨0, rfl, Nat.zero_le _, HJ0, Nat.le_refl _⟩
  case round =>
    obtain ⟨k, rfl, hk, HJs, hsz⟩ := hrel
    by_cases hlt : k < N
    · have hk1 : k < V.length := by rw [HN.out]; exact hlt
      obtain ⟨g, off, cs0, fz0, rfl, -, hat⟩ := HR.out _ _ HJs.out (by rintro rfl; simp at hk1)
      obtain ⟨x, hx⟩ : ∃ x, V[k] = x := ⟨_, rfl⟩
      have q1 := hat k hk1
      rw [hx] at q1
      obtain ⟨p0, p1, p2⟩ := q1
      have i1 : (0 : Int) ≤ (k : Int) := by omega
      have i2 : (k : Int) < (N : Int) := by omega
      have hz := zip_take V k hk1
      rw [hx] at hz
      have hj1 : J (V.zipIdx.take k) (wr.alloc (.cells #[.int .i64 x.cur, (.slice x.ia x.il x.ic), .int .i64 x.used] 39)) := HJ.out _ _ _ HJs.out ((Below.refl _ wr).alloc hsz _)
      have hy0 := yield_one (HY.out _ (x, k) _ hj1 (by rw [← hz]; exact List.take_prefix _ _))
      rw [← hz] at hy0
      obtain ⟨fn, tmps, assign, body, hy, hR⟩ := hy0
      simp only [itemS] at hy
      have hb := Blk.new wr 39 #[.int .i64 x.cur, (.slice x.ia x.il x.ic), .int .i64 x.used]
      have d0 := hb.cell 0
      have d1 := hb.cell 1
      have d2 := hb.cell 2
      have HZ := Lib.hid hz
      clear hat hx hz hj1 hb hk1
      gi_wp2
      refine ⟨hn1, ?_⟩
      refine hR.mono ?_
      rintro e W3 ⟨g, rfl, hT, hF⟩
      clear hR hy
      cases g with
      | false =>
        have hJx := Lib.hid (hF.out rfl)
        clear hT hF
        gi_wp2
        try rw [Exit.noGoto_normal]
        go_end0
        exact ⟨⟨_, rfl⟩, .inr ⟨V.zipIdx.take (k + 1), List.take_prefix _ _, hJx.out⟩⟩
      | true =>
        obtain ⟨hJ3, hK3⟩ := hT.out rfl
        have HJ3 := Lib.hid hJ3
        have hsz3 : W.heap.size ≤ W3.heap.size := by have := hK3.1; rw [World.size_alloc] at this; omega
        clear hT hF hJ3 hK3
        gi_wp2
        go_roundw
        case rel => exact ⟨k + 1, by go_num, by omega, HJ3, hsz3⟩
        case measure => simp [intOf]; omega
    · obtain rfl : k = N := by omega
      gi_wp2
      try rw [Exit.noGoto_normal]
      go_end0
      refine ⟨⟨_, rfl⟩, .inl ?_⟩
      have := HJs.out
      rwa [List.take_of_length_le (by rw [List.length_zipIdx, HN.out]; exact Nat.le_refl _)] at this

theorem snaps_seq (n pb : Nat) (a : Option Addr) (c : Nat) (V : List SV) (hV : V.length ≤ 1000000) (w : World) (hF : w.cell? ⟨pb, 0, none⟩ = some (.slice a V.length c)) :
    SeqC Fence.wide n Tryd.prog 54 #[.pointer (some ⟨pb, 0, none⟩)] itemS V.zipIdx (fun A => RowIn A a V) w := fun l J Jx W hW hJ _ hR hY h0 =>
  snaps1_in n l pb a c V hV J Jx W hJ hR hY ((World.cell?_of_block (a := ⟨pb, 0, none⟩) (hW.block pb (World.block_lt_of_cell? w _ hF))).trans hF) h0
end Go.Proofs.YtbcppmcjbcnlbaaDoor
