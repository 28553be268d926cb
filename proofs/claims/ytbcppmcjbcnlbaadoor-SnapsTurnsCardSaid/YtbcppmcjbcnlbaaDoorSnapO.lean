/- The walk of Page. -/
import Derived.Test.YtbcppmcjbcnlbaaDoorSnapN
namespace Go.Proofs.YtbcppmcjbcnlbaaDoor
open Go.RowKit Go.Shelf
attribute [local go_sem ↓] Go.wp_at_zero Go.wp_at_succ

/-- What Page answers. -/
def PageR (w : World) (q : Po) (page : List ByteArray) (nx err : Int) (r : Ending) (w' : World) : Prop :=
  ∃ a n c V pa m pc, r = .returned (.tuple #[.agg #[.slice a n c, .int .i64 q.next], .slice pa m pc, .int .i64 nx, .int .i64 err]) ∧ V.length = n ∧ PoolV w' a c V q ∧ page.length = m ∧ StrsV w' pa pc page ∧ Keeps [] w w'
/-- The same, and all texts lie in new blocks. -/
def PageRF (w : World) (q : Po) (page : List ByteArray) (nx err : Int) (r : Ending) (w' : World) : Prop :=
  ∃ a n c V pa m pc, r = .returned (.tuple #[.agg #[.slice a n c, .int .i64 q.next], .slice pa m pc, .int .i64 nx, .int .i64 err]) ∧ V.length = n ∧ PoolV w' a c V q ∧ page.length = m ∧ StrsV w' pa pc page ∧ Keeps [] w w' ∧ (∀ z ∈ V, FrV w.heap.size z) ∧ Fr w.heap.size pa m
theorem PageRF.plain {w : World} {q : Po} {page : List ByteArray} {nx err : Int} {r : Ending} {w' : World} (h : PageRF w q page nx err r w') : PageR w q page nx err r w' := by
  obtain ⟨a, n, c, V, pa, m, pc, h1, h2, h3, h4, h5, h6, _⟩ := h
  exact ⟨a, n, c, V, pa, m, pc, h1, h2, h3, h4, h5, h6⟩
theorem PageR.fresh0 {w : World} {nx err : Int} {r : Ending} {w' : World} (h : PageR w po0 [] nx err r w') : PageRF w po0 [] nx err r w' := by
  obtain ⟨a, n, c, V, pa, m, pc, h1, h2, h3, h4, h5, h6⟩ := h
  obtain rfl : V = [] := List.eq_nil_of_length_eq_zero h3.mt.len
  exact ⟨a, n, c, _, pa, m, pc, h1, h2, h3, h4, h5, h6, (fun z hz => by cases hz), fun _ _ _ h0 => absurd h0 (by rw [← h4]; exact Nat.lt_irrefl 0)⟩
theorem strsV_nil (w : World) : StrsV w none 0 [] := ⟨Nat.le_refl _, fun h => absurd rfl h, by simp, by simp, fun _ => rfl⟩
theorem strs_elem : Tryd.prog.underlying 25 = some (.slice (Tryd.prog.elem 25)) := by kernel_rfl
theorem strs_size (W : World) : (sizeOf (Tryd.prog.elem 25)).run Tryd.prog W = .ok 1 W := by kernel_rfl
theorem strs_slice {w : World} {a : Option Addr} {c : Nat} {xs : List ByteArray} (h : StrsV w a c xs) (F T : Nat) (h1 : F ≤ T) (h2 : T ≤ xs.length) (t : Int) (ht : t = T) :
    ∃ a7, (∀ W : World, (Instr.slice 25 (.slice a xs.length c) (some (.int .i64 (F : Int))) (some (.int .i64 t)) (some (.int .i64 t))).run Tryd.prog W = .ok (.slice a7 (T - F) (T - F)) W) ∧ StrsV w a7 (T - F) ((xs.drop F).take (T - F)) := by
  subst ht
  have hlen : ((xs.drop F).take (T - F)).length = T - F := by rw [List.length_take, List.length_drop]; omega
  refine ⟨if T = F then a else a.map (·.add (F * 1)), fun W => ?_, ?_⟩
  · have hc := h.le
    have hh := run_slice_lhm (P := Tryd.prog) W 25 a xs.length c strs_elem .i64 .i64 .i64 F T T (by omega) (by omega) (by omega) (by omega)
    rw [hh, strs_size]
    rfl
  · refine ⟨by rw [hlen]; exact Nat.le_refl _, fun hn => ?_, by rw [hlen]; have := h.small; omega, fun x hx => h.size x (List.mem_of_mem_drop (List.mem_of_mem_take hx)), fun he => ?_⟩
    · have hTF : ¬ T = F := fun e => hn (List.eq_nil_of_length_eq_zero (by rw [hlen]; omega))
      obtain ⟨g, off, cs, fz, rfl, hg, hat⟩ := h.at_ (by rintro rfl; simp at h2; omega)
      refine ⟨g, off + F, cs, fz, by rw [if_neg hTF]; simp [addr_add], hg, fun i hi => ?_⟩
      have hi2 : F + i < xs.length := by rw [hlen] at hi; omega
      have := hat (F + i) hi2
      rw [Nat.add_assoc, this]
      simp
    · by_cases hTF : T = F
      · omega
      · rw [if_neg hTF] at he
        cases a with
        | none =>
          have hx : xs = [] := Classical.byContradiction fun hn => by
            obtain ⟨g, off, cs, fz, e, _⟩ := h.at_ hn
            cases e
          subst hx
          simp at h2; omega
        | some p => cases he

set_option maxRecDepth 100000 in
set_option maxHeartbeats 4000000 in
theorem page_bad (a : Option Addr) (c : Nat) (V : List SV) (p : Po) (n : Nat) (hn : V.length = n) (cursor from_ num now : Int) (w : World) (hP : PoolV w a c V p) (e : Nat → Addr) (he : Env w e) (i : Int) (k : Nat) (hk3 : k < 3) (hF : findA p cursor from_ num now = (i, some k)) :
    Calls Tryd.prog 13 #[.agg #[.slice a n c, .int .i64 p.next], .int .i64 cursor, .int .i64 from_, .int .i64 num, .int .i64 now] w (PageR w po0 [] 0 (toldN (some k))) := by
  obtain ⟨x, hx⟩ : ∃ x, p.next = x := ⟨_, rfl⟩
  have hcc := fun W (hk : Keeps [] w W) => find_any a c V p n hn cursor from_ num now W (hP.keeps hk) e (he.keep hk) i (some k) hF
  rw [hx] at hcc ⊢
  obtain ⟨q, hq⟩ : ∃ q, toldN (some k) = q := ⟨_, rfl⟩
  rw [hq]
  have HCC := Lib.hid hcc
  have HE := Lib.hid he
  have HQ := Lib.hid hq
  have HB1 := Lib.hid (blk_at (w.alloc (.cells #[.slice a n c, .int .i64 x] 24)) 24 #[.slice none 0 0, .int .i64 0] (w.heap.size + 1) (by simp))
  have HB0 := Lib.hid ((Blk.new w 24 #[.slice a n c, .int .i64 x]).alloc (.cells #[.slice none 0 0, .int .i64 0] 24))
  have HK := Lib.hid (((Keeps.refl [] w).alloc (.cells #[.slice a n c, .int .i64 x] 24)).alloc (.cells #[.slice none 0 0, .int .i64 0] 24))
  have p0 : _ = some (Value.slice a n c) := HB0.out.cell 0
  have p1 : _ = some (Value.int .i64 x) := HB0.out.cell 1
  clear hcc he hP hx hn hF hq
  go_enter Tryd.func13, Tryd.ntmps13
  go_wp2_with (fail)
  refine (HCC.out _ HK.out).mono ?_
  rintro r w1 ⟨rfl, hk⟩
  have HB1 := Lib.hid (HB1.out.keeps hk (by simp))
  have HK := Lib.hid (HK.out.trans hk)
  clear hk p0 p1
  unfold errV
  go_wp2_with (fail)
  refine (told_any (some k) e (fun y hy => by cases hy; exact hk3) _ (HE.out.keep HK.out) q HQ.out).mono ?_
  rintro r w2 ⟨rfl, rfl⟩
  have c0 := HB1.out.cell 0
  have c1 := HB1.out.cell 1
  have f0 := HB1.out.frozen 0
  have f1 := HB1.out.frozen 1
  have HBF := Lib.hid ((HB1.out.set_ 0 (.slice none 0 0)).set_ 1 (.int .i64 0))
  have HKF := Lib.hid ((HK.out.setCell (p := ⟨w.heap.size + 1, 0, none⟩) (.inr (by dsimp only; omega)) (.slice none 0 0)).setCell (p := ⟨w.heap.size + 1, 1, none⟩) (.inr (by dsimp only; omega)) (.int .i64 0))
  go_wp2
  have q0 : _ = some (Value.slice none 0 0) := HBF.out.cell 0
  have q1 : _ = some (Value.int .i64 0) := HBF.out.cell 1
  refine bodyPost_ret (v := .tuple #[.agg #[.slice none 0 0, .int .i64 0], .slice none 0 0, .int .i64 0, .int .i64 q]) (by simp [results, Tryd.results13, go_sem, q0, q1]) rfl ?_
  exact ⟨none, 0, 0, [], none, 0, 0, rfl, rfl, poolV_nil _, rfl, strsV_nil _, HKF.out⟩

theorem box3 {A : World} {b : Nat} {p q r : Value} (h : Blk A b 39 #[p, q, r]) : A.cell? ⟨b, 0, none⟩ = some p ∧ A.cell? ⟨b, 1, none⟩ = some q ∧ A.cell? ⟨b, 2, none⟩ = some r := ⟨h.cell 0, h.cell 1, h.cell 2⟩
/-- What stays while a page is moved to the end. -/
structure St6 (w w5 A : World) (B bx : Nat) (bc pc : Array Value) : Prop where
  strk : StrK B w5 A
  box : Blk A bx 39 bc
  pool : Blk A w.heap.size 24 pc
  res : Blk A (w.heap.size + 1) 24 #[.slice none 0 0, .int .i64 0]
  size : B ≤ A.heap.size
theorem St6.keeps {w w5 A A' : World} {B bx : Nat} {bc pc : Array Value} (h : St6 w w5 A B bx bc pc) (hk : Keeps [] A A') : St6 w w5 A' B bx bc pc :=
  ⟨h.strk.trans (StrK.of_keeps hk h.size), h.box.keeps hk (by simp), h.pool.keeps hk (by simp), h.res.keeps hk (by simp), Nat.le_trans h.size hk.size⟩
theorem St6.step {w w5 A A' : World} {B bx g : Nat} {bc pc : Array Value} (h : St6 w w5 A B bx bc pc) (hk : StrK B A A') (hg : Keeps [g] A A') (hgb : g ≠ bx) (hB : w.heap.size + 1 < B) : St6 w w5 A' B bx bc pc :=
  ⟨h.strk.trans hk, h.box.keeps hg (by simpa using Ne.symm hgb), (hk.low.block _ (by omega)).trans h.pool, (hk.low.block _ hB).trans h.res, Nat.le_trans h.size hk.low.size⟩
theorem page_del {w w5 : World} {B bx g off n c0 i : Nat} {bc pc : Array Value} {V0 : List SV} (h : St6 w w5 w5 B bx bc pc) (hs : SRow w5 B (.slice (some ⟨g, off, none⟩) n c0) V0) (hl : V0.length ≤ 1000) (hi : i < V0.length) (hgb : g ≠ bx) (hB : w.heap.size + 1 < B) (A : World) (hk : Keeps [] w5 A) :
    Calls Tryd.prog 31 #[.slice (some ⟨g, off, none⟩) n c0, .int .i64 (i : Int), .int .i64 ((i : Int) + 1)] A fun r w' => ∃ v', r = .returned v' ∧ SRow w' B v' (V0.eraseIdx i) ∧ St6 w w5 w' B bx bc pc ∧ rowB v' = [g] ∧ Keeps [g] A w' := by
  have hA := h.keeps hk
  refine (del1_any _ V0 B hl i hi A hA.size (hs.keeps hk)).mono ?_
  rintro r w' ⟨v', rfl, h1, h2, h3, h4⟩
  exact ⟨v', rfl, h1, hA.step h2 h3 hgb hB, h4, h3⟩
theorem page_app {w w5 A : World} {B bx g b : Nat} {bc pc : Array Value} {v6 : Value} {V6 : List SV} {x : SV} (h : St6 w w5 A B bx bc pc) (hs : SRow A B v6 V6) (hr : rowB v6 = [g]) (hl : V6.length ≤ 1000) (hgb : g ≠ bx) (hB : w.heap.size + 1 < B) (hb : Blk A b 39 x.arr) (ty : TypeId) :
    ∃ a9 k9 c9 w7, (Builtin.append_ #[22, 22] ty #[v6, .slice (some ⟨b, 0, none⟩) 1 1]).run Tryd.prog A = .ok (.slice a9 k9 c9) w7 ∧ SRow w7 B (.slice a9 k9 c9) (V6 ++ [x]) ∧ (V6 ++ [x]).length = k9 ∧ St6 w w5 w7 B bx bc pc := by
  obtain ⟨v7, w7, h1, h2, h3, h4⟩ := hs.pushK hl h.size b x hb ty
  obtain ⟨a9, c9, rfl, _, _⟩ := h2.row
  rw [hr] at h4
  exact ⟨a9, _, c9, w7, h1, h2, rfl, h.step h3 h4 hgb hB⟩
theorem page_fin {w w5 w7 : World} {B bx k9 c9 : Nat} {bc : Array Value} {a9 a8 : Option Addr} {c8 n c m : Nat} {a : Option Addr} {x now : Int} {V0 : List SV} {y : SV} {s : Sn} {L : List Sn} {i : Nat} {q : Po} {page : List ByteArray}
    (hs : SRow w7 B (.slice a9 k9 c9) (V0.eraseIdx i ++ [⟨y.cur, y.ia, m, y.ic, now⟩])) (hk9 : (V0.eraseIdx i ++ [(⟨y.cur, y.ia, m, y.ic, now⟩ : SV)]).length = k9) (h7 : St6 w w5 w7 B bx bc #[.slice a n c, .int .i64 x]) (hM : Mt w5 V0 L) (hl : V0.length ≤ 1000)
    (hm1 : Mt1 w5 y s) (hm : s.items.length = m) (hst : StrsV w5 a8 c8 page) (hkw : Keeps [] w w5) (hq : (⟨L.eraseIdx i ++ [{ s with used := now }], x⟩ : Po) = q) (hB : w.heap.size + 1 < B) (hbx : bx ≠ w.heap.size) (hfv : ∀ z ∈ V0, FrV w.heap.size z) (hfy : Fr w.heap.size y.ia m) :
    ∃ a9' k9' c9' V9, Hid (Blk (w7.setCell ⟨w.heap.size, 0, none⟩ (.slice a9 k9 c9)) w.heap.size 24 #[.slice a9' k9' c9', .int .i64 x]) ∧ Hid (V9.length = k9') ∧ Hid (PoolV (w7.setCell ⟨w.heap.size, 0, none⟩ (.slice a9 k9 c9)) a9' c9' V9 q) ∧ Hid (Keeps [] w (w7.setCell ⟨w.heap.size, 0, none⟩ (.slice a9 k9 c9))) ∧ Hid (Blk (w7.setCell ⟨w.heap.size, 0, none⟩ (.slice a9 k9 c9)) (w.heap.size + 1) 24 #[.slice none 0 0, .int .i64 0]) ∧ Hid (Blk (w7.setCell ⟨w.heap.size, 0, none⟩ (.slice a9 k9 c9)) bx 39 bc) ∧ Hid (StrsV (w7.setCell ⟨w.heap.size, 0, none⟩ (.slice a9 k9 c9)) a8 c8 page) ∧ Hid (∀ z ∈ V9, FrV w.heap.size z) := by
  have hks : Keeps [w.heap.size] w7 (w7.setCell ⟨w.heap.size, 0, none⟩ (.slice a9 k9 c9)) := (Keeps.refl [w.heap.size] w7).setCell (p := ⟨w.heap.size, 0, none⟩) (.inl (by simp)) _
  have hpt : ∀ k ∈ [w.heap.size], ∃ cs, Blk w7 k 24 cs ∧ 24 ≠ 9 ∧ 24 ≠ 39 := fun k hk => by
    simp at hk; subst hk; exact ⟨_, h7.pool, by decide, by decide⟩
  have hns : NoStr w7 [w.heap.size] := fun k hk cs fz hh => by
    simp at hk; subst hk
    have h' : w7.heap[w.heap.size]? = some (.cells #[.slice a n c, .int .i64 x] 24 (0, 0)) := h7.pool
    rw [h'] at hh
    injection hh with hh; injection hh with _ h3 _
    exact absurd h3 (by decide)
  obtain ⟨a9', c9', hv, hc9, hr9⟩ := hs.row
  rw [hk9] at hv
  injection hv with e1 _ e3
  subst e1
  subst e3
  have hP : PoolV w7 a9 c9 (V0.eraseIdx i ++ [(⟨y.cur, y.ia, m, y.ic, now⟩ : SV)]) q := by
    rw [← hq]
    refine ⟨hc9, by rw [List.length_append, List.length_eraseIdx, List.length_singleton]; split <;> omega, hr9, ?_⟩
    exact ((hM.erase i).strK h7.strk).app ⟨⟨hm1.1, rfl, hm.symm, hm1.2.2.2.strK h7.strk⟩, trivial⟩
  refine ⟨a9, k9, c9, _, Lib.hid (h7.pool.set_ 0 _), Lib.hid hk9, Lib.hid (hP.keepsS hks hpt), Lib.hid ?_, Lib.hid (h7.res.far (p := ⟨w.heap.size, 0, none⟩) (by dsimp only; omega) _), Lib.hid (h7.box.far (p := ⟨w.heap.size, 0, none⟩) hbx _), Lib.hid ((hst.strK h7.strk).keepsS hks hns), Lib.hid (fun z hz => by
    rcases List.mem_append.1 hz with hz | hz
    · exact hfv z (List.mem_of_mem_eraseIdx hz)
    · obtain rfl := List.mem_singleton.1 hz
      exact hfy)⟩
  exact (Keeps.of_below ((hkw.below (Nat.le_refl _) (by simp)).trans (h7.strk.low.mono (by omega))) []).setCell (p := ⟨w.heap.size, 0, none⟩) (.inr (Nat.le_refl _)) _
theorem Mt.get? {w : World} {V : List SV} {L : List Sn} (h : Mt w V L) {i : Nat} {s : Sn} (hs : L[i]? = some s) : ∃ y, V[i]? = some y ∧ Mt1 w y s := by
  obtain ⟨hi, rfl⟩ := List.getElem?_eq_some_iff.1 hs
  have hv : i < V.length := by rw [h.len]; exact hi
  exact ⟨V[i], List.getElem?_eq_getElem hv, h.get i hv hi⟩

set_option maxRecDepth 100000 in
set_option maxHeartbeats 8000000 in
theorem page_okF (a : Option Addr) (c : Nat) (V : List SV) (p : Po) (n : Nat) (hn : V.length = n) (cursor : Int) (F K : Nat) (now : Int) (w : World) (hP : PoolV w a c V p) (e : Nat → Addr) (he : Env w e) (i : Nat) (hF : findA p cursor F K now = ((i : Int), none)) (hn3 : n ≤ 3) (hK : K ≤ 10) (s : Sn) (hs : p.l[i]? = some s) (hFl : F ≤ s.items.length)
    (T : Nat) (hT : T = if s.items.length < F + K then s.items.length else F + K) :
    Calls Tryd.prog 13 #[.agg #[.slice a n c, .int .i64 p.next], .int .i64 cursor, .int .i64 (F : Int), .int .i64 (K : Int), .int .i64 now] w (PageRF w ⟨p.l.eraseIdx i ++ [{ s with used := now }], p.next⟩ ((s.items.drop F).take (T - F)) (if T = s.items.length then -1 else (T : Int)) 0) := by
  obtain ⟨q, hq⟩ : ∃ q : Po, ⟨p.l.eraseIdx i ++ [{ s with used := now }], p.next⟩ = q := ⟨_, rfl⟩
  obtain ⟨page, hpg⟩ : ∃ page, (s.items.drop F).take (T - F) = page := ⟨_, rfl⟩
  obtain ⟨nx, hnx⟩ : ∃ nx : Int, (if T = s.items.length then -1 else (T : Int)) = nx := ⟨_, rfl⟩
  rw [hq, hpg, hnx]
  obtain ⟨x, hx⟩ : ∃ x, p.next = x := ⟨_, rfl⟩
  have hcc := fun W (hk : Keeps [] w W) => find_any a c V p n hn cursor F K now W (hP.keeps hk) e (he.keep hk) i none hF
  have hco := fun W (hk : Keeps [] w W) => own_fr a c V p.l n hn (by omega) W (hP.row.keeps hk) (hP.mt.keeps hk)
  rw [hx] at hcc hq ⊢
  have HQ := Lib.hid hq
  have HNX := Lib.hid hnx
  have HCC := Lib.hid hcc
  have HCO := Lib.hid hco
  have HLN : Hid (p.l.length = n) := Lib.hid (by rw [← hn, hP.mt.len])
  have HSI := Lib.hid hs
  have HFL := Lib.hid hFl
  have HTT := Lib.hid hT
  have HB1 := Lib.hid (blk_at (w.alloc (.cells #[.slice a n c, .int .i64 x] 24)) 24 #[.slice none 0 0, .int .i64 0] (w.heap.size + 1) (by simp))
  have HB0 := Lib.hid ((Blk.new w 24 #[.slice a n c, .int .i64 x]).alloc (.cells #[.slice none 0 0, .int .i64 0] 24))
  have HK := Lib.hid (((Keeps.refl [] w).alloc (.cells #[.slice a n c, .int .i64 x] 24)).alloc (.cells #[.slice none 0 0, .int .i64 0] 24))
  have p0 : _ = some (Value.slice a n c) := HB0.out.cell 0
  have p1 : _ = some (Value.int .i64 x) := HB0.out.cell 1
  clear hcc hco he hP hx hn hF hs hFl hT hq hnx
  go_enter Tryd.func13, Tryd.ntmps13
  go_wp2_with (fail)
  refine (HCC.out _ HK.out).mono ?_
  rintro r w2 ⟨rfl, hk⟩
  have HB0 := Lib.hid (HB0.out.keeps hk (by simp))
  have HB1 := Lib.hid (HB1.out.keeps hk (by simp))
  have HK := Lib.hid (HK.out.trans hk)
  clear hk p0 p1
  have p0 : _ = some (Value.slice a n c) := HB0.out.cell 0
  unfold errV
  go_wp2_with (fail)
  refine (HCO.out _ HK.out).mono ?_
  rintro r w3 ⟨v0, V0, rfl, hs0, hm0, hb0, hf0⟩
  have HF0 : Hid (∀ z ∈ V0, FrV w.heap.size z) := Lib.hid (fun z hz => Fr.down (hf0 z hz) HK.out.size)
  clear hf0
  have hk := Keeps.of_below hb0 []
  have HSZ : Hid (w.heap.size + 1 < w2.heap.size) := Lib.hid HB1.out.lt
  have HB0 := Lib.hid (HB0.out.keeps hk (by simp))
  have HB1 := Lib.hid (HB1.out.keeps hk (by simp))
  have HK := Lib.hid (HK.out.trans hk)
  have HW3 := Lib.hid hb0.size
  obtain ⟨y, hy, hm1⟩ := hm0.get? HSI.out
  have hil : i < V0.length := (List.getElem?_eq_some_iff.1 hy).1
  have hV0 : V0.length = n := by rw [hm0.len, HLN.out]
  obtain ⟨a0, c0, hv0, hc0, hr0⟩ := hs0.row
  obtain ⟨g, off, cs0, fz0, rfl, hgb, hat⟩ := hr0 (by rintro rfl; simp at hil)
  obtain ⟨t0, t1, t2⟩ := hat i hil
  have hyy : V0[i] = y := by
    rw [List.getElem?_eq_getElem hil] at hy
    exact Option.some.inj hy
  rw [hyy] at t0 t1 t2
  rw [hV0] at hv0 hc0 hil
  subst hv0
  have j1 : (0 : Int) ≤ (i : Int) := by omega
  have j2 : (i : Int) < (n : Int) := by omega
  obtain ⟨m, hm⟩ : ∃ m, s.items.length = m := ⟨_, rfl⟩
  have hyl : y.il = m := by rw [hm1.2.2.1, hm]
  rw [hyl] at t1
  have HFY : Hid (Fr w.heap.size y.ia m) := Lib.hid (by rw [← hyl]; exact HF0.out y (by rw [← hyy]; exact List.getElem_mem _))
  have HMM := Lib.hid hm
  have hFm : F ≤ m := by rw [← hm]; exact HFL.out
  have hTd := HTT.out
  rw [hm] at hTd
  have hTm : T ≤ m := by split at hTd <;> omega
  have hFT : F ≤ T := by split at hTd <;> omega
  have HS0 := Lib.hid hs0
  have HM0 := Lib.hid hm0
  have HM1 := Lib.hid hm1
  have HIY : Hid (V0[i]? = some y) := Lib.hid hy
  have HV0 := Lib.hid hV0
  have HGB := Lib.hid (show g < w3.heap.size from (Array.getElem?_eq_some_iff.1 hgb).1)
  have hm1000 : m ≤ 1000000 := by rw [← hm]; exact hm1.2.2.2.small
  have hwr : IntKind.i64.wrap ((F : Int) + (K : Int)) = (F : Int) + (K : Int) := IntWalk.i64_in _ (by omega)
  have HBX := Lib.hid (Blk.new w3 39 #[.int .i64 y.cur, .slice y.ia m y.ic, .int .i64 y.used])
  have HKX := Lib.hid ((Keeps.refl [] w3).alloc (.cells #[.int .i64 y.cur, .slice y.ia m y.ic, .int .i64 y.used] 39))
  have b0 : _ = some (Value.int .i64 y.cur) := HBX.out.cell 0
  have b1 : _ = some (Value.slice y.ia m y.ic) := HBX.out.cell 1
  have b2 : _ = some (Value.int .i64 y.used) := HBX.out.cell 2
  have hwi : IntKind.i64.wrap ((i : Int) + 1) = (i : Int) + 1 := IntWalk.i64_in _ (by omega)
  obtain ⟨t, ht, hcase⟩ : ∃ t : Int, t = T ∧ ((T = m ∧ t = m ∧ (m : Int) < (F : Int) + (K : Int)) ∨ (T = F + K ∧ t = (F : Int) + (K : Int) ∧ ¬ (m : Int) < (F : Int) + (K : Int))) := by
    split at hTd
    · exact ⟨m, by omega, .inl ⟨hTd, rfl, by omega⟩⟩
    · exact ⟨(F : Int) + (K : Int), by omega, .inr ⟨hTd, rfl, by omega⟩⟩
  obtain ⟨a7, hsl, hst7⟩ := strs_slice hm1.2.2.2 F T hFT (by rw [hm]; exact hTm) t ht
  rw [hm] at hsl
  rw [hpg] at hst7
  have HST7 := Lib.hid (hst7.keeps HKX.out)
  have hpl : page.length = T - F := by rw [← hpg, List.length_take, List.length_drop, hm]; omega
  have HPL := Lib.hid hpl
  clear hk hs0 hm0 hb0 p0 hm1 hst7 hy hV0 hgb hat hr0 hyy hm hyl hTd ht hpl hpg
  rcases hcase with ⟨hTe, rfl, hlt⟩ | ⟨hTe, rfl, hlt⟩
  all_goals
    have HTE := Lib.hid hTe
    clear hTe
    go_wp2_with (fail)
    refine (clone_fr a7 _ _ _ HPL.out _ HST7.out).mono ?_
    rintro r w4 ⟨a8, c8, rfl, hst8, hk4, hfr8⟩
    have HFR8 : Hid (Fr w.heap.size a8 (T - F)) := Lib.hid (hfr8.down (HK.out.trans HKX.out).size)
    clear hfr8
    have hb4 := HBX.out.keeps hk4 (by simp)
    have b2 : w4.cell? ⟨w3.heap.size, 2, none⟩ = some (.int .i64 y.used) := hb4.cell 2
    have f2 := hb4.frozen 2
    have hb5 : Blk (w4.setCell ⟨w3.heap.size, 2, none⟩ (.int .i64 now)) w3.heap.size 39 #[.int .i64 y.cur, .slice y.ia m y.ic, .int .i64 now] := hb4.set_ 2 (.int .i64 now)
    have hk35 : Keeps [] w3 (w4.setCell ⟨w3.heap.size, 2, none⟩ (.int .i64 now)) := (HKX.out.trans hk4).setCell (p := ⟨w3.heap.size, 2, none⟩) (.inr (Nat.le_refl _)) (.int .i64 now)
    have hst5 : StrsV (w4.setCell ⟨w3.heap.size, 2, none⟩ (.int .i64 now)) a8 c8 page := hst8.keepsS (Keeps.setCell (S := [w3.heap.size]) (Keeps.refl _ w4) (p := ⟨w3.heap.size, 2, none⟩) (.inl (by simp)) (.int .i64 now)) (fun k hk cs fz h => by
      simp at hk; subst hk
      have h' : w4.heap[w3.heap.size]? = some (.cells #[.int .i64 y.cur, .slice y.ia m y.ic, .int .i64 y.used] 39 (0, 0)) := hb4
      rw [h'] at h
      injection h with h; injection h with _ h3 _
      exact absurd h3 (by decide))
    go_wp2_with (fail)
    clear b0 b1 b2 f2 hb4
    obtain ⟨w5, hw5⟩ : ∃ w5, w4.setCell ⟨w3.heap.size, 2, none⟩ (.int .i64 now) = w5 := ⟨_, rfl⟩
    rw [hw5] at hb5 hk35 hst5 ⊢
    have HB5 := Lib.hid hb5
    have HK5 := Lib.hid hk35
    have HP8 := Lib.hid hst5
    have HS5 := Lib.hid (HS0.out.keeps hk35)
    have HSZ5 : Hid (w2.heap.size ≤ w5.drew.heap.size) := Lib.hid (Nat.le_trans HW3.out hk35.size)
    have HBP := Lib.hid (HB0.out.keeps hk35 (by simp))
    have HBR := Lib.hid (HB1.out.keeps hk35 (by simp))
    have HKW := Lib.hid (HK.out.trans hk35)
    clear hw5 hb5 hk35 hst5 hst8 hk4
    have HM5 := Lib.hid (HM0.out.keeps HK5.out)
    have HM15 := Lib.hid (HM1.out.keeps HK5.out)
    have HVL : Hid (V0.length ≤ 1000) := Lib.hid (by rw [HV0.out]; omega)
    have HEL : Hid ((V0.eraseIdx i).length ≤ 1000) := Lib.hid (by rw [List.length_eraseIdx]; have := HVL.out; split <;> omega)
    have HGX : Hid (g ≠ w3.heap.size) := Lib.hid (by have := HGB.out; omega)
    have HBN : Hid (w3.heap.size ≠ w.heap.size) := Lib.hid (by have := HSZ.out; have := HW3.out; omega)
    have HG5 : Hid (w5.heap.size ∉ [g]) := Lib.hid (by simp; have := HGB.out; have := HK5.out.size; omega)
    have hst6 : St6 w w5 w5 w2.heap.size w3.heap.size #[.int .i64 y.cur, .slice y.ia m y.ic, .int .i64 now] #[.slice a n c, .int .i64 x] := ⟨StrK.refl _ _, HB5.out, HBP.out, HBR.out, HSZ5.out⟩
    have HDEL := Lib.hid (page_del hst6 HS5.out HVL.out (by rw [HV0.out]; exact hil) HGX.out HSZ.out)
    clear hst6
    go_cut [64] (fun _ wx => ∃ a9 k9 c9 V9, Hid (Blk wx w.heap.size 24 #[.slice a9 k9 c9, .int .i64 x]) ∧ Hid (V9.length = k9) ∧ Hid (PoolV wx a9 c9 V9 q) ∧ Hid (Keeps [] w wx) ∧ Hid (Blk wx (w.heap.size + 1) 24 #[.slice none 0 0, .int .i64 0]) ∧ Hid (Blk wx w3.heap.size 39 #[.int .i64 y.cur, .slice y.ia m y.ic, .int .i64 now]) ∧ Hid (StrsV wx a8 c8 page) ∧ Hid (∀ z ∈ V9, FrV w.heap.size z))
    case first =>
      refine wp_region_held_drew (S := (fun w' : World => w'.cell? ⟨w3.heap.size, 0, none⟩ = some (.int .i64 y.cur) ∧ w'.cell? ⟨w3.heap.size, 1, none⟩ = some (.slice y.ia m y.ic) ∧ w'.cell? ⟨w3.heap.size, 2, none⟩ = some (.int .i64 now))) (by kernel_rfl) ?_ (fun hHeld => ?_)
      · (try dsimp only); (first | exact box3 (H7.out.box.far (p := ⟨w.heap.size, 0, none⟩) HBN.out _) | exact box3 H7.out.box | exact box3 (H6.out.box.alloc _) | exact box3 H6.out.box | exact box3 HB5.out.drew | exact box3 (HB5.out.alloc _).drew)
      refine wpAnyH_take (i := 0) (oi := { dst := some 57, op := Op.move (Operand.tmp 16), type := 22, pos := "snaps.go:185", after := #[], guard := none }) (v := ?_) rfl (by kernel_rfl) (by kernel_rfl) (by kernel_rfl) (fun _ _ _ h => h) (Or.inl ⟨by rfl, ?_⟩) (by assumption) ?_
      rotate_left; · ((intro w hSw; (try dsimp only at hSw); go_simp); try with_reducible rfl)
      try simp only [Act.put, List.setIfInBounds_toArray, List.set_cons_zero, List.set_cons_succ]
      refine wpAnyH_take (i := 1) (oi := { dst := some 58, op := Op.move (Operand.tmp 14), type := 3, pos := "snaps.go:185", after := #[], guard := none }) (v := ?_) rfl (by kernel_rfl) (by kernel_rfl) (by kernel_rfl) (fun _ _ _ h => h) (Or.inl ⟨by rfl, ?_⟩) (by assumption) ?_
      rotate_left; · ((intro w hSw; (try dsimp only at hSw); go_simp); try with_reducible rfl)
      try simp only [Act.put, List.setIfInBounds_toArray, List.set_cons_zero, List.set_cons_succ]
      refine wpAnyH_take (i := 2) (oi := { dst := some 59, op := Op.move (Operand.tmp 14), type := 3, pos := "snaps.go:185", after := #[], guard := none }) (v := ?_) rfl (by kernel_rfl) (by kernel_rfl) (by kernel_rfl) (fun _ _ _ h => h) (Or.inl ⟨by rfl, ?_⟩) (by assumption) ?_
      rotate_left; · ((intro w hSw; (try dsimp only at hSw); go_simp); try with_reducible rfl)
      try simp only [Act.put, List.setIfInBounds_toArray, List.set_cons_zero, List.set_cons_succ]
      refine wpAnyH_take (i := 3) (oi := { dst := some 60, op := Op.binOp BinOp.add 3 (Operand.tmp 59) (Operand.const (Value.int IntKind.i64 1)) 3, type := 3, pos := "snaps.go:185", after := #[{ on := 2, ground := Ground.data }], guard := none }) (v := ?_) rfl (by kernel_rfl) (by kernel_rfl) (by kernel_rfl) (fun _ _ _ h => h) (Or.inl ⟨by rfl, ?_⟩) (by assumption) ?_
      rotate_left; · ((intro w hSw; (try dsimp only at hSw); go_simp); try with_reducible rfl)
      try simp only [Act.put, List.setIfInBounds_toArray, List.set_cons_zero, List.set_cons_succ]
      refine wpAnyH_take (i := 5) (oi := { dst := some 62, op := Op.load 39 (Operand.tmp 17), type := 39, pos := "snaps.go:185", after := #[], guard := none }) (v := ?_) rfl (by kernel_rfl) (by kernel_rfl) (by kernel_rfl) (fun _ _ _ h => h) (Or.inl ⟨by rfl, ?_⟩) (by assumption) ?_
      rotate_left; · ((intro w hSw; (try dsimp only at hSw); go_simp); try with_reducible rfl)
      try simp only [Act.put, List.setIfInBounds_toArray, List.set_cons_zero, List.set_cons_succ]
      refine wpAnyH_ready (rs := [4, 6]) (by kernel_rfl) (by simp) ?_
      refine AllReadyH.cons rfl (fun K hK => ?_) ?_
      · go_simp
        (first | ((with_reducible refine (HDEL.out _ (by first | exact (Keeps.refl [] w5).drew | exact ((Keeps.refl [] w5).alloc _).drew)).mono ?_); rintro e6 w6 ⟨v6, rfl, hs6, h6, hr6, hkr6⟩; have HS6 := Lib.hid hs6; have H6 := Lib.hid h6; have HR6 := Lib.hid hr6; have HKR6 := Lib.hid hkr6; clear hs6 h6 hr6 hkr6) | (obtain ⟨a9, k9, c9, w7, hrun, hs7, hk9, h7⟩ := page_app (x := (⟨y.cur, y.ia, m, y.ic, now⟩ : SV)) (H6.out.keeps ((Keeps.refl [] w6).alloc (.cells (SV.arr (⟨y.cur, y.ia, m, y.ic, now⟩ : SV)) 39))) (HS6.out.keeps ((Keeps.refl [] w6).alloc (.cells (SV.arr (⟨y.cur, y.ia, m, y.ic, now⟩ : SV)) 39))) HR6.out HEL.out HGX.out HSZ.out (Blk.new w6 39 (SV.arr (⟨y.cur, y.ia, m, y.ic, now⟩ : SV))) 22; (try simp only [SV.arr] at hrun); refine wp_append_run _ _ 22 (by rfl) (by rfl) (by rfl) (by rfl) hrun ?_; have HS7 := Lib.hid hs7; have H7 := Lib.hid h7; have HL7 := Lib.hid hk9; have c7 : w7.cell? ⟨w.heap.size, 0, none⟩ = some (.slice a n c) := h7.pool.cell 0; have f7 := h7.pool.frozen 0; clear hs7 h7 hk9 hrun) | (obtain ⟨a9, k9, c9, w7, hrun, hs7, hk9, h7⟩ := page_app (x := (⟨y.cur, y.ia, m, y.ic, now⟩ : SV)) H6.out HS6.out HR6.out HEL.out HGX.out HSZ.out (Blk.keeps (Blk.drew (Blk.new w5 39 (SV.arr (⟨y.cur, y.ia, m, y.ic, now⟩ : SV)))) HKR6.out HG5.out) 22; (try simp only [SV.arr] at hrun); refine wp_append_run _ _ 22 (by rfl) (by rfl) (by rfl) (by rfl) hrun ?_; have HS7 := Lib.hid hs7; have H7 := Lib.hid h7; have HL7 := Lib.hid hk9; have c7 : w7.cell? ⟨w.heap.size, 0, none⟩ = some (.slice a n c) := h7.pool.cell 0; have f7 := h7.pool.frozen 0; clear hs7 h7 hk9 hrun))
        refine hK.out _ _ ?_ (fun hHeld => ?_)
        · (try dsimp only); (first | exact box3 (H7.out.box.far (p := ⟨w.heap.size, 0, none⟩) HBN.out _) | exact box3 H7.out.box | exact box3 (H6.out.box.alloc _) | exact box3 H6.out.box | exact box3 HB5.out.drew | exact box3 (HB5.out.alloc _).drew)
        clear hK K
        try simp only [Act.put, List.setIfInBounds_toArray, List.set_cons_zero, List.set_cons_succ]
        refine wpAnyH_ready (rs := [6]) (by kernel_rfl) (by simp) ?_
        refine AllReadyH.cons rfl (fun K hK => ?_) ?_
        · go_simp
          refine hK.out _ _ ?_ (fun hHeld => ?_)
          · (try dsimp only); (first | exact box3 (H7.out.box.far (p := ⟨w.heap.size, 0, none⟩) HBN.out _) | exact box3 H7.out.box | exact box3 (H6.out.box.alloc _) | exact box3 H6.out.box | exact box3 HB5.out.drew | exact box3 (HB5.out.alloc _).drew)
          clear hK K
          try simp only [Act.put, List.setIfInBounds_toArray, List.set_cons_zero, List.set_cons_succ]
          refine wpAnyH_ready (rs := [7]) (by kernel_rfl) (by simp) ?_
          refine AllReadyH.cons rfl (fun K hK => ?_) ?_
          · skip
            (first | ((with_reducible refine (HDEL.out _ (by first | exact (Keeps.refl [] w5).drew | exact ((Keeps.refl [] w5).alloc _).drew)).mono ?_); rintro e6 w6 ⟨v6, rfl, hs6, h6, hr6, hkr6⟩; have HS6 := Lib.hid hs6; have H6 := Lib.hid h6; have HR6 := Lib.hid hr6; have HKR6 := Lib.hid hkr6; clear hs6 h6 hr6 hkr6) | (obtain ⟨a9, k9, c9, w7, hrun, hs7, hk9, h7⟩ := page_app (x := (⟨y.cur, y.ia, m, y.ic, now⟩ : SV)) (H6.out.keeps ((Keeps.refl [] w6).alloc (.cells (SV.arr (⟨y.cur, y.ia, m, y.ic, now⟩ : SV)) 39))) (HS6.out.keeps ((Keeps.refl [] w6).alloc (.cells (SV.arr (⟨y.cur, y.ia, m, y.ic, now⟩ : SV)) 39))) HR6.out HEL.out HGX.out HSZ.out (Blk.new w6 39 (SV.arr (⟨y.cur, y.ia, m, y.ic, now⟩ : SV))) 22; (try simp only [SV.arr] at hrun); refine wp_append_run _ _ 22 (by rfl) (by rfl) (by rfl) (by rfl) hrun ?_; have HS7 := Lib.hid hs7; have H7 := Lib.hid h7; have HL7 := Lib.hid hk9; have c7 : w7.cell? ⟨w.heap.size, 0, none⟩ = some (.slice a n c) := h7.pool.cell 0; have f7 := h7.pool.frozen 0; clear hs7 h7 hk9 hrun) | (obtain ⟨a9, k9, c9, w7, hrun, hs7, hk9, h7⟩ := page_app (x := (⟨y.cur, y.ia, m, y.ic, now⟩ : SV)) H6.out HS6.out HR6.out HEL.out HGX.out HSZ.out (Blk.keeps (Blk.drew (Blk.new w5 39 (SV.arr (⟨y.cur, y.ia, m, y.ic, now⟩ : SV)))) HKR6.out HG5.out) 22; (try simp only [SV.arr] at hrun); refine wp_append_run _ _ 22 (by rfl) (by rfl) (by rfl) (by rfl) hrun ?_; have HS7 := Lib.hid hs7; have H7 := Lib.hid h7; have HL7 := Lib.hid hk9; have c7 : w7.cell? ⟨w.heap.size, 0, none⟩ = some (.slice a n c) := h7.pool.cell 0; have f7 := h7.pool.frozen 0; clear hs7 h7 hk9 hrun))
            refine hK.out _ _ ?_ (fun hHeld => ?_)
            · (try dsimp only); (first | exact box3 (H7.out.box.far (p := ⟨w.heap.size, 0, none⟩) HBN.out _) | exact box3 H7.out.box | exact box3 (H6.out.box.alloc _) | exact box3 H6.out.box | exact box3 HB5.out.drew | exact box3 (HB5.out.alloc _).drew)
            clear hK K
            try simp only [Act.put, List.setIfInBounds_toArray, List.set_cons_zero, List.set_cons_succ]
            refine wpAnyH_take (i := 8) (oi := { dst := some 65, op := Op.fieldAddr 24 (Operand.tmp 5) 0, type := 0, pos := "snaps.go:185", after := #[{ on := 0, ground := Ground.phase }, { on := 1, ground := Ground.phase }, { on := 2, ground := Ground.phase }, { on := 3, ground := Ground.phase }, { on := 4, ground := Ground.phase }, { on := 5, ground := Ground.phase }, { on := 6, ground := Ground.phase }, { on := 7, ground := Ground.phase }], guard := none }) (v := ?_) rfl (by kernel_rfl) (by kernel_rfl) (by kernel_rfl) (fun _ _ _ h => h) (Or.inl ⟨by rfl, ?_⟩) (by assumption) ?_
            rotate_left; · ((intro w hSw; (try dsimp only at hSw); go_simp); try with_reducible rfl)
            try simp only [Act.put, List.setIfInBounds_toArray, List.set_cons_zero, List.set_cons_succ]
            refine wpAnyH_ready (rs := [9]) (by kernel_rfl) (by simp) ?_
            refine AllReadyH.cons rfl (fun K hK => ?_) ?_
            · go_simp
              refine hK.out _ _ ?_ (fun hHeld => ?_)
              · (try dsimp only); (first | exact box3 (H7.out.box.far (p := ⟨w.heap.size, 0, none⟩) HBN.out _) | exact box3 H7.out.box | exact box3 (H6.out.box.alloc _) | exact box3 H6.out.box | exact box3 HB5.out.drew | exact box3 (HB5.out.alloc _).drew)
              clear hK K
              try simp only [Act.put, List.setIfInBounds_toArray, List.set_cons_zero, List.set_cons_succ]
              refine wpAnyH_done (by kernel_rfl) ?_ _
              (go_wp2_with (fail); go_meet; exact page_fin HS7.out HL7.out H7.out HM5.out HVL.out HM15.out HMM.out HP8.out HKW.out HQ.out HSZ.out HBN.out HF0.out HFY.out)
            exact AllReadyH.nil
          exact AllReadyH.nil
        exact AllReadyH.nil
      refine AllReadyH.cons rfl (fun K hK => ?_) ?_
      · go_simp
        refine hK.out _ _ ?_ (fun hHeld => ?_)
        · (try dsimp only); (first | exact box3 (H7.out.box.far (p := ⟨w.heap.size, 0, none⟩) HBN.out _) | exact box3 H7.out.box | exact box3 (H6.out.box.alloc _) | exact box3 H6.out.box | exact box3 HB5.out.drew | exact box3 (HB5.out.alloc _).drew)
        clear hK K
        try simp only [Act.put, List.setIfInBounds_toArray, List.set_cons_zero, List.set_cons_succ]
        refine wpAnyH_ready (rs := [4]) (by kernel_rfl) (by simp) ?_
        refine AllReadyH.cons rfl (fun K hK => ?_) ?_
        · go_simp
          (first | ((with_reducible refine (HDEL.out _ (by first | exact (Keeps.refl [] w5).drew | exact ((Keeps.refl [] w5).alloc _).drew)).mono ?_); rintro e6 w6 ⟨v6, rfl, hs6, h6, hr6, hkr6⟩; have HS6 := Lib.hid hs6; have H6 := Lib.hid h6; have HR6 := Lib.hid hr6; have HKR6 := Lib.hid hkr6; clear hs6 h6 hr6 hkr6) | (obtain ⟨a9, k9, c9, w7, hrun, hs7, hk9, h7⟩ := page_app (x := (⟨y.cur, y.ia, m, y.ic, now⟩ : SV)) (H6.out.keeps ((Keeps.refl [] w6).alloc (.cells (SV.arr (⟨y.cur, y.ia, m, y.ic, now⟩ : SV)) 39))) (HS6.out.keeps ((Keeps.refl [] w6).alloc (.cells (SV.arr (⟨y.cur, y.ia, m, y.ic, now⟩ : SV)) 39))) HR6.out HEL.out HGX.out HSZ.out (Blk.new w6 39 (SV.arr (⟨y.cur, y.ia, m, y.ic, now⟩ : SV))) 22; (try simp only [SV.arr] at hrun); refine wp_append_run _ _ 22 (by rfl) (by rfl) (by rfl) (by rfl) hrun ?_; have HS7 := Lib.hid hs7; have H7 := Lib.hid h7; have HL7 := Lib.hid hk9; have c7 : w7.cell? ⟨w.heap.size, 0, none⟩ = some (.slice a n c) := h7.pool.cell 0; have f7 := h7.pool.frozen 0; clear hs7 h7 hk9 hrun) | (obtain ⟨a9, k9, c9, w7, hrun, hs7, hk9, h7⟩ := page_app (x := (⟨y.cur, y.ia, m, y.ic, now⟩ : SV)) H6.out HS6.out HR6.out HEL.out HGX.out HSZ.out (Blk.keeps (Blk.drew (Blk.new w5 39 (SV.arr (⟨y.cur, y.ia, m, y.ic, now⟩ : SV)))) HKR6.out HG5.out) 22; (try simp only [SV.arr] at hrun); refine wp_append_run _ _ 22 (by rfl) (by rfl) (by rfl) (by rfl) hrun ?_; have HS7 := Lib.hid hs7; have H7 := Lib.hid h7; have HL7 := Lib.hid hk9; have c7 : w7.cell? ⟨w.heap.size, 0, none⟩ = some (.slice a n c) := h7.pool.cell 0; have f7 := h7.pool.frozen 0; clear hs7 h7 hk9 hrun))
          refine hK.out _ _ ?_ (fun hHeld => ?_)
          · (try dsimp only); (first | exact box3 (H7.out.box.far (p := ⟨w.heap.size, 0, none⟩) HBN.out _) | exact box3 H7.out.box | exact box3 (H6.out.box.alloc _) | exact box3 H6.out.box | exact box3 HB5.out.drew | exact box3 (HB5.out.alloc _).drew)
          clear hK K
          try simp only [Act.put, List.setIfInBounds_toArray, List.set_cons_zero, List.set_cons_succ]
          refine wpAnyH_ready (rs := [7]) (by kernel_rfl) (by simp) ?_
          refine AllReadyH.cons rfl (fun K hK => ?_) ?_
          · skip
            (first | ((with_reducible refine (HDEL.out _ (by first | exact (Keeps.refl [] w5).drew | exact ((Keeps.refl [] w5).alloc _).drew)).mono ?_); rintro e6 w6 ⟨v6, rfl, hs6, h6, hr6, hkr6⟩; have HS6 := Lib.hid hs6; have H6 := Lib.hid h6; have HR6 := Lib.hid hr6; have HKR6 := Lib.hid hkr6; clear hs6 h6 hr6 hkr6) | (obtain ⟨a9, k9, c9, w7, hrun, hs7, hk9, h7⟩ := page_app (x := (⟨y.cur, y.ia, m, y.ic, now⟩ : SV)) (H6.out.keeps ((Keeps.refl [] w6).alloc (.cells (SV.arr (⟨y.cur, y.ia, m, y.ic, now⟩ : SV)) 39))) (HS6.out.keeps ((Keeps.refl [] w6).alloc (.cells (SV.arr (⟨y.cur, y.ia, m, y.ic, now⟩ : SV)) 39))) HR6.out HEL.out HGX.out HSZ.out (Blk.new w6 39 (SV.arr (⟨y.cur, y.ia, m, y.ic, now⟩ : SV))) 22; (try simp only [SV.arr] at hrun); refine wp_append_run _ _ 22 (by rfl) (by rfl) (by rfl) (by rfl) hrun ?_; have HS7 := Lib.hid hs7; have H7 := Lib.hid h7; have HL7 := Lib.hid hk9; have c7 : w7.cell? ⟨w.heap.size, 0, none⟩ = some (.slice a n c) := h7.pool.cell 0; have f7 := h7.pool.frozen 0; clear hs7 h7 hk9 hrun) | (obtain ⟨a9, k9, c9, w7, hrun, hs7, hk9, h7⟩ := page_app (x := (⟨y.cur, y.ia, m, y.ic, now⟩ : SV)) H6.out HS6.out HR6.out HEL.out HGX.out HSZ.out (Blk.keeps (Blk.drew (Blk.new w5 39 (SV.arr (⟨y.cur, y.ia, m, y.ic, now⟩ : SV)))) HKR6.out HG5.out) 22; (try simp only [SV.arr] at hrun); refine wp_append_run _ _ 22 (by rfl) (by rfl) (by rfl) (by rfl) hrun ?_; have HS7 := Lib.hid hs7; have H7 := Lib.hid h7; have HL7 := Lib.hid hk9; have c7 : w7.cell? ⟨w.heap.size, 0, none⟩ = some (.slice a n c) := h7.pool.cell 0; have f7 := h7.pool.frozen 0; clear hs7 h7 hk9 hrun))
            refine hK.out _ _ ?_ (fun hHeld => ?_)
            · (try dsimp only); (first | exact box3 (H7.out.box.far (p := ⟨w.heap.size, 0, none⟩) HBN.out _) | exact box3 H7.out.box | exact box3 (H6.out.box.alloc _) | exact box3 H6.out.box | exact box3 HB5.out.drew | exact box3 (HB5.out.alloc _).drew)
            clear hK K
            try simp only [Act.put, List.setIfInBounds_toArray, List.set_cons_zero, List.set_cons_succ]
            refine wpAnyH_take (i := 8) (oi := { dst := some 65, op := Op.fieldAddr 24 (Operand.tmp 5) 0, type := 0, pos := "snaps.go:185", after := #[{ on := 0, ground := Ground.phase }, { on := 1, ground := Ground.phase }, { on := 2, ground := Ground.phase }, { on := 3, ground := Ground.phase }, { on := 4, ground := Ground.phase }, { on := 5, ground := Ground.phase }, { on := 6, ground := Ground.phase }, { on := 7, ground := Ground.phase }], guard := none }) (v := ?_) rfl (by kernel_rfl) (by kernel_rfl) (by kernel_rfl) (fun _ _ _ h => h) (Or.inl ⟨by rfl, ?_⟩) (by assumption) ?_
            rotate_left; · ((intro w hSw; (try dsimp only at hSw); go_simp); try with_reducible rfl)
            try simp only [Act.put, List.setIfInBounds_toArray, List.set_cons_zero, List.set_cons_succ]
            refine wpAnyH_ready (rs := [9]) (by kernel_rfl) (by simp) ?_
            refine AllReadyH.cons rfl (fun K hK => ?_) ?_
            · go_simp
              refine hK.out _ _ ?_ (fun hHeld => ?_)
              · (try dsimp only); (first | exact box3 (H7.out.box.far (p := ⟨w.heap.size, 0, none⟩) HBN.out _) | exact box3 H7.out.box | exact box3 (H6.out.box.alloc _) | exact box3 H6.out.box | exact box3 HB5.out.drew | exact box3 (HB5.out.alloc _).drew)
              clear hK K
              try simp only [Act.put, List.setIfInBounds_toArray, List.set_cons_zero, List.set_cons_succ]
              refine wpAnyH_done (by kernel_rfl) ?_ _
              (go_wp2_with (fail); go_meet; exact page_fin HS7.out HL7.out H7.out HM5.out HVL.out HM15.out HMM.out HP8.out HKW.out HQ.out HSZ.out HBN.out HF0.out HFY.out)
            exact AllReadyH.nil
          exact AllReadyH.nil
        exact AllReadyH.nil
      exact AllReadyH.nil
    case rest =>
      obtain ⟨a9, k9, c9, V9, HBP9, HV9, HP9, HK9, HBR9, HBX9, HST9, HF9⟩ := hcut
      have x1 : wc.cell? ⟨w3.heap.size, 1, none⟩ = some (.slice y.ia m y.ic) := HBX9.out.cell 1
      have z0 : wc.cell? ⟨w.heap.size, 0, none⟩ = some (.slice a9 k9 c9) := HBP9.out.cell 0
      have z1 : wc.cell? ⟨w.heap.size, 1, none⟩ = some (.int .i64 x) := HBP9.out.cell 1
      have r0 : wc.cell? ⟨w.heap.size + 1, 0, none⟩ = some (.slice none 0 0) := HBR9.out.cell 0
      have r1 : wc.cell? ⟨w.heap.size + 1, 1, none⟩ = some (.int .i64 0) := HBR9.out.cell 1
      have g0 := HBR9.out.frozen 0
      have g1 := HBR9.out.frozen 1
      have hks : Keeps [w.heap.size + 1] wc ((wc.setCell ⟨w.heap.size + 1, 0, none⟩ (.slice a9 k9 c9)).setCell ⟨w.heap.size + 1, 1, none⟩ (.int .i64 x)) := ((Keeps.refl _ wc).setCell (p := ⟨w.heap.size + 1, 0, none⟩) (.inl (by simp)) _).setCell (p := ⟨w.heap.size + 1, 1, none⟩) (.inl (by simp)) _
      have HPF := Lib.hid (HP9.out.keepsS hks (fun k hk => by simp at hk; subst hk; exact ⟨_, HBR9.out, by decide, by decide⟩))
      have HSF := Lib.hid (HST9.out.keepsS hks (fun k hk cs fz hh => by
        simp at hk; subst hk
        have h' : wc.heap[w.heap.size + 1]? = some (.cells #[.slice none 0 0, .int .i64 0] 24 (0, 0)) := HBR9.out
        rw [h'] at hh
        injection hh with hh; injection hh with _ h3 _
        exact absurd h3 (by decide)))
      have HKF := Lib.hid ((HK9.out.setCell (p := ⟨w.heap.size + 1, 0, none⟩) (.inr (by dsimp only; omega)) (.slice a9 k9 c9)).setCell (p := ⟨w.heap.size + 1, 1, none⟩) (.inr (by dsimp only; omega)) (.int .i64 x))
      have HBF := Lib.hid ((HBR9.out.set_ 0 (.slice a9 k9 c9)).set_ 1 (.int .i64 x))
      have HQN : Hid (x = q.next) := Lib.hid (by rw [← HQ.out])
      clear hks
      by_cases hTm2 : T = m
      · have HNX1 : Hid (nx = -1) := Lib.hid (by rw [← HNX.out, if_pos (by rw [HMM.out]; exact hTm2)])
        try have hcmp : ((F : Int) + (K : Int) == (m : Int)) = true := by have := HTE.out; simp; omega
        clear hTm2
        go_wp2
        have q0 : _ = some (Value.slice a9 k9 c9) := HBF.out.cell 0
        have q1 : _ = some (Value.int .i64 x) := HBF.out.cell 1
        refine bodyPost_ret (v := .tuple #[.agg #[.slice a9 k9 c9, .int .i64 x], .slice a8 (T - F) c8, .int .i64 (-1), .int .i64 0]) (by simp [results, Tryd.results13, go_sem, q0, q1]) rfl ?_
        exact ⟨a9, k9, c9, V9, a8, T - F, c8, by rw [← HQN.out, HNX1.out], HV9.out, HPF.out, HPL.out, HSF.out, HKF.out, HF9.out, HFR8.out⟩
      · first
          | exact absurd HTE.out hTm2
          | (have HNX1 : Hid (nx = (F : Int) + (K : Int)) := Lib.hid (by rw [← HNX.out, if_neg (by rw [HMM.out]; exact hTm2)]; have := HTE.out; omega)
             have hcmp : ((F : Int) + (K : Int) == (m : Int)) = false := by have := HTE.out; simp; omega
             clear hTm2
             go_wp2
             have q0 : _ = some (Value.slice a9 k9 c9) := HBF.out.cell 0
             have q1 : _ = some (Value.int .i64 x) := HBF.out.cell 1
             refine bodyPost_ret (v := .tuple #[.agg #[.slice a9 k9 c9, .int .i64 x], .slice a8 (T - F) c8, .int .i64 ((F : Int) + (K : Int)), .int .i64 0]) (by simp [results, Tryd.results13, go_sem, q0, q1]) rfl ?_
             exact ⟨a9, k9, c9, V9, a8, T - F, c8, by rw [← HQN.out, HNX1.out], HV9.out, HPF.out, HPL.out, HSF.out, HKF.out, HF9.out, HFR8.out⟩)
theorem page_ok (a : Option Addr) (c : Nat) (V : List SV) (p : Po) (n : Nat) (hn : V.length = n) (cursor : Int) (F K : Nat) (now : Int) (w : World) (hP : PoolV w a c V p) (e : Nat → Addr) (he : Env w e) (i : Nat) (hF : findA p cursor F K now = ((i : Int), none)) (hn3 : n ≤ 3) (hK : K ≤ 10) (s : Sn) (hs : p.l[i]? = some s) (hFl : F ≤ s.items.length)
    (T : Nat) (hT : T = if s.items.length < F + K then s.items.length else F + K) :
    Calls Tryd.prog 13 #[.agg #[.slice a n c, .int .i64 p.next], .int .i64 cursor, .int .i64 (F : Int), .int .i64 (K : Int), .int .i64 now] w (PageR w ⟨p.l.eraseIdx i ++ [{ s with used := now }], p.next⟩ ((s.items.drop F).take (T - F)) (if T = s.items.length then -1 else (T : Int)) 0) :=
  (page_okF a c V p n hn cursor F K now w hP e he i hF hn3 hK s hs hFl T hT).mono fun _ _ h => h.plain
end Go.Proofs.YtbcppmcjbcnlbaaDoor
