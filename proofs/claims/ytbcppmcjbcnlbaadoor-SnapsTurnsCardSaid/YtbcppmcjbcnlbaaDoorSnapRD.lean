/- The walk of the document's Page. -/
import Derived.Test.YtbcppmcjbcnlbaaDoorSnapRC
import Derived.Test.YtbcppmcjbcnlbaaDoorSnapT
import Derived.Test.YtbcppmcjbcnlbaaDoorSnapWC
namespace Go.Proofs.YtbcppmcjbcnlbaaDoor
open Go.RowKit Go.Shelf
attribute [local go_sem ↓] Go.wp_at_zero Go.wp_at_succ

/-- An append whose run is known to end well. -/
theorem wp_append_ex {P : Program} {w : World} {o : Oper} {a : Act} {K : Act → World → Prop} {Q : Exit → Act → World → Prop} (s x : Operand) (t : TypeId)
    (ho : o.op = .call { callee := .builtin .append, args := #[s, x], argTypes := #[t, t] }) {d : Nat} (hd : o.dst = some d) {v u : Value} (hs : a.eval s = v) (hx : a.eval x = u) {R : Value → World → Prop}
    (hr : ∃ v' w', (Builtin.append_ #[t, t] o.type #[v, u]).run P w = .ok v' w' ∧ R v' w') (h : ∀ v' w', R v' w' → K (a.put (some d) v') w') : o.wp P a w K Q := by
  obtain ⟨v', w', h1, h2⟩ := hr
  exact wp_append_run s x t ho hd hs hx h1 (h v' w' h2)
/-- A page of texts: l[from:to]. -/
theorem strs_slice2 {w : World} {a : Option Addr} {c : Nat} {xs : List ByteArray} (h : StrsV w a c xs) (F T : Nat) (h1 : F ≤ T) (h2 : T ≤ xs.length) (t : Int) (ht : t = T) :
    ∃ a7 c7, (∀ W : World, (Instr.slice 25 (.slice a xs.length c) (some (.int .i64 (F : Int))) (some (.int .i64 t)) none).run Tryd.prog W = .ok (.slice a7 (T - F) c7) W) ∧ StrsV w a7 c7 ((xs.drop F).take (T - F)) := by
  subst ht
  have hlen : ((xs.drop F).take (T - F)).length = T - F := by rw [List.length_take, List.length_drop]; omega
  have hc := h.le
  refine ⟨if c = F then a else a.map (·.add (F * 1)), c - F, fun W => ?_, ?_⟩
  · have hh := run_slice_lh (P := Tryd.prog) W 25 a xs.length c strs_elem .i64 .i64 F T (by omega) (by omega) (by omega)
    rw [hh, strs_size]
    rfl
  · refine ⟨by rw [hlen]; omega, fun hn => ?_, by rw [hlen]; have := h.small; omega, fun x hx => h.size x (List.mem_of_mem_drop (List.mem_of_mem_take hx)), fun he => ?_⟩
    · have hTF : ¬ T = F := fun e => hn (List.eq_nil_of_length_eq_zero (by rw [hlen]; omega))
      obtain ⟨g, off, cs, fz, rfl, hg, hat⟩ := h.at_ (by rintro rfl; simp at h2; omega)
      refine ⟨g, off + F, cs, fz, by rw [if_neg (by omega)]; simp [addr_add], hg, fun i hi => ?_⟩
      have hi2 : F + i < xs.length := by rw [hlen] at hi; omega
      have := hat (F + i) hi2
      rw [Nat.add_assoc, this]
      simp
    · by_cases hcF : c = F
      · omega
      · rw [if_neg hcF] at he
        cases a with
        | none => have := h.nil rfl; omega
        | some p => cases he
/-- What the loop has met so far: the one with this cursor, and the others. -/
def PgI (V : List SV) (cursor : Int) (k : Nat) (V' : List SV) (fd : Bool) (ss : SV) : Prop :=
  (fd = false ∧ (∀ v ∈ V.take k, v.cur ≠ cursor) ∧ V' = V.take k ∧ ss = ⟨0, none, 0, 0, 0⟩) ∨ (fd = true ∧ ∃ j, j < k ∧ V[j]? = some ss ∧ ss.cur = cursor ∧ V' = (V.take k).eraseIdx j)
theorem PgI.hit {V : List SV} {cursor : Int} {k : Nat} {V' : List SV} {fd : Bool} {ss y : SV} (h : PgI V cursor k V' fd ss) (hap : V.Pairwise fun s t => s.cur ≠ t.cur) (hy : V[k]? = some y) (hc : y.cur = cursor) : PgI V cursor (k + 1) V' true y := by
  rcases h with ⟨_, _, rfl, _⟩ | ⟨_, j, hj, hs, hsc, _⟩
  · refine .inr ⟨rfl, k, by omega, hy, hc, ?_⟩
    rw [take_snoc hy, List.eraseIdx_append_of_length_le (by rw [List.length_take]; omega)]
    have hk : k < V.length := (List.getElem?_eq_some_iff.1 hy).1
    rw [show k - (V.take k).length = 0 by rw [List.length_take]; omega]
    simp
  · obtain ⟨h1, e1⟩ := List.getElem?_eq_some_iff.1 hs
    obtain ⟨h2, e2⟩ := List.getElem?_eq_some_iff.1 hy
    have := List.pairwise_iff_getElem.1 hap j k h1 h2 hj
    rw [e1, e2, hsc, hc] at this
    exact absurd rfl this
theorem PgI.miss {V : List SV} {cursor : Int} {k : Nat} {V' : List SV} {fd : Bool} {ss y : SV} (h : PgI V cursor k V' fd ss) (hy : V[k]? = some y) (hc : y.cur ≠ cursor) : PgI V cursor (k + 1) (V' ++ [y]) fd ss := by
  have hk : k < V.length := (List.getElem?_eq_some_iff.1 hy).1
  rcases h with ⟨h0, h1, rfl, h3⟩ | ⟨h0, j, hj, hs, hsc, rfl⟩
  · refine .inl ⟨h0, fun v hv => ?_, (take_snoc hy).symm, h3⟩
    rw [take_snoc hy, List.mem_append, List.mem_singleton] at hv
    rcases hv with hv | rfl
    · exact h1 v hv
    · exact hc
  · refine .inr ⟨h0, j, by omega, hs, hsc, ?_⟩
    rw [take_snoc hy, List.eraseIdx_append_of_lt_length (by rw [List.length_take]; omega)]
theorem Mt.cur_pair {w : World} : ∀ {V : List SV} {L : List Sn}, Mt w V L → (L.Pairwise fun s t => s.cur ≠ t.cur) → V.Pairwise fun s t => s.cur ≠ t.cur
  | [], [], _, _ => by simp
  | v :: V, s :: L, h, hp => by
    rw [List.pairwise_cons] at hp ⊢
    refine ⟨fun t ht => ?_, Mt.cur_pair h.2 hp.2⟩
    obtain ⟨i, hi, rfl⟩ := List.getElem_of_mem ht
    have hl : i < L.length := by rw [← h.2.len]; exact hi
    rw [h.1.1, (h.2.get i hi hl).1]
    exact hp.1 _ (List.getElem_mem hl)
  | [], _ :: _, h, _ => h.elim
  | _ :: _, [], h, _ => h.elim
theorem page16_gone {p : Po} {cur now f n : Int} (h : Met p now) (n1 : 1 ≤ n) (n2 : n ≤ 10) (hg : ∀ t ∈ p.l, t.cur = cur → ¬ (now - t.used < 1000 ∧ 0 ≤ f ∧ f ≤ t.items.length)) : pageA p cur f n now = (po0, [], 0, 161) := by
  unfold pageA
  rw [if_pos ((check_iff _ _).2 h), if_neg (by omega), findN_not (fun t ht => by
    by_cases hc : t.cur = cur
    · have h1 := hg t ht hc
      cases hh : hitB cur f now t with
      | false => rfl
      | true =>
        simp only [hitB, freshB, Bool.and_eq_true, decide_eq_true_eq] at hh
        exact absurd ⟨hh.1.1.2, hh.1.2, hh.2⟩ h1
    · simp [hitB, hc])]
theorem pg_end (xs : List ByteArray) (F K m T : Nat) (hm : xs.length = m) (hF : F ≤ m) (h : m ≤ F + K) (hT : m = T) : pgL xs F K = (xs.drop F).take (T - F) ∧ pgN xs F K = -1 := by
  subst hm hT
  rw [pgL_eq _ _ _ hF, pgN_eq, if_neg (by omega), List.take_of_length_le (by rw [List.length_drop]; omega), List.take_of_length_le (by rw [List.length_drop]; omega)]
  exact ⟨rfl, rfl⟩
theorem pg_mid (xs : List ByteArray) (F K m T : Nat) (hm : xs.length = m) (hF : F ≤ m) (h : ¬ m ≤ F + K) (hT : F + K = T) : pgL xs F K = (xs.drop F).take (T - F) ∧ pgN xs F K = (F : Int) + (K : Int) := by
  subst hm hT
  rw [pgL_eq _ _ _ hF, pgN_eq, if_pos (by omega), show F + K - F = K by omega]
  exact ⟨rfl, by omega⟩
theorem page16_good {L : List Sn} {x now cursor : Int} {F K j : Nat} {s : Sn} (hmet : Met ⟨L, x⟩ now) (hs : L[j]? = some s) (hc : s.cur = cursor) (hu : now - s.used < 1000) (hF : F ≤ s.items.length) (hK : 1 ≤ K ∧ K ≤ 10) :
    pageA ⟨L, x⟩ cursor F K now = (⟨L.eraseIdx j ++ [{ s with used := now }], x⟩, pgL s.items F K, pgN s.items F K, 0) := by
  subst hc
  obtain ⟨hj, hjs⟩ := List.getElem?_eq_some_iff.1 hs
  have hsplit : L.take j ++ s :: L.drop (j + 1) = L := by
    rw [← hjs, List.getElem_cons_drop, List.take_append_drop]
  have hp := page_at (l1 := L.take j) (l2 := L.drop (j + 1)) (s := s) (next := x) (now := now) (f := (F : Int)) (n := (K : Int)) (by rw [hsplit]; exact hmet) hu (by omega) (by omega) (by omega) (by omega)
  rw [hsplit] at hp
  rw [hp, List.eraseIdx_eq_take_drop_succ]
theorem page16_hit {L : List Sn} {x now cursor : Int} {F K j : Nat} {s : Sn} {q : Po} {page : List ByteArray} {nx err : Int} (hmet : Met ⟨L, x⟩ now) (hs : L[j]? = some s) (hc : s.cur = cursor) (hu : now - s.used < 1000) (hF : F ≤ s.items.length) (hK : 1 ≤ K ∧ K ≤ 10)
    (hA : pageA ⟨L, x⟩ cursor F K now = (q, page, nx, err)) : q = ⟨L.eraseIdx j ++ [{ s with used := now }], x⟩ ∧ page = pgL s.items F K ∧ nx = pgN s.items F K ∧ err = 0 := by
  rw [page16_good hmet hs hc hu hF hK] at hA
  simp only [Prod.mk.injEq] at hA
  exact ⟨hA.1.symm, hA.2.1.symm, hA.2.2.1.symm, hA.2.2.2.symm⟩
theorem wrap_few (F K m : Nat) (h : F ≤ m) (h2 : m ≤ 1000000) (h3 : K ≤ 10) : IntKind.i64.wrap ((F : Int) + (K : Int)) = (F : Int) + (K : Int) := IntWalk.i64_in _ (by omega)
theorem str_keep {W W' : World} {B b : Nat} {cs : Array Value} (h : StrK B W W') (hb : Blk W b 9 cs) : Blk W' b 9 cs := h.strs b cs (0, 0) hb
theorem SRow.str {W W' : World} {B b : Nat} {v : Value} {V : List SV} {cs : Array Value} (h : SRow W B v V) (hk : Keeps [b] W W') (hb : Blk W b 9 cs) : SRow W' B v V := by
  rcases h with h | ⟨g, off, cap, h1, h2, h3, h4, h5, h6⟩
  · exact .inl h
  · have hne : g ≠ b := by
      rintro rfl
      obtain ⟨c2, h7⟩ := h3.blk
      have hb' : W.heap[g]? = some (.cells cs 9 (0, 0)) := hb
      rw [h7] at hb'
      injection hb' with hb'
      injection hb' with _ h8 _
      exact absurd h8 (by decide)
    have hbb := hk.block g h3.lt (by simpa using hne)
    exact .inr ⟨g, off, cap, h1, h2, h3.same hbb, h4, h5, h6.same hbb⟩
theorem app_new {W : World} {b : Nat} (hb : Blk W b 9 #[]) {a : Option Addr} {c m : Nat} {xs : List ByteArray} (h : StrsV W a c xs) (hm : xs.length = m) (ty : TypeId) :
    ∃ v' W', (Builtin.append_ #[25, 25] ty #[.slice (some ⟨b, 0, none⟩) 0 0, .slice a m c]).run Tryd.prog W = .ok v' W' ∧ (∃ a' c', v' = .slice a' m c' ∧ StrsV W' a' c' xs ∧ Keeps [b] W W') := by
  have hrow : W.ownsRow 0 9 1 (.slice (some ⟨b, 0, none⟩) 0 0) 0 [] := ⟨rfl, .inr ⟨b, 0, #[], rfl, Nat.zero_le _, hb, Nat.le_refl _, Nat.zero_le _, rfl, rfl⟩⟩
  obtain ⟨v', W', hr, hown, hg⟩ := app_strs (ys := []) hrow (Nat.zero_le _) h (by simp) ty
  rw [List.nil_append] at hown
  obtain ⟨a', c', rfl, hs⟩ := strs_of_row hown h.small h.size
  rw [hm] at hr
  exact ⟨_, W', hr, a', c', rfl, hs, (Keeps.refl [b] W).grown hg (fun k hk => .inl (by simp [Value.ownBlock] at hk; simp [hk]))⟩

theorem keeps_new {S : List Nat} {w w1 w2 : World} (h : Keeps [] w w1) (hk : Keeps S w1 w2) (hS : ∀ k ∈ S, w.heap.size ≤ k) : Keeps [] w w2 :=
  ⟨hk.os.trans h.os, hk.tape.trans h.tape, hk.output.trans h.output, Nat.le_trans h.size hk.size, fun k hk1 _ => (hk.block k (Nat.lt_of_lt_of_le hk1 h.size) (fun hm => by have := hS k hm; omega)).trans (h.block k hk1 (by simp))⟩
theorem keeps_two {S : List Nat} {wl wr w9 : World} (h : Keeps S wl wr) (hb : Below wl.heap.size wr w9) : Keeps S wl w9 :=
  ⟨hb.os.trans h.os, hb.tape.trans h.tape, hb.output.trans h.output, Nat.le_trans h.size hb.size, fun k hk1 hn => (hb.block k hk1).trans (h.block k hk1 hn)⟩

/-- What stays while Page's last region runs; B: the rows of listings lie from there on. -/
structure PgW (B sb : Nat) (w wb W : World) (sc pc rc : Array Value) : Prop where
  sbx : Blk W sb 39 sc
  pb : Blk W w.heap.size 24 pc
  rb : Blk W (w.heap.size + 1) 24 rc
  k : Keeps [] w W
  str : StrK 0 wb W
theorem PgW.keeps {B sb : Nat} {w wb W W' : World} {sc pc rc : Array Value} (h : PgW B sb w wb W sc pc rc) (hk : Keeps [] W W') : PgW B sb w wb W' sc pc rc :=
  ⟨h.sbx.keeps hk (by simp), h.pb.keeps hk (by simp), h.rb.keeps hk (by simp), h.k.trans hk, h.str.trans (StrK.of_keeps hk (Nat.zero_le _))⟩
theorem PgW.strK {B sb : Nat} {w wb W W' : World} {sc pc rc : Array Value} (h : PgW B sb w wb W sc pc rc) (hk : StrK B W W') (hs : sb < B) (hw : w.heap.size + 1 < B) : PgW B sb w wb W' sc pc rc :=
  ⟨(hk.low.block _ hs).trans h.sbx, (hk.low.block _ (by omega)).trans h.pb, (hk.low.block _ hw).trans h.rb, Keeps.of_below ((h.k.below (Nat.le_refl _) (by simp)).trans (hk.low.mono (by omega))) [], h.str.trans (hk.mono (Nat.zero_le _))⟩
theorem PgW.one {B sb b : Nat} {w wb W W' : World} {sc pc rc : Array Value} (h : PgW B sb w wb W sc pc rc) (hk : Keeps [b] W W') (hb : wb.heap.size ≤ b) (hs : sb < wb.heap.size) (hw : w.heap.size + 1 < wb.heap.size) : PgW B sb w wb W' sc pc rc :=
  ⟨h.sbx.keeps hk (by simp; omega), h.pb.keeps hk (by simp; omega), h.rb.keeps hk (by simp; omega), keeps_new h.k hk (fun k hk2 => by rw [List.mem_singleton] at hk2; omega),
    ⟨h.str.low.trans ⟨hk.os, hk.tape, hk.output, hk.size, fun _ h0 => absurd h0 (Nat.not_lt_zero _)⟩, fun k cs fz hk2 => (hk.block k (Nat.lt_of_lt_of_le (Array.getElem?_eq_some_iff.1 hk2).1 h.str.low.size) (fun hm => by
      rw [List.mem_singleton] at hm
      have := (Array.getElem?_eq_some_iff.1 hk2).1
      omega)).trans (h.str.strs k cs fz hk2)⟩⟩
theorem pgS {B sb : Nat} {w wb W : World} {a b c d e : Value} {rc : Array Value} (h : PgW B sb w wb W #[a, b, c] #[d, e] rc) : W.cell? ⟨sb, 0, none⟩ = some a ∧ W.cell? ⟨sb, 1, none⟩ = some b ∧ W.cell? ⟨sb, 2, none⟩ = some c ∧ W.cell? ⟨w.heap.size, 1, none⟩ = some e :=
  ⟨h.sbx.cell 0, h.sbx.cell 1, h.sbx.cell 2, h.pb.cell 1⟩
theorem pgS2 {B sb : Nat} {w wb W : World} {a b c d e : Value} {rc : Array Value} (h : PgW B sb w wb W #[a, b, c] #[d, e] rc) (hs : w.heap.size + 1 < sb) (u v : Value) : ((W.setCell ⟨w.heap.size + 1, 0, none⟩ u).setCell ⟨w.heap.size + 1, 1, none⟩ v).cell? ⟨sb, 0, none⟩ = some a ∧ ((W.setCell ⟨w.heap.size + 1, 0, none⟩ u).setCell ⟨w.heap.size + 1, 1, none⟩ v).cell? ⟨sb, 1, none⟩ = some b ∧ ((W.setCell ⟨w.heap.size + 1, 0, none⟩ u).setCell ⟨w.heap.size + 1, 1, none⟩ v).cell? ⟨sb, 2, none⟩ = some c ∧ ((W.setCell ⟨w.heap.size + 1, 0, none⟩ u).setCell ⟨w.heap.size + 1, 1, none⟩ v).cell? ⟨w.heap.size, 1, none⟩ = some e := by
  have h1 := (h.sbx.far (p := ⟨w.heap.size + 1, 0, none⟩) (by dsimp only; omega) u).far (p := ⟨w.heap.size + 1, 1, none⟩) (by dsimp only; omega) v
  have h2 := (h.pb.far (p := ⟨w.heap.size + 1, 0, none⟩) (by dsimp only; omega) u).far (p := ⟨w.heap.size + 1, 1, none⟩) (by dsimp only; omega) v
  exact ⟨h1.cell 0, h1.cell 1, h1.cell 2, h2.cell 1⟩
/-- What Page's last region leaves. -/
theorem page16_fin {B sb : Nat} {w wb W : World} {sc pc : Array Value} (h : PgW B sb w wb W sc pc #[.slice none 0 0, .int .i64 0]) {a9 a8 : Option Addr} {k9 c9 c8 : Nat} {V9 : List SV} {V' : List SV} {L' : List Sn} {y : SV} {s : Sn} {q : Po} {page : List ByteArray} {m : Nat} {now x : Int}
    (hs : SRow W B (.slice a9 k9 c9) V9) (hv : V9 = V' ++ [(⟨y.cur, y.ia, m, y.ic, now⟩ : SV)]) (hM : Mt wb V' L') (hl : V'.length ≤ 1000) (hm1 : Mt1 wb y s) (hm : s.items.length = m) (hq : (⟨L' ++ [{ s with used := now }], x⟩ : Po) = q) (hst : StrsV W a8 c8 page) :
    V9.length = k9 ∧ PoolV ((W.setCell ⟨w.heap.size + 1, 0, none⟩ (.slice a9 k9 c9)).setCell ⟨w.heap.size + 1, 1, none⟩ (.int .i64 x)) a9 c9 V9 q ∧ StrsV ((W.setCell ⟨w.heap.size + 1, 0, none⟩ (.slice a9 k9 c9)).setCell ⟨w.heap.size + 1, 1, none⟩ (.int .i64 x)) a8 c8 page ∧ Keeps [] w ((W.setCell ⟨w.heap.size + 1, 0, none⟩ (.slice a9 k9 c9)).setCell ⟨w.heap.size + 1, 1, none⟩ (.int .i64 x)) ∧ Blk ((W.setCell ⟨w.heap.size + 1, 0, none⟩ (.slice a9 k9 c9)).setCell ⟨w.heap.size + 1, 1, none⟩ (.int .i64 x)) (w.heap.size + 1) 24 #[.slice a9 k9 c9, .int .i64 x] := by
  obtain ⟨a', c', hv2, hc9, hr9⟩ := hs.row
  injection hv2 with e1 e2 e3
  subst e1
  subst e3
  have hP : PoolV W a9 c9 V9 q := by
    rw [← hq]
    refine ⟨hc9, by rw [hv, List.length_append, List.length_singleton]; omega, hr9, ?_⟩
    rw [hv]
    exact (hM.strK h.str).app ⟨⟨hm1.1, rfl, hm.symm, hm1.2.2.2.strK h.str⟩, trivial⟩
  have hks : Keeps [w.heap.size + 1] W ((W.setCell ⟨w.heap.size + 1, 0, none⟩ (.slice a9 k9 c9)).setCell ⟨w.heap.size + 1, 1, none⟩ (.int .i64 x)) := ((Keeps.refl [w.heap.size + 1] W).setCell (p := ⟨w.heap.size + 1, 0, none⟩) (.inl (by simp)) _).setCell (p := ⟨w.heap.size + 1, 1, none⟩) (.inl (by simp)) _
  refine ⟨e2.symm, hP.keepsS hks (fun k hk => by simp at hk; subst hk; exact ⟨_, h.rb, by decide, by decide⟩), hst.keepsS hks (pool_nostr h.rb), keeps_new h.k hks (fun k hk => by rw [List.mem_singleton] at hk; omega), (h.rb.set_ 0 _).set_ 1 _⟩

set_option maxRecDepth 100000 in
set_option maxHeartbeats 8000000 in
theorem page16_any (a : Option Addr) (c : Nat) (V : List SV) (L : List Sn) (x : Int) (n : Nat) (hn : V.length = n) (cursor from_ num now : Int) (w : World) (hP : PoolV w a c V ⟨L, x⟩)
    (q : Po) (page : List ByteArray) (nx err : Int) (hA : pageA ⟨L, x⟩ cursor from_ num now = (q, page, nx, err)) :
    Calls Tryd.prog 17 #[.agg #[.slice a n c, .int .i64 x], .int .i64 cursor, .int .i64 from_, .int .i64 num, .int .i64 now] w (PageR w q page nx err) := by
  obtain ⟨R, hR⟩ : ∃ R, rightP ⟨L, x⟩ = R := ⟨_, rfl⟩
  obtain ⟨y, hy⟩ : ∃ y, (decide (lastU L ≤ now) && decide (now ≤ 1000000000000)) = y := ⟨_, rfl⟩
  have hpa : (R && y) = false → q = po0 ∧ page = [] ∧ nx = 0 ∧ err = 160 := fun h => by
    unfold pageA checkB at hA
    rw [hR, Bool.and_assoc R, hy] at hA
    rw [h] at hA
    cases hA
    exact ⟨rfl, rfl, rfl, rfl⟩
  have HPA := Lib.hid hpa
  have HA := Lib.hid hA
  have hcc := fun W (hk : Keeps [] w W) => right16_any a c V ⟨L, x⟩ n hn W (hP.keeps hk) R hR
  have hcn := fun W (hk : Keeps [] w W) => now16_any a c V L x n hn now W (hP.keeps hk) y hy
  dsimp only at hcc
  have HCC := Lib.hid hcc
  have HCN := Lib.hid hcn
  have HP := Lib.hid hP
  have HR := Lib.hid hR
  have HY := Lib.hid hy
  have HN := Lib.hid hn
  have HLN : Hid (L.length = n) := Lib.hid (by rw [← hn]; exact hP.mt.len.symm)
  have HB0 := Lib.hid ((Blk.new w 24 #[.slice a n c, .int .i64 x]).alloc (.cells #[.slice none 0 0, .int .i64 0] 24))
  have HB1 := Lib.hid (blk_at (w.alloc (.cells #[.slice a n c, .int .i64 x] 24)) 24 #[.slice none 0 0, .int .i64 0] (w.heap.size + 1) (by simp))
  have HK := Lib.hid (((Keeps.refl [] w).alloc (.cells #[.slice a n c, .int .i64 x] 24)).alloc (.cells #[.slice none 0 0, .int .i64 0] 24))
  have p0 : _ = some (Value.slice a n c) := HB0.out.cell 0
  have p1 : _ = some (Value.int .i64 x) := HB0.out.cell 1
  clear hpa hA hcc hcn hP hR hy hn
  go_enter Tryd.func17, Tryd.ntmps17
  go_wp2_with (fail)
  refine (HCC.out _ HK.out).mono ?_
  rintro r w1 ⟨rfl, hk⟩
  replace HB0 := Lib.hid (HB0.out.keeps hk (by simp))
  replace HB1 := Lib.hid (HB1.out.keeps hk (by simp))
  replace HK := Lib.hid (HK.out.trans hk)
  clear hk p0 p1
  have p0 : _ = some (Value.slice a n c) := HB0.out.cell 0
  have p1 : _ = some (Value.int .i64 x) := HB0.out.cell 1
  cases R with
  | false =>
    obtain ⟨rfl, rfl, rfl, rfl⟩ := HPA.out rfl
    have c0 := HB1.out.cell 0
    have c1 := HB1.out.cell 1
    have f0 := HB1.out.frozen 0
    have f1 := HB1.out.frozen 1
    have HBF := Lib.hid ((HB1.out.set_ 0 (.slice none 0 0)).set_ 1 (.int .i64 0))
    have HKF := Lib.hid ((HK.out.setCell (p := ⟨w.heap.size + 1, 0, none⟩) (.inr (by dsimp only; omega)) (.slice none 0 0)).setCell (p := ⟨w.heap.size + 1, 1, none⟩) (.inr (by dsimp only; omega)) (.int .i64 0))
    go_wp2
    have q0 : _ = some (Value.slice none 0 0) := HBF.out.cell 0
    have q1 : _ = some (Value.int .i64 0) := HBF.out.cell 1
    refine bodyPost_ret (v := .tuple #[.agg #[.slice none 0 0, .int .i64 0], .slice none 0 0, .int .i64 0, .int .i64 160]) (by simp [results, Tryd.results17, go_sem, q0, q1]) rfl ?_
    exact ⟨none, 0, 0, [], none, 0, 0, rfl, rfl, poolV_nil _, rfl, strsV_nil _, HKF.out⟩
  | true =>
    go_wp2_with (fail)
    refine (HCN.out _ HK.out).mono ?_
    rintro r w2 ⟨rfl, hk⟩
    replace HB0 := Lib.hid (HB0.out.keeps hk (by simp))
    replace HB1 := Lib.hid (HB1.out.keeps hk (by simp))
    replace HK := Lib.hid (HK.out.trans hk)
    clear hk p0 p1
    cases y with
    | false =>
      obtain ⟨rfl, rfl, rfl, rfl⟩ := HPA.out rfl
      have c0 := HB1.out.cell 0
      have c1 := HB1.out.cell 1
      have f0 := HB1.out.frozen 0
      have f1 := HB1.out.frozen 1
      have HBF := Lib.hid ((HB1.out.set_ 0 (.slice none 0 0)).set_ 1 (.int .i64 0))
      have HKF := Lib.hid ((HK.out.setCell (p := ⟨w.heap.size + 1, 0, none⟩) (.inr (by dsimp only; omega)) (.slice none 0 0)).setCell (p := ⟨w.heap.size + 1, 1, none⟩) (.inr (by dsimp only; omega)) (.int .i64 0))
      go_wp2
      have q0 : _ = some (Value.slice none 0 0) := HBF.out.cell 0
      have q1 : _ = some (Value.int .i64 0) := HBF.out.cell 1
      refine bodyPost_ret (v := .tuple #[.agg #[.slice none 0 0, .int .i64 0], .slice none 0 0, .int .i64 0, .int .i64 160]) (by simp [results, Tryd.results17, go_sem, q0, q1]) rfl ?_
      exact ⟨none, 0, 0, [], none, 0, 0, rfl, rfl, poolV_nil _, rfl, strsV_nil _, HKF.out⟩
    | true =>
      have hck : checkB ⟨L, x⟩ now = true := by
        unfold checkB
        rw [HR.out, Bool.and_assoc]
        exact HY.out
      have hmet := (check_iff _ _).1 hck
      have HARG : Hid ((num < 1 ∨ 10 < num) → q = po0 ∧ page = [] ∧ nx = 0 ∧ err = 2) := Lib.hid (fun h => by
        have h1 := HA.out
        unfold pageA at h1
        rw [if_pos hck, if_pos h] at h1
        cases h1
        exact ⟨rfl, rfl, rfl, rfl⟩)
      have HMET := Lib.hid hmet
      clear hck hmet HPA HCC HCN HR HY
      by_cases hn1 : num < 1
      · obtain ⟨rfl, rfl, rfl, rfl⟩ := HARG.out (.inl hn1)
        have c0 := HB1.out.cell 0
        have c1 := HB1.out.cell 1
        have f0 := HB1.out.frozen 0
        have f1 := HB1.out.frozen 1
        have HBF := Lib.hid ((HB1.out.set_ 0 (.slice none 0 0)).set_ 1 (.int .i64 0))
        have HKF := Lib.hid ((HK.out.setCell (p := ⟨w.heap.size + 1, 0, none⟩) (.inr (by dsimp only; omega)) (.slice none 0 0)).setCell (p := ⟨w.heap.size + 1, 1, none⟩) (.inr (by dsimp only; omega)) (.int .i64 0))
        go_wp2
        have q0 : _ = some (Value.slice none 0 0) := HBF.out.cell 0
        have q1 : _ = some (Value.int .i64 0) := HBF.out.cell 1
        refine bodyPost_ret (v := .tuple #[.agg #[.slice none 0 0, .int .i64 0], .slice none 0 0, .int .i64 0, .int .i64 2]) (by simp [results, Tryd.results17, go_sem, q0, q1]) rfl ?_
        exact ⟨none, 0, 0, [], none, 0, 0, rfl, rfl, poolV_nil _, rfl, strsV_nil _, HKF.out⟩
      · by_cases hn2 : 10 < num
        · obtain ⟨rfl, rfl, rfl, rfl⟩ := HARG.out (.inr hn2)
          have c0 := HB1.out.cell 0
          have c1 := HB1.out.cell 1
          have f0 := HB1.out.frozen 0
          have f1 := HB1.out.frozen 1
          have HBF := Lib.hid ((HB1.out.set_ 0 (.slice none 0 0)).set_ 1 (.int .i64 0))
          have HKF := Lib.hid ((HK.out.setCell (p := ⟨w.heap.size + 1, 0, none⟩) (.inr (by dsimp only; omega)) (.slice none 0 0)).setCell (p := ⟨w.heap.size + 1, 1, none⟩) (.inr (by dsimp only; omega)) (.int .i64 0))
          go_wp2
          have q0 : _ = some (Value.slice none 0 0) := HBF.out.cell 0
          have q1 : _ = some (Value.int .i64 0) := HBF.out.cell 1
          refine bodyPost_ret (v := .tuple #[.agg #[.slice none 0 0, .int .i64 0], .slice none 0 0, .int .i64 0, .int .i64 2]) (by simp [results, Tryd.results17, go_sem, q0, q1]) rfl ?_
          exact ⟨none, 0, 0, [], none, 0, 0, rfl, rfl, poolV_nil _, rfl, strsV_nil _, HKF.out⟩
        · obtain ⟨KN, rfl⟩ := Int.eq_ofNat_of_zero_le (show 0 ≤ num by omega)
          have HK10 : Hid (1 ≤ KN ∧ KN ≤ 10) := Lib.hid (by omega)
          have hn3 : n ≤ 3 := by rw [← HLN.out]; exact HMET.out.ok.len
          have ht0 := HMET.out.t0
          have ht1 := HMET.out.t1
          have HGONE : Hid ((∀ t ∈ L, t.cur = cursor → ¬ (now - t.used < 1000 ∧ 0 ≤ from_ ∧ from_ ≤ t.items.length)) → q = po0 ∧ page = [] ∧ nx = 0 ∧ err = 161) := Lib.hid (fun h => by
            have h1 := HA.out
            rw [page16_gone HMET.out (by omega) (by omega) h] at h1
            cases h1
            exact ⟨rfl, rfl, rfl, rfl⟩)
          have HAP : Hid (V.Pairwise fun s t => s.cur ≠ t.cur) := Lib.hid (HP.out.mt.cur_pair HMET.out.ok.ap)
          have HSZ : Hid (w.heap.size + 1 < w2.heap.size) := Lib.hid HB1.out.lt
          have HBS := Lib.hid (Blk.new w2 39 #[.int .i64 0, .slice none 0 0, .int .i64 0])
          replace HB0 := Lib.hid (HB0.out.alloc (.cells #[.int .i64 0, .slice none 0 0, .int .i64 0] 39))
          replace HB1 := Lib.hid (HB1.out.alloc (.cells #[.int .i64 0, .slice none 0 0, .int .i64 0] 39))
          replace HK := Lib.hid (HK.out.alloc (.cells #[.int .i64 0, .slice none 0 0, .int .i64 0] 39))
          have HUS : Hid (∀ s ∈ L, 0 ≤ s.used ∧ s.used ≤ 1000000000000) := Lib.hid HMET.out.ok.us
          obtain ⟨wl, hwl⟩ : ∃ wl, w2.alloc (.cells #[.int .i64 0, .slice none 0 0, .int .i64 0] 39) = wl := ⟨_, rfl⟩
          have HWL : Hid (wl.heap.size = w2.heap.size + 1) := Lib.hid (by rw [← hwl]; simp)
          rw [hwl] at HBS HB0 HB1 HK
          go_wp2
          clear hwl
          go_loopw [14, 16, 17] (fun u f i wr => ∃ (k : Nat) (V' : List SV) (fd : Bool) (ss : SV), k ≤ n ∧ i = .int .i64 k ∧ f = .bool fd ∧ Hid (PgI V cursor k V' fd ss) ∧ Hid (SRow wr wl.heap.size u V') ∧ Hid (Blk wr w2.heap.size 39 ss.arr) ∧ Hid (Keeps [w2.heap.size] wl wr)) (fun _ _ i _ => n - (intOf i).toNat)
          case atStart => exact ⟨0, [], false, ⟨0, none, 0, 0, 0⟩, Nat.zero_le _, rfl, rfl, Lib.hid (.inl ⟨rfl, by simp, by simp, rfl⟩), Lib.hid (.inl ⟨rfl, rfl⟩), HBS, Lib.hid (Keeps.refl _ _)⟩
          case round =>
            obtain ⟨k, V', fd, ss, hk, rfl, rfl, HI, HS, HBX, HKL⟩ := hrel
            have HKW : Hid (Keeps [] w wr) := Lib.hid (keeps_new HK.out HKL.out (fun k hk2 => by rw [List.mem_singleton] at hk2; have := HSZ.out; omega))
            have hb0 := HB0.out.keeps HKL.out (by simp; have := HSZ.out; omega)
            have z0 : wr.cell? ⟨w.heap.size, 0, none⟩ = some (.slice a n c) := hb0.cell 0
            by_cases hlt : k < n
            · have hk1 : k < V.length := by rw [HN.out]; exact hlt
              obtain ⟨g, off, cs0, fz0, rfl, hgb, hat⟩ := HP.out.row (by rintro rfl; simp at hk1)
              have hg := (Array.getElem?_eq_some_iff.1 hgb).1
              obtain ⟨y, hy⟩ : ∃ y, V[k] = y := ⟨_, rfl⟩
              have q1 := hat k hk1
              rw [hy] at q1
              obtain ⟨p0, p1, p2⟩ := q1
              rw [← HKW.out.cell (by exact hg) (by simp)] at p0 p1 p2
              have i1 : (0 : Int) ≤ (k : Int) := by omega
              have i2 : (k : Int) < (n : Int) := by omega
              have HVS : Hid (V[k]? = some y) := Lib.hid (by rw [List.getElem?_eq_getElem hk1, hy])
              clear hy hk1 hgb hat hg hb0
              cases hcv : (y.cur == cursor) with
              | true =>
                have HI2 := Lib.hid (HI.out.hit HAP.out HVS.out (by simpa using hcv))
                have b0 : wr.cell? ⟨w2.heap.size, 0, none⟩ = some (.int .i64 ss.cur) := HBX.out.cell 0
                have b1 : wr.cell? ⟨w2.heap.size, 1, none⟩ = some (.slice ss.ia ss.il ss.ic) := HBX.out.cell 1
                have b2 : wr.cell? ⟨w2.heap.size, 2, none⟩ = some (.int .i64 ss.used) := HBX.out.cell 2
                have f0 := HBX.out.frozen 0
                have f1 := HBX.out.frozen 1
                have f2 := HBX.out.frozen 2
                have HBX2 := Lib.hid (((HBX.out.set_ 0 (.int .i64 y.cur)).set_ 1 (.slice y.ia y.il y.ic)).set_ 2 (.int .i64 y.used))
                have HKL2 := Lib.hid (((HKL.out.setCell (p := ⟨w2.heap.size, 0, none⟩) (.inl (by simp)) (.int .i64 y.cur)).setCell (p := ⟨w2.heap.size, 1, none⟩) (.inl (by simp)) (.slice y.ia y.il y.ic)).setCell (p := ⟨w2.heap.size, 2, none⟩) (.inl (by simp)) (.int .i64 y.used))
                have HS2 := Lib.hid (((HS.out.far (p := ⟨w2.heap.size, 0, none⟩) (by rw [HWL.out]; dsimp only; omega) (.int .i64 y.cur)).far (p := ⟨w2.heap.size, 1, none⟩) (by rw [HWL.out]; dsimp only; omega) (.slice y.ia y.il y.ic)).far (p := ⟨w2.heap.size, 2, none⟩) (by rw [HWL.out]; dsimp only; omega) (.int .i64 y.used))
                go_wp2
                go_roundw
                case rel => exact ⟨k + 1, V', true, y, by omega, by go_num, rfl, HI2, HS2, HBX2, HKL2⟩
                case measure => simp [intOf]; omega
              | false =>
                have HI2 := Lib.hid (HI.out.miss HVS.out (by simpa using hcv))
                have hvl : V'.length ≤ 1000 := by
                  have h1 : V'.length ≤ k := by
                    rcases HI.out with ⟨_, _, rfl, _⟩ | ⟨_, j, _, _, _, rfl⟩
                    · rw [List.length_take]; omega
                    · rw [List.length_eraseIdx, List.length_take]; split <;> omega
                  omega
                have hk4 := (Keeps.refl [] wr).alloc (.cells y.arr 39)
                have hsz : wl.heap.size ≤ wr.heap.size := HKL.out.size
                obtain ⟨v9, w9, hrun, hs9, hk9⟩ := (HS.out.keeps hk4).push hvl (by simp; omega) _ y (Blk.new wr 39 y.arr) 22
                have hlow : ∀ {g : Nat} {ty : TypeId} {cs : Array Value}, Blk wr g ty cs → g < wl.heap.size → Blk w9 g ty cs := fun h hg => (hk9.low.block _ hg).trans (h.alloc _)
                have HBX9 := Lib.hid (hlow HBX.out (by rw [HWL.out]; omega))
                have HKL9 : Hid (Keeps [w2.heap.size] wl w9) := Lib.hid (keeps_two HKL.out ((((Keeps.refl [] wr).alloc (.cells y.arr 39)).below hsz (by simp)).trans hk9.low))
                simp only [SV.arr] at hrun
                have HS9 := Lib.hid hs9
                clear hk4 hvl hsz hs9 hk9 hlow
                go_wp2_with (at_builtin; refine wpList_append_run _ rfl _ _ 22 rfl rfl rfl hrun ?_)
                go_roundw
                case rel => exact ⟨k + 1, V' ++ [y], fd, ss, by omega, by go_num, rfl, HI2, HS9, HBX9, HKL9⟩
                case measure => simp [intOf]; omega
            · obtain rfl : k = n := by omega
              have hVn : V.take k = V := List.take_of_length_le (by rw [HN.out]; exact Nat.le_refl _)
              have hML := HP.out.mt
              have hvl : ∀ v ∈ V, ∃ t ∈ L, t.cur = v.cur := fun v hv => by
                obtain ⟨i, hi, rfl⟩ := List.getElem_of_mem hv
                have hi2 : i < L.length := by rw [← hML.len]; exact hi
                exact ⟨L[i], List.getElem_mem _, (hML.get i hi hi2).1.symm⟩
              replace HB1 := Lib.hid (HB1.out.keeps HKL.out (by simp; have := HSZ.out; omega))
              replace HK := Lib.hid HKW.out
              rcases HI.out with ⟨rfl, hno, rfl, rfl⟩ | ⟨rfl, j, hjk, hjs, hjc, rfl⟩
              · obtain ⟨rfl, rfl, rfl, rfl⟩ := HGONE.out (fun t ht hc => by
                  obtain ⟨i, hi, rfl⟩ := List.getElem_of_mem ht
                  have hi2 : i < V.length := by rw [hML.len]; exact hi
                  have h1 := hno V[i] (by rw [hVn]; exact List.getElem_mem _)
                  rw [(hML.get i hi2 hi).1] at h1
                  exact absurd hc h1)
                clear hML hvl hno hVn
                have c0 := HB1.out.cell 0
                have c1 := HB1.out.cell 1
                have f0 := HB1.out.frozen 0
                have f1 := HB1.out.frozen 1
                have HBF := Lib.hid ((HB1.out.set_ 0 (.slice none 0 0)).set_ 1 (.int .i64 0))
                have HKF := Lib.hid ((HK.out.setCell (p := ⟨w.heap.size + 1, 0, none⟩) (.inr (by dsimp only; omega)) (.slice none 0 0)).setCell (p := ⟨w.heap.size + 1, 1, none⟩) (.inr (by dsimp only; omega)) (.int .i64 0))
                go_wp2
                have q0 : _ = some (Value.slice none 0 0) := HBF.out.cell 0
                have q1 : _ = some (Value.int .i64 0) := HBF.out.cell 1
                refine bodyPost_ret (v := .tuple #[.agg #[.slice none 0 0, .int .i64 0], .slice none 0 0, .int .i64 0, .int .i64 161]) (by simp [results, Tryd.results17, go_sem, q0, q1]) rfl ?_
                exact ⟨none, 0, 0, [], none, 0, 0, rfl, rfl, poolV_nil _, rfl, strsV_nil _, HKF.out⟩
              · obtain ⟨hjV, hjv⟩ := List.getElem?_eq_some_iff.1 hjs
                have hjL : j < L.length := by rw [← hML.len]; exact hjV
                have hm1 := hML.get j hjV hjL
                rw [hjv] at hm1
                obtain ⟨s, hs⟩ : ∃ s, L[j] = s := ⟨_, rfl⟩
                rw [hs] at hm1
                obtain ⟨m, hm⟩ : ∃ m, s.items.length = m := ⟨_, rfl⟩
                have hil : ss.il = m := by rw [hm1.2.2.1, hm]
                have husd : ss.used = s.used := hm1.2.1
                have hu := HUS.out s (by rw [← hs]; exact List.getElem_mem _)
                have hsc : s.cur = cursor := by rw [← hm1.1]; exact hjc
                have HONLY : Hid (¬ (now - s.used < 1000 ∧ 0 ≤ from_ ∧ from_ ≤ m) → q = po0 ∧ page = [] ∧ nx = 0 ∧ err = 161) := Lib.hid (fun h => HGONE.out (fun t ht hc h2 => by
                  obtain ⟨i, hi, rfl⟩ := List.getElem_of_mem ht
                  have hij : i = j := by
                    have hp := List.pairwise_iff_getElem.1 HMET.out.ok.ap
                    rcases Nat.lt_trichotomy i j with h3 | h3 | h3
                    · exact absurd (by rw [hc, hs, hsc]) (hp i j hi hjL h3)
                    · exact h3
                    · exact absurd (by rw [hc, hs, hsc]) (hp j i hjL hi h3)
                  subst hij
                  rw [hs, hm] at h2
                  exact h h2))
                have b0 : wr.cell? ⟨w2.heap.size, 0, none⟩ = some (.int .i64 ss.cur) := HBX.out.cell 0
                have b1 : wr.cell? ⟨w2.heap.size, 1, none⟩ = some (.slice ss.ia m ss.ic) := by rw [← hil]; exact HBX.out.cell 1
                have b2 : wr.cell? ⟨w2.heap.size, 2, none⟩ = some (.int .i64 ss.used) := HBX.out.cell 2
                have f2 := HBX.out.frozen 2
                have j1 : wrap64 (now - ss.used) = now - ss.used := IntWalk.wrap64_in _ ⟨by omega, by omega⟩
                have HHS := Lib.hid hs
                have HSM := Lib.hid hm
                have HUD := Lib.hid husd
                have HJL := Lib.hid hjL
                have HJV := Lib.hid hjV
                have HM1 := Lib.hid hm1
                have HIL := Lib.hid hil
                have HSC := Lib.hid hsc
                have hu1 : 0 ≤ ss.used ∧ ss.used ≤ 1000000000000 := by rw [husd]; exact hu
                rw [hVn] at HS
                clear hML hvl hVn hjv hm1 hs hm hil hsc husd hu hjs hjc
                by_cases hold : 1000 ≤ now - ss.used
                · obtain ⟨rfl, rfl, rfl, rfl⟩ := HONLY.out (by have := HUD.out; omega)
                  have c0 := HB1.out.cell 0
                  have c1 := HB1.out.cell 1
                  have f0 := HB1.out.frozen 0
                  have f1 := HB1.out.frozen 1
                  have HBF := Lib.hid ((HB1.out.set_ 0 (.slice none 0 0)).set_ 1 (.int .i64 0))
                  have HKF := Lib.hid ((HK.out.setCell (p := ⟨w.heap.size + 1, 0, none⟩) (.inr (by dsimp only; omega)) (.slice none 0 0)).setCell (p := ⟨w.heap.size + 1, 1, none⟩) (.inr (by dsimp only; omega)) (.int .i64 0))
                  go_wp2
                  have q0 : _ = some (Value.slice none 0 0) := HBF.out.cell 0
                  have q1 : _ = some (Value.int .i64 0) := HBF.out.cell 1
                  refine bodyPost_ret (v := .tuple #[.agg #[.slice none 0 0, .int .i64 0], .slice none 0 0, .int .i64 0, .int .i64 161]) (by simp [results, Tryd.results17, go_sem, q0, q1]) rfl ?_
                  exact ⟨none, 0, 0, [], none, 0, 0, rfl, rfl, poolV_nil _, rfl, strsV_nil _, HKF.out⟩
                · by_cases hneg : from_ < 0
                  · obtain ⟨rfl, rfl, rfl, rfl⟩ := HONLY.out (by omega)
                    have c0 := HB1.out.cell 0
                    have c1 := HB1.out.cell 1
                    have f0 := HB1.out.frozen 0
                    have f1 := HB1.out.frozen 1
                    have HBF := Lib.hid ((HB1.out.set_ 0 (.slice none 0 0)).set_ 1 (.int .i64 0))
                    have HKF := Lib.hid ((HK.out.setCell (p := ⟨w.heap.size + 1, 0, none⟩) (.inr (by dsimp only; omega)) (.slice none 0 0)).setCell (p := ⟨w.heap.size + 1, 1, none⟩) (.inr (by dsimp only; omega)) (.int .i64 0))
                    go_wp2
                    have q0 : _ = some (Value.slice none 0 0) := HBF.out.cell 0
                    have q1 : _ = some (Value.int .i64 0) := HBF.out.cell 1
                    refine bodyPost_ret (v := .tuple #[.agg #[.slice none 0 0, .int .i64 0], .slice none 0 0, .int .i64 0, .int .i64 161]) (by simp [results, Tryd.results17, go_sem, q0, q1]) rfl ?_
                    exact ⟨none, 0, 0, [], none, 0, 0, rfl, rfl, poolV_nil _, rfl, strsV_nil _, HKF.out⟩
                  · by_cases hbig : (m : Int) < from_
                    · obtain ⟨rfl, rfl, rfl, rfl⟩ := HONLY.out (by omega)
                      have c0 := HB1.out.cell 0
                      have c1 := HB1.out.cell 1
                      have f0 := HB1.out.frozen 0
                      have f1 := HB1.out.frozen 1
                      have HBF := Lib.hid ((HB1.out.set_ 0 (.slice none 0 0)).set_ 1 (.int .i64 0))
                      have HKF := Lib.hid ((HK.out.setCell (p := ⟨w.heap.size + 1, 0, none⟩) (.inr (by dsimp only; omega)) (.slice none 0 0)).setCell (p := ⟨w.heap.size + 1, 1, none⟩) (.inr (by dsimp only; omega)) (.int .i64 0))
                      go_wp2
                      have q0 : _ = some (Value.slice none 0 0) := HBF.out.cell 0
                      have q1 : _ = some (Value.int .i64 0) := HBF.out.cell 1
                      refine bodyPost_ret (v := .tuple #[.agg #[.slice none 0 0, .int .i64 0], .slice none 0 0, .int .i64 0, .int .i64 161]) (by simp [results, Tryd.results17, go_sem, q0, q1]) rfl ?_
                      exact ⟨none, 0, 0, [], none, 0, 0, rfl, rfl, poolV_nil _, rfl, strsV_nil _, HKF.out⟩
                    · obtain ⟨F, rfl⟩ := Int.eq_ofNat_of_zero_le (show 0 ≤ from_ by omega)
                      have hF : F ≤ m := by omega
                      have hm6 : m ≤ 1000000 := by rw [← HSM.out]; exact HM1.out.2.2.2.small
                      have hwr : IntKind.i64.wrap ((F : Int) + (KN : Int)) = (F : Int) + (KN : Int) := wrap_few F KN m hF hm6 HK10.out.2
                      have hls : L[j]? = some s := by rw [List.getElem?_eq_getElem HJL.out, HHS.out]
                      have hold2 : now - s.used < 1000 := by have := HUD.out; omega
                      have hFs : F ≤ s.items.length := by rw [HSM.out]; exact hF
                      have hgood := page16_hit (K := KN) HMET.out hls HSC.out hold2 hFs HK10.out HA.out
                      clear hls hold2 hFs
                      obtain ⟨hq, hpg, hnx, rfl⟩ := hgood
                      have HQ := Lib.hid hq.symm
                      have HB0f := Lib.hid hb0
                      have HMV : Hid (Mt wr (V.eraseIdx j) (L.eraseIdx j)) := Lib.hid ((HP.out.mt.keeps HKW.out).erase j)
                      have HM1r := Lib.hid (HM1.out.keeps HKW.out)
                      have HVL : Hid ((V.eraseIdx j).length ≤ 1000) := Lib.hid (by rw [List.length_eraseIdx, HN.out]; split <;> omega)
                      have HSX := Lib.hid HBX.out
                      clear hq hb0 hu1
                      by_cases hTm : m ≤ F + KN
                      · have hTi : (m : Int) ≤ (F : Int) + (KN : Int) := Int.ofNat_le.2 hTm
                        obtain ⟨hpg1, hnx1⟩ := pg_end s.items F KN m m HSM.out hF hTm rfl
                        have hpage : page = (s.items.drop F).take (m - F) := hpg.trans hpg1
                        have hnxx : nx = -1 := hnx.trans hnx1
                        have hTl : m ≤ m := Nat.le_refl _
                        obtain ⟨a7, c7, hsl, hst7⟩ := strs_slice2 HM1r.out.2.2.2 F m hF (by rw [HSM.out]; exact hTl) (m : Int) rfl
                        have hpl : page.length = m - F := by rw [hpage, List.length_take, List.length_drop, HSM.out]; exact Nat.min_eq_left (Nat.sub_le_sub_right hTl F)
                        rw [HSM.out] at hsl
                        rw [← hpage] at hst7
                        have HPL := Lib.hid hpl
                        have HNXX := Lib.hid hnxx
                        have hset : Keeps [w2.heap.size] wr (wr.setCell ⟨w2.heap.size, 2, none⟩ (.int .i64 now)) := (Keeps.refl _ wr).setCell (p := ⟨w2.heap.size, 2, none⟩) (.inl (by simp)) _
                        have hsnap : NoStr wr [w2.heap.size] := fun k hk cs fz hh => by
                          simp at hk; subst hk
                          have h' : wr.heap[w2.heap.size]? = some (.cells ss.arr 39 (0, 0)) := HBX.out
                          rw [h'] at hh
                          injection hh with hh; injection hh with _ h3 _
                          exact absurd h3 (by decide)
                        have HST := Lib.hid (hst7.keepsS hset hsnap)
                        have HMB := Lib.hid (HMV.out.keepsS hset hsnap)
                        have HM1B : Hid (Mt1 (wr.setCell ⟨w2.heap.size, 2, none⟩ (.int .i64 now)) ss s) := Lib.hid ⟨HM1r.out.1, HM1r.out.2.1, HM1r.out.2.2.1, HM1r.out.2.2.2.keepsS hset hsnap⟩
                        have HSR := Lib.hid (HS.out.far (p := ⟨w2.heap.size, 2, none⟩) (by rw [HWL.out]; dsimp only; omega) (.int .i64 now))
                        have hpw : PgW wl.heap.size w2.heap.size w (wr.setCell ⟨w2.heap.size, 2, none⟩ (.int .i64 now)) (wr.setCell ⟨w2.heap.size, 2, none⟩ (.int .i64 now)) #[.int .i64 ss.cur, .slice ss.ia m ss.ic, .int .i64 now] #[.slice a k c, .int .i64 x] #[.slice none 0 0, .int .i64 0] :=
                          ⟨by have h1 := HBX.out.set_ 2 (.int .i64 now); have h2 := HIL.out; unfold SV.arr at h1; rw [h2] at h1; exact h1, HB0f.out.far (p := ⟨w2.heap.size, 2, none⟩) (by have := HSZ.out; dsimp only; omega) _, HB1.out.far (p := ⟨w2.heap.size, 2, none⟩) (by have := HSZ.out; dsimp only; omega) _, keeps_new HKW.out hset (fun k hk2 => by rw [List.mem_singleton] at hk2; have := HSZ.out; omega), StrK.refl _ _⟩
                        have HPW := Lib.hid hpw
                        have hbsz : wl.heap.size ≤ (wr.setCell ⟨w2.heap.size, 2, none⟩ (.int .i64 now)).heap.size := by have := HKL.out.size; simp [World.setCell]; omega
                        have HBSZ := Lib.hid hbsz
                        go_upto_region 23 with (fail)
                        clear hold hneg hbig hTi hTm hn1 hn2
                        obtain ⟨wb, hwb⟩ : ∃ wb, wr.setCell ⟨w2.heap.size, 2, none⟩ (.int .i64 now) = wb := ⟨_, rfl⟩
                        rw [hwb] at HST HMB HM1B HSR HPW HBSZ ⊢
                        have HKd : Hid (Keeps [] wb wb.drew) := Lib.hid (Keeps.refl [] wb).drew
                        have hpush : ∀ (W : World) (b : Nat), Keeps [] wb W → Blk W b 39 (SV.arr ⟨ss.cur, ss.ia, m, ss.ic, now⟩) → ∃ v' w', (Builtin.append_ #[22, 22] 22 #[u14, .slice (some ⟨b, 0, none⟩) 1 1]).run Tryd.prog W = .ok v' w' ∧ (SRow w' wl.heap.size v' (V.eraseIdx j ++ [(⟨ss.cur, ss.ia, m, ss.ic, now⟩ : SV)]) ∧ StrK wl.heap.size W w') := fun W b hk hb => (HSR.out.keeps hk).push HVL.out (Nat.le_trans HBSZ.out hk.size) b _ hb 22
                        have happ : ∀ (W : World) (b : Nat), Blk W b 9 #[] → StrsV W a7 c7 page → ∃ v' W', (Builtin.append_ #[25, 25] 25 #[.slice (some ⟨b, 0, none⟩) 0 0, .slice a7 (m - F) c7]).run Tryd.prog W = .ok v' W' ∧ (∃ a' c', v' = .slice a' (m - F) c' ∧ StrsV W' a' c' page ∧ Keeps [b] W W') := fun W b hb hs => app_new hb hs HPL.out 25
                        have HPUSH := Lib.hid hpush
                        have HAPP := Lib.hid happ
                        have HLT : Hid (w2.heap.size < wb.heap.size ∧ w.heap.size + 1 < wb.heap.size ∧ w2.heap.size < wl.heap.size ∧ w.heap.size + 1 < wl.heap.size) := Lib.hid ⟨HPW.out.sbx.lt, HPW.out.rb.lt, by rw [HWL.out]; omega, by rw [HWL.out]; have := HSZ.out; omega⟩
                        clear hpush happ hset hsnap hpw hbsz hwb hst7 hpage hnxx hpl b0 b1 b2 f2 z0 hpg hnx
                        refine wp_region_held_drew (S := (fun w' : World => w'.cell? ⟨w2.heap.size, 0, none⟩ = some (.int .i64 ss.cur) ∧ w'.cell? ⟨w2.heap.size, 1, none⟩ = some (.slice ss.ia m ss.ic) ∧ w'.cell? ⟨w2.heap.size, 2, none⟩ = some (.int .i64 now) ∧ w'.cell? ⟨w.heap.size, 1, none⟩ = some (.int .i64 x))) (by kernel_rfl) ?_ (fun hHeld => ?_)
                        · (try dsimp only); (first | exact pgS2 HW8.out HSZ.out _ _ | exact pgS HW8.out | exact pgS HW9.out | exact pgS (HW9.out.keeps ((Keeps.refl [] w9).alloc _)) | exact pgS (HPW.out.keeps (by repeat (first | exact HKd.out | exact Keeps.refl _ _ | apply Keeps.drew | apply Keeps.alloc))))
                        refine wpAnyH_take (i := 0) (oi := { dst := some 100, op := Op.move (Operand.tmp 14), type := 22, pos := "ref.go:96", after := #[], guard := none }) (v := ?_) rfl (by kernel_rfl) (by kernel_rfl) (by kernel_rfl) (fun _ _ _ h => h) (Or.inl ⟨by rfl, ?_⟩) (by assumption) ?_
                        rotate_left; · ((intro w hSw; (try dsimp only at hSw); go_simp); try with_reducible rfl)
                        try simp only [Act.put, List.setIfInBounds_toArray, List.set_cons_zero, List.set_cons_succ]
                        refine wpAnyH_take (i := 1) (oi := { dst := some 101, op := Op.load 39 (Operand.tmp 15), type := 39, pos := "ref.go:96", after := #[], guard := none }) (v := ?_) rfl (by kernel_rfl) (by kernel_rfl) (by kernel_rfl) (fun _ _ _ h => h) (Or.inl ⟨by rfl, ?_⟩) (by assumption) ?_
                        rotate_left; · ((intro w hSw; (try dsimp only at hSw); go_simp); try with_reducible rfl)
                        try simp only [Act.put, List.setIfInBounds_toArray, List.set_cons_zero, List.set_cons_succ]
                        refine wpAnyH_take (i := 4) (oi := { dst := some 104, op := Op.fieldAddr 24 (Operand.tmp 5) 1, type := 0, pos := "ref.go:96", after := #[], guard := none }) (v := ?_) rfl (by kernel_rfl) (by kernel_rfl) (by kernel_rfl) (fun _ _ _ h => h) (Or.inl ⟨by rfl, ?_⟩) (by assumption) ?_
                        rotate_left; · ((intro w hSw; (try dsimp only at hSw); go_simp); try with_reducible rfl)
                        try simp only [Act.put, List.setIfInBounds_toArray, List.set_cons_zero, List.set_cons_succ]
                        refine wpAnyH_take (i := 5) (oi := { dst := some 105, op := Op.load 3 (Operand.tmp 104), type := 3, pos := "ref.go:96", after := #[{ on := 4, ground := Ground.data }], guard := none }) (v := ?_) rfl (by kernel_rfl) (by kernel_rfl) (by kernel_rfl) (fun _ _ _ h => h) (Or.inl ⟨by rfl, ?_⟩) (by assumption) ?_
                        rotate_left; · ((intro w hSw; (try dsimp only at hSw); go_simp); try with_reducible rfl)
                        try simp only [Act.put, List.setIfInBounds_toArray, List.set_cons_zero, List.set_cons_succ]
                        refine wpAnyH_take (i := 8) (oi := { dst := some 108, op := Op.fieldAddr 39 (Operand.tmp 15) 1, type := 0, pos := "ref.go:96", after := #[], guard := none }) (v := ?_) rfl (by kernel_rfl) (by kernel_rfl) (by kernel_rfl) (fun _ _ _ h => h) (Or.inl ⟨by rfl, ?_⟩) (by assumption) ?_
                        rotate_left; · ((intro w hSw; (try dsimp only at hSw); go_simp); try with_reducible rfl)
                        try simp only [Act.put, List.setIfInBounds_toArray, List.set_cons_zero, List.set_cons_succ]
                        refine wpAnyH_take (i := 9) (oi := { dst := some 109, op := Op.load 25 (Operand.tmp 108), type := 25, pos := "ref.go:96", after := #[{ on := 8, ground := Ground.data }], guard := none }) (v := ?_) rfl (by kernel_rfl) (by kernel_rfl) (by kernel_rfl) (fun _ _ _ h => h) (Or.inl ⟨by rfl, ?_⟩) (by assumption) ?_
                        rotate_left; · ((intro w hSw; (try dsimp only at hSw); go_simp); try with_reducible rfl)
                        try simp only [Act.put, List.setIfInBounds_toArray, List.set_cons_zero, List.set_cons_succ]
                        refine wpAnyH_take (i := 10) (oi := { dst := some 110, op := Op.move (Operand.tmp 2), type := 3, pos := "ref.go:96", after := #[], guard := none }) (v := ?_) rfl (by kernel_rfl) (by kernel_rfl) (by kernel_rfl) (fun _ _ _ h => h) (Or.inl ⟨by rfl, ?_⟩) (by assumption) ?_
                        rotate_left; · ((intro w hSw; (try dsimp only at hSw); go_simp); try with_reducible rfl)
                        try simp only [Act.put, List.setIfInBounds_toArray, List.set_cons_zero, List.set_cons_succ]
                        refine wpAnyH_take (i := 11) (oi := { dst := some 111, op := Op.move (Operand.tmp 18), type := 3, pos := "ref.go:96", after := #[], guard := none }) (v := ?_) rfl (by kernel_rfl) (by kernel_rfl) (by kernel_rfl) (fun _ _ _ h => h) (Or.inl ⟨by rfl, ?_⟩) (by assumption) ?_
                        rotate_left; · ((intro w hSw; (try dsimp only at hSw); go_simp); try with_reducible rfl)
                        try simp only [Act.put, List.setIfInBounds_toArray, List.set_cons_zero, List.set_cons_succ]
                        refine wpAnyH_take (i := 12) (oi := { dst := some 112, op := Op.slice 25 (Operand.tmp 109) (some (Operand.tmp 110)) (some (Operand.tmp 111)) none, type := 25, pos := "ref.go:96", after := #[{ on := 9, ground := Ground.data }, { on := 10, ground := Ground.data }, { on := 11, ground := Ground.data }], guard := none }) (v := ?_) rfl (by kernel_rfl) (by kernel_rfl) (by kernel_rfl) (fun _ _ _ h => h) (Or.inl ⟨by rfl, ?_⟩) (by assumption) ?_
                        rotate_left; · ((intro w hSw; (try dsimp only at hSw); go_simp); try with_reducible rfl)
                        try simp only [Act.put, List.setIfInBounds_toArray, List.set_cons_zero, List.set_cons_succ]
                        refine wpAnyH_take (i := 14) (oi := { dst := some 114, op := Op.move (Operand.tmp 19), type := 3, pos := "ref.go:96", after := #[{ on := 16, ground := Ground.gcOnly Departure.lateStores }], guard := none }) (v := ?_) rfl (by kernel_rfl) (by kernel_rfl) (by kernel_rfl) (fun _ _ _ h => h) (Or.inl ⟨by rfl, ?_⟩) (by assumption) ?_
                        rotate_left; · ((intro w hSw; (try dsimp only at hSw); go_simp); try with_reducible rfl)
                        try simp only [Act.put, List.setIfInBounds_toArray, List.set_cons_zero, List.set_cons_succ]
                        refine wpAnyH_ready (rs := [2, 7]) (by kernel_rfl) (by simp) ?_
                        refine AllReadyH.cons rfl (fun K hK => ?_) ?_
                        · go_simp
                          refine hK.out _ _ ?_ (fun hHeld => ?_)
                          · (try dsimp only); (first | exact pgS2 HW8.out HSZ.out _ _ | exact pgS HW8.out | exact pgS HW9.out | exact pgS (HW9.out.keeps ((Keeps.refl [] w9).alloc _)) | exact pgS (HPW.out.keeps (by repeat (first | exact HKd.out | exact Keeps.refl _ _ | apply Keeps.drew | apply Keeps.alloc))))
                          clear hK K
                          try simp only [Act.put, List.setIfInBounds_toArray, List.set_cons_zero, List.set_cons_succ]
                          refine wpAnyH_ready (rs := [3, 7]) (by kernel_rfl) (by simp) ?_
                          refine AllReadyH.cons rfl (fun K hK => ?_) ?_
                          · skip
                            (first | (refine wp_append_ex _ _ 22 (by rfl) (by rfl) (by rfl) (by rfl) (HPUSH.out _ _ (by repeat (first | exact HKd.out | exact Keeps.refl _ _ | apply Keeps.drew | apply Keeps.alloc)) (by first | exact (blk_at _ _ _ _ (by simp)).drew | exact ((blk_at _ _ _ _ (by simp)).alloc _).drew)) ?_; rintro v9 w9 ⟨hs9, hk9⟩; have HW9 := Lib.hid ((HPW.out.keeps (by repeat (first | exact HKd.out | exact Keeps.refl _ _ | apply Keeps.drew | apply Keeps.alloc))).strK hk9 HLT.out.2.2.1 HLT.out.2.2.2); have HT9 := Lib.hid ((HST.out.keeps (by repeat (first | exact HKd.out | exact Keeps.refl _ _ | apply Keeps.drew | apply Keeps.alloc))).strK hk9); have HK9 := Lib.hid hk9; obtain ⟨a9, c9, hv9, -, -⟩ := hs9.row; obtain ⟨k9, hk9l⟩ : ∃ k9, (V.eraseIdx j ++ [(⟨ss.cur, ss.ia, m, ss.ic, now⟩ : SV)]).length = k9 := ⟨_, rfl⟩; rw [hk9l] at hv9; subst hv9; have HS9 := Lib.hid hs9; clear hs9 hk9 hk9l) | (refine wp_append_ex _ _ 25 (by rfl) (by rfl) (by rfl) (by rfl) (HAPP.out _ _ (by first | exact blk_at _ _ _ _ (by simp) | exact str_keep HK9.out (blk_at _ _ _ _ (by simp)).drew | exact str_keep HK9.out ((blk_at _ _ _ _ (by simp)).alloc _).drew) (by first | exact HT9.out | exact HT9.out.keeps ((Keeps.refl [] w9).alloc _))) ?_; rintro v8 w8 ⟨a8, c8, rfl, hst8, hk8⟩; have HW8 := Lib.hid (by first | exact HW9.out.one hk8 (by first | exact Nat.le_refl _ | exact Nat.le_succ _ | (simp; done) | (simp; omega)) HLT.out.1 HLT.out.2.1 | exact (HW9.out.keeps ((Keeps.refl [] w9).alloc _)).one hk8 HW9.out.str.low.size HLT.out.1 HLT.out.2.1); have HS8 := Lib.hid (by first | exact SRow.str HS9.out hk8 (str_keep HK9.out (blk_at _ _ _ _ (by simp)).drew) | exact SRow.str HS9.out hk8 (str_keep HK9.out ((blk_at _ _ _ _ (by simp)).alloc _).drew) | exact SRow.str (HS9.out.keeps ((Keeps.refl [] w9).alloc _)) hk8 (blk_at _ _ _ _ (by simp))); have HST8 := Lib.hid hst8; have g0 := HW8.out.rb.cell 0; have g1 := HW8.out.rb.cell 1; have g2 := HW8.out.rb.frozen 0; have g3 := HW8.out.rb.frozen 1; clear hst8 hk8))
                            refine hK.out _ _ ?_ (fun hHeld => ?_)
                            · (try dsimp only); (first | exact pgS2 HW8.out HSZ.out _ _ | exact pgS HW8.out | exact pgS HW9.out | exact pgS (HW9.out.keeps ((Keeps.refl [] w9).alloc _)) | exact pgS (HPW.out.keeps (by repeat (first | exact HKd.out | exact Keeps.refl _ _ | apply Keeps.drew | apply Keeps.alloc))))
                            clear hK K
                            try simp only [Act.put, List.setIfInBounds_toArray, List.set_cons_zero, List.set_cons_succ]
                            refine wpAnyH_take (i := 6) (oi := { dst := some 106, op := Op.build 24 #[(0, Operand.tmp 103), (1, Operand.tmp 105)], type := 24, pos := "ref.go:96", after := #[{ on := 3, ground := Ground.data }, { on := 5, ground := Ground.data }], guard := none }) (v := ?_) rfl (by kernel_rfl) (by kernel_rfl) (by kernel_rfl) (fun _ _ _ h => h) (Or.inl ⟨by rfl, ?_⟩) (by assumption) ?_
                            rotate_left; · ((intro w hSw; (try dsimp only at hSw); go_simp); try with_reducible rfl)
                            try simp only [Act.put, List.setIfInBounds_toArray, List.set_cons_zero, List.set_cons_succ]
                            refine wpAnyH_ready (rs := [7]) (by kernel_rfl) (by simp) ?_
                            refine AllReadyH.cons rfl (fun K hK => ?_) ?_
                            · go_simp
                              refine hK.out _ _ ?_ (fun hHeld => ?_)
                              · (try dsimp only); (first | exact pgS2 HW8.out HSZ.out _ _ | exact pgS HW8.out | exact pgS HW9.out | exact pgS (HW9.out.keeps ((Keeps.refl [] w9).alloc _)) | exact pgS (HPW.out.keeps (by repeat (first | exact HKd.out | exact Keeps.refl _ _ | apply Keeps.drew | apply Keeps.alloc))))
                              clear hK K
                              try simp only [Act.put, List.setIfInBounds_toArray, List.set_cons_zero, List.set_cons_succ]
                              refine wpAnyH_ready (rs := [13]) (by kernel_rfl) (by simp) ?_
                              refine AllReadyH.cons rfl (fun K hK => ?_) ?_
                              · skip
                                (first | (refine wp_append_ex _ _ 22 (by rfl) (by rfl) (by rfl) (by rfl) (HPUSH.out _ _ (by repeat (first | exact HKd.out | exact Keeps.refl _ _ | apply Keeps.drew | apply Keeps.alloc)) (by first | exact (blk_at _ _ _ _ (by simp)).drew | exact ((blk_at _ _ _ _ (by simp)).alloc _).drew)) ?_; rintro v9 w9 ⟨hs9, hk9⟩; have HW9 := Lib.hid ((HPW.out.keeps (by repeat (first | exact HKd.out | exact Keeps.refl _ _ | apply Keeps.drew | apply Keeps.alloc))).strK hk9 HLT.out.2.2.1 HLT.out.2.2.2); have HT9 := Lib.hid ((HST.out.keeps (by repeat (first | exact HKd.out | exact Keeps.refl _ _ | apply Keeps.drew | apply Keeps.alloc))).strK hk9); have HK9 := Lib.hid hk9; obtain ⟨a9, c9, hv9, -, -⟩ := hs9.row; obtain ⟨k9, hk9l⟩ : ∃ k9, (V.eraseIdx j ++ [(⟨ss.cur, ss.ia, m, ss.ic, now⟩ : SV)]).length = k9 := ⟨_, rfl⟩; rw [hk9l] at hv9; subst hv9; have HS9 := Lib.hid hs9; clear hs9 hk9 hk9l) | (refine wp_append_ex _ _ 25 (by rfl) (by rfl) (by rfl) (by rfl) (HAPP.out _ _ (by first | exact blk_at _ _ _ _ (by simp) | exact str_keep HK9.out (blk_at _ _ _ _ (by simp)).drew | exact str_keep HK9.out ((blk_at _ _ _ _ (by simp)).alloc _).drew) (by first | exact HT9.out | exact HT9.out.keeps ((Keeps.refl [] w9).alloc _))) ?_; rintro v8 w8 ⟨a8, c8, rfl, hst8, hk8⟩; have HW8 := Lib.hid (by first | exact HW9.out.one hk8 (by first | exact Nat.le_refl _ | exact Nat.le_succ _ | (simp; done) | (simp; omega)) HLT.out.1 HLT.out.2.1 | exact (HW9.out.keeps ((Keeps.refl [] w9).alloc _)).one hk8 HW9.out.str.low.size HLT.out.1 HLT.out.2.1); have HS8 := Lib.hid (by first | exact SRow.str HS9.out hk8 (str_keep HK9.out (blk_at _ _ _ _ (by simp)).drew) | exact SRow.str HS9.out hk8 (str_keep HK9.out ((blk_at _ _ _ _ (by simp)).alloc _).drew) | exact SRow.str (HS9.out.keeps ((Keeps.refl [] w9).alloc _)) hk8 (blk_at _ _ _ _ (by simp))); have HST8 := Lib.hid hst8; have g0 := HW8.out.rb.cell 0; have g1 := HW8.out.rb.cell 1; have g2 := HW8.out.rb.frozen 0; have g3 := HW8.out.rb.frozen 1; clear hst8 hk8))
                                refine hK.out _ _ ?_ (fun hHeld => ?_)
                                · (try dsimp only); (first | exact pgS2 HW8.out HSZ.out _ _ | exact pgS HW8.out | exact pgS HW9.out | exact pgS (HW9.out.keeps ((Keeps.refl [] w9).alloc _)) | exact pgS (HPW.out.keeps (by repeat (first | exact HKd.out | exact Keeps.refl _ _ | apply Keeps.drew | apply Keeps.alloc))))
                                clear hK K
                                try simp only [Act.put, List.setIfInBounds_toArray, List.set_cons_zero, List.set_cons_succ]
                                refine wpAnyH_ready (rs := [15]) (by kernel_rfl) (by simp) ?_
                                refine AllReadyH.cons rfl (fun K hK => ?_) ?_
                                · go_simp
                                  refine hK.out _ _ ?_ (fun hHeld => ?_)
                                  · (try dsimp only); (first | exact pgS2 HW8.out HSZ.out _ _ | exact pgS HW8.out | exact pgS HW9.out | exact pgS (HW9.out.keeps ((Keeps.refl [] w9).alloc _)) | exact pgS (HPW.out.keeps (by repeat (first | exact HKd.out | exact Keeps.refl _ _ | apply Keeps.drew | apply Keeps.alloc))))
                                  clear hK K
                                  try simp only [Act.put, List.setIfInBounds_toArray, List.set_cons_zero, List.set_cons_succ]
                                  refine wpAnyH_take (i := 16) (oi := { dst := some 11, op := Op.assign (Operand.tmp 113), type := 25, pos := "ref.go:96", after := #[{ on := 13, ground := Ground.data }, { on := 15, ground := Ground.chain }, { on := 0, ground := Ground.phase }, { on := 1, ground := Ground.phase }, { on := 2, ground := Ground.phase }, { on := 3, ground := Ground.phase }, { on := 4, ground := Ground.phase }, { on := 5, ground := Ground.phase }, { on := 6, ground := Ground.phase }, { on := 7, ground := Ground.phase }, { on := 8, ground := Ground.phase }, { on := 9, ground := Ground.phase }, { on := 10, ground := Ground.phase }, { on := 11, ground := Ground.phase }, { on := 12, ground := Ground.phase }, { on := 13, ground := Ground.phase }, { on := 14, ground := Ground.textOnly Departure.lateStores }, { on := 15, ground := Ground.phase }], guard := none }) (v := ?_) rfl (by kernel_rfl) (by kernel_rfl) (by kernel_rfl) (fun _ _ _ h => h) (Or.inl ⟨by rfl, ?_⟩) (by assumption) ?_
                                  rotate_left; · ((intro w hSw; (try dsimp only at hSw); go_simp); try with_reducible rfl)
                                  try simp only [Act.put, List.setIfInBounds_toArray, List.set_cons_zero, List.set_cons_succ]
                                  refine wpAnyH_take (i := 17) (oi := { dst := some 12, op := Op.assign (Operand.tmp 114), type := 3, pos := "ref.go:96", after := #[{ on := 14, ground := Ground.data }, { on := 16, ground := Ground.chain }, { on := 0, ground := Ground.phase }, { on := 1, ground := Ground.phase }, { on := 2, ground := Ground.phase }, { on := 3, ground := Ground.phase }, { on := 4, ground := Ground.phase }, { on := 5, ground := Ground.phase }, { on := 6, ground := Ground.phase }, { on := 7, ground := Ground.phase }, { on := 8, ground := Ground.phase }, { on := 9, ground := Ground.phase }, { on := 10, ground := Ground.phase }, { on := 11, ground := Ground.phase }, { on := 12, ground := Ground.phase }, { on := 13, ground := Ground.phase }, { on := 14, ground := Ground.phase }, { on := 15, ground := Ground.phase }, { on := 16, ground := Ground.phase }], guard := none }) (v := ?_) rfl (by kernel_rfl) (by kernel_rfl) (by kernel_rfl) (fun _ _ _ h => h) (Or.inl ⟨by rfl, ?_⟩) (by assumption) ?_
                                  rotate_left; · ((intro w hSw; (try dsimp only at hSw); go_simp); try with_reducible rfl)
                                  try simp only [Act.put, List.setIfInBounds_toArray, List.set_cons_zero, List.set_cons_succ]
                                  refine wpAnyH_take (i := 18) (oi := { dst := some 13, op := Op.assign (Operand.const (Value.int IntKind.i64 0)), type := 30, pos := "ref.go:96", after := #[{ on := 17, ground := Ground.chain }, { on := 0, ground := Ground.phase }, { on := 1, ground := Ground.phase }, { on := 2, ground := Ground.phase }, { on := 3, ground := Ground.phase }, { on := 4, ground := Ground.phase }, { on := 5, ground := Ground.phase }, { on := 6, ground := Ground.phase }, { on := 7, ground := Ground.phase }, { on := 8, ground := Ground.phase }, { on := 9, ground := Ground.phase }, { on := 10, ground := Ground.phase }, { on := 11, ground := Ground.phase }, { on := 12, ground := Ground.phase }, { on := 13, ground := Ground.phase }, { on := 14, ground := Ground.phase }, { on := 15, ground := Ground.phase }, { on := 16, ground := Ground.phase }, { on := 17, ground := Ground.phase }], guard := none }) (v := ?_) rfl (by kernel_rfl) (by kernel_rfl) (by kernel_rfl) (fun _ _ _ h => h) (Or.inl ⟨by rfl, ?_⟩) (by assumption) ?_
                                  rotate_left; · ((intro w hSw; (try dsimp only at hSw); go_simp); try with_reducible rfl)
                                  try simp only [Act.put, List.setIfInBounds_toArray, List.set_cons_zero, List.set_cons_succ]
                                  refine wpAnyH_done (by kernel_rfl) ?_ _
                                  (go_wp2; obtain ⟨e9, hP9, hst9, hkk9, hb9⟩ := page16_fin HW8.out HS8.out rfl HMB.out HVL.out HM1B.out HSM.out HQ.out HST8.out; refine bodyPost_ret (v := .tuple #[.agg #[.slice a9 k9 c9, .int .i64 x], .slice a8 (m - F) c8, .int .i64 (-1), .int .i64 0]) (by have q0 : _ = some (Value.slice a9 k9 c9) := hb9.cell 0; have q1 : _ = some (Value.int .i64 x) := hb9.cell 1; simp [results, Tryd.results17, go_sem, q0, q1]) rfl ?_; exact ⟨a9, k9, c9, _, a8, m - F, c8, by rw [← HQ.out, HNXX.out], e9, hP9, HPL.out, hst9, hkk9⟩)
                                exact AllReadyH.nil
                              exact AllReadyH.nil
                            exact AllReadyH.nil
                          refine AllReadyH.cons rfl (fun K hK => ?_) ?_
                          · go_simp
                            refine hK.out _ _ ?_ (fun hHeld => ?_)
                            · (try dsimp only); (first | exact pgS2 HW8.out HSZ.out _ _ | exact pgS HW8.out | exact pgS HW9.out | exact pgS (HW9.out.keeps ((Keeps.refl [] w9).alloc _)) | exact pgS (HPW.out.keeps (by repeat (first | exact HKd.out | exact Keeps.refl _ _ | apply Keeps.drew | apply Keeps.alloc))))
                            clear hK K
                            try simp only [Act.put, List.setIfInBounds_toArray, List.set_cons_zero, List.set_cons_succ]
                            refine wpAnyH_ready (rs := [3]) (by kernel_rfl) (by simp) ?_
                            refine AllReadyH.cons rfl (fun K hK => ?_) ?_
                            · skip
                              (first | (refine wp_append_ex _ _ 22 (by rfl) (by rfl) (by rfl) (by rfl) (HPUSH.out _ _ (by repeat (first | exact HKd.out | exact Keeps.refl _ _ | apply Keeps.drew | apply Keeps.alloc)) (by first | exact (blk_at _ _ _ _ (by simp)).drew | exact ((blk_at _ _ _ _ (by simp)).alloc _).drew)) ?_; rintro v9 w9 ⟨hs9, hk9⟩; have HW9 := Lib.hid ((HPW.out.keeps (by repeat (first | exact HKd.out | exact Keeps.refl _ _ | apply Keeps.drew | apply Keeps.alloc))).strK hk9 HLT.out.2.2.1 HLT.out.2.2.2); have HT9 := Lib.hid ((HST.out.keeps (by repeat (first | exact HKd.out | exact Keeps.refl _ _ | apply Keeps.drew | apply Keeps.alloc))).strK hk9); have HK9 := Lib.hid hk9; obtain ⟨a9, c9, hv9, -, -⟩ := hs9.row; obtain ⟨k9, hk9l⟩ : ∃ k9, (V.eraseIdx j ++ [(⟨ss.cur, ss.ia, m, ss.ic, now⟩ : SV)]).length = k9 := ⟨_, rfl⟩; rw [hk9l] at hv9; subst hv9; have HS9 := Lib.hid hs9; clear hs9 hk9 hk9l) | (refine wp_append_ex _ _ 25 (by rfl) (by rfl) (by rfl) (by rfl) (HAPP.out _ _ (by first | exact blk_at _ _ _ _ (by simp) | exact str_keep HK9.out (blk_at _ _ _ _ (by simp)).drew | exact str_keep HK9.out ((blk_at _ _ _ _ (by simp)).alloc _).drew) (by first | exact HT9.out | exact HT9.out.keeps ((Keeps.refl [] w9).alloc _))) ?_; rintro v8 w8 ⟨a8, c8, rfl, hst8, hk8⟩; have HW8 := Lib.hid (by first | exact HW9.out.one hk8 (by first | exact Nat.le_refl _ | exact Nat.le_succ _ | (simp; done) | (simp; omega)) HLT.out.1 HLT.out.2.1 | exact (HW9.out.keeps ((Keeps.refl [] w9).alloc _)).one hk8 HW9.out.str.low.size HLT.out.1 HLT.out.2.1); have HS8 := Lib.hid (by first | exact SRow.str HS9.out hk8 (str_keep HK9.out (blk_at _ _ _ _ (by simp)).drew) | exact SRow.str HS9.out hk8 (str_keep HK9.out ((blk_at _ _ _ _ (by simp)).alloc _).drew) | exact SRow.str (HS9.out.keeps ((Keeps.refl [] w9).alloc _)) hk8 (blk_at _ _ _ _ (by simp))); have HST8 := Lib.hid hst8; have g0 := HW8.out.rb.cell 0; have g1 := HW8.out.rb.cell 1; have g2 := HW8.out.rb.frozen 0; have g3 := HW8.out.rb.frozen 1; clear hst8 hk8))
                              refine hK.out _ _ ?_ (fun hHeld => ?_)
                              · (try dsimp only); (first | exact pgS2 HW8.out HSZ.out _ _ | exact pgS HW8.out | exact pgS HW9.out | exact pgS (HW9.out.keeps ((Keeps.refl [] w9).alloc _)) | exact pgS (HPW.out.keeps (by repeat (first | exact HKd.out | exact Keeps.refl _ _ | apply Keeps.drew | apply Keeps.alloc))))
                              clear hK K
                              try simp only [Act.put, List.setIfInBounds_toArray, List.set_cons_zero, List.set_cons_succ]
                              refine wpAnyH_take (i := 6) (oi := { dst := some 106, op := Op.build 24 #[(0, Operand.tmp 103), (1, Operand.tmp 105)], type := 24, pos := "ref.go:96", after := #[{ on := 3, ground := Ground.data }, { on := 5, ground := Ground.data }], guard := none }) (v := ?_) rfl (by kernel_rfl) (by kernel_rfl) (by kernel_rfl) (fun _ _ _ h => h) (Or.inl ⟨by rfl, ?_⟩) (by assumption) ?_
                              rotate_left; · ((intro w hSw; (try dsimp only at hSw); go_simp); try with_reducible rfl)
                              try simp only [Act.put, List.setIfInBounds_toArray, List.set_cons_zero, List.set_cons_succ]
                              refine wpAnyH_ready (rs := [13]) (by kernel_rfl) (by simp) ?_
                              refine AllReadyH.cons rfl (fun K hK => ?_) ?_
                              · skip
                                (first | (refine wp_append_ex _ _ 22 (by rfl) (by rfl) (by rfl) (by rfl) (HPUSH.out _ _ (by repeat (first | exact HKd.out | exact Keeps.refl _ _ | apply Keeps.drew | apply Keeps.alloc)) (by first | exact (blk_at _ _ _ _ (by simp)).drew | exact ((blk_at _ _ _ _ (by simp)).alloc _).drew)) ?_; rintro v9 w9 ⟨hs9, hk9⟩; have HW9 := Lib.hid ((HPW.out.keeps (by repeat (first | exact HKd.out | exact Keeps.refl _ _ | apply Keeps.drew | apply Keeps.alloc))).strK hk9 HLT.out.2.2.1 HLT.out.2.2.2); have HT9 := Lib.hid ((HST.out.keeps (by repeat (first | exact HKd.out | exact Keeps.refl _ _ | apply Keeps.drew | apply Keeps.alloc))).strK hk9); have HK9 := Lib.hid hk9; obtain ⟨a9, c9, hv9, -, -⟩ := hs9.row; obtain ⟨k9, hk9l⟩ : ∃ k9, (V.eraseIdx j ++ [(⟨ss.cur, ss.ia, m, ss.ic, now⟩ : SV)]).length = k9 := ⟨_, rfl⟩; rw [hk9l] at hv9; subst hv9; have HS9 := Lib.hid hs9; clear hs9 hk9 hk9l) | (refine wp_append_ex _ _ 25 (by rfl) (by rfl) (by rfl) (by rfl) (HAPP.out _ _ (by first | exact blk_at _ _ _ _ (by simp) | exact str_keep HK9.out (blk_at _ _ _ _ (by simp)).drew | exact str_keep HK9.out ((blk_at _ _ _ _ (by simp)).alloc _).drew) (by first | exact HT9.out | exact HT9.out.keeps ((Keeps.refl [] w9).alloc _))) ?_; rintro v8 w8 ⟨a8, c8, rfl, hst8, hk8⟩; have HW8 := Lib.hid (by first | exact HW9.out.one hk8 (by first | exact Nat.le_refl _ | exact Nat.le_succ _ | (simp; done) | (simp; omega)) HLT.out.1 HLT.out.2.1 | exact (HW9.out.keeps ((Keeps.refl [] w9).alloc _)).one hk8 HW9.out.str.low.size HLT.out.1 HLT.out.2.1); have HS8 := Lib.hid (by first | exact SRow.str HS9.out hk8 (str_keep HK9.out (blk_at _ _ _ _ (by simp)).drew) | exact SRow.str HS9.out hk8 (str_keep HK9.out ((blk_at _ _ _ _ (by simp)).alloc _).drew) | exact SRow.str (HS9.out.keeps ((Keeps.refl [] w9).alloc _)) hk8 (blk_at _ _ _ _ (by simp))); have HST8 := Lib.hid hst8; have g0 := HW8.out.rb.cell 0; have g1 := HW8.out.rb.cell 1; have g2 := HW8.out.rb.frozen 0; have g3 := HW8.out.rb.frozen 1; clear hst8 hk8))
                                refine hK.out _ _ ?_ (fun hHeld => ?_)
                                · (try dsimp only); (first | exact pgS2 HW8.out HSZ.out _ _ | exact pgS HW8.out | exact pgS HW9.out | exact pgS (HW9.out.keeps ((Keeps.refl [] w9).alloc _)) | exact pgS (HPW.out.keeps (by repeat (first | exact HKd.out | exact Keeps.refl _ _ | apply Keeps.drew | apply Keeps.alloc))))
                                clear hK K
                                try simp only [Act.put, List.setIfInBounds_toArray, List.set_cons_zero, List.set_cons_succ]
                                refine wpAnyH_ready (rs := [15]) (by kernel_rfl) (by simp) ?_
                                refine AllReadyH.cons rfl (fun K hK => ?_) ?_
                                · go_simp
                                  refine hK.out _ _ ?_ (fun hHeld => ?_)
                                  · (try dsimp only); (first | exact pgS2 HW8.out HSZ.out _ _ | exact pgS HW8.out | exact pgS HW9.out | exact pgS (HW9.out.keeps ((Keeps.refl [] w9).alloc _)) | exact pgS (HPW.out.keeps (by repeat (first | exact HKd.out | exact Keeps.refl _ _ | apply Keeps.drew | apply Keeps.alloc))))
                                  clear hK K
                                  try simp only [Act.put, List.setIfInBounds_toArray, List.set_cons_zero, List.set_cons_succ]
                                  refine wpAnyH_take (i := 16) (oi := { dst := some 11, op := Op.assign (Operand.tmp 113), type := 25, pos := "ref.go:96", after := #[{ on := 13, ground := Ground.data }, { on := 15, ground := Ground.chain }, { on := 0, ground := Ground.phase }, { on := 1, ground := Ground.phase }, { on := 2, ground := Ground.phase }, { on := 3, ground := Ground.phase }, { on := 4, ground := Ground.phase }, { on := 5, ground := Ground.phase }, { on := 6, ground := Ground.phase }, { on := 7, ground := Ground.phase }, { on := 8, ground := Ground.phase }, { on := 9, ground := Ground.phase }, { on := 10, ground := Ground.phase }, { on := 11, ground := Ground.phase }, { on := 12, ground := Ground.phase }, { on := 13, ground := Ground.phase }, { on := 14, ground := Ground.textOnly Departure.lateStores }, { on := 15, ground := Ground.phase }], guard := none }) (v := ?_) rfl (by kernel_rfl) (by kernel_rfl) (by kernel_rfl) (fun _ _ _ h => h) (Or.inl ⟨by rfl, ?_⟩) (by assumption) ?_
                                  rotate_left; · ((intro w hSw; (try dsimp only at hSw); go_simp); try with_reducible rfl)
                                  try simp only [Act.put, List.setIfInBounds_toArray, List.set_cons_zero, List.set_cons_succ]
                                  refine wpAnyH_take (i := 17) (oi := { dst := some 12, op := Op.assign (Operand.tmp 114), type := 3, pos := "ref.go:96", after := #[{ on := 14, ground := Ground.data }, { on := 16, ground := Ground.chain }, { on := 0, ground := Ground.phase }, { on := 1, ground := Ground.phase }, { on := 2, ground := Ground.phase }, { on := 3, ground := Ground.phase }, { on := 4, ground := Ground.phase }, { on := 5, ground := Ground.phase }, { on := 6, ground := Ground.phase }, { on := 7, ground := Ground.phase }, { on := 8, ground := Ground.phase }, { on := 9, ground := Ground.phase }, { on := 10, ground := Ground.phase }, { on := 11, ground := Ground.phase }, { on := 12, ground := Ground.phase }, { on := 13, ground := Ground.phase }, { on := 14, ground := Ground.phase }, { on := 15, ground := Ground.phase }, { on := 16, ground := Ground.phase }], guard := none }) (v := ?_) rfl (by kernel_rfl) (by kernel_rfl) (by kernel_rfl) (fun _ _ _ h => h) (Or.inl ⟨by rfl, ?_⟩) (by assumption) ?_
                                  rotate_left; · ((intro w hSw; (try dsimp only at hSw); go_simp); try with_reducible rfl)
                                  try simp only [Act.put, List.setIfInBounds_toArray, List.set_cons_zero, List.set_cons_succ]
                                  refine wpAnyH_take (i := 18) (oi := { dst := some 13, op := Op.assign (Operand.const (Value.int IntKind.i64 0)), type := 30, pos := "ref.go:96", after := #[{ on := 17, ground := Ground.chain }, { on := 0, ground := Ground.phase }, { on := 1, ground := Ground.phase }, { on := 2, ground := Ground.phase }, { on := 3, ground := Ground.phase }, { on := 4, ground := Ground.phase }, { on := 5, ground := Ground.phase }, { on := 6, ground := Ground.phase }, { on := 7, ground := Ground.phase }, { on := 8, ground := Ground.phase }, { on := 9, ground := Ground.phase }, { on := 10, ground := Ground.phase }, { on := 11, ground := Ground.phase }, { on := 12, ground := Ground.phase }, { on := 13, ground := Ground.phase }, { on := 14, ground := Ground.phase }, { on := 15, ground := Ground.phase }, { on := 16, ground := Ground.phase }, { on := 17, ground := Ground.phase }], guard := none }) (v := ?_) rfl (by kernel_rfl) (by kernel_rfl) (by kernel_rfl) (fun _ _ _ h => h) (Or.inl ⟨by rfl, ?_⟩) (by assumption) ?_
                                  rotate_left; · ((intro w hSw; (try dsimp only at hSw); go_simp); try with_reducible rfl)
                                  try simp only [Act.put, List.setIfInBounds_toArray, List.set_cons_zero, List.set_cons_succ]
                                  refine wpAnyH_done (by kernel_rfl) ?_ _
                                  (go_wp2; obtain ⟨e9, hP9, hst9, hkk9, hb9⟩ := page16_fin HW8.out HS8.out rfl HMB.out HVL.out HM1B.out HSM.out HQ.out HST8.out; refine bodyPost_ret (v := .tuple #[.agg #[.slice a9 k9 c9, .int .i64 x], .slice a8 (m - F) c8, .int .i64 (-1), .int .i64 0]) (by have q0 : _ = some (Value.slice a9 k9 c9) := hb9.cell 0; have q1 : _ = some (Value.int .i64 x) := hb9.cell 1; simp [results, Tryd.results17, go_sem, q0, q1]) rfl ?_; exact ⟨a9, k9, c9, _, a8, m - F, c8, by rw [← HQ.out, HNXX.out], e9, hP9, HPL.out, hst9, hkk9⟩)
                                exact AllReadyH.nil
                              exact AllReadyH.nil
                            exact AllReadyH.nil
                          exact AllReadyH.nil
                        refine AllReadyH.cons rfl (fun K hK => ?_) ?_
                        · go_simp
                          refine hK.out _ _ ?_ (fun hHeld => ?_)
                          · (try dsimp only); (first | exact pgS2 HW8.out HSZ.out _ _ | exact pgS HW8.out | exact pgS HW9.out | exact pgS (HW9.out.keeps ((Keeps.refl [] w9).alloc _)) | exact pgS (HPW.out.keeps (by repeat (first | exact HKd.out | exact Keeps.refl _ _ | apply Keeps.drew | apply Keeps.alloc))))
                          clear hK K
                          try simp only [Act.put, List.setIfInBounds_toArray, List.set_cons_zero, List.set_cons_succ]
                          refine wpAnyH_ready (rs := [2]) (by kernel_rfl) (by simp) ?_
                          refine AllReadyH.cons rfl (fun K hK => ?_) ?_
                          · go_simp
                            refine hK.out _ _ ?_ (fun hHeld => ?_)
                            · (try dsimp only); (first | exact pgS2 HW8.out HSZ.out _ _ | exact pgS HW8.out | exact pgS HW9.out | exact pgS (HW9.out.keeps ((Keeps.refl [] w9).alloc _)) | exact pgS (HPW.out.keeps (by repeat (first | exact HKd.out | exact Keeps.refl _ _ | apply Keeps.drew | apply Keeps.alloc))))
                            clear hK K
                            try simp only [Act.put, List.setIfInBounds_toArray, List.set_cons_zero, List.set_cons_succ]
                            refine wpAnyH_ready (rs := [3]) (by kernel_rfl) (by simp) ?_
                            refine AllReadyH.cons rfl (fun K hK => ?_) ?_
                            · skip
                              (first | (refine wp_append_ex _ _ 22 (by rfl) (by rfl) (by rfl) (by rfl) (HPUSH.out _ _ (by repeat (first | exact HKd.out | exact Keeps.refl _ _ | apply Keeps.drew | apply Keeps.alloc)) (by first | exact (blk_at _ _ _ _ (by simp)).drew | exact ((blk_at _ _ _ _ (by simp)).alloc _).drew)) ?_; rintro v9 w9 ⟨hs9, hk9⟩; have HW9 := Lib.hid ((HPW.out.keeps (by repeat (first | exact HKd.out | exact Keeps.refl _ _ | apply Keeps.drew | apply Keeps.alloc))).strK hk9 HLT.out.2.2.1 HLT.out.2.2.2); have HT9 := Lib.hid ((HST.out.keeps (by repeat (first | exact HKd.out | exact Keeps.refl _ _ | apply Keeps.drew | apply Keeps.alloc))).strK hk9); have HK9 := Lib.hid hk9; obtain ⟨a9, c9, hv9, -, -⟩ := hs9.row; obtain ⟨k9, hk9l⟩ : ∃ k9, (V.eraseIdx j ++ [(⟨ss.cur, ss.ia, m, ss.ic, now⟩ : SV)]).length = k9 := ⟨_, rfl⟩; rw [hk9l] at hv9; subst hv9; have HS9 := Lib.hid hs9; clear hs9 hk9 hk9l) | (refine wp_append_ex _ _ 25 (by rfl) (by rfl) (by rfl) (by rfl) (HAPP.out _ _ (by first | exact blk_at _ _ _ _ (by simp) | exact str_keep HK9.out (blk_at _ _ _ _ (by simp)).drew | exact str_keep HK9.out ((blk_at _ _ _ _ (by simp)).alloc _).drew) (by first | exact HT9.out | exact HT9.out.keeps ((Keeps.refl [] w9).alloc _))) ?_; rintro v8 w8 ⟨a8, c8, rfl, hst8, hk8⟩; have HW8 := Lib.hid (by first | exact HW9.out.one hk8 (by first | exact Nat.le_refl _ | exact Nat.le_succ _ | (simp; done) | (simp; omega)) HLT.out.1 HLT.out.2.1 | exact (HW9.out.keeps ((Keeps.refl [] w9).alloc _)).one hk8 HW9.out.str.low.size HLT.out.1 HLT.out.2.1); have HS8 := Lib.hid (by first | exact SRow.str HS9.out hk8 (str_keep HK9.out (blk_at _ _ _ _ (by simp)).drew) | exact SRow.str HS9.out hk8 (str_keep HK9.out ((blk_at _ _ _ _ (by simp)).alloc _).drew) | exact SRow.str (HS9.out.keeps ((Keeps.refl [] w9).alloc _)) hk8 (blk_at _ _ _ _ (by simp))); have HST8 := Lib.hid hst8; have g0 := HW8.out.rb.cell 0; have g1 := HW8.out.rb.cell 1; have g2 := HW8.out.rb.frozen 0; have g3 := HW8.out.rb.frozen 1; clear hst8 hk8))
                              refine hK.out _ _ ?_ (fun hHeld => ?_)
                              · (try dsimp only); (first | exact pgS2 HW8.out HSZ.out _ _ | exact pgS HW8.out | exact pgS HW9.out | exact pgS (HW9.out.keeps ((Keeps.refl [] w9).alloc _)) | exact pgS (HPW.out.keeps (by repeat (first | exact HKd.out | exact Keeps.refl _ _ | apply Keeps.drew | apply Keeps.alloc))))
                              clear hK K
                              try simp only [Act.put, List.setIfInBounds_toArray, List.set_cons_zero, List.set_cons_succ]
                              refine wpAnyH_take (i := 6) (oi := { dst := some 106, op := Op.build 24 #[(0, Operand.tmp 103), (1, Operand.tmp 105)], type := 24, pos := "ref.go:96", after := #[{ on := 3, ground := Ground.data }, { on := 5, ground := Ground.data }], guard := none }) (v := ?_) rfl (by kernel_rfl) (by kernel_rfl) (by kernel_rfl) (fun _ _ _ h => h) (Or.inl ⟨by rfl, ?_⟩) (by assumption) ?_
                              rotate_left; · ((intro w hSw; (try dsimp only at hSw); go_simp); try with_reducible rfl)
                              try simp only [Act.put, List.setIfInBounds_toArray, List.set_cons_zero, List.set_cons_succ]
                              refine wpAnyH_ready (rs := [13]) (by kernel_rfl) (by simp) ?_
                              refine AllReadyH.cons rfl (fun K hK => ?_) ?_
                              · skip
                                (first | (refine wp_append_ex _ _ 22 (by rfl) (by rfl) (by rfl) (by rfl) (HPUSH.out _ _ (by repeat (first | exact HKd.out | exact Keeps.refl _ _ | apply Keeps.drew | apply Keeps.alloc)) (by first | exact (blk_at _ _ _ _ (by simp)).drew | exact ((blk_at _ _ _ _ (by simp)).alloc _).drew)) ?_; rintro v9 w9 ⟨hs9, hk9⟩; have HW9 := Lib.hid ((HPW.out.keeps (by repeat (first | exact HKd.out | exact Keeps.refl _ _ | apply Keeps.drew | apply Keeps.alloc))).strK hk9 HLT.out.2.2.1 HLT.out.2.2.2); have HT9 := Lib.hid ((HST.out.keeps (by repeat (first | exact HKd.out | exact Keeps.refl _ _ | apply Keeps.drew | apply Keeps.alloc))).strK hk9); have HK9 := Lib.hid hk9; obtain ⟨a9, c9, hv9, -, -⟩ := hs9.row; obtain ⟨k9, hk9l⟩ : ∃ k9, (V.eraseIdx j ++ [(⟨ss.cur, ss.ia, m, ss.ic, now⟩ : SV)]).length = k9 := ⟨_, rfl⟩; rw [hk9l] at hv9; subst hv9; have HS9 := Lib.hid hs9; clear hs9 hk9 hk9l) | (refine wp_append_ex _ _ 25 (by rfl) (by rfl) (by rfl) (by rfl) (HAPP.out _ _ (by first | exact blk_at _ _ _ _ (by simp) | exact str_keep HK9.out (blk_at _ _ _ _ (by simp)).drew | exact str_keep HK9.out ((blk_at _ _ _ _ (by simp)).alloc _).drew) (by first | exact HT9.out | exact HT9.out.keeps ((Keeps.refl [] w9).alloc _))) ?_; rintro v8 w8 ⟨a8, c8, rfl, hst8, hk8⟩; have HW8 := Lib.hid (by first | exact HW9.out.one hk8 (by first | exact Nat.le_refl _ | exact Nat.le_succ _ | (simp; done) | (simp; omega)) HLT.out.1 HLT.out.2.1 | exact (HW9.out.keeps ((Keeps.refl [] w9).alloc _)).one hk8 HW9.out.str.low.size HLT.out.1 HLT.out.2.1); have HS8 := Lib.hid (by first | exact SRow.str HS9.out hk8 (str_keep HK9.out (blk_at _ _ _ _ (by simp)).drew) | exact SRow.str HS9.out hk8 (str_keep HK9.out ((blk_at _ _ _ _ (by simp)).alloc _).drew) | exact SRow.str (HS9.out.keeps ((Keeps.refl [] w9).alloc _)) hk8 (blk_at _ _ _ _ (by simp))); have HST8 := Lib.hid hst8; have g0 := HW8.out.rb.cell 0; have g1 := HW8.out.rb.cell 1; have g2 := HW8.out.rb.frozen 0; have g3 := HW8.out.rb.frozen 1; clear hst8 hk8))
                                refine hK.out _ _ ?_ (fun hHeld => ?_)
                                · (try dsimp only); (first | exact pgS2 HW8.out HSZ.out _ _ | exact pgS HW8.out | exact pgS HW9.out | exact pgS (HW9.out.keeps ((Keeps.refl [] w9).alloc _)) | exact pgS (HPW.out.keeps (by repeat (first | exact HKd.out | exact Keeps.refl _ _ | apply Keeps.drew | apply Keeps.alloc))))
                                clear hK K
                                try simp only [Act.put, List.setIfInBounds_toArray, List.set_cons_zero, List.set_cons_succ]
                                refine wpAnyH_ready (rs := [15]) (by kernel_rfl) (by simp) ?_
                                refine AllReadyH.cons rfl (fun K hK => ?_) ?_
                                · go_simp
                                  refine hK.out _ _ ?_ (fun hHeld => ?_)
                                  · (try dsimp only); (first | exact pgS2 HW8.out HSZ.out _ _ | exact pgS HW8.out | exact pgS HW9.out | exact pgS (HW9.out.keeps ((Keeps.refl [] w9).alloc _)) | exact pgS (HPW.out.keeps (by repeat (first | exact HKd.out | exact Keeps.refl _ _ | apply Keeps.drew | apply Keeps.alloc))))
                                  clear hK K
                                  try simp only [Act.put, List.setIfInBounds_toArray, List.set_cons_zero, List.set_cons_succ]
                                  refine wpAnyH_take (i := 16) (oi := { dst := some 11, op := Op.assign (Operand.tmp 113), type := 25, pos := "ref.go:96", after := #[{ on := 13, ground := Ground.data }, { on := 15, ground := Ground.chain }, { on := 0, ground := Ground.phase }, { on := 1, ground := Ground.phase }, { on := 2, ground := Ground.phase }, { on := 3, ground := Ground.phase }, { on := 4, ground := Ground.phase }, { on := 5, ground := Ground.phase }, { on := 6, ground := Ground.phase }, { on := 7, ground := Ground.phase }, { on := 8, ground := Ground.phase }, { on := 9, ground := Ground.phase }, { on := 10, ground := Ground.phase }, { on := 11, ground := Ground.phase }, { on := 12, ground := Ground.phase }, { on := 13, ground := Ground.phase }, { on := 14, ground := Ground.textOnly Departure.lateStores }, { on := 15, ground := Ground.phase }], guard := none }) (v := ?_) rfl (by kernel_rfl) (by kernel_rfl) (by kernel_rfl) (fun _ _ _ h => h) (Or.inl ⟨by rfl, ?_⟩) (by assumption) ?_
                                  rotate_left; · ((intro w hSw; (try dsimp only at hSw); go_simp); try with_reducible rfl)
                                  try simp only [Act.put, List.setIfInBounds_toArray, List.set_cons_zero, List.set_cons_succ]
                                  refine wpAnyH_take (i := 17) (oi := { dst := some 12, op := Op.assign (Operand.tmp 114), type := 3, pos := "ref.go:96", after := #[{ on := 14, ground := Ground.data }, { on := 16, ground := Ground.chain }, { on := 0, ground := Ground.phase }, { on := 1, ground := Ground.phase }, { on := 2, ground := Ground.phase }, { on := 3, ground := Ground.phase }, { on := 4, ground := Ground.phase }, { on := 5, ground := Ground.phase }, { on := 6, ground := Ground.phase }, { on := 7, ground := Ground.phase }, { on := 8, ground := Ground.phase }, { on := 9, ground := Ground.phase }, { on := 10, ground := Ground.phase }, { on := 11, ground := Ground.phase }, { on := 12, ground := Ground.phase }, { on := 13, ground := Ground.phase }, { on := 14, ground := Ground.phase }, { on := 15, ground := Ground.phase }, { on := 16, ground := Ground.phase }], guard := none }) (v := ?_) rfl (by kernel_rfl) (by kernel_rfl) (by kernel_rfl) (fun _ _ _ h => h) (Or.inl ⟨by rfl, ?_⟩) (by assumption) ?_
                                  rotate_left; · ((intro w hSw; (try dsimp only at hSw); go_simp); try with_reducible rfl)
                                  try simp only [Act.put, List.setIfInBounds_toArray, List.set_cons_zero, List.set_cons_succ]
                                  refine wpAnyH_take (i := 18) (oi := { dst := some 13, op := Op.assign (Operand.const (Value.int IntKind.i64 0)), type := 30, pos := "ref.go:96", after := #[{ on := 17, ground := Ground.chain }, { on := 0, ground := Ground.phase }, { on := 1, ground := Ground.phase }, { on := 2, ground := Ground.phase }, { on := 3, ground := Ground.phase }, { on := 4, ground := Ground.phase }, { on := 5, ground := Ground.phase }, { on := 6, ground := Ground.phase }, { on := 7, ground := Ground.phase }, { on := 8, ground := Ground.phase }, { on := 9, ground := Ground.phase }, { on := 10, ground := Ground.phase }, { on := 11, ground := Ground.phase }, { on := 12, ground := Ground.phase }, { on := 13, ground := Ground.phase }, { on := 14, ground := Ground.phase }, { on := 15, ground := Ground.phase }, { on := 16, ground := Ground.phase }, { on := 17, ground := Ground.phase }], guard := none }) (v := ?_) rfl (by kernel_rfl) (by kernel_rfl) (by kernel_rfl) (fun _ _ _ h => h) (Or.inl ⟨by rfl, ?_⟩) (by assumption) ?_
                                  rotate_left; · ((intro w hSw; (try dsimp only at hSw); go_simp); try with_reducible rfl)
                                  try simp only [Act.put, List.setIfInBounds_toArray, List.set_cons_zero, List.set_cons_succ]
                                  refine wpAnyH_done (by kernel_rfl) ?_ _
                                  (go_wp2; obtain ⟨e9, hP9, hst9, hkk9, hb9⟩ := page16_fin HW8.out HS8.out rfl HMB.out HVL.out HM1B.out HSM.out HQ.out HST8.out; refine bodyPost_ret (v := .tuple #[.agg #[.slice a9 k9 c9, .int .i64 x], .slice a8 (m - F) c8, .int .i64 (-1), .int .i64 0]) (by have q0 : _ = some (Value.slice a9 k9 c9) := hb9.cell 0; have q1 : _ = some (Value.int .i64 x) := hb9.cell 1; simp [results, Tryd.results17, go_sem, q0, q1]) rfl ?_; exact ⟨a9, k9, c9, _, a8, m - F, c8, by rw [← HQ.out, HNXX.out], e9, hP9, HPL.out, hst9, hkk9⟩)
                                exact AllReadyH.nil
                              exact AllReadyH.nil
                            exact AllReadyH.nil
                          exact AllReadyH.nil
                        exact AllReadyH.nil
                      · have hTi : ¬ (m : Int) ≤ (F : Int) + (KN : Int) := fun h => hTm (Int.ofNat_le.1 h)
                        obtain ⟨hpg1, hnx1⟩ := pg_mid s.items F KN m (F + KN) HSM.out hF hTm rfl
                        rw [Nat.add_sub_cancel_left] at hpg1
                        have hpage : page = (s.items.drop F).take KN := hpg.trans hpg1
                        have hnxx : nx = (F : Int) + (KN : Int) := hnx.trans hnx1
                        have hTl : F + KN ≤ m := Nat.le_of_lt (Nat.lt_of_not_le hTm)
                        obtain ⟨a7, c7, hsl, hst7⟩ := strs_slice2 HM1r.out.2.2.2 F (F + KN) (Nat.le_add_right F KN) (by rw [HSM.out]; exact hTl) ((F : Int) + (KN : Int)) rfl
                        simp only [Nat.add_sub_cancel_left] at hsl hst7
                        have hpl : page.length = KN := by rw [hpage, List.length_take, List.length_drop, HSM.out]; exact Nat.min_eq_left (Nat.le_sub_of_add_le' hTl)
                        rw [HSM.out] at hsl
                        rw [← hpage] at hst7
                        have HPL := Lib.hid hpl
                        have HNXX := Lib.hid hnxx
                        have hset : Keeps [w2.heap.size] wr (wr.setCell ⟨w2.heap.size, 2, none⟩ (.int .i64 now)) := (Keeps.refl _ wr).setCell (p := ⟨w2.heap.size, 2, none⟩) (.inl (by simp)) _
                        have hsnap : NoStr wr [w2.heap.size] := fun k hk cs fz hh => by
                          simp at hk; subst hk
                          have h' : wr.heap[w2.heap.size]? = some (.cells ss.arr 39 (0, 0)) := HBX.out
                          rw [h'] at hh
                          injection hh with hh; injection hh with _ h3 _
                          exact absurd h3 (by decide)
                        have HST := Lib.hid (hst7.keepsS hset hsnap)
                        have HMB := Lib.hid (HMV.out.keepsS hset hsnap)
                        have HM1B : Hid (Mt1 (wr.setCell ⟨w2.heap.size, 2, none⟩ (.int .i64 now)) ss s) := Lib.hid ⟨HM1r.out.1, HM1r.out.2.1, HM1r.out.2.2.1, HM1r.out.2.2.2.keepsS hset hsnap⟩
                        have HSR := Lib.hid (HS.out.far (p := ⟨w2.heap.size, 2, none⟩) (by rw [HWL.out]; dsimp only; omega) (.int .i64 now))
                        have hpw : PgW wl.heap.size w2.heap.size w (wr.setCell ⟨w2.heap.size, 2, none⟩ (.int .i64 now)) (wr.setCell ⟨w2.heap.size, 2, none⟩ (.int .i64 now)) #[.int .i64 ss.cur, .slice ss.ia m ss.ic, .int .i64 now] #[.slice a k c, .int .i64 x] #[.slice none 0 0, .int .i64 0] :=
                          ⟨by have h1 := HBX.out.set_ 2 (.int .i64 now); have h2 := HIL.out; unfold SV.arr at h1; rw [h2] at h1; exact h1, HB0f.out.far (p := ⟨w2.heap.size, 2, none⟩) (by have := HSZ.out; dsimp only; omega) _, HB1.out.far (p := ⟨w2.heap.size, 2, none⟩) (by have := HSZ.out; dsimp only; omega) _, keeps_new HKW.out hset (fun k hk2 => by rw [List.mem_singleton] at hk2; have := HSZ.out; omega), StrK.refl _ _⟩
                        have HPW := Lib.hid hpw
                        have hbsz : wl.heap.size ≤ (wr.setCell ⟨w2.heap.size, 2, none⟩ (.int .i64 now)).heap.size := by have := HKL.out.size; simp [World.setCell]; omega
                        have HBSZ := Lib.hid hbsz
                        go_upto_region 23 with (fail)
                        clear hold hneg hbig hTi hTm hn1 hn2
                        obtain ⟨wb, hwb⟩ : ∃ wb, wr.setCell ⟨w2.heap.size, 2, none⟩ (.int .i64 now) = wb := ⟨_, rfl⟩
                        rw [hwb] at HST HMB HM1B HSR HPW HBSZ ⊢
                        have HKd : Hid (Keeps [] wb wb.drew) := Lib.hid (Keeps.refl [] wb).drew
                        have hpush : ∀ (W : World) (b : Nat), Keeps [] wb W → Blk W b 39 (SV.arr ⟨ss.cur, ss.ia, m, ss.ic, now⟩) → ∃ v' w', (Builtin.append_ #[22, 22] 22 #[u14, .slice (some ⟨b, 0, none⟩) 1 1]).run Tryd.prog W = .ok v' w' ∧ (SRow w' wl.heap.size v' (V.eraseIdx j ++ [(⟨ss.cur, ss.ia, m, ss.ic, now⟩ : SV)]) ∧ StrK wl.heap.size W w') := fun W b hk hb => (HSR.out.keeps hk).push HVL.out (Nat.le_trans HBSZ.out hk.size) b _ hb 22
                        have happ : ∀ (W : World) (b : Nat), Blk W b 9 #[] → StrsV W a7 c7 page → ∃ v' W', (Builtin.append_ #[25, 25] 25 #[.slice (some ⟨b, 0, none⟩) 0 0, .slice a7 (KN) c7]).run Tryd.prog W = .ok v' W' ∧ (∃ a' c', v' = .slice a' (KN) c' ∧ StrsV W' a' c' page ∧ Keeps [b] W W') := fun W b hb hs => app_new hb hs HPL.out 25
                        have HPUSH := Lib.hid hpush
                        have HAPP := Lib.hid happ
                        have HLT : Hid (w2.heap.size < wb.heap.size ∧ w.heap.size + 1 < wb.heap.size ∧ w2.heap.size < wl.heap.size ∧ w.heap.size + 1 < wl.heap.size) := Lib.hid ⟨HPW.out.sbx.lt, HPW.out.rb.lt, by rw [HWL.out]; omega, by rw [HWL.out]; have := HSZ.out; omega⟩
                        clear hpush happ hset hsnap hpw hbsz hwb hst7 hpage hnxx hpl b0 b1 b2 f2 z0 hpg hnx
                        refine wp_region_held_drew (S := (fun w' : World => w'.cell? ⟨w2.heap.size, 0, none⟩ = some (.int .i64 ss.cur) ∧ w'.cell? ⟨w2.heap.size, 1, none⟩ = some (.slice ss.ia m ss.ic) ∧ w'.cell? ⟨w2.heap.size, 2, none⟩ = some (.int .i64 now) ∧ w'.cell? ⟨w.heap.size, 1, none⟩ = some (.int .i64 x))) (by kernel_rfl) ?_ (fun hHeld => ?_)
                        · (try dsimp only); (first | exact pgS2 HW8.out HSZ.out _ _ | exact pgS HW8.out | exact pgS HW9.out | exact pgS (HW9.out.keeps ((Keeps.refl [] w9).alloc _)) | exact pgS (HPW.out.keeps (by repeat (first | exact HKd.out | exact Keeps.refl _ _ | apply Keeps.drew | apply Keeps.alloc))))
                        refine wpAnyH_take (i := 0) (oi := { dst := some 100, op := Op.move (Operand.tmp 14), type := 22, pos := "ref.go:96", after := #[], guard := none }) (v := ?_) rfl (by kernel_rfl) (by kernel_rfl) (by kernel_rfl) (fun _ _ _ h => h) (Or.inl ⟨by rfl, ?_⟩) (by assumption) ?_
                        rotate_left; · ((intro w hSw; (try dsimp only at hSw); go_simp); try with_reducible rfl)
                        try simp only [Act.put, List.setIfInBounds_toArray, List.set_cons_zero, List.set_cons_succ]
                        refine wpAnyH_take (i := 1) (oi := { dst := some 101, op := Op.load 39 (Operand.tmp 15), type := 39, pos := "ref.go:96", after := #[], guard := none }) (v := ?_) rfl (by kernel_rfl) (by kernel_rfl) (by kernel_rfl) (fun _ _ _ h => h) (Or.inl ⟨by rfl, ?_⟩) (by assumption) ?_
                        rotate_left; · ((intro w hSw; (try dsimp only at hSw); go_simp); try with_reducible rfl)
                        try simp only [Act.put, List.setIfInBounds_toArray, List.set_cons_zero, List.set_cons_succ]
                        refine wpAnyH_take (i := 4) (oi := { dst := some 104, op := Op.fieldAddr 24 (Operand.tmp 5) 1, type := 0, pos := "ref.go:96", after := #[], guard := none }) (v := ?_) rfl (by kernel_rfl) (by kernel_rfl) (by kernel_rfl) (fun _ _ _ h => h) (Or.inl ⟨by rfl, ?_⟩) (by assumption) ?_
                        rotate_left; · ((intro w hSw; (try dsimp only at hSw); go_simp); try with_reducible rfl)
                        try simp only [Act.put, List.setIfInBounds_toArray, List.set_cons_zero, List.set_cons_succ]
                        refine wpAnyH_take (i := 5) (oi := { dst := some 105, op := Op.load 3 (Operand.tmp 104), type := 3, pos := "ref.go:96", after := #[{ on := 4, ground := Ground.data }], guard := none }) (v := ?_) rfl (by kernel_rfl) (by kernel_rfl) (by kernel_rfl) (fun _ _ _ h => h) (Or.inl ⟨by rfl, ?_⟩) (by assumption) ?_
                        rotate_left; · ((intro w hSw; (try dsimp only at hSw); go_simp); try with_reducible rfl)
                        try simp only [Act.put, List.setIfInBounds_toArray, List.set_cons_zero, List.set_cons_succ]
                        refine wpAnyH_take (i := 8) (oi := { dst := some 108, op := Op.fieldAddr 39 (Operand.tmp 15) 1, type := 0, pos := "ref.go:96", after := #[], guard := none }) (v := ?_) rfl (by kernel_rfl) (by kernel_rfl) (by kernel_rfl) (fun _ _ _ h => h) (Or.inl ⟨by rfl, ?_⟩) (by assumption) ?_
                        rotate_left; · ((intro w hSw; (try dsimp only at hSw); go_simp); try with_reducible rfl)
                        try simp only [Act.put, List.setIfInBounds_toArray, List.set_cons_zero, List.set_cons_succ]
                        refine wpAnyH_take (i := 9) (oi := { dst := some 109, op := Op.load 25 (Operand.tmp 108), type := 25, pos := "ref.go:96", after := #[{ on := 8, ground := Ground.data }], guard := none }) (v := ?_) rfl (by kernel_rfl) (by kernel_rfl) (by kernel_rfl) (fun _ _ _ h => h) (Or.inl ⟨by rfl, ?_⟩) (by assumption) ?_
                        rotate_left; · ((intro w hSw; (try dsimp only at hSw); go_simp); try with_reducible rfl)
                        try simp only [Act.put, List.setIfInBounds_toArray, List.set_cons_zero, List.set_cons_succ]
                        refine wpAnyH_take (i := 10) (oi := { dst := some 110, op := Op.move (Operand.tmp 2), type := 3, pos := "ref.go:96", after := #[], guard := none }) (v := ?_) rfl (by kernel_rfl) (by kernel_rfl) (by kernel_rfl) (fun _ _ _ h => h) (Or.inl ⟨by rfl, ?_⟩) (by assumption) ?_
                        rotate_left; · ((intro w hSw; (try dsimp only at hSw); go_simp); try with_reducible rfl)
                        try simp only [Act.put, List.setIfInBounds_toArray, List.set_cons_zero, List.set_cons_succ]
                        refine wpAnyH_take (i := 11) (oi := { dst := some 111, op := Op.move (Operand.tmp 18), type := 3, pos := "ref.go:96", after := #[], guard := none }) (v := ?_) rfl (by kernel_rfl) (by kernel_rfl) (by kernel_rfl) (fun _ _ _ h => h) (Or.inl ⟨by rfl, ?_⟩) (by assumption) ?_
                        rotate_left; · ((intro w hSw; (try dsimp only at hSw); go_simp); try with_reducible rfl)
                        try simp only [Act.put, List.setIfInBounds_toArray, List.set_cons_zero, List.set_cons_succ]
                        refine wpAnyH_take (i := 12) (oi := { dst := some 112, op := Op.slice 25 (Operand.tmp 109) (some (Operand.tmp 110)) (some (Operand.tmp 111)) none, type := 25, pos := "ref.go:96", after := #[{ on := 9, ground := Ground.data }, { on := 10, ground := Ground.data }, { on := 11, ground := Ground.data }], guard := none }) (v := ?_) rfl (by kernel_rfl) (by kernel_rfl) (by kernel_rfl) (fun _ _ _ h => h) (Or.inl ⟨by rfl, ?_⟩) (by assumption) ?_
                        rotate_left; · ((intro w hSw; (try dsimp only at hSw); go_simp); try with_reducible rfl)
                        try simp only [Act.put, List.setIfInBounds_toArray, List.set_cons_zero, List.set_cons_succ]
                        refine wpAnyH_take (i := 14) (oi := { dst := some 114, op := Op.move (Operand.tmp 19), type := 3, pos := "ref.go:96", after := #[{ on := 16, ground := Ground.gcOnly Departure.lateStores }], guard := none }) (v := ?_) rfl (by kernel_rfl) (by kernel_rfl) (by kernel_rfl) (fun _ _ _ h => h) (Or.inl ⟨by rfl, ?_⟩) (by assumption) ?_
                        rotate_left; · ((intro w hSw; (try dsimp only at hSw); go_simp); try with_reducible rfl)
                        try simp only [Act.put, List.setIfInBounds_toArray, List.set_cons_zero, List.set_cons_succ]
                        refine wpAnyH_ready (rs := [2, 7]) (by kernel_rfl) (by simp) ?_
                        refine AllReadyH.cons rfl (fun K hK => ?_) ?_
                        · go_simp
                          refine hK.out _ _ ?_ (fun hHeld => ?_)
                          · (try dsimp only); (first | exact pgS2 HW8.out HSZ.out _ _ | exact pgS HW8.out | exact pgS HW9.out | exact pgS (HW9.out.keeps ((Keeps.refl [] w9).alloc _)) | exact pgS (HPW.out.keeps (by repeat (first | exact HKd.out | exact Keeps.refl _ _ | apply Keeps.drew | apply Keeps.alloc))))
                          clear hK K
                          try simp only [Act.put, List.setIfInBounds_toArray, List.set_cons_zero, List.set_cons_succ]
                          refine wpAnyH_ready (rs := [3, 7]) (by kernel_rfl) (by simp) ?_
                          refine AllReadyH.cons rfl (fun K hK => ?_) ?_
                          · skip
                            (first | (refine wp_append_ex _ _ 22 (by rfl) (by rfl) (by rfl) (by rfl) (HPUSH.out _ _ (by repeat (first | exact HKd.out | exact Keeps.refl _ _ | apply Keeps.drew | apply Keeps.alloc)) (by first | exact (blk_at _ _ _ _ (by simp)).drew | exact ((blk_at _ _ _ _ (by simp)).alloc _).drew)) ?_; rintro v9 w9 ⟨hs9, hk9⟩; have HW9 := Lib.hid ((HPW.out.keeps (by repeat (first | exact HKd.out | exact Keeps.refl _ _ | apply Keeps.drew | apply Keeps.alloc))).strK hk9 HLT.out.2.2.1 HLT.out.2.2.2); have HT9 := Lib.hid ((HST.out.keeps (by repeat (first | exact HKd.out | exact Keeps.refl _ _ | apply Keeps.drew | apply Keeps.alloc))).strK hk9); have HK9 := Lib.hid hk9; obtain ⟨a9, c9, hv9, -, -⟩ := hs9.row; obtain ⟨k9, hk9l⟩ : ∃ k9, (V.eraseIdx j ++ [(⟨ss.cur, ss.ia, m, ss.ic, now⟩ : SV)]).length = k9 := ⟨_, rfl⟩; rw [hk9l] at hv9; subst hv9; have HS9 := Lib.hid hs9; clear hs9 hk9 hk9l) | (refine wp_append_ex _ _ 25 (by rfl) (by rfl) (by rfl) (by rfl) (HAPP.out _ _ (by first | exact blk_at _ _ _ _ (by simp) | exact str_keep HK9.out (blk_at _ _ _ _ (by simp)).drew | exact str_keep HK9.out ((blk_at _ _ _ _ (by simp)).alloc _).drew) (by first | exact HT9.out | exact HT9.out.keeps ((Keeps.refl [] w9).alloc _))) ?_; rintro v8 w8 ⟨a8, c8, rfl, hst8, hk8⟩; have HW8 := Lib.hid (by first | exact HW9.out.one hk8 (by first | exact Nat.le_refl _ | exact Nat.le_succ _ | (simp; done) | (simp; omega)) HLT.out.1 HLT.out.2.1 | exact (HW9.out.keeps ((Keeps.refl [] w9).alloc _)).one hk8 HW9.out.str.low.size HLT.out.1 HLT.out.2.1); have HS8 := Lib.hid (by first | exact SRow.str HS9.out hk8 (str_keep HK9.out (blk_at _ _ _ _ (by simp)).drew) | exact SRow.str HS9.out hk8 (str_keep HK9.out ((blk_at _ _ _ _ (by simp)).alloc _).drew) | exact SRow.str (HS9.out.keeps ((Keeps.refl [] w9).alloc _)) hk8 (blk_at _ _ _ _ (by simp))); have HST8 := Lib.hid hst8; have g0 := HW8.out.rb.cell 0; have g1 := HW8.out.rb.cell 1; have g2 := HW8.out.rb.frozen 0; have g3 := HW8.out.rb.frozen 1; clear hst8 hk8))
                            refine hK.out _ _ ?_ (fun hHeld => ?_)
                            · (try dsimp only); (first | exact pgS2 HW8.out HSZ.out _ _ | exact pgS HW8.out | exact pgS HW9.out | exact pgS (HW9.out.keeps ((Keeps.refl [] w9).alloc _)) | exact pgS (HPW.out.keeps (by repeat (first | exact HKd.out | exact Keeps.refl _ _ | apply Keeps.drew | apply Keeps.alloc))))
                            clear hK K
                            try simp only [Act.put, List.setIfInBounds_toArray, List.set_cons_zero, List.set_cons_succ]
                            refine wpAnyH_take (i := 6) (oi := { dst := some 106, op := Op.build 24 #[(0, Operand.tmp 103), (1, Operand.tmp 105)], type := 24, pos := "ref.go:96", after := #[{ on := 3, ground := Ground.data }, { on := 5, ground := Ground.data }], guard := none }) (v := ?_) rfl (by kernel_rfl) (by kernel_rfl) (by kernel_rfl) (fun _ _ _ h => h) (Or.inl ⟨by rfl, ?_⟩) (by assumption) ?_
                            rotate_left; · ((intro w hSw; (try dsimp only at hSw); go_simp); try with_reducible rfl)
                            try simp only [Act.put, List.setIfInBounds_toArray, List.set_cons_zero, List.set_cons_succ]
                            refine wpAnyH_ready (rs := [7]) (by kernel_rfl) (by simp) ?_
                            refine AllReadyH.cons rfl (fun K hK => ?_) ?_
                            · go_simp
                              refine hK.out _ _ ?_ (fun hHeld => ?_)
                              · (try dsimp only); (first | exact pgS2 HW8.out HSZ.out _ _ | exact pgS HW8.out | exact pgS HW9.out | exact pgS (HW9.out.keeps ((Keeps.refl [] w9).alloc _)) | exact pgS (HPW.out.keeps (by repeat (first | exact HKd.out | exact Keeps.refl _ _ | apply Keeps.drew | apply Keeps.alloc))))
                              clear hK K
                              try simp only [Act.put, List.setIfInBounds_toArray, List.set_cons_zero, List.set_cons_succ]
                              refine wpAnyH_ready (rs := [13]) (by kernel_rfl) (by simp) ?_
                              refine AllReadyH.cons rfl (fun K hK => ?_) ?_
                              · skip
                                (first | (refine wp_append_ex _ _ 22 (by rfl) (by rfl) (by rfl) (by rfl) (HPUSH.out _ _ (by repeat (first | exact HKd.out | exact Keeps.refl _ _ | apply Keeps.drew | apply Keeps.alloc)) (by first | exact (blk_at _ _ _ _ (by simp)).drew | exact ((blk_at _ _ _ _ (by simp)).alloc _).drew)) ?_; rintro v9 w9 ⟨hs9, hk9⟩; have HW9 := Lib.hid ((HPW.out.keeps (by repeat (first | exact HKd.out | exact Keeps.refl _ _ | apply Keeps.drew | apply Keeps.alloc))).strK hk9 HLT.out.2.2.1 HLT.out.2.2.2); have HT9 := Lib.hid ((HST.out.keeps (by repeat (first | exact HKd.out | exact Keeps.refl _ _ | apply Keeps.drew | apply Keeps.alloc))).strK hk9); have HK9 := Lib.hid hk9; obtain ⟨a9, c9, hv9, -, -⟩ := hs9.row; obtain ⟨k9, hk9l⟩ : ∃ k9, (V.eraseIdx j ++ [(⟨ss.cur, ss.ia, m, ss.ic, now⟩ : SV)]).length = k9 := ⟨_, rfl⟩; rw [hk9l] at hv9; subst hv9; have HS9 := Lib.hid hs9; clear hs9 hk9 hk9l) | (refine wp_append_ex _ _ 25 (by rfl) (by rfl) (by rfl) (by rfl) (HAPP.out _ _ (by first | exact blk_at _ _ _ _ (by simp) | exact str_keep HK9.out (blk_at _ _ _ _ (by simp)).drew | exact str_keep HK9.out ((blk_at _ _ _ _ (by simp)).alloc _).drew) (by first | exact HT9.out | exact HT9.out.keeps ((Keeps.refl [] w9).alloc _))) ?_; rintro v8 w8 ⟨a8, c8, rfl, hst8, hk8⟩; have HW8 := Lib.hid (by first | exact HW9.out.one hk8 (by first | exact Nat.le_refl _ | exact Nat.le_succ _ | (simp; done) | (simp; omega)) HLT.out.1 HLT.out.2.1 | exact (HW9.out.keeps ((Keeps.refl [] w9).alloc _)).one hk8 HW9.out.str.low.size HLT.out.1 HLT.out.2.1); have HS8 := Lib.hid (by first | exact SRow.str HS9.out hk8 (str_keep HK9.out (blk_at _ _ _ _ (by simp)).drew) | exact SRow.str HS9.out hk8 (str_keep HK9.out ((blk_at _ _ _ _ (by simp)).alloc _).drew) | exact SRow.str (HS9.out.keeps ((Keeps.refl [] w9).alloc _)) hk8 (blk_at _ _ _ _ (by simp))); have HST8 := Lib.hid hst8; have g0 := HW8.out.rb.cell 0; have g1 := HW8.out.rb.cell 1; have g2 := HW8.out.rb.frozen 0; have g3 := HW8.out.rb.frozen 1; clear hst8 hk8))
                                refine hK.out _ _ ?_ (fun hHeld => ?_)
                                · (try dsimp only); (first | exact pgS2 HW8.out HSZ.out _ _ | exact pgS HW8.out | exact pgS HW9.out | exact pgS (HW9.out.keeps ((Keeps.refl [] w9).alloc _)) | exact pgS (HPW.out.keeps (by repeat (first | exact HKd.out | exact Keeps.refl _ _ | apply Keeps.drew | apply Keeps.alloc))))
                                clear hK K
                                try simp only [Act.put, List.setIfInBounds_toArray, List.set_cons_zero, List.set_cons_succ]
                                refine wpAnyH_ready (rs := [15]) (by kernel_rfl) (by simp) ?_
                                refine AllReadyH.cons rfl (fun K hK => ?_) ?_
                                · go_simp
                                  refine hK.out _ _ ?_ (fun hHeld => ?_)
                                  · (try dsimp only); (first | exact pgS2 HW8.out HSZ.out _ _ | exact pgS HW8.out | exact pgS HW9.out | exact pgS (HW9.out.keeps ((Keeps.refl [] w9).alloc _)) | exact pgS (HPW.out.keeps (by repeat (first | exact HKd.out | exact Keeps.refl _ _ | apply Keeps.drew | apply Keeps.alloc))))
                                  clear hK K
                                  try simp only [Act.put, List.setIfInBounds_toArray, List.set_cons_zero, List.set_cons_succ]
                                  refine wpAnyH_take (i := 16) (oi := { dst := some 11, op := Op.assign (Operand.tmp 113), type := 25, pos := "ref.go:96", after := #[{ on := 13, ground := Ground.data }, { on := 15, ground := Ground.chain }, { on := 0, ground := Ground.phase }, { on := 1, ground := Ground.phase }, { on := 2, ground := Ground.phase }, { on := 3, ground := Ground.phase }, { on := 4, ground := Ground.phase }, { on := 5, ground := Ground.phase }, { on := 6, ground := Ground.phase }, { on := 7, ground := Ground.phase }, { on := 8, ground := Ground.phase }, { on := 9, ground := Ground.phase }, { on := 10, ground := Ground.phase }, { on := 11, ground := Ground.phase }, { on := 12, ground := Ground.phase }, { on := 13, ground := Ground.phase }, { on := 14, ground := Ground.textOnly Departure.lateStores }, { on := 15, ground := Ground.phase }], guard := none }) (v := ?_) rfl (by kernel_rfl) (by kernel_rfl) (by kernel_rfl) (fun _ _ _ h => h) (Or.inl ⟨by rfl, ?_⟩) (by assumption) ?_
                                  rotate_left; · ((intro w hSw; (try dsimp only at hSw); go_simp); try with_reducible rfl)
                                  try simp only [Act.put, List.setIfInBounds_toArray, List.set_cons_zero, List.set_cons_succ]
                                  refine wpAnyH_take (i := 17) (oi := { dst := some 12, op := Op.assign (Operand.tmp 114), type := 3, pos := "ref.go:96", after := #[{ on := 14, ground := Ground.data }, { on := 16, ground := Ground.chain }, { on := 0, ground := Ground.phase }, { on := 1, ground := Ground.phase }, { on := 2, ground := Ground.phase }, { on := 3, ground := Ground.phase }, { on := 4, ground := Ground.phase }, { on := 5, ground := Ground.phase }, { on := 6, ground := Ground.phase }, { on := 7, ground := Ground.phase }, { on := 8, ground := Ground.phase }, { on := 9, ground := Ground.phase }, { on := 10, ground := Ground.phase }, { on := 11, ground := Ground.phase }, { on := 12, ground := Ground.phase }, { on := 13, ground := Ground.phase }, { on := 14, ground := Ground.phase }, { on := 15, ground := Ground.phase }, { on := 16, ground := Ground.phase }], guard := none }) (v := ?_) rfl (by kernel_rfl) (by kernel_rfl) (by kernel_rfl) (fun _ _ _ h => h) (Or.inl ⟨by rfl, ?_⟩) (by assumption) ?_
                                  rotate_left; · ((intro w hSw; (try dsimp only at hSw); go_simp); try with_reducible rfl)
                                  try simp only [Act.put, List.setIfInBounds_toArray, List.set_cons_zero, List.set_cons_succ]
                                  refine wpAnyH_take (i := 18) (oi := { dst := some 13, op := Op.assign (Operand.const (Value.int IntKind.i64 0)), type := 30, pos := "ref.go:96", after := #[{ on := 17, ground := Ground.chain }, { on := 0, ground := Ground.phase }, { on := 1, ground := Ground.phase }, { on := 2, ground := Ground.phase }, { on := 3, ground := Ground.phase }, { on := 4, ground := Ground.phase }, { on := 5, ground := Ground.phase }, { on := 6, ground := Ground.phase }, { on := 7, ground := Ground.phase }, { on := 8, ground := Ground.phase }, { on := 9, ground := Ground.phase }, { on := 10, ground := Ground.phase }, { on := 11, ground := Ground.phase }, { on := 12, ground := Ground.phase }, { on := 13, ground := Ground.phase }, { on := 14, ground := Ground.phase }, { on := 15, ground := Ground.phase }, { on := 16, ground := Ground.phase }, { on := 17, ground := Ground.phase }], guard := none }) (v := ?_) rfl (by kernel_rfl) (by kernel_rfl) (by kernel_rfl) (fun _ _ _ h => h) (Or.inl ⟨by rfl, ?_⟩) (by assumption) ?_
                                  rotate_left; · ((intro w hSw; (try dsimp only at hSw); go_simp); try with_reducible rfl)
                                  try simp only [Act.put, List.setIfInBounds_toArray, List.set_cons_zero, List.set_cons_succ]
                                  refine wpAnyH_done (by kernel_rfl) ?_ _
                                  (go_wp2; obtain ⟨e9, hP9, hst9, hkk9, hb9⟩ := page16_fin HW8.out HS8.out rfl HMB.out HVL.out HM1B.out HSM.out HQ.out HST8.out; refine bodyPost_ret (v := .tuple #[.agg #[.slice a9 k9 c9, .int .i64 x], .slice a8 (KN) c8, .int .i64 ((F : Int) + (KN : Int)), .int .i64 0]) (by have q0 : _ = some (Value.slice a9 k9 c9) := hb9.cell 0; have q1 : _ = some (Value.int .i64 x) := hb9.cell 1; simp [results, Tryd.results17, go_sem, q0, q1]) rfl ?_; exact ⟨a9, k9, c9, _, a8, KN, c8, by rw [← HQ.out, HNXX.out], e9, hP9, HPL.out, hst9, hkk9⟩)
                                exact AllReadyH.nil
                              exact AllReadyH.nil
                            exact AllReadyH.nil
                          refine AllReadyH.cons rfl (fun K hK => ?_) ?_
                          · go_simp
                            refine hK.out _ _ ?_ (fun hHeld => ?_)
                            · (try dsimp only); (first | exact pgS2 HW8.out HSZ.out _ _ | exact pgS HW8.out | exact pgS HW9.out | exact pgS (HW9.out.keeps ((Keeps.refl [] w9).alloc _)) | exact pgS (HPW.out.keeps (by repeat (first | exact HKd.out | exact Keeps.refl _ _ | apply Keeps.drew | apply Keeps.alloc))))
                            clear hK K
                            try simp only [Act.put, List.setIfInBounds_toArray, List.set_cons_zero, List.set_cons_succ]
                            refine wpAnyH_ready (rs := [3]) (by kernel_rfl) (by simp) ?_
                            refine AllReadyH.cons rfl (fun K hK => ?_) ?_
                            · skip
                              (first | (refine wp_append_ex _ _ 22 (by rfl) (by rfl) (by rfl) (by rfl) (HPUSH.out _ _ (by repeat (first | exact HKd.out | exact Keeps.refl _ _ | apply Keeps.drew | apply Keeps.alloc)) (by first | exact (blk_at _ _ _ _ (by simp)).drew | exact ((blk_at _ _ _ _ (by simp)).alloc _).drew)) ?_; rintro v9 w9 ⟨hs9, hk9⟩; have HW9 := Lib.hid ((HPW.out.keeps (by repeat (first | exact HKd.out | exact Keeps.refl _ _ | apply Keeps.drew | apply Keeps.alloc))).strK hk9 HLT.out.2.2.1 HLT.out.2.2.2); have HT9 := Lib.hid ((HST.out.keeps (by repeat (first | exact HKd.out | exact Keeps.refl _ _ | apply Keeps.drew | apply Keeps.alloc))).strK hk9); have HK9 := Lib.hid hk9; obtain ⟨a9, c9, hv9, -, -⟩ := hs9.row; obtain ⟨k9, hk9l⟩ : ∃ k9, (V.eraseIdx j ++ [(⟨ss.cur, ss.ia, m, ss.ic, now⟩ : SV)]).length = k9 := ⟨_, rfl⟩; rw [hk9l] at hv9; subst hv9; have HS9 := Lib.hid hs9; clear hs9 hk9 hk9l) | (refine wp_append_ex _ _ 25 (by rfl) (by rfl) (by rfl) (by rfl) (HAPP.out _ _ (by first | exact blk_at _ _ _ _ (by simp) | exact str_keep HK9.out (blk_at _ _ _ _ (by simp)).drew | exact str_keep HK9.out ((blk_at _ _ _ _ (by simp)).alloc _).drew) (by first | exact HT9.out | exact HT9.out.keeps ((Keeps.refl [] w9).alloc _))) ?_; rintro v8 w8 ⟨a8, c8, rfl, hst8, hk8⟩; have HW8 := Lib.hid (by first | exact HW9.out.one hk8 (by first | exact Nat.le_refl _ | exact Nat.le_succ _ | (simp; done) | (simp; omega)) HLT.out.1 HLT.out.2.1 | exact (HW9.out.keeps ((Keeps.refl [] w9).alloc _)).one hk8 HW9.out.str.low.size HLT.out.1 HLT.out.2.1); have HS8 := Lib.hid (by first | exact SRow.str HS9.out hk8 (str_keep HK9.out (blk_at _ _ _ _ (by simp)).drew) | exact SRow.str HS9.out hk8 (str_keep HK9.out ((blk_at _ _ _ _ (by simp)).alloc _).drew) | exact SRow.str (HS9.out.keeps ((Keeps.refl [] w9).alloc _)) hk8 (blk_at _ _ _ _ (by simp))); have HST8 := Lib.hid hst8; have g0 := HW8.out.rb.cell 0; have g1 := HW8.out.rb.cell 1; have g2 := HW8.out.rb.frozen 0; have g3 := HW8.out.rb.frozen 1; clear hst8 hk8))
                              refine hK.out _ _ ?_ (fun hHeld => ?_)
                              · (try dsimp only); (first | exact pgS2 HW8.out HSZ.out _ _ | exact pgS HW8.out | exact pgS HW9.out | exact pgS (HW9.out.keeps ((Keeps.refl [] w9).alloc _)) | exact pgS (HPW.out.keeps (by repeat (first | exact HKd.out | exact Keeps.refl _ _ | apply Keeps.drew | apply Keeps.alloc))))
                              clear hK K
                              try simp only [Act.put, List.setIfInBounds_toArray, List.set_cons_zero, List.set_cons_succ]
                              refine wpAnyH_take (i := 6) (oi := { dst := some 106, op := Op.build 24 #[(0, Operand.tmp 103), (1, Operand.tmp 105)], type := 24, pos := "ref.go:96", after := #[{ on := 3, ground := Ground.data }, { on := 5, ground := Ground.data }], guard := none }) (v := ?_) rfl (by kernel_rfl) (by kernel_rfl) (by kernel_rfl) (fun _ _ _ h => h) (Or.inl ⟨by rfl, ?_⟩) (by assumption) ?_
                              rotate_left; · ((intro w hSw; (try dsimp only at hSw); go_simp); try with_reducible rfl)
                              try simp only [Act.put, List.setIfInBounds_toArray, List.set_cons_zero, List.set_cons_succ]
                              refine wpAnyH_ready (rs := [13]) (by kernel_rfl) (by simp) ?_
                              refine AllReadyH.cons rfl (fun K hK => ?_) ?_
                              · skip
                                (first | (refine wp_append_ex _ _ 22 (by rfl) (by rfl) (by rfl) (by rfl) (HPUSH.out _ _ (by repeat (first | exact HKd.out | exact Keeps.refl _ _ | apply Keeps.drew | apply Keeps.alloc)) (by first | exact (blk_at _ _ _ _ (by simp)).drew | exact ((blk_at _ _ _ _ (by simp)).alloc _).drew)) ?_; rintro v9 w9 ⟨hs9, hk9⟩; have HW9 := Lib.hid ((HPW.out.keeps (by repeat (first | exact HKd.out | exact Keeps.refl _ _ | apply Keeps.drew | apply Keeps.alloc))).strK hk9 HLT.out.2.2.1 HLT.out.2.2.2); have HT9 := Lib.hid ((HST.out.keeps (by repeat (first | exact HKd.out | exact Keeps.refl _ _ | apply Keeps.drew | apply Keeps.alloc))).strK hk9); have HK9 := Lib.hid hk9; obtain ⟨a9, c9, hv9, -, -⟩ := hs9.row; obtain ⟨k9, hk9l⟩ : ∃ k9, (V.eraseIdx j ++ [(⟨ss.cur, ss.ia, m, ss.ic, now⟩ : SV)]).length = k9 := ⟨_, rfl⟩; rw [hk9l] at hv9; subst hv9; have HS9 := Lib.hid hs9; clear hs9 hk9 hk9l) | (refine wp_append_ex _ _ 25 (by rfl) (by rfl) (by rfl) (by rfl) (HAPP.out _ _ (by first | exact blk_at _ _ _ _ (by simp) | exact str_keep HK9.out (blk_at _ _ _ _ (by simp)).drew | exact str_keep HK9.out ((blk_at _ _ _ _ (by simp)).alloc _).drew) (by first | exact HT9.out | exact HT9.out.keeps ((Keeps.refl [] w9).alloc _))) ?_; rintro v8 w8 ⟨a8, c8, rfl, hst8, hk8⟩; have HW8 := Lib.hid (by first | exact HW9.out.one hk8 (by first | exact Nat.le_refl _ | exact Nat.le_succ _ | (simp; done) | (simp; omega)) HLT.out.1 HLT.out.2.1 | exact (HW9.out.keeps ((Keeps.refl [] w9).alloc _)).one hk8 HW9.out.str.low.size HLT.out.1 HLT.out.2.1); have HS8 := Lib.hid (by first | exact SRow.str HS9.out hk8 (str_keep HK9.out (blk_at _ _ _ _ (by simp)).drew) | exact SRow.str HS9.out hk8 (str_keep HK9.out ((blk_at _ _ _ _ (by simp)).alloc _).drew) | exact SRow.str (HS9.out.keeps ((Keeps.refl [] w9).alloc _)) hk8 (blk_at _ _ _ _ (by simp))); have HST8 := Lib.hid hst8; have g0 := HW8.out.rb.cell 0; have g1 := HW8.out.rb.cell 1; have g2 := HW8.out.rb.frozen 0; have g3 := HW8.out.rb.frozen 1; clear hst8 hk8))
                                refine hK.out _ _ ?_ (fun hHeld => ?_)
                                · (try dsimp only); (first | exact pgS2 HW8.out HSZ.out _ _ | exact pgS HW8.out | exact pgS HW9.out | exact pgS (HW9.out.keeps ((Keeps.refl [] w9).alloc _)) | exact pgS (HPW.out.keeps (by repeat (first | exact HKd.out | exact Keeps.refl _ _ | apply Keeps.drew | apply Keeps.alloc))))
                                clear hK K
                                try simp only [Act.put, List.setIfInBounds_toArray, List.set_cons_zero, List.set_cons_succ]
                                refine wpAnyH_ready (rs := [15]) (by kernel_rfl) (by simp) ?_
                                refine AllReadyH.cons rfl (fun K hK => ?_) ?_
                                · go_simp
                                  refine hK.out _ _ ?_ (fun hHeld => ?_)
                                  · (try dsimp only); (first | exact pgS2 HW8.out HSZ.out _ _ | exact pgS HW8.out | exact pgS HW9.out | exact pgS (HW9.out.keeps ((Keeps.refl [] w9).alloc _)) | exact pgS (HPW.out.keeps (by repeat (first | exact HKd.out | exact Keeps.refl _ _ | apply Keeps.drew | apply Keeps.alloc))))
                                  clear hK K
                                  try simp only [Act.put, List.setIfInBounds_toArray, List.set_cons_zero, List.set_cons_succ]
                                  refine wpAnyH_take (i := 16) (oi := { dst := some 11, op := Op.assign (Operand.tmp 113), type := 25, pos := "ref.go:96", after := #[{ on := 13, ground := Ground.data }, { on := 15, ground := Ground.chain }, { on := 0, ground := Ground.phase }, { on := 1, ground := Ground.phase }, { on := 2, ground := Ground.phase }, { on := 3, ground := Ground.phase }, { on := 4, ground := Ground.phase }, { on := 5, ground := Ground.phase }, { on := 6, ground := Ground.phase }, { on := 7, ground := Ground.phase }, { on := 8, ground := Ground.phase }, { on := 9, ground := Ground.phase }, { on := 10, ground := Ground.phase }, { on := 11, ground := Ground.phase }, { on := 12, ground := Ground.phase }, { on := 13, ground := Ground.phase }, { on := 14, ground := Ground.textOnly Departure.lateStores }, { on := 15, ground := Ground.phase }], guard := none }) (v := ?_) rfl (by kernel_rfl) (by kernel_rfl) (by kernel_rfl) (fun _ _ _ h => h) (Or.inl ⟨by rfl, ?_⟩) (by assumption) ?_
                                  rotate_left; · ((intro w hSw; (try dsimp only at hSw); go_simp); try with_reducible rfl)
                                  try simp only [Act.put, List.setIfInBounds_toArray, List.set_cons_zero, List.set_cons_succ]
                                  refine wpAnyH_take (i := 17) (oi := { dst := some 12, op := Op.assign (Operand.tmp 114), type := 3, pos := "ref.go:96", after := #[{ on := 14, ground := Ground.data }, { on := 16, ground := Ground.chain }, { on := 0, ground := Ground.phase }, { on := 1, ground := Ground.phase }, { on := 2, ground := Ground.phase }, { on := 3, ground := Ground.phase }, { on := 4, ground := Ground.phase }, { on := 5, ground := Ground.phase }, { on := 6, ground := Ground.phase }, { on := 7, ground := Ground.phase }, { on := 8, ground := Ground.phase }, { on := 9, ground := Ground.phase }, { on := 10, ground := Ground.phase }, { on := 11, ground := Ground.phase }, { on := 12, ground := Ground.phase }, { on := 13, ground := Ground.phase }, { on := 14, ground := Ground.phase }, { on := 15, ground := Ground.phase }, { on := 16, ground := Ground.phase }], guard := none }) (v := ?_) rfl (by kernel_rfl) (by kernel_rfl) (by kernel_rfl) (fun _ _ _ h => h) (Or.inl ⟨by rfl, ?_⟩) (by assumption) ?_
                                  rotate_left; · ((intro w hSw; (try dsimp only at hSw); go_simp); try with_reducible rfl)
                                  try simp only [Act.put, List.setIfInBounds_toArray, List.set_cons_zero, List.set_cons_succ]
                                  refine wpAnyH_take (i := 18) (oi := { dst := some 13, op := Op.assign (Operand.const (Value.int IntKind.i64 0)), type := 30, pos := "ref.go:96", after := #[{ on := 17, ground := Ground.chain }, { on := 0, ground := Ground.phase }, { on := 1, ground := Ground.phase }, { on := 2, ground := Ground.phase }, { on := 3, ground := Ground.phase }, { on := 4, ground := Ground.phase }, { on := 5, ground := Ground.phase }, { on := 6, ground := Ground.phase }, { on := 7, ground := Ground.phase }, { on := 8, ground := Ground.phase }, { on := 9, ground := Ground.phase }, { on := 10, ground := Ground.phase }, { on := 11, ground := Ground.phase }, { on := 12, ground := Ground.phase }, { on := 13, ground := Ground.phase }, { on := 14, ground := Ground.phase }, { on := 15, ground := Ground.phase }, { on := 16, ground := Ground.phase }, { on := 17, ground := Ground.phase }], guard := none }) (v := ?_) rfl (by kernel_rfl) (by kernel_rfl) (by kernel_rfl) (fun _ _ _ h => h) (Or.inl ⟨by rfl, ?_⟩) (by assumption) ?_
                                  rotate_left; · ((intro w hSw; (try dsimp only at hSw); go_simp); try with_reducible rfl)
                                  try simp only [Act.put, List.setIfInBounds_toArray, List.set_cons_zero, List.set_cons_succ]
                                  refine wpAnyH_done (by kernel_rfl) ?_ _
                                  (go_wp2; obtain ⟨e9, hP9, hst9, hkk9, hb9⟩ := page16_fin HW8.out HS8.out rfl HMB.out HVL.out HM1B.out HSM.out HQ.out HST8.out; refine bodyPost_ret (v := .tuple #[.agg #[.slice a9 k9 c9, .int .i64 x], .slice a8 (KN) c8, .int .i64 ((F : Int) + (KN : Int)), .int .i64 0]) (by have q0 : _ = some (Value.slice a9 k9 c9) := hb9.cell 0; have q1 : _ = some (Value.int .i64 x) := hb9.cell 1; simp [results, Tryd.results17, go_sem, q0, q1]) rfl ?_; exact ⟨a9, k9, c9, _, a8, KN, c8, by rw [← HQ.out, HNXX.out], e9, hP9, HPL.out, hst9, hkk9⟩)
                                exact AllReadyH.nil
                              exact AllReadyH.nil
                            exact AllReadyH.nil
                          exact AllReadyH.nil
                        refine AllReadyH.cons rfl (fun K hK => ?_) ?_
                        · go_simp
                          refine hK.out _ _ ?_ (fun hHeld => ?_)
                          · (try dsimp only); (first | exact pgS2 HW8.out HSZ.out _ _ | exact pgS HW8.out | exact pgS HW9.out | exact pgS (HW9.out.keeps ((Keeps.refl [] w9).alloc _)) | exact pgS (HPW.out.keeps (by repeat (first | exact HKd.out | exact Keeps.refl _ _ | apply Keeps.drew | apply Keeps.alloc))))
                          clear hK K
                          try simp only [Act.put, List.setIfInBounds_toArray, List.set_cons_zero, List.set_cons_succ]
                          refine wpAnyH_ready (rs := [2]) (by kernel_rfl) (by simp) ?_
                          refine AllReadyH.cons rfl (fun K hK => ?_) ?_
                          · go_simp
                            refine hK.out _ _ ?_ (fun hHeld => ?_)
                            · (try dsimp only); (first | exact pgS2 HW8.out HSZ.out _ _ | exact pgS HW8.out | exact pgS HW9.out | exact pgS (HW9.out.keeps ((Keeps.refl [] w9).alloc _)) | exact pgS (HPW.out.keeps (by repeat (first | exact HKd.out | exact Keeps.refl _ _ | apply Keeps.drew | apply Keeps.alloc))))
                            clear hK K
                            try simp only [Act.put, List.setIfInBounds_toArray, List.set_cons_zero, List.set_cons_succ]
                            refine wpAnyH_ready (rs := [3]) (by kernel_rfl) (by simp) ?_
                            refine AllReadyH.cons rfl (fun K hK => ?_) ?_
                            · skip
                              (first | (refine wp_append_ex _ _ 22 (by rfl) (by rfl) (by rfl) (by rfl) (HPUSH.out _ _ (by repeat (first | exact HKd.out | exact Keeps.refl _ _ | apply Keeps.drew | apply Keeps.alloc)) (by first | exact (blk_at _ _ _ _ (by simp)).drew | exact ((blk_at _ _ _ _ (by simp)).alloc _).drew)) ?_; rintro v9 w9 ⟨hs9, hk9⟩; have HW9 := Lib.hid ((HPW.out.keeps (by repeat (first | exact HKd.out | exact Keeps.refl _ _ | apply Keeps.drew | apply Keeps.alloc))).strK hk9 HLT.out.2.2.1 HLT.out.2.2.2); have HT9 := Lib.hid ((HST.out.keeps (by repeat (first | exact HKd.out | exact Keeps.refl _ _ | apply Keeps.drew | apply Keeps.alloc))).strK hk9); have HK9 := Lib.hid hk9; obtain ⟨a9, c9, hv9, -, -⟩ := hs9.row; obtain ⟨k9, hk9l⟩ : ∃ k9, (V.eraseIdx j ++ [(⟨ss.cur, ss.ia, m, ss.ic, now⟩ : SV)]).length = k9 := ⟨_, rfl⟩; rw [hk9l] at hv9; subst hv9; have HS9 := Lib.hid hs9; clear hs9 hk9 hk9l) | (refine wp_append_ex _ _ 25 (by rfl) (by rfl) (by rfl) (by rfl) (HAPP.out _ _ (by first | exact blk_at _ _ _ _ (by simp) | exact str_keep HK9.out (blk_at _ _ _ _ (by simp)).drew | exact str_keep HK9.out ((blk_at _ _ _ _ (by simp)).alloc _).drew) (by first | exact HT9.out | exact HT9.out.keeps ((Keeps.refl [] w9).alloc _))) ?_; rintro v8 w8 ⟨a8, c8, rfl, hst8, hk8⟩; have HW8 := Lib.hid (by first | exact HW9.out.one hk8 (by first | exact Nat.le_refl _ | exact Nat.le_succ _ | (simp; done) | (simp; omega)) HLT.out.1 HLT.out.2.1 | exact (HW9.out.keeps ((Keeps.refl [] w9).alloc _)).one hk8 HW9.out.str.low.size HLT.out.1 HLT.out.2.1); have HS8 := Lib.hid (by first | exact SRow.str HS9.out hk8 (str_keep HK9.out (blk_at _ _ _ _ (by simp)).drew) | exact SRow.str HS9.out hk8 (str_keep HK9.out ((blk_at _ _ _ _ (by simp)).alloc _).drew) | exact SRow.str (HS9.out.keeps ((Keeps.refl [] w9).alloc _)) hk8 (blk_at _ _ _ _ (by simp))); have HST8 := Lib.hid hst8; have g0 := HW8.out.rb.cell 0; have g1 := HW8.out.rb.cell 1; have g2 := HW8.out.rb.frozen 0; have g3 := HW8.out.rb.frozen 1; clear hst8 hk8))
                              refine hK.out _ _ ?_ (fun hHeld => ?_)
                              · (try dsimp only); (first | exact pgS2 HW8.out HSZ.out _ _ | exact pgS HW8.out | exact pgS HW9.out | exact pgS (HW9.out.keeps ((Keeps.refl [] w9).alloc _)) | exact pgS (HPW.out.keeps (by repeat (first | exact HKd.out | exact Keeps.refl _ _ | apply Keeps.drew | apply Keeps.alloc))))
                              clear hK K
                              try simp only [Act.put, List.setIfInBounds_toArray, List.set_cons_zero, List.set_cons_succ]
                              refine wpAnyH_take (i := 6) (oi := { dst := some 106, op := Op.build 24 #[(0, Operand.tmp 103), (1, Operand.tmp 105)], type := 24, pos := "ref.go:96", after := #[{ on := 3, ground := Ground.data }, { on := 5, ground := Ground.data }], guard := none }) (v := ?_) rfl (by kernel_rfl) (by kernel_rfl) (by kernel_rfl) (fun _ _ _ h => h) (Or.inl ⟨by rfl, ?_⟩) (by assumption) ?_
                              rotate_left; · ((intro w hSw; (try dsimp only at hSw); go_simp); try with_reducible rfl)
                              try simp only [Act.put, List.setIfInBounds_toArray, List.set_cons_zero, List.set_cons_succ]
                              refine wpAnyH_ready (rs := [13]) (by kernel_rfl) (by simp) ?_
                              refine AllReadyH.cons rfl (fun K hK => ?_) ?_
                              · skip
                                (first | (refine wp_append_ex _ _ 22 (by rfl) (by rfl) (by rfl) (by rfl) (HPUSH.out _ _ (by repeat (first | exact HKd.out | exact Keeps.refl _ _ | apply Keeps.drew | apply Keeps.alloc)) (by first | exact (blk_at _ _ _ _ (by simp)).drew | exact ((blk_at _ _ _ _ (by simp)).alloc _).drew)) ?_; rintro v9 w9 ⟨hs9, hk9⟩; have HW9 := Lib.hid ((HPW.out.keeps (by repeat (first | exact HKd.out | exact Keeps.refl _ _ | apply Keeps.drew | apply Keeps.alloc))).strK hk9 HLT.out.2.2.1 HLT.out.2.2.2); have HT9 := Lib.hid ((HST.out.keeps (by repeat (first | exact HKd.out | exact Keeps.refl _ _ | apply Keeps.drew | apply Keeps.alloc))).strK hk9); have HK9 := Lib.hid hk9; obtain ⟨a9, c9, hv9, -, -⟩ := hs9.row; obtain ⟨k9, hk9l⟩ : ∃ k9, (V.eraseIdx j ++ [(⟨ss.cur, ss.ia, m, ss.ic, now⟩ : SV)]).length = k9 := ⟨_, rfl⟩; rw [hk9l] at hv9; subst hv9; have HS9 := Lib.hid hs9; clear hs9 hk9 hk9l) | (refine wp_append_ex _ _ 25 (by rfl) (by rfl) (by rfl) (by rfl) (HAPP.out _ _ (by first | exact blk_at _ _ _ _ (by simp) | exact str_keep HK9.out (blk_at _ _ _ _ (by simp)).drew | exact str_keep HK9.out ((blk_at _ _ _ _ (by simp)).alloc _).drew) (by first | exact HT9.out | exact HT9.out.keeps ((Keeps.refl [] w9).alloc _))) ?_; rintro v8 w8 ⟨a8, c8, rfl, hst8, hk8⟩; have HW8 := Lib.hid (by first | exact HW9.out.one hk8 (by first | exact Nat.le_refl _ | exact Nat.le_succ _ | (simp; done) | (simp; omega)) HLT.out.1 HLT.out.2.1 | exact (HW9.out.keeps ((Keeps.refl [] w9).alloc _)).one hk8 HW9.out.str.low.size HLT.out.1 HLT.out.2.1); have HS8 := Lib.hid (by first | exact SRow.str HS9.out hk8 (str_keep HK9.out (blk_at _ _ _ _ (by simp)).drew) | exact SRow.str HS9.out hk8 (str_keep HK9.out ((blk_at _ _ _ _ (by simp)).alloc _).drew) | exact SRow.str (HS9.out.keeps ((Keeps.refl [] w9).alloc _)) hk8 (blk_at _ _ _ _ (by simp))); have HST8 := Lib.hid hst8; have g0 := HW8.out.rb.cell 0; have g1 := HW8.out.rb.cell 1; have g2 := HW8.out.rb.frozen 0; have g3 := HW8.out.rb.frozen 1; clear hst8 hk8))
                                refine hK.out _ _ ?_ (fun hHeld => ?_)
                                · (try dsimp only); (first | exact pgS2 HW8.out HSZ.out _ _ | exact pgS HW8.out | exact pgS HW9.out | exact pgS (HW9.out.keeps ((Keeps.refl [] w9).alloc _)) | exact pgS (HPW.out.keeps (by repeat (first | exact HKd.out | exact Keeps.refl _ _ | apply Keeps.drew | apply Keeps.alloc))))
                                clear hK K
                                try simp only [Act.put, List.setIfInBounds_toArray, List.set_cons_zero, List.set_cons_succ]
                                refine wpAnyH_ready (rs := [15]) (by kernel_rfl) (by simp) ?_
                                refine AllReadyH.cons rfl (fun K hK => ?_) ?_
                                · go_simp
                                  refine hK.out _ _ ?_ (fun hHeld => ?_)
                                  · (try dsimp only); (first | exact pgS2 HW8.out HSZ.out _ _ | exact pgS HW8.out | exact pgS HW9.out | exact pgS (HW9.out.keeps ((Keeps.refl [] w9).alloc _)) | exact pgS (HPW.out.keeps (by repeat (first | exact HKd.out | exact Keeps.refl _ _ | apply Keeps.drew | apply Keeps.alloc))))
                                  clear hK K
                                  try simp only [Act.put, List.setIfInBounds_toArray, List.set_cons_zero, List.set_cons_succ]
                                  refine wpAnyH_take (i := 16) (oi := { dst := some 11, op := Op.assign (Operand.tmp 113), type := 25, pos := "ref.go:96", after := #[{ on := 13, ground := Ground.data }, { on := 15, ground := Ground.chain }, { on := 0, ground := Ground.phase }, { on := 1, ground := Ground.phase }, { on := 2, ground := Ground.phase }, { on := 3, ground := Ground.phase }, { on := 4, ground := Ground.phase }, { on := 5, ground := Ground.phase }, { on := 6, ground := Ground.phase }, { on := 7, ground := Ground.phase }, { on := 8, ground := Ground.phase }, { on := 9, ground := Ground.phase }, { on := 10, ground := Ground.phase }, { on := 11, ground := Ground.phase }, { on := 12, ground := Ground.phase }, { on := 13, ground := Ground.phase }, { on := 14, ground := Ground.textOnly Departure.lateStores }, { on := 15, ground := Ground.phase }], guard := none }) (v := ?_) rfl (by kernel_rfl) (by kernel_rfl) (by kernel_rfl) (fun _ _ _ h => h) (Or.inl ⟨by rfl, ?_⟩) (by assumption) ?_
                                  rotate_left; · ((intro w hSw; (try dsimp only at hSw); go_simp); try with_reducible rfl)
                                  try simp only [Act.put, List.setIfInBounds_toArray, List.set_cons_zero, List.set_cons_succ]
                                  refine wpAnyH_take (i := 17) (oi := { dst := some 12, op := Op.assign (Operand.tmp 114), type := 3, pos := "ref.go:96", after := #[{ on := 14, ground := Ground.data }, { on := 16, ground := Ground.chain }, { on := 0, ground := Ground.phase }, { on := 1, ground := Ground.phase }, { on := 2, ground := Ground.phase }, { on := 3, ground := Ground.phase }, { on := 4, ground := Ground.phase }, { on := 5, ground := Ground.phase }, { on := 6, ground := Ground.phase }, { on := 7, ground := Ground.phase }, { on := 8, ground := Ground.phase }, { on := 9, ground := Ground.phase }, { on := 10, ground := Ground.phase }, { on := 11, ground := Ground.phase }, { on := 12, ground := Ground.phase }, { on := 13, ground := Ground.phase }, { on := 14, ground := Ground.phase }, { on := 15, ground := Ground.phase }, { on := 16, ground := Ground.phase }], guard := none }) (v := ?_) rfl (by kernel_rfl) (by kernel_rfl) (by kernel_rfl) (fun _ _ _ h => h) (Or.inl ⟨by rfl, ?_⟩) (by assumption) ?_
                                  rotate_left; · ((intro w hSw; (try dsimp only at hSw); go_simp); try with_reducible rfl)
                                  try simp only [Act.put, List.setIfInBounds_toArray, List.set_cons_zero, List.set_cons_succ]
                                  refine wpAnyH_take (i := 18) (oi := { dst := some 13, op := Op.assign (Operand.const (Value.int IntKind.i64 0)), type := 30, pos := "ref.go:96", after := #[{ on := 17, ground := Ground.chain }, { on := 0, ground := Ground.phase }, { on := 1, ground := Ground.phase }, { on := 2, ground := Ground.phase }, { on := 3, ground := Ground.phase }, { on := 4, ground := Ground.phase }, { on := 5, ground := Ground.phase }, { on := 6, ground := Ground.phase }, { on := 7, ground := Ground.phase }, { on := 8, ground := Ground.phase }, { on := 9, ground := Ground.phase }, { on := 10, ground := Ground.phase }, { on := 11, ground := Ground.phase }, { on := 12, ground := Ground.phase }, { on := 13, ground := Ground.phase }, { on := 14, ground := Ground.phase }, { on := 15, ground := Ground.phase }, { on := 16, ground := Ground.phase }, { on := 17, ground := Ground.phase }], guard := none }) (v := ?_) rfl (by kernel_rfl) (by kernel_rfl) (by kernel_rfl) (fun _ _ _ h => h) (Or.inl ⟨by rfl, ?_⟩) (by assumption) ?_
                                  rotate_left; · ((intro w hSw; (try dsimp only at hSw); go_simp); try with_reducible rfl)
                                  try simp only [Act.put, List.setIfInBounds_toArray, List.set_cons_zero, List.set_cons_succ]
                                  refine wpAnyH_done (by kernel_rfl) ?_ _
                                  (go_wp2; obtain ⟨e9, hP9, hst9, hkk9, hb9⟩ := page16_fin HW8.out HS8.out rfl HMB.out HVL.out HM1B.out HSM.out HQ.out HST8.out; refine bodyPost_ret (v := .tuple #[.agg #[.slice a9 k9 c9, .int .i64 x], .slice a8 (KN) c8, .int .i64 ((F : Int) + (KN : Int)), .int .i64 0]) (by have q0 : _ = some (Value.slice a9 k9 c9) := hb9.cell 0; have q1 : _ = some (Value.int .i64 x) := hb9.cell 1; simp [results, Tryd.results17, go_sem, q0, q1]) rfl ?_; exact ⟨a9, k9, c9, _, a8, KN, c8, by rw [← HQ.out, HNXX.out], e9, hP9, HPL.out, hst9, hkk9⟩)
                                exact AllReadyH.nil
                              exact AllReadyH.nil
                            exact AllReadyH.nil
                          exact AllReadyH.nil
                        exact AllReadyH.nil
end Go.Proofs.YtbcppmcjbcnlbaaDoor
