/- WirePieces: bytes in two pieces: for every text and every place. No condition beyond the card's. -/
import Derived.Test.YtfedhhndkeakhaaDoorWireLaw
import Derived.Test.YtfedhhndkeakhaaDoorWireH
import Derived.Laws.OwnMore
namespace Go.Proofs.YtfedhhndkeakhaaDoor
open Go.RowKit Go.Shelf

namespace wirePieces
open Go.ChangeShapes Go.WideShapes Go.ChangeAt
open Go.ChangeMaps (open_string)
attribute [local go_sem ↓] Go.wp_at_zero Go.wp_at_succ

theorem allA_place {c : ByteArray} {M : List Fr} {n g : Int} (h : allA c = (M, n, g)) : 0 ≤ n ∧ n ≤ c.size := by
  have hc := items_chain c
  have e := allA_of_chain hc
  rw [h] at e
  have e2 : n = lastF 0 (items c) := congrArg (·.2.1) e
  have := chain_last _ 0 (Int.le_refl _) (by omega) hc
  omega
/-- An append whose run is known. -/
theorem wpList_append_run {P : Program} (w : World) {ops : Array Oper} {rest : List Oper} {o : Oper} {a : Act} {Q : Exit → Act → World → Prop} (hgd : o.guard = none) (s x : Operand) (t : TypeId)
    (ho : o.op = .call { callee := .builtin .append, args := #[s, x], argTypes := #[t, t] }) {v u v' : Value} {w' : World} (hs : a.eval s = v) (hx : a.eval x = u)
    (hr : (Builtin.append_ #[t, t] o.type #[v, u]).run P w = .ok v' w') (h : wpList P ops Q rest (a.put o.dst v') w') : wpList P ops Q (o :: rest) a w := by
  refine wpList_plain hgd fun K hK => ?_
  unfold Oper.wp execOp
  simp only [ho, resolve, invoke, builtin, Sem.run_bind, Sem.run_pure, Result.andThen_ok, List.map_toArray, List.map_cons, List.map_nil, hs, hx, hr]
  exact hK _ _ h
theorem cl_one : ∀ (L : List Fr), ∀ u ∈ L.flatMap Fr.cl, u.oneCell' = true := by
  intro L u hu
  obtain ⟨f, _, h⟩ := List.mem_flatMap.1 hu
  simp only [Fr.cl, List.mem_cons, List.not_mem_nil, or_false] at h
  rcases h with rfl | rfl | rfl <;> rfl
theorem cl_len : ∀ (L : List Fr), (L.flatMap Fr.cl).length = L.length * 3
  | [] => rfl
  | f :: L => by rw [List.flatMap_cons, List.length_append, cl_len L, List.length_cons]; simp [Fr.cl]; omega
theorem cl_get (L : List Fr) (j : Nat) (u : Value) (h : (L.flatMap Fr.cl)[j]? = some u) : ∃ i, ∃ hi : i < L.length, (j = i * 3 ∧ u = .int .i64 L[i].kind) ∨ (j = i * 3 + 1 ∧ u = .int .i64 L[i].stream) ∨ (j = i * 3 + 2 ∧ u = .string L[i].data) := by
  have hj : j < L.length * 3 := by rw [← cl_len]; exact (List.getElem?_eq_some_iff.1 h).1
  have hi : j / 3 < L.length := by omega
  obtain ⟨h0, h1, h2⟩ := frs_cell L (j / 3) hi
  refine ⟨j / 3, hi, ?_⟩
  rcases (show j = j / 3 * 3 ∨ j = j / 3 * 3 + 1 ∨ j = j / 3 * 3 + 2 by omega) with hh | hh | hh
  · rw [hh, h0] at h; exact .inl ⟨hh, by cases h; rfl⟩
  · rw [hh, h1] at h; exact .inr (.inl ⟨hh, by cases h; rfl⟩)
  · rw [hh, h2] at h; exact .inr (.inr ⟨hh, by cases h; rfl⟩)
theorem app1 {W : World} {B : Nat} {v : Value} {M : List Fr} (hv : W.ownsRow B 23 3 v M.length (M.flatMap Fr.cl)) (hB : B ≤ W.heap.size) {a : Option Addr} {c : Nat} {L : List Fr} (h : FrsIn W a L) (ha : L = [] → a = none → c = 0) (h1 : M.length ≤ 1000000) (h2 : L.length ≤ 1000000) (ty : TypeId) :
    ∃ v' W', (Builtin.append_ #[25, 25] ty #[v, .slice a L.length c]).run Tryd.prog W = .ok v' W' ∧ W'.ownsRow B 23 3 v' (M ++ L).length ((M ++ L).flatMap Fr.cl) ∧ W.grownBy W' v.ownBlock := by
  obtain ⟨i0, hi, hz0, hz1, hz2⟩ := info_parts frame_info
  rw [List.length_append, List.flatMap_append]
  have hadd : ∀ (g off j : Nat), (⟨g, off, none⟩ : Addr).add j = ⟨g, off + j, none⟩ := fun g off j => by
    unfold Addr.add
    split <;> simp_all
  have key : ∀ g off, a = some ⟨g, off, none⟩ → (∀ j u, (L.flatMap Fr.cl)[j]? = some u → W.cell? ((⟨g, off, none⟩ : Addr).add j) = some u) → ∃ v' W', (Builtin.append_ #[25, 25] ty #[v, .slice a L.length c]).run Tryd.prog W = .ok v' W' ∧ W'.ownsRow B 23 3 v' (M.length + L.length) (M.flatMap Fr.cl ++ L.flatMap Fr.cl) ∧ W.grownBy W' v.ownBlock := by
    intro g off e hc
    subst e
    obtain ⟨v', W', h1, h2, h3, _⟩ := run_append_own (P := Tryd.prog) W B 25 ty 23 i0 _ 3 32 Tryd.underlying25 hi hz0 hz1 hz2 rfl (by decide) v M.length _ hv ⟨g, off, none⟩ L.length c (L.flatMap Fr.cl) (cl_len L) hc (cl_one L) (by unfold maxLen; omega) (by omega) hB
    exact ⟨v', W', h1, h2, h3⟩
  by_cases hn : L = []
  · subst hn
    cases a with
    | none =>
      obtain rfl := ha rfl rfl
      have := run_append_owned_none (P := Tryd.prog) (w := W) B 25 ty 23 i0 3 Tryd.underlying25 hi v M.length _ hv
      exact ⟨v, W, this, by simpa using hv, ⟨rfl, rfl, rfl, Nat.le_refl _, fun _ _ _ => rfl⟩⟩
    | some p =>
      obtain ⟨v', W', h1, h2, h3, _⟩ := run_append_own (P := Tryd.prog) W B 25 ty 23 i0 _ 3 32 Tryd.underlying25 hi hz0 hz1 hz2 rfl (by decide) v M.length _ hv p 0 c [] rfl (by simp) (by simp) (by unfold maxLen; omega) (by omega) hB
      exact ⟨v', W', h1, h2, h3⟩
  · obtain ⟨g, off, e, _, hat⟩ := h hn
    refine key g off e fun j u hj => ?_
    obtain ⟨i, hi, hh⟩ := cl_get L j u hj
    obtain ⟨g0, g1, g2⟩ := hat i hi
    rcases hh with ⟨rfl, rfl⟩ | ⟨rfl, rfl⟩ | ⟨rfl, rfl⟩
    · rw [hadd]; exact g0
    · rw [hadd, ← Nat.add_assoc]; exact g1
    · rw [hadd, ← Nat.add_assoc]; exact g2
theorem app2 {W : World} {a1 a2 : Option Addr} {c1 c2 : Nat} {L M : List Fr} (h1 : FrsIn W a1 L) (h2 : FrsIn W a2 M) (e1 : L = [] → a1 = none → c1 = 0) (e2 : M = [] → a2 = none → c2 = 0) (hl : L.length ≤ 500000) (hm : M.length ≤ 500000) (t1 t2 : TypeId) :
    ∃ v1 W1 p c W2, (Builtin.append_ #[25, 25] t1 #[.slice none 0 0, .slice a1 L.length c1]).run Tryd.prog W = .ok v1 W1 ∧ (Builtin.append_ #[25, 25] t2 #[v1, .slice a2 M.length c2]).run Tryd.prog W1 = .ok (.slice p (L ++ M).length c) W2 ∧ FrsIn W2 p (L ++ M) ∧ Keeps [] W W2 := by
  obtain ⟨v1, W1, r1, o1, g1⟩ := app1 (M := []) (World.ownsRow_nil W W.heap.size 23 3) (Nat.le_refl _) h1 e1 (by simp) (by omega) t1
  rw [List.nil_append] at o1
  have k1 : Keeps [] W W1 := (Keeps.refl [] W).grown g1 (fun k hk => by simp [Value.ownBlock] at hk)
  obtain ⟨v2, W2, r2, o2, g2⟩ := app1 o1 k1.size (h2.keeps k1) e2 (by omega) (by omega) t2
  have k2 : Keeps [] W W2 := k1.grown g2 (fun k hk => by
    rcases o1.2 with ⟨rfl, _⟩ | ⟨g, cap, cur, rfl, hb, _⟩
    · simp [Value.ownBlock] at hk
    · obtain rfl : g = k := by simpa [Value.ownBlock] using hk
      exact .inr hb)
  obtain ⟨p, c, rfl, _, hin⟩ := frs_of_row o2
  exact ⟨v1, W1, p, c, W2, r1, r2, hin, k2⟩
theorem row_none {w : World} {B : Nat} {v : Value} {L : List Fr} (h : w.ownsRow B 23 3 v L.length (L.flatMap Fr.cl)) : ∃ a c, v = .slice a L.length c ∧ L.length ≤ c ∧ FrsIn w a L ∧ (L = [] → a = none → c = 0) := by
  obtain ⟨a, c, hv, h1, h2⟩ := frs_of_row h
  refine ⟨a, c, hv, h1, h2, fun _ ha => ?_⟩
  subst ha
  rcases h.2 with ⟨e, _⟩ | ⟨g, cap, cur, e, _⟩
  · rw [hv] at e; injection e
  · rw [hv] at e; injection e with e1; cases e1
theorem allA_len (c : ByteArray) (hc : c.size ≤ 2000) : (allA c).1.length ≤ 2000 := by
  have h2 := items_len c
  unfold allA
  rw [List.length_map]
  omega
set_option maxRecDepth 100000 in
set_option maxHeartbeats 4000000 in
theorem walk_out (s : ByteArray) (hs : s.size ≤ maxLen) (w : World) (e : Nat → Addr) (he : Env w e) (c : ByteArray) (hc : cutS s = c) (hcs : c.size ≤ 2000) (at_ : Int) (hat : at_ < 0 ∨ (c.size : Int) < at_) :
    Calls Tryd.prog 7 #[.string s, .int .i64 at_] w fun e w' => e = .returned (.bool true) ∧ Below w.heap.size w w' := by
  have HE := Lib.hid he
  have HS := Lib.hid hs
  have HC := Lib.hid hc
  have HCS : Hid (c.size ≤ 1000000) := Lib.hid (by omega)
  have HK := Lib.hid (Keeps.refl [] w)
  clear he hs hc
  rcases (show at_ < 0 ∨ (¬ at_ < 0 ∧ (c.size : Int) < at_) by omega) with h1 | ⟨h1, h2⟩
  all_goals
    clear hat hcs
    go_enter Tryd.func7, Tryd.ntmps7
    go_wp2_with (fail)
    refine (wshown_any _ e HE.out).mono ?_
    rintro r w1 ⟨rfl, hk⟩
    have HE := Lib.hid (HE.out.keep hk)
    have HK := Lib.hid (HK.out.trans hk)
    clear hk
    go_wp2_with (fail)
    refine (cut_any s HS.out _).mono ?_
    rintro r w1 ⟨rfl, rfl⟩
    rw [HC.out]
    go_wp2_with (fail)
    go_ret
    exact ⟨rfl, HK.out.below (Nat.le_refl _) (by simp)⟩

set_option maxRecDepth 100000 in
set_option maxHeartbeats 4000000 in
theorem walk_bad (s : ByteArray) (hs : s.size ≤ maxLen) (w : World) (e : Nat → Addr) (he : Env w e) (c : ByteArray) (hc : cutS s = c) (hcs : c.size ≤ 2000) (k : Nat) (hk : k ≤ c.size) (x : ByteArray) (hx : c.extract 0 k = x) (L : List Fr) (a q : Int) (hA : allA c = (L, a, q)) (hB : allA x = (L, a, q)) (hL : L.length ≤ 2000) (hq : (q != 0) = true) :
    Calls Tryd.prog 7 #[.string s, .int .i64 k] w fun e w' => e = .returned (.bool true) ∧ Below w.heap.size w w' := by
  have HE := Lib.hid he
  have HS := Lib.hid hs
  have HC := Lib.hid hc
  have HCS : Hid (c.size ≤ 1000000) := Lib.hid (by omega)
  have HK := Lib.hid (Keeps.refl [] w)
  clear he hs hc
  have h1 : ¬ (k : Int) < 0 := by omega
  have h2 : ¬ (c.size : Int) < (k : Int) := by omega
  have h3 : (k : Int) ≤ (c.size : Int) := by omega
  have h4 : (0 : Int) ≤ (k : Int) := by omega
  have HXS : Hid (x.size ≤ 1000000) := Lib.hid (by rw [← hx, extract_size]; omega)
  have HX := Lib.hid hx
  have HA := Lib.hid hA
  have HB := Lib.hid hB
  have HLL : Hid (L.length ≤ 1000000) := Lib.hid (by omega)
  clear hcs hk hx hA hB hL
  go_enter Tryd.func7, Tryd.ntmps7
  go_wp2_with (fail)
  refine (wshown_any _ e HE.out).mono ?_
  rintro r w1 ⟨rfl, hk⟩
  have HE := Lib.hid (HE.out.keep hk)
  have HK := Lib.hid (HK.out.trans hk)
  clear hk
  go_wp2_with (fail)
  refine (cut_any s HS.out _).mono ?_
  rintro r w1 ⟨rfl, rfl⟩
  rw [HC.out]
  go_wp2_with (fail)
  refine (all_any c HCS.out L a q HA.out _ e HE.out).mono ?_
  rintro r w1 ⟨v1, rfl, hrow, hbel⟩
  obtain ⟨p1, c1, rfl, _, hin, hnn⟩ := row_none hrow
  have hk := Keeps.of_below hbel []
  have HN1 := Lib.hid hnn
  have HI1 := Lib.hid hin
  have HE := Lib.hid (HE.out.keep hk)
  have HK := Lib.hid (HK.out.trans hk)
  clear hk hrow hbel hin hnn
  go_wp2_with (fail)
  try rw [HX.out]
  refine (all_any x HXS.out L a q HB.out _ e HE.out).mono ?_
  rintro r w1 ⟨v2, rfl, hrow, hbel⟩
  obtain ⟨p2, c2, rfl, _, hin, hnn⟩ := row_none hrow
  have hk := Keeps.of_below hbel []
  have HN2 := Lib.hid hnn
  have HI2 := Lib.hid hin
  have HE := Lib.hid (HE.out.keep hk)
  have HK := Lib.hid (HK.out.trans hk)
  have HI1 := Lib.hid (HI1.out.keeps hk)
  clear hk hrow hbel hin hnn
  go_wp2_with (fail)
  refine (same_any p1 p2 c1 c2 L L true (by simp) _ HI1.out HI2.out HLL.out HLL.out).mono ?_
  rintro r w1 ⟨rfl, hk⟩
  have HK := Lib.hid (HK.out.trans hk)
  clear hk
  go_wp2_with (fail)
  go_ret
  exact ⟨rfl, HK.out.below (Nat.le_refl _) (by simp)⟩

set_option maxRecDepth 100000 in
set_option maxHeartbeats 4000000 in
theorem walk_good (s : ByteArray) (hs : s.size ≤ maxLen) (w : World) (e : Nat → Addr) (he : Env w e) (c : ByteArray) (hc : cutS s = c) (hcs : c.size ≤ 2000) (k : Nat) (hk : k ≤ c.size) (x : ByteArray) (hx : c.extract 0 k = x) (L : List Fr) (m : Nat) (hB : allA x = (L, (m : Int), 0)) (hmk : m ≤ k) (y : ByteArray) (hy : c.extract m c.size = y) (M : List Fr) (n g : Int) (hC : allA y = (M, n, g)) (K : List Fr) (hLM : L ++ M = K) (hA : allA c = (K, m + n, g)) (hL : L.length ≤ 2000) (hM : M.length ≤ 2000) (hw : IntKind.i64.wrap ((m : Int) + n) = m + n) :
    Calls Tryd.prog 7 #[.string s, .int .i64 k] w fun e w' => e = .returned (.bool true) ∧ Below w.heap.size w w' := by
  have HE := Lib.hid he
  have HS := Lib.hid hs
  have HC := Lib.hid hc
  have HCS : Hid (c.size ≤ 1000000) := Lib.hid (by omega)
  have HK := Lib.hid (Keeps.refl [] w)
  clear he hs hc
  have h1 : ¬ (k : Int) < 0 := by omega
  have h2 : ¬ (c.size : Int) < (k : Int) := by omega
  have h3 : (k : Int) ≤ (c.size : Int) := by omega
  have h4 : (0 : Int) ≤ (k : Int) := by omega
  have h5 : (m : Int) ≤ (c.size : Int) := by omega
  have h6 : (0 : Int) ≤ (m : Int) := by omega
  have HXS : Hid (x.size ≤ 1000000) := Lib.hid (by rw [← hx, extract_size]; omega)
  have HYS : Hid (y.size ≤ 1000000) := Lib.hid (by rw [← hy, extract_size]; omega)
  have HX := Lib.hid hx
  have HY := Lib.hid hy
  have HA := Lib.hid hA
  have HB := Lib.hid hB
  have HC2 := Lib.hid hC
  have HL := Lib.hid hL
  have HM := Lib.hid hM
  have HLL : Hid (K.length ≤ 1000000) := Lib.hid (by rw [← hLM, List.length_append]; omega)
  have HLM := Lib.hid hLM
  clear hLM hcs hk hmk hx hy hA hB hC hL hM
  go_enter Tryd.func7, Tryd.ntmps7
  go_wp2_with (fail)
  refine (wshown_any _ e HE.out).mono ?_
  rintro r w1 ⟨rfl, hk⟩
  have HE := Lib.hid (HE.out.keep hk)
  have HK := Lib.hid (HK.out.trans hk)
  clear hk
  go_wp2_with (fail)
  refine (cut_any s HS.out _).mono ?_
  rintro r w1 ⟨rfl, rfl⟩
  rw [HC.out]
  go_wp2_with (fail)
  refine (all_any c HCS.out K (m + n) g HA.out _ e HE.out).mono ?_
  rintro r w1 ⟨v1, rfl, hrow, hbel⟩
  obtain ⟨p1, c1, rfl, _, hin, hnn⟩ := row_none hrow
  have hk := Keeps.of_below hbel []
  have HN1 := Lib.hid hnn
  have HI1 := Lib.hid hin
  have HE := Lib.hid (HE.out.keep hk)
  have HK := Lib.hid (HK.out.trans hk)
  clear hk hrow hbel hin hnn
  go_wp2_with (fail)
  try rw [HX.out]
  refine (all_any x HXS.out L m 0 HB.out _ e HE.out).mono ?_
  rintro r w1 ⟨v2, rfl, hrow, hbel⟩
  obtain ⟨p2, c2, rfl, _, hin, hnn⟩ := row_none hrow
  have hk := Keeps.of_below hbel []
  have HN2 := Lib.hid hnn
  have HI2 := Lib.hid hin
  have HE := Lib.hid (HE.out.keep hk)
  have HK := Lib.hid (HK.out.trans hk)
  have HI1 := Lib.hid (HI1.out.keeps hk)
  clear hk hrow hbel hin hnn
  go_wp2_with (fail)
  try rw [HY.out]
  refine (all_any y HYS.out M n g HC2.out _ e HE.out).mono ?_
  rintro r w1 ⟨v3, rfl, hrow, hbel⟩
  obtain ⟨p3, c3, rfl, _, hin, hnn⟩ := row_none hrow
  have hk := Keeps.of_below hbel []
  have HN3 := Lib.hid hnn
  have HI3 := Lib.hid hin
  have HE := Lib.hid (HE.out.keep hk)
  have HK := Lib.hid (HK.out.trans hk)
  have HI1 := Lib.hid (HI1.out.keeps hk)
  have HI2 := Lib.hid (HI2.out.keeps hk)
  clear hk hrow hbel hin hnn
  obtain ⟨u1, W1, p4, c4, W2, hr1, hr2, hin, hk⟩ := app2 HI2.out HI3.out HN2.out HN3.out (by have := HL.out; omega) (by have := HM.out; omega) 25 25
  rw [HLM.out] at hr2 hin
  go_wp2_with (at_builtin; first | refine wpList_append_run _ rfl _ _ 25 rfl rfl rfl hr1 ?_ | refine wpList_append_run _ rfl _ _ 25 rfl rfl rfl hr2 ?_)
  have HI4 := Lib.hid hin
  have HI1 := Lib.hid (HI1.out.keeps hk)
  have HK := Lib.hid (HK.out.trans hk)
  clear hk hin hr1 hr2
  refine (same_any p1 p4 c1 c4 K K true (by simp) _ HI1.out HI4.out HLL.out HLL.out).mono ?_
  rintro r w1 ⟨rfl, hk⟩
  have HK := Lib.hid (HK.out.trans hk)
  clear hk
  go_wp2_with (fail)
  go_ret
  exact ⟨rfl, HK.out.below (Nat.le_refl _) (by simp)⟩

theorem walk (s : ByteArray) (at_ : Int) (hs : s.size ≤ maxLen) (_ : (Lit.int IntKind.i64 at_).wf = true) (w : World) (e : Nat → Addr) (he : Env w e) :
    Calls Tryd.prog 7 #[.string s, .int .i64 at_] w fun e w' => e = .returned (.bool true) ∧ Below w.heap.size w w' := by
  have h1 := cutS_size s
  by_cases hat : at_ < 0 ∨ ((cutS s).size : Int) < at_
  · exact walk_out s hs w e he _ rfl h1 at_ hat
  obtain ⟨k, rfl⟩ : ∃ k : Nat, at_ = k := ⟨at_.toNat, by omega⟩
  have hk : k ≤ (cutS s).size := by omega
  have hxs : ((cutS s).extract 0 k).size ≤ 2000 := by rw [extract_size]; omega
  by_cases hq : (allA ((cutS s).extract 0 k)).2.2 = 0
  · rcases hB : allA ((cutS s).extract 0 k) with ⟨L, m, q⟩
    rw [hB] at hq
    obtain rfl : q = 0 := hq
    obtain ⟨j, rfl, hj, hall⟩ := pieces_good hk hB
    rcases hC : allA ((cutS s).extract j (cutS s).size) with ⟨M, n, g⟩
    have hA := hall M n g hC
    have hys : ((cutS s).extract j (cutS s).size).size ≤ 2000 := by rw [extract_size]; omega
    have e1 := allA_len _ hxs
    have e2 := allA_len _ hys
    rw [hB] at e1
    rw [hC] at e2
    have hn := allA_place hC
    exact walk_good s hs w e he _ rfl h1 k hk _ rfl L j hB hj _ rfl M n g hC _ rfl hA e1 e2 (IntWalk.i64_in _ (by omega))
  · have hp := pieces_bad hk hq
    rcases hB : allA ((cutS s).extract 0 k) with ⟨L, a, q⟩
    rw [hB] at hp hq
    have e1 := allA_len _ hxs
    rw [hB] at e1
    exact walk_bad s hs w e he _ rfl h1 k hk _ rfl L a q hp hB e1 (by simpa using hq)


set_option maxRecDepth 100000 in
theorem lifted (os : Os) (started : os.Started) (H : Type) (enc : TypeId × Value → H) :
    ReturnsInHanded {} Tryd.checked os 7 .any (fun w args => (Rows.wirePiecesSpec.pre enc Tryd.prog Tryd.f7 [] false w args ∧ laidMetH Tryd.prog wlaid w) ∧ sizedMet enc Tryd.prog Tryd.f7 (OpenSpec.ofChange Rows.wirePiecesSpec) false w args)
      (Rows.wirePiecesSpec.post enc Tryd.prog Tryd.f7 false true false false) := by
  refine returnsInHanded_of_change_and (C := Tryd.checked) (X := fun w _ => laidMetH Tryd.prog wlaid w) (fun _ _ _ hh h => h.of_heap hh) own started (by kernel_rfl) Tryd.func7
    (ChangeSpec.witness_shaped (enc := enc) (C := Tryd.checked) (os := os) (X := fun w _ => laidMetH Tryd.prog wlaid w) false (World.doorLaid Tryd.prog 400 os) #[.string ByteArray.empty, .int .i64 0] 8 rfl (World.shaped_of_RefB (by kernel_rfl) (by kernel_rfl)) (by kernel_rfl) (by kernel_rfl) (by kernel_rfl) (door_met os _)) ?_
  intro W base args ds gs before hval0 hW _ _ hL _
  have hval : ∀ (j : Nat) t v, Tryd.f7.params[j]? = some t → args[j]? = some v → Value.okWide Tryd.prog W .any base t v := hval0
  have hW' := hW
  obtain ⟨p, q, hA0, hV, rfl, hfz, hnd⟩ := hW
  have hA : DataW.TrodAll enc Tryd.prog W 0 (fun _ => true) true Tryd.f7.params.toList args.toList ds p := hA0
  rw [Tryd.params7] at hA hval
  obtain ⟨v0, vs0, d0, ds0, p0, q0, hargs, rfl, rfl, h0, r0⟩ := trodAll_cons hA
  obtain ⟨v1, vs1, d1, ds1, p1, q1, rfl, rfl, rfl, h1, r1⟩ := trodAll_cons r0
  obtain ⟨rfl, rfl, rfl⟩ := trodAll_nil r1
  obtain rfl : args = #[v0, v1] := by cases args; simp_all
  obtain ⟨rfl, rfl⟩ := trodVars_none hV
  obtain ⟨a0, rfl, rfl, rfl, w0⟩ := open_string Tryd.underlying9 (hval 0 9 v0 rfl rfl) h0
  obtain ⟨a1, rfl, rfl, rfl, w1⟩ := open_int Tryd.underlying3 (hval 1 3 v1 rfl rfl) h1
  obtain ⟨e, hE⟩ := env_of_laid hL
  refine (walk a0 a1 w0 w1 W e hE).mono fun e W' ⟨he, hb⟩ => ?_
  subst he
  exact ⟨_, rfl, law_post (by kernel_rfl) (by decide +kernel) rfl rfl Tryd.underlying4 hW' hb ⟨rfl, rfl, rfl⟩⟩

theorem over : Rows.wirePiecesRow.holds Tryd.pinned (OpenSpec.ofChange Rows.wirePiecesSpec) :=
  OpenClaim.holds_of_wide 7 Tryd.f7 rfl rfl rfl rfl rfl rfl rfl ⟨rfl, rfl, rfl, rfl, rfl⟩ rfl rfl rfl rfl rfl (by kernel_rfl) Tryd.func7 (by kernel_rfl)
    (of_decide_eq_true (by kernel_rfl)) (by unfold Func.isWrapper; first | (rw [if_pos (by decide +kernel)]; kernel_rfl) | (rw [if_neg (by decide +kernel)]; exact ⟨rfl, rfl⟩))
    (fun os started H enc _ => lifted os started H enc)

theorem proved : Rows.WirePiecesCardSaid :=
  Claim7.holds_tied_plain_at .later [] [.sentinel, .sentinel, .sentinel, .sentinel, .sentinel] true (true, "998b37b86f346886364dd286543734421a9732a2b7459e040ada6a4648f163c4") true
    over (fun _ h => by cases h) (by kernel_rfl) (fun _ h => by cases h) wirePieces_row_tie rfl ⟨rfl, rfl⟩ (by kernel_rfl) rfl
    (fun f fn hf hfn => by
      obtain rfl : f = 7 := Option.some.inj ((show Tryd.prog.funcNamed "wicketgate/wicketgatelaw03.WirePieces" = some 7 by kernel_rfl).symm.trans hf) |>.symm
      obtain rfl : fn = Tryd.f7 := (Option.some.inj (Tryd.func7.symm.trans hfn)).symm
      exact ⟨by kernel_rfl, fun j t ht => by
        rw [Tryd.params7] at ht
        have hm : t ∈ [9, 3] := by simpa using Array.mem_of_getElem? ht
        have hall : ([9, 3].all fun u => !Tryd.prog.wantsStandIn u) = true := by kernel_rfl
        exact (show Tryd.prog.wantsStandIn t = false by simpa using List.all_eq_true.1 hall t hm)⟩)
    (by kernel_rfl)

end wirePieces
end Go.Proofs.YtfedhhndkeakhaaDoor
