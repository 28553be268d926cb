/- WireSizes: a frame's bytes: for every frame. No condition beyond the card's. -/
import Derived.Test.YtfedhhndkeakhaaDoorWireF
import Derived.Test.YtfedhhndkeakhaaDoorWireG
namespace Go.Proofs.YtfedhhndkeakhaaDoor
open Go.RowKit Go.Shelf

namespace wireSizes
open Go.ChangeShapes Go.WideShapes Go.ChangeAt
open Go.ChangeMaps (open_string)
attribute [local go_sem ↓] Go.wp_at_zero Go.wp_at_succ

set_option maxRecDepth 100000 in
set_option maxHeartbeats 4000000 in
theorem walk_bad (k st : Int) (d d' : ByteArray) (hx : d.size ≤ maxLen) (hcut : d.extract 0 (min d.size 513) = d') (hdd : d'.size ≤ maxLen)
    (hR : rightF ⟨k, st, d'⟩ = false)
    (w : World) (e : Nat → Addr) (he : Env w e) :
    Calls Tryd.prog 9 #[.agg #[.int .i64 k, .int .i64 st, .string d]] w fun e w' => e = .returned (.bool true) ∧ Below w.heap.size w w' := by
  have HR := Lib.hid hR
  have HA : Hid (encA ⟨k, st, d'⟩ = (⟨#[]⟩, 33)) := Lib.hid (encA_bad hR)
  clear hR
  have HX := Lib.hid hx
  have HCUT := Lib.hid hcut
  have HDD := Lib.hid hdd
  have HE0 := Lib.hid he
  have HB := Lib.hid (Blk.new w 23 (Fr.mk k st d).cells)
  have HK := Lib.hid ((Keeps.refl [] w).alloc (.cells (Fr.mk k st d).cells 23))
  clear hx hcut hdd he
  go_enter Tryd.func9, Tryd.ntmps9
  go_wp2_with (fail)
  refine (wshown_any _ e (HE0.out.keep HK.out)).mono ?_
  rintro r w1 ⟨rfl, hk⟩
  have HB := Lib.hid (HB.out.keeps hk (by simp))
  have HK := Lib.hid (HK.out.trans hk)
  clear hk
  obtain ⟨c0, c1, c2⟩ := fr_res (f := ⟨k, st, d⟩) HB.out
  go_wp2_with (fail)
  refine (cut1_any k st d d' HX.out HCUT.out _).mono ?_
  rintro r w1 ⟨g, off, cp, rfl, hc1, x0, x1, x2, hk⟩
  clear c0 c1 c2
  have HB := Lib.hid (HB.out.keeps hk (by simp))
  have HK := Lib.hid (HK.out.trans hk)
  clear hk
  obtain ⟨c0, c1, c2⟩ := fr_res (f := ⟨k, st, d⟩) HB.out
  have hfz := fun i => HB.out.frozen i
  dsimp only at c0 c1 c2
  go_wp2_with (fail)
  have HB := Lib.hid (blk_set3 HB.out (.int .i64 k) (.int .i64 st) (.string d'))
  have HK := Lib.hid (keeps_set3 HK.out (Nat.le_refl _) (.int .i64 k) (.int .i64 st) (.string d'))
  clear c0 c1 c2 x0 x1 x2 hfz
  obtain ⟨c0, c1, c2⟩ := fr_res (f := ⟨k, st, d'⟩) HB.out
  dsimp only at c0 c1 c2
  refine (encode_any ⟨k, st, d'⟩ HDD.out ⟨#[]⟩ 33 HA.out _ e (HE0.out.keep HK.out)).mono ?_
  rintro r w1 ⟨rfl, hk⟩
  have HB := Lib.hid (HB.out.keeps hk (by simp))
  have HK := Lib.hid (HK.out.trans hk)
  clear hk
  clear c0 c1 c2
  obtain ⟨c0, c1, c2⟩ := fr_res (f := ⟨k, st, d'⟩) HB.out
  dsimp only at c0 c1 c2
  go_wp2_with (fail)
  refine (right_any ⟨k, st, d'⟩ HDD.out false HR.out _).mono ?_
  rintro r w1 ⟨rfl, hk⟩
  have HK := Lib.hid (HK.out.trans hk)
  clear hk
  go_wp2_with (fail)
  go_ret
  exact ⟨rfl, HK.out.below (Nat.le_refl _) (by simp)⟩

set_option maxRecDepth 100000 in
set_option maxHeartbeats 4000000 in
theorem walk_good (k st : Int) (d d' : ByteArray) (hx : d.size ≤ maxLen) (hcut : d.extract 0 (min d.size 513) = d') (hdd : d'.size ≤ maxLen)
    (hR : rightF ⟨k, st, d'⟩ = true) (a : ByteArray) (hA : encA ⟨k, st, d'⟩ = (a, 0))
    (w : World) (e : Nat → Addr) (he : Env w e) :
    Calls Tryd.prog 9 #[.agg #[.int .i64 k, .int .i64 st, .string d]] w fun e w' => e = .returned (.bool true) ∧ Below w.heap.size w w' := by
  have hsz : a.size = 5 + d'.size := by have := encA_size hR; rw [hA] at this; exact this
  have hbd := right_bd hR
  dsimp only at hbd
  obtain ⟨k0, a0, b0, y0, z0, hl, hk0, hs0, hn0⟩ := enc_ls hR
  rw [hA] at hl
  dsimp only at hl hk0 hs0 hn0
  obtain ⟨g1, g2, g3, g4, g5⟩ := head5 hl
  have hp : 0 < a.size := by omega
  have hb := byte0_eq a hp
  have hz1 : ((a.size : Int) != 5 + (d'.size : Int)) = false := by rw [hsz]; simp
  have hz2 : (5 : Int) ≤ (a.size : Int) := by omega
  have hq1 : (3 : Int) ≤ (a.size : Int) := by omega
  have hz3 : (a.size : Int) ≤ 1000 := by omega
  have hz4 : (d'.size : Int) ≤ 512 := by omega
  have hk1 : ((a[0]'hp).toNat : Int) = k := by rw [hb, g1, hk0]
  have hkw : IntKind.i64.wrap k = k := IntWalk.i64_in _ (by omega)
  have hzw : IntKind.i64.wrap (5 + (d'.size : Int)) = 5 + (d'.size : Int) := IntWalk.i64_in _ (by omega)
  obtain ⟨y1, hy1⟩ : ∃ y1, a.extract 1 3 = y1 := ⟨_, rfl⟩
  obtain ⟨y2, hy2⟩ : ∃ y2, a.extract 3 5 = y2 := ⟨_, rfl⟩
  have HN1 : Hid (num2 y1 = st) := Lib.hid (by rw [← hy1, g2, hs0])
  have HN2 : Hid (num2 y2 = d'.size) := Lib.hid (by rw [← hy2, ← hn0]; exact g3)
  have HS1 : Hid (y1.size ≤ maxLen) := Lib.hid (by rw [← hy1, extract_size]; unfold maxLen; omega)
  have HS2 : Hid (y2.size ≤ maxLen) := Lib.hid (by rw [← hy2, extract_size]; unfold maxLen; omega)
  have hd5 : a.extract 5 a.size = d' := ls_ext (by have := g5 d'.size; rw [← hsz, List.take_of_length_le (Nat.le_of_eq (ls_size d').symm)] at this; exact this)
  have HA := Lib.hid hA
  clear hR hA hsz hbd hl hk0 hs0 hn0 g1 g2 g3 g4 g5 hb k0 a0 b0 y0 z0
  have HX := Lib.hid hx
  have HCUT := Lib.hid hcut
  have HDD := Lib.hid hdd
  have HE0 := Lib.hid he
  have HB := Lib.hid (Blk.new w 23 (Fr.mk k st d).cells)
  have HK := Lib.hid ((Keeps.refl [] w).alloc (.cells (Fr.mk k st d).cells 23))
  clear hx hcut hdd he
  go_enter Tryd.func9, Tryd.ntmps9
  go_wp2_with (fail)
  refine (wshown_any _ e (HE0.out.keep HK.out)).mono ?_
  rintro r w1 ⟨rfl, hk⟩
  have HB := Lib.hid (HB.out.keeps hk (by simp))
  have HK := Lib.hid (HK.out.trans hk)
  clear hk
  obtain ⟨c0, c1, c2⟩ := fr_res (f := ⟨k, st, d⟩) HB.out
  go_wp2_with (fail)
  refine (cut1_any k st d d' HX.out HCUT.out _).mono ?_
  rintro r w1 ⟨g, off, cp, rfl, hc1, x0, x1, x2, hk⟩
  clear c0 c1 c2
  have HB := Lib.hid (HB.out.keeps hk (by simp))
  have HK := Lib.hid (HK.out.trans hk)
  clear hk
  obtain ⟨c0, c1, c2⟩ := fr_res (f := ⟨k, st, d⟩) HB.out
  have hfz := fun i => HB.out.frozen i
  dsimp only at c0 c1 c2
  go_wp2_with (fail)
  have HB := Lib.hid (blk_set3 HB.out (.int .i64 k) (.int .i64 st) (.string d'))
  have HK := Lib.hid (keeps_set3 HK.out (Nat.le_refl _) (.int .i64 k) (.int .i64 st) (.string d'))
  clear c0 c1 c2 x0 x1 x2 hfz
  obtain ⟨c0, c1, c2⟩ := fr_res (f := ⟨k, st, d'⟩) HB.out
  dsimp only at c0 c1 c2
  refine (encode_any ⟨k, st, d'⟩ HDD.out a 0 HA.out _ e (HE0.out.keep HK.out)).mono ?_
  rintro r w1 ⟨rfl, hk⟩
  have HB := Lib.hid (HB.out.keeps hk (by simp))
  have HK := Lib.hid (HK.out.trans hk)
  clear hk
  clear c0 c1 c2
  obtain ⟨c0, c1, c2⟩ := fr_res (f := ⟨k, st, d'⟩) HB.out
  dsimp only at c0 c1 c2
  go_wp2_with (fail)
  refine wp_region_held_drew (S := (fun w' : World => Keeps [] w w' ∧ w'.cell? ⟨w.heap.size, 0, none⟩ = some (.int .i64 k) ∧ w'.cell? ⟨w.heap.size, 1, none⟩ = some (.int .i64 st) ∧ w'.cell? ⟨w.heap.size, 2, none⟩ = some (.string d'))) (by kernel_rfl) ?_ (fun hHeld => ?_)
  · (try dsimp only); (first | exact held3 hk (by assumption) | exact ⟨HK.out.drew, c0, c1, c2⟩ | assumption)
  refine wpAnyH_take (i := 0) (oi := { dst := some 36, op := Op.move (Operand.tmp 3), type := 4, pos := "law.go:142", after := #[], guard := none }) (v := ?_) rfl (by kernel_rfl) (by kernel_rfl) (by kernel_rfl) (fun _ _ _ h => h) (Or.inl ⟨by rfl, ?_⟩) (by assumption) ?_
  rotate_left; · ((intro w hSw; (try dsimp only at hSw); go_simp); try with_reducible rfl)
  try simp only [Act.put, List.setIfInBounds_toArray, List.set_cons_zero, List.set_cons_succ]
  refine wpAnyH_take (i := 1) (oi := { dst := some 37, op := Op.move (Operand.tmp 36), type := 4, pos := "law.go:142", after := #[{ on := 0, ground := Ground.data }], guard := none }) (v := ?_) rfl (by kernel_rfl) (by kernel_rfl) (by kernel_rfl) (fun _ _ _ h => h) (Or.inl ⟨by rfl, ?_⟩) (by assumption) ?_
  rotate_left; · ((intro w hSw; (try dsimp only at hSw); go_simp); try with_reducible rfl)
  try simp only [Act.put, List.setIfInBounds_toArray, List.set_cons_zero, List.set_cons_succ]
  refine wpAnyH_take (i := 2) (oi := { dst := some 38, op := Op.move (Operand.tmp 4), type := 9, pos := "law.go:142", after := #[{ on := 1, ground := Ground.guard }], guard := some (1, true) }) (v := ?_) rfl (by kernel_rfl) (by kernel_rfl) (by kernel_rfl) (fun _ _ _ h => h) (Or.inl ⟨by rfl, ?_⟩) (by assumption) ?_
  rotate_left; · ((intro w hSw; (try dsimp only at hSw); go_simp); try with_reducible rfl)
  try simp only [Act.put, List.setIfInBounds_toArray, List.set_cons_zero, List.set_cons_succ]
  refine wpAnyH_take (i := 3) (oi := { dst := some 39, op := Op.index 9 (Operand.tmp 38) (Operand.const (Value.int IntKind.i64 0)), type := 5, pos := "law.go:142", after := #[{ on := 2, ground := Ground.data }, { on := 1, ground := Ground.guard }], guard := some (1, true) }) (v := ?_) rfl (by kernel_rfl) (by kernel_rfl) (by kernel_rfl) (fun _ _ _ h => h) (Or.inl ⟨by rfl, ?_⟩) (by assumption) ?_
  rotate_left; · ((intro w hSw; (try dsimp only at hSw); go_simp); try with_reducible rfl)
  try simp only [Act.put, List.setIfInBounds_toArray, List.set_cons_zero, List.set_cons_succ]
  refine wpAnyH_take (i := 4) (oi := { dst := some 40, op := Op.convert 5 3 (Operand.tmp 39), type := 3, pos := "law.go:142", after := #[{ on := 3, ground := Ground.data }, { on := 1, ground := Ground.guard }], guard := some (1, true) }) (v := ?_) rfl (by kernel_rfl) (by kernel_rfl) (by kernel_rfl) (fun _ _ _ h => h) (Or.inl ⟨by rfl, ?_⟩) (by assumption) ?_
  rotate_left; · ((intro w hSw; (try dsimp only at hSw); go_simp); try with_reducible rfl)
  try simp only [Act.put, List.setIfInBounds_toArray, List.set_cons_zero, List.set_cons_succ]
  refine wpAnyH_take (i := 5) (oi := { dst := some 41, op := Op.fieldAddr 23 (Operand.tmp 1) 0, type := 0, pos := "law.go:142", after := #[{ on := 1, ground := Ground.guard }], guard := some (1, true) }) (v := ?_) rfl (by kernel_rfl) (by kernel_rfl) (by kernel_rfl) (fun _ _ _ h => h) (Or.inl ⟨by rfl, ?_⟩) (by assumption) ?_
  rotate_left; · ((intro w hSw; (try dsimp only at hSw); go_simp); try with_reducible rfl)
  try simp only [Act.put, List.setIfInBounds_toArray, List.set_cons_zero, List.set_cons_succ]
  refine wpAnyH_take (i := 6) (oi := { dst := some 42, op := Op.load 3 (Operand.tmp 41), type := 3, pos := "law.go:142", after := #[{ on := 5, ground := Ground.data }, { on := 1, ground := Ground.guard }], guard := some (1, true) }) (v := ?_) rfl (by kernel_rfl) (by kernel_rfl) (by kernel_rfl) (fun _ _ _ h => h) (Or.inl ⟨by rfl, ?_⟩) (by assumption) ?_
  rotate_left; · ((intro w hSw; (try dsimp only at hSw); go_simp); try with_reducible rfl)
  try simp only [Act.put, List.setIfInBounds_toArray, List.set_cons_zero, List.set_cons_succ]
  refine wpAnyH_take (i := 7) (oi := { dst := some 43, op := Op.binOp BinOp.eql 3 (Operand.tmp 40) (Operand.tmp 42) 3, type := 4, pos := "law.go:142", after := #[{ on := 4, ground := Ground.data }, { on := 6, ground := Ground.data }, { on := 1, ground := Ground.guard }], guard := some (1, true) }) (v := ?_) rfl (by kernel_rfl) (by kernel_rfl) (by kernel_rfl) (fun _ _ _ h => h) (Or.inl ⟨by rfl, ?_⟩) (by assumption) ?_
  rotate_left; · ((intro w hSw; (try dsimp only at hSw); go_simp); try with_reducible rfl)
  try simp only [Act.put, List.setIfInBounds_toArray, List.set_cons_zero, List.set_cons_succ]
  refine wpAnyH_take (i := 8) (oi := { dst := some 44, op := Op.pick (Operand.tmp 37) (Operand.tmp 43) (Operand.const (Value.bool false)), type := 4, pos := "law.go:142", after := #[{ on := 1, ground := Ground.data }, { on := 7, ground := Ground.data }], guard := none }) (v := ?_) rfl (by kernel_rfl) (by kernel_rfl) (by kernel_rfl) (fun _ _ _ h => h) (Or.inl ⟨by rfl, ?_⟩) (by assumption) ?_
  rotate_left; · ((intro w hSw; (try dsimp only at hSw); go_simp); try with_reducible rfl)
  try simp only [Act.put, List.setIfInBounds_toArray, List.set_cons_zero, List.set_cons_succ]
  refine wpAnyH_take (i := 9) (oi := { dst := some 45, op := Op.move (Operand.tmp 44), type := 4, pos := "law.go:142", after := #[{ on := 8, ground := Ground.data }, { on := 1, ground := Ground.chain }], guard := none }) (v := ?_) rfl (by kernel_rfl) (by kernel_rfl) (by kernel_rfl) (fun _ _ _ h => h) (Or.inl ⟨by rfl, ?_⟩) (by assumption) ?_
  rotate_left; · ((intro w hSw; (try dsimp only at hSw); go_simp); try with_reducible rfl)
  try simp only [Act.put, List.setIfInBounds_toArray, List.set_cons_zero, List.set_cons_succ]
  refine wpAnyH_take (i := 10) (oi := { dst := some 46, op := Op.move (Operand.tmp 4), type := 9, pos := "law.go:142", after := #[{ on := 9, ground := Ground.guard }], guard := some (9, true) }) (v := ?_) rfl (by kernel_rfl) (by kernel_rfl) (by kernel_rfl) (fun _ _ _ h => h) (Or.inl ⟨by rfl, ?_⟩) (by assumption) ?_
  rotate_left; · ((intro w hSw; (try dsimp only at hSw); go_simp); try with_reducible rfl)
  try simp only [Act.put, List.setIfInBounds_toArray, List.set_cons_zero, List.set_cons_succ]
  refine wpAnyH_take (i := 11) (oi := { dst := some 47, op := Op.slice 9 (Operand.tmp 46) (some (Operand.const (Value.int IntKind.i64 1))) (some (Operand.const (Value.int IntKind.i64 3))) none, type := 9, pos := "law.go:142", after := #[{ on := 10, ground := Ground.data }, { on := 9, ground := Ground.guard }], guard := some (9, true) }) (v := ?_) rfl (by kernel_rfl) (by kernel_rfl) (by kernel_rfl) (fun _ _ _ h => h) (Or.inl ⟨by rfl, ?_⟩) (by assumption) ?_
  rotate_left; · ((intro w hSw; (try dsimp only at hSw); go_simp); try with_reducible rfl)
  try simp only [Act.put, List.setIfInBounds_toArray, List.set_cons_zero, List.set_cons_succ]
  refine wpAnyH_take (i := 13) (oi := { dst := some 49, op := Op.fieldAddr 23 (Operand.tmp 1) 1, type := 0, pos := "law.go:142", after := #[{ on := 9, ground := Ground.guard }], guard := some (9, true) }) (v := ?_) rfl (by kernel_rfl) (by kernel_rfl) (by kernel_rfl) (fun _ _ _ h => h) (Or.inl ⟨by rfl, ?_⟩) (by assumption) ?_
  rotate_left; · ((intro w hSw; (try dsimp only at hSw); go_simp); try with_reducible rfl)
  try simp only [Act.put, List.setIfInBounds_toArray, List.set_cons_zero, List.set_cons_succ]
  refine wpAnyH_take (i := 14) (oi := { dst := some 50, op := Op.load 3 (Operand.tmp 49), type := 3, pos := "law.go:142", after := #[{ on := 13, ground := Ground.data }, { on := 9, ground := Ground.guard }], guard := some (9, true) }) (v := ?_) rfl (by kernel_rfl) (by kernel_rfl) (by kernel_rfl) (fun _ _ _ h => h) (Or.inl ⟨by rfl, ?_⟩) (by assumption) ?_
  rotate_left; · ((intro w hSw; (try dsimp only at hSw); go_simp); try with_reducible rfl)
  try simp only [Act.put, List.setIfInBounds_toArray, List.set_cons_zero, List.set_cons_succ]
  refine wpAnyH_ready (rs := [12]) (by kernel_rfl) (by simp) ?_
  refine AllReadyH.cons rfl (fun K hK => ?_) ?_
  · go_simp
    (first | (with_reducible refine (number_eq y1 HS1.out st HN1.out _).mono ?_; rintro e w' ⟨rfl, hk⟩) | (with_reducible refine (number_eq y2 HS2.out d'.size HN2.out _).mono ?_; rintro e w' ⟨rfl, hk⟩))
    refine hK.out _ _ ?_ (fun hHeld => ?_)
    · (try dsimp only); (first | exact held3 hk (by assumption) | exact ⟨HK.out.drew, c0, c1, c2⟩ | assumption)
    clear hK K
    try simp only [Act.put, List.setIfInBounds_toArray, List.set_cons_zero, List.set_cons_succ]
    refine wpAnyH_take (i := 15) (oi := { dst := some 51, op := Op.binOp BinOp.eql 3 (Operand.tmp 48) (Operand.tmp 50) 3, type := 4, pos := "law.go:142", after := #[{ on := 12, ground := Ground.data }, { on := 14, ground := Ground.data }, { on := 9, ground := Ground.guard }], guard := some (9, true) }) (v := ?_) rfl (by kernel_rfl) (by kernel_rfl) (by kernel_rfl) (fun _ _ _ h => h) (Or.inl ⟨by rfl, ?_⟩) (by assumption) ?_
    rotate_left; · ((intro w hSw; (try dsimp only at hSw); go_simp); try with_reducible rfl)
    try simp only [Act.put, List.setIfInBounds_toArray, List.set_cons_zero, List.set_cons_succ]
    refine wpAnyH_take (i := 16) (oi := { dst := some 52, op := Op.pick (Operand.tmp 45) (Operand.tmp 51) (Operand.const (Value.bool false)), type := 4, pos := "law.go:142", after := #[{ on := 9, ground := Ground.data }, { on := 15, ground := Ground.data }], guard := none }) (v := ?_) rfl (by kernel_rfl) (by kernel_rfl) (by kernel_rfl) (fun _ _ _ h => h) (Or.inl ⟨by rfl, ?_⟩) (by assumption) ?_
    rotate_left; · ((intro w hSw; (try dsimp only at hSw); go_simp); try with_reducible rfl)
    try simp only [Act.put, List.setIfInBounds_toArray, List.set_cons_zero, List.set_cons_succ]
    refine wpAnyH_take (i := 17) (oi := { dst := some 53, op := Op.move (Operand.tmp 52), type := 4, pos := "law.go:142", after := #[{ on := 16, ground := Ground.data }, { on := 12, ground := Ground.chain }], guard := none }) (v := ?_) rfl (by kernel_rfl) (by kernel_rfl) (by kernel_rfl) (fun _ _ _ h => h) (Or.inl ⟨by rfl, ?_⟩) (by assumption) ?_
    rotate_left; · ((intro w hSw; (try dsimp only at hSw); go_simp); try with_reducible rfl)
    try simp only [Act.put, List.setIfInBounds_toArray, List.set_cons_zero, List.set_cons_succ]
    refine wpAnyH_take (i := 18) (oi := { dst := some 54, op := Op.move (Operand.tmp 4), type := 9, pos := "law.go:142", after := #[{ on := 17, ground := Ground.guard }], guard := some (17, true) }) (v := ?_) rfl (by kernel_rfl) (by kernel_rfl) (by kernel_rfl) (fun _ _ _ h => h) (Or.inl ⟨by rfl, ?_⟩) (by assumption) ?_
    rotate_left; · ((intro w hSw; (try dsimp only at hSw); go_simp); try with_reducible rfl)
    try simp only [Act.put, List.setIfInBounds_toArray, List.set_cons_zero, List.set_cons_succ]
    refine wpAnyH_take (i := 19) (oi := { dst := some 55, op := Op.slice 9 (Operand.tmp 54) (some (Operand.const (Value.int IntKind.i64 3))) (some (Operand.const (Value.int IntKind.i64 5))) none, type := 9, pos := "law.go:142", after := #[{ on := 18, ground := Ground.data }, { on := 17, ground := Ground.guard }], guard := some (17, true) }) (v := ?_) rfl (by kernel_rfl) (by kernel_rfl) (by kernel_rfl) (fun _ _ _ h => h) (Or.inl ⟨by rfl, ?_⟩) (by assumption) ?_
    rotate_left; · ((intro w hSw; (try dsimp only at hSw); go_simp); try with_reducible rfl)
    try simp only [Act.put, List.setIfInBounds_toArray, List.set_cons_zero, List.set_cons_succ]
    refine wpAnyH_take (i := 21) (oi := { dst := some 57, op := Op.fieldAddr 23 (Operand.tmp 1) 2, type := 0, pos := "law.go:142", after := #[{ on := 17, ground := Ground.guard }], guard := some (17, true) }) (v := ?_) rfl (by kernel_rfl) (by kernel_rfl) (by kernel_rfl) (fun _ _ _ h => h) (Or.inl ⟨by rfl, ?_⟩) (by assumption) ?_
    rotate_left; · ((intro w hSw; (try dsimp only at hSw); go_simp); try with_reducible rfl)
    try simp only [Act.put, List.setIfInBounds_toArray, List.set_cons_zero, List.set_cons_succ]
    refine wpAnyH_take (i := 22) (oi := { dst := some 58, op := Op.load 9 (Operand.tmp 57), type := 9, pos := "law.go:142", after := #[{ on := 21, ground := Ground.data }, { on := 17, ground := Ground.guard }], guard := some (17, true) }) (v := ?_) rfl (by kernel_rfl) (by kernel_rfl) (by kernel_rfl) (fun _ _ _ h => h) (Or.inl ⟨by rfl, ?_⟩) (by assumption) ?_
    rotate_left; · ((intro w hSw; (try dsimp only at hSw); go_simp); try with_reducible rfl)
    try simp only [Act.put, List.setIfInBounds_toArray, List.set_cons_zero, List.set_cons_succ]
    refine wpAnyH_take (i := 23) (oi := { dst := some 59, op := Op.call { callee := Callee.builtin Builtin.len, args := #[Operand.tmp 58], argTypes := #[9] }, type := 3, pos := "law.go:142", after := #[{ on := 22, ground := Ground.data }, { on := 17, ground := Ground.guard }], guard := some (17, true) }) (v := ?_) rfl (by kernel_rfl) (by kernel_rfl) (by kernel_rfl) (fun _ _ _ h => h) (Or.inl ⟨by rfl, ?_⟩) (by assumption) ?_
    rotate_left; · ((intro w hSw; (try dsimp only at hSw); go_simp); try with_reducible rfl)
    try simp only [Act.put, List.setIfInBounds_toArray, List.set_cons_zero, List.set_cons_succ]
    refine wpAnyH_ready (rs := [20]) (by kernel_rfl) (by simp) ?_
    refine AllReadyH.cons rfl (fun K hK => ?_) ?_
    · go_simp
      (first | (with_reducible refine (number_eq y1 HS1.out st HN1.out _).mono ?_; rintro e w' ⟨rfl, hk⟩) | (with_reducible refine (number_eq y2 HS2.out d'.size HN2.out _).mono ?_; rintro e w' ⟨rfl, hk⟩))
      refine hK.out _ _ ?_ (fun hHeld => ?_)
      · (try dsimp only); (first | exact held3 hk (by assumption) | exact ⟨HK.out.drew, c0, c1, c2⟩ | assumption)
      clear hK K
      try simp only [Act.put, List.setIfInBounds_toArray, List.set_cons_zero, List.set_cons_succ]
      refine wpAnyH_take (i := 24) (oi := { dst := some 60, op := Op.binOp BinOp.eql 3 (Operand.tmp 56) (Operand.tmp 59) 3, type := 4, pos := "law.go:142", after := #[{ on := 20, ground := Ground.data }, { on := 23, ground := Ground.data }, { on := 17, ground := Ground.guard }], guard := some (17, true) }) (v := ?_) rfl (by kernel_rfl) (by kernel_rfl) (by kernel_rfl) (fun _ _ _ h => h) (Or.inl ⟨by rfl, ?_⟩) (by assumption) ?_
      rotate_left; · ((intro w hSw; (try dsimp only at hSw); go_simp); try with_reducible rfl)
      try simp only [Act.put, List.setIfInBounds_toArray, List.set_cons_zero, List.set_cons_succ]
      refine wpAnyH_take (i := 25) (oi := { dst := some 61, op := Op.pick (Operand.tmp 53) (Operand.tmp 60) (Operand.const (Value.bool false)), type := 4, pos := "law.go:142", after := #[{ on := 17, ground := Ground.data }, { on := 24, ground := Ground.data }], guard := none }) (v := ?_) rfl (by kernel_rfl) (by kernel_rfl) (by kernel_rfl) (fun _ _ _ h => h) (Or.inl ⟨by rfl, ?_⟩) (by assumption) ?_
      rotate_left; · ((intro w hSw; (try dsimp only at hSw); go_simp); try with_reducible rfl)
      try simp only [Act.put, List.setIfInBounds_toArray, List.set_cons_zero, List.set_cons_succ]
      refine wpAnyH_take (i := 26) (oi := { dst := some 62, op := Op.move (Operand.tmp 61), type := 4, pos := "law.go:142", after := #[{ on := 25, ground := Ground.data }, { on := 20, ground := Ground.chain }], guard := none }) (v := ?_) rfl (by kernel_rfl) (by kernel_rfl) (by kernel_rfl) (fun _ _ _ h => h) (Or.inl ⟨by rfl, ?_⟩) (by assumption) ?_
      rotate_left; · ((intro w hSw; (try dsimp only at hSw); go_simp); try with_reducible rfl)
      try simp only [Act.put, List.setIfInBounds_toArray, List.set_cons_zero, List.set_cons_succ]
      refine wpAnyH_take (i := 27) (oi := { dst := some 63, op := Op.move (Operand.tmp 4), type := 9, pos := "law.go:142", after := #[{ on := 26, ground := Ground.guard }], guard := some (26, true) }) (v := ?_) rfl (by kernel_rfl) (by kernel_rfl) (by kernel_rfl) (fun _ _ _ h => h) (Or.inl ⟨by rfl, ?_⟩) (by assumption) ?_
      rotate_left; · ((intro w hSw; (try dsimp only at hSw); go_simp); try with_reducible rfl)
      try simp only [Act.put, List.setIfInBounds_toArray, List.set_cons_zero, List.set_cons_succ]
      refine wpAnyH_take (i := 28) (oi := { dst := some 64, op := Op.slice 9 (Operand.tmp 63) (some (Operand.const (Value.int IntKind.i64 5))) none none, type := 9, pos := "law.go:142", after := #[{ on := 27, ground := Ground.data }, { on := 26, ground := Ground.guard }], guard := some (26, true) }) (v := ?_) rfl (by kernel_rfl) (by kernel_rfl) (by kernel_rfl) (fun _ _ _ h => h) (Or.inl ⟨by rfl, ?_⟩) (by assumption) ?_
      rotate_left; · ((intro w hSw; (try dsimp only at hSw); go_simp); try with_reducible rfl)
      try simp only [Act.put, List.setIfInBounds_toArray, List.set_cons_zero, List.set_cons_succ]
      refine wpAnyH_take (i := 29) (oi := { dst := some 65, op := Op.fieldAddr 23 (Operand.tmp 1) 2, type := 0, pos := "law.go:142", after := #[{ on := 26, ground := Ground.guard }], guard := some (26, true) }) (v := ?_) rfl (by kernel_rfl) (by kernel_rfl) (by kernel_rfl) (fun _ _ _ h => h) (Or.inl ⟨by rfl, ?_⟩) (by assumption) ?_
      rotate_left; · ((intro w hSw; (try dsimp only at hSw); go_simp); try with_reducible rfl)
      try simp only [Act.put, List.setIfInBounds_toArray, List.set_cons_zero, List.set_cons_succ]
      refine wpAnyH_take (i := 30) (oi := { dst := some 66, op := Op.load 9 (Operand.tmp 65), type := 9, pos := "law.go:142", after := #[{ on := 29, ground := Ground.data }, { on := 26, ground := Ground.guard }], guard := some (26, true) }) (v := ?_) rfl (by kernel_rfl) (by kernel_rfl) (by kernel_rfl) (fun _ _ _ h => h) (Or.inl ⟨by rfl, ?_⟩) (by assumption) ?_
      rotate_left; · ((intro w hSw; (try dsimp only at hSw); go_simp); try with_reducible rfl)
      try simp only [Act.put, List.setIfInBounds_toArray, List.set_cons_zero, List.set_cons_succ]
      refine wpAnyH_take (i := 31) (oi := { dst := some 67, op := Op.binOp BinOp.eql 9 (Operand.tmp 64) (Operand.tmp 66) 9, type := 4, pos := "law.go:142", after := #[{ on := 28, ground := Ground.data }, { on := 30, ground := Ground.data }, { on := 26, ground := Ground.guard }], guard := some (26, true) }) (v := ?_) rfl (by kernel_rfl) (by kernel_rfl) (by kernel_rfl) (fun _ _ _ h => h) (Or.inl ⟨by rfl, ?_⟩) (by assumption) ?_
      rotate_left; · ((intro w hSw; (try dsimp only at hSw); go_simp); try with_reducible rfl)
      try simp only [Act.put, List.setIfInBounds_toArray, List.set_cons_zero, List.set_cons_succ]
      refine wpAnyH_take (i := 32) (oi := { dst := some 68, op := Op.pick (Operand.tmp 62) (Operand.tmp 67) (Operand.const (Value.bool false)), type := 4, pos := "law.go:142", after := #[{ on := 26, ground := Ground.data }, { on := 31, ground := Ground.data }], guard := none }) (v := ?_) rfl (by kernel_rfl) (by kernel_rfl) (by kernel_rfl) (fun _ _ _ h => h) (Or.inl ⟨by rfl, ?_⟩) (by assumption) ?_
      rotate_left; · ((intro w hSw; (try dsimp only at hSw); go_simp); try with_reducible rfl)
      try simp only [Act.put, List.setIfInBounds_toArray, List.set_cons_zero, List.set_cons_succ]
      refine wpAnyH_take (i := 33) (oi := { dst := some 2, op := Op.assign (Operand.tmp 68), type := 4, pos := "law.go:142", after := #[{ on := 32, ground := Ground.data }, { on := 26, ground := Ground.chain }, { on := 0, ground := Ground.phase }, { on := 1, ground := Ground.phase }, { on := 2, ground := Ground.phase }, { on := 3, ground := Ground.phase }, { on := 4, ground := Ground.phase }, { on := 5, ground := Ground.phase }, { on := 6, ground := Ground.phase }, { on := 7, ground := Ground.phase }, { on := 8, ground := Ground.phase }, { on := 9, ground := Ground.phase }, { on := 10, ground := Ground.phase }, { on := 11, ground := Ground.phase }, { on := 12, ground := Ground.phase }, { on := 13, ground := Ground.phase }, { on := 14, ground := Ground.phase }, { on := 15, ground := Ground.phase }, { on := 16, ground := Ground.phase }, { on := 17, ground := Ground.phase }, { on := 18, ground := Ground.phase }, { on := 19, ground := Ground.phase }, { on := 20, ground := Ground.phase }, { on := 21, ground := Ground.phase }, { on := 22, ground := Ground.phase }, { on := 23, ground := Ground.phase }, { on := 24, ground := Ground.phase }, { on := 25, ground := Ground.phase }, { on := 26, ground := Ground.phase }, { on := 27, ground := Ground.phase }, { on := 28, ground := Ground.phase }, { on := 29, ground := Ground.phase }, { on := 30, ground := Ground.phase }, { on := 31, ground := Ground.phase }, { on := 32, ground := Ground.phase }], guard := none }) (v := ?_) rfl (by kernel_rfl) (by kernel_rfl) (by kernel_rfl) (fun _ _ _ h => h) (Or.inl ⟨by rfl, ?_⟩) (by assumption) ?_
      rotate_left; · ((intro w hSw; (try dsimp only at hSw); go_simp); try with_reducible rfl)
      try simp only [Act.put, List.setIfInBounds_toArray, List.set_cons_zero, List.set_cons_succ]
      refine wpAnyH_done (by kernel_rfl) ?_ _
      (have hKK := And.left (show Keeps [] w _ ∧ _ by assumption); go_wp2; go_ret; exact ⟨rfl, hKK.below (Nat.le_refl _) (by simp)⟩)
    exact AllReadyH.nil
  exact AllReadyH.nil

theorem walk (x : Fr) (hx : x.data.size ≤ maxLen) (w : World) (e : Nat → Addr) (he : Env w e) :
    Calls Tryd.prog 9 #[x.v] w fun e w' => e = .returned (.bool true) ∧ Below w.heap.size w w' := by
  obtain ⟨k, st, d⟩ := x
  have h2 : (d.extract 0 (min d.size 513)).size ≤ maxLen := by rw [extract_size]; unfold maxLen; omega
  cases hR : rightF ⟨k, st, d.extract 0 (min d.size 513)⟩ with
  | false => exact walk_bad k st d _ hx rfl h2 hR w e he
  | true => exact walk_good k st d _ hx rfl h2 hR _ (encA_ok hR) w e he


set_option maxRecDepth 100000 in
theorem lifted (os : Os) (started : os.Started) (H : Type) (enc : TypeId × Value → H) :
    ReturnsInHanded {} Tryd.checked os 9 .any (fun w args => (Rows.wireSizesSpec.pre enc Tryd.prog Tryd.f9 [] false w args ∧ laidMetH Tryd.prog wlaid w) ∧ sizedMet enc Tryd.prog Tryd.f9 (OpenSpec.ofChange Rows.wireSizesSpec) false w args)
      (Rows.wireSizesSpec.post enc Tryd.prog Tryd.f9 false true false false) := by
  refine returnsInHanded_of_change_and (C := Tryd.checked) (X := fun w _ => laidMetH Tryd.prog wlaid w) (fun _ _ _ hh h => h.of_heap hh) own started (by kernel_rfl) Tryd.func9
    (ChangeSpec.witness_shaped (enc := enc) (C := Tryd.checked) (os := os) (X := fun w _ => laidMetH Tryd.prog wlaid w) false (World.doorLaid Tryd.prog 400 os) #[.agg #[.int .i64 0, .int .i64 0, .string ByteArray.empty]] 8 rfl (World.shaped_of_RefB (by kernel_rfl) (by kernel_rfl)) (by kernel_rfl) (by kernel_rfl) (by kernel_rfl) (door_met os _)) ?_
  intro W base args ds gs before hval0 hW _ _ hL _
  have hval : ∀ (j : Nat) t v, Tryd.f9.params[j]? = some t → args[j]? = some v → Value.okWide Tryd.prog W .any base t v := hval0
  have hW' := hW
  obtain ⟨p, q, hA0, hV, rfl, hfz, hnd⟩ := hW
  have hA : DataW.TrodAll enc Tryd.prog W 0 (fun _ => true) true Tryd.f9.params.toList args.toList ds p := hA0
  rw [Tryd.params9] at hA hval
  obtain ⟨v0, vs0, d0, ds0, p0, q0, hargs, rfl, rfl, h0, r0⟩ := trodAll_cons hA
  obtain ⟨rfl, rfl, rfl⟩ := trodAll_nil r0
  obtain rfl : args = #[v0] := by cases args; simp_all
  obtain ⟨rfl, rfl⟩ := trodVars_none hV
  obtain ⟨x0, rfl, w0⟩ := open_frame (hval 0 23 v0 rfl rfl) h0
  obtain ⟨e, hE⟩ := env_of_laid hL
  refine (walk x0 w0 W e hE).mono fun e W' ⟨he, hb⟩ => ?_
  subst he
  exact ⟨_, rfl, law_post (by kernel_rfl) (by decide +kernel) rfl rfl Tryd.underlying4 hW' hb ⟨rfl, rfl, rfl⟩⟩

theorem over : Rows.wireSizesRow.holds Tryd.pinned (OpenSpec.ofChange Rows.wireSizesSpec) :=
  OpenClaim.holds_of_wide 9 Tryd.f9 rfl rfl rfl rfl rfl rfl rfl ⟨rfl, rfl, rfl, rfl, rfl⟩ rfl rfl rfl rfl rfl (by kernel_rfl) Tryd.func9 (by kernel_rfl)
    (of_decide_eq_true (by kernel_rfl)) (by unfold Func.isWrapper; first | (rw [if_pos (by decide +kernel)]; kernel_rfl) | (rw [if_neg (by decide +kernel)]; exact ⟨rfl, rfl⟩))
    (fun os started H enc _ => lifted os started H enc)

theorem proved : Rows.WireSizesCardSaid :=
  Claim7.holds_tied_plain_at .later [] [.sentinel, .sentinel, .sentinel, .sentinel, .sentinel] true (true, "998b37b86f346886364dd286543734421a9732a2b7459e040ada6a4648f163c4") true
    over (fun _ h => by cases h) (by kernel_rfl) (fun _ h => by cases h) wireSizes_row_tie rfl ⟨rfl, rfl⟩ (by kernel_rfl) rfl
    (fun f fn hf hfn => by
      obtain rfl : f = 9 := Option.some.inj ((show Tryd.prog.funcNamed "wicketgate/wicketgatelaw03.WireSizes" = some 9 by kernel_rfl).symm.trans hf) |>.symm
      obtain rfl : fn = Tryd.f9 := (Option.some.inj (Tryd.func9.symm.trans hfn)).symm
      exact ⟨by kernel_rfl, fun j t ht => by
        rw [Tryd.params9] at ht
        have hm : t ∈ [23] := by simpa using Array.mem_of_getElem? ht
        have hall : ([23].all fun u => !Tryd.prog.wantsStandIn u) = true := by kernel_rfl
        exact (show Tryd.prog.wantsStandIn t = false by simpa using List.all_eq_true.1 hall t hm)⟩)
    (by kernel_rfl)

end wireSizes
end Go.Proofs.YtfedhhndkeakhaaDoor
