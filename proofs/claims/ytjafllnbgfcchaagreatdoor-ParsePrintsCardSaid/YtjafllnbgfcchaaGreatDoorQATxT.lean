/- An expression's text, walked kind by kind. -/
import Derived.Test.YtjafllnbgfcchaaGreatDoorQAGTreeLib
namespace Go.Proofs.YtjafllnbgfcchaaGreatDoor.Tx
set_option linter.unusedVariables false
set_option linter.unusedSimpArgs false
open Go Go.RowKit Go.Proofs.YtjafllnbgfcchaaGreatDoorW.PrintWords Go.Proofs.YtjafllnbgfcchaaGreatDoorW.PrintLast Go.Proofs.YtjafllnbgfcchaaGreatDoorW.PrintMore Go.Proofs.YtjafllnbgfcchaaGreatDoor.XK Go.Proofs.YtjafllnbgfcchaaGreatDoor.Px Go.Proofs.YtjafllnbgfcchaaGreatDoor.Ow
attribute [local go_sem ↓] Go.wp_at_zero Go.wp_at_succ
abbrev BinIs (w0 : World) (a : E) (t : ByteArray) : Prop := ∀ (A : Option Addr) (c : Nat) (w : World), ExAt w0 a A c → Below w0.heap.size w0 w → Tl.Tabs w →
 Calls Tryz.prog 145 #[exA a A c] w fun e w' => e = .returned (.string t) ∧ Below w.heap.size w w'
set_option maxHeartbeats 4000000 in
set_option maxRecDepth 100000 in
theorem text_k1 {w0 : World} {l : List E} {p n : Int} {m : ByteArray} {o : Bool} (h0 : -9223372036854775808 ≤ n) (h1 : n ≤ 9223372036854775807) : TxtIs w0 ⟨1, p, n, m, o, l⟩ (⟨(Lib.itoa n).toArray⟩) := by
 intro A c w he hb hT
 have HE := Lib.hid (And.intro he (And.intro hb hT))
 clear he hb hT
 have HO := Lib.hid ((Ow.start w).new (q := exO ⟨1, p, n, m, o, l⟩ A c))
 go_enter Tryz.func96, Tryz.ntmps96
 go_wp2_with (fail)
 refine (Tl.formatInt_walk n h0 h1 _ (Tl.Tabs.below HE.out.2.2 (HO.out).bel)).mono ?_
 rintro e' w1 ⟨rfl, hb⟩
 have HO2 := Lib.hid (HO.out.below hb)
 clear hb
 go_wp2_with (fail)
 go_ret
 exact ⟨rfl, HO2.out.bel⟩
set_option maxHeartbeats 4000000 in
set_option maxRecDepth 100000 in
theorem text_k2 {w0 : World} {l : List E} {p n : Int} {m : ByteArray} {o : Bool}  : TxtIs w0 ⟨2, p, n, m, o, l⟩ (⟨(Lib.formatBool (n == 1)).toArray⟩) := by
 intro A c w he hb hT
 have HE := Lib.hid (And.intro he (And.intro hb hT))
 clear he hb hT
 have HO := Lib.hid ((Ow.start w).new (q := exO ⟨2, p, n, m, o, l⟩ A c))
 go_enter Tryz.func96, Tryz.ntmps96
 go_wp2_with (fail)
 refine (Tryz.strconv_FormatBool (n == 1) _).mono ?_
 rintro e' w1 ⟨rfl, rfl⟩
 go_wp2_with (fail)
 go_ret
 exact ⟨rfl, HO.out.bel⟩
set_option maxHeartbeats 4000000 in
set_option maxRecDepth 100000 in
theorem text_k3 {w0 : World} {l : List E} {p n : Int} {m : ByteArray} {o : Bool}  : TxtIs w0 ⟨3, p, n, m, o, l⟩ (m) := by
 intro A c w he hb hT
 have HE := Lib.hid (And.intro he (And.intro hb hT))
 clear he hb hT
 go_enter Tryz.func96, Tryz.ntmps96
 go_wp2_with (fail)
 have HO := Lib.hid ((Ow.start w).new (q := exO ⟨3, p, n, m, o, l⟩ A c))
 go_ret
 exact ⟨rfl, HO.out.bel⟩
set_option maxHeartbeats 4000000 in
set_option maxRecDepth 100000 in
theorem text_k4 {w0 : World} {l : List E} {a : E} {ta : ByteArray} {p n : Int} {m : ByteArray} {o : Bool} (hk : l = [a]) (ha : NegIs w0 a ta) (sa : ta.size ≤ 1000002) : TxtIs w0 ⟨4, p, n, m, o, l⟩ (ta) := by
 intro A c w he hb hT
 have HE := Lib.hid (And.intro he (And.intro hb hT))
 obtain ⟨ad0, B0, b0, hA0, x0, x1, x2, x3, x4, x5, hE0⟩ := kid_at he.kids 0 a (by show l[_]? = _; rw [hk]; rfl)
 subst hA0
 simp only [Nat.reduceMul, Nat.reduceEqDiff, Go.Addr.add, ↓reduceIte] at x0 x1 x2 x3 x4 x5
 have HX0 : Hid (w0.cell? ad0 = some (.int .i64 a.f0) ∧ w0.cell? ⟨ad0.block, ad0.off + 1, none⟩ = some (.int .i64 a.f1) ∧ w0.cell? ⟨ad0.block, ad0.off + 2, none⟩ = some (.int .i64 a.f2) ∧ w0.cell? ⟨ad0.block, ad0.off + 3, none⟩ = some (.string a.f3) ∧ w0.cell? ⟨ad0.block, ad0.off + 4, none⟩ = some (.bool a.f4) ∧ w0.cell? ⟨ad0.block, ad0.off + 5, none⟩ = some (.slice B0 a.f5.length b0)) := Lib.hid ⟨x0, x1, x2, x3, x4, x5⟩
 have HK := Lib.hid (hE0)
 have hlen : 1 ≤ l.length := by rw [hk]; exact Nat.le_refl _
 have l0 : (0 : Int) < (l.length : Int) := by omega
 have l0' : (0 < l.length) = True := eq_true (by omega)
 clear hk hlen x0 x1 x2 x3 x4 x5 hE0
 have hb9 := fun o9 : Obj => HE.out.2.1.trans ((Ow.new (q := o9) (Ow.start w)).bel.mono HE.out.2.1.size)
 have x0 := fun o9 : Obj => pw_cell_below (hb9 o9) HX0.out.1
 have x1 := fun o9 : Obj => pw_cell_below (hb9 o9) HX0.out.2.1
 have x2 := fun o9 : Obj => pw_cell_below (hb9 o9) HX0.out.2.2.1
 have x3 := fun o9 : Obj => pw_cell_below (hb9 o9) HX0.out.2.2.2.1
 have x4 := fun o9 : Obj => pw_cell_below (hb9 o9) HX0.out.2.2.2.2.1
 have x5 := fun o9 : Obj => pw_cell_below (hb9 o9) HX0.out.2.2.2.2.2
 clear hb9
 clear he hb hT
 go_enter Tryz.func96, Tryz.ntmps96
 go_wp2_with (fail)
 have HO := Lib.hid ((Ow.start w).new (q := exO ⟨4, p, n, m, o, l⟩ (some ad0) c))
 refine (ha B0 b0 _ (HK.out) (HE.out.2.1.trans ((HO.out).bel.mono HE.out.2.1.size)) (Tl.Tabs.below HE.out.2.2 (HO.out).bel)).mono ?_
 rintro e' w1 ⟨rfl, hb⟩
 have HO2 := Lib.hid (HO.out.below hb)
 clear hb
 go_wp2_with (fail)
 go_ret
 exact ⟨rfl, HO2.out.bel⟩
set_option maxHeartbeats 4000000 in
set_option maxRecDepth 100000 in
theorem text_k5 {w0 : World} {l : List E} {a : E} {ta : ByteArray} {p n : Int} {m : ByteArray} {o : Bool} (hk : l = [a]) (ha : AtIs w0 a 4 ta) (sa : ta.size ≤ 1000002) : TxtIs w0 ⟨5, p, n, m, o, l⟩ ((⟨#[110, 111, 116, 32]⟩ : ByteArray) ++ ta) := by
 intro A c w he hb hT
 have HE := Lib.hid (And.intro he (And.intro hb hT))
 obtain ⟨ad0, B0, b0, hA0, x0, x1, x2, x3, x4, x5, hE0⟩ := kid_at he.kids 0 a (by show l[_]? = _; rw [hk]; rfl)
 subst hA0
 simp only [Nat.reduceMul, Nat.reduceEqDiff, Go.Addr.add, ↓reduceIte] at x0 x1 x2 x3 x4 x5
 have HX0 : Hid (w0.cell? ad0 = some (.int .i64 a.f0) ∧ w0.cell? ⟨ad0.block, ad0.off + 1, none⟩ = some (.int .i64 a.f1) ∧ w0.cell? ⟨ad0.block, ad0.off + 2, none⟩ = some (.int .i64 a.f2) ∧ w0.cell? ⟨ad0.block, ad0.off + 3, none⟩ = some (.string a.f3) ∧ w0.cell? ⟨ad0.block, ad0.off + 4, none⟩ = some (.bool a.f4) ∧ w0.cell? ⟨ad0.block, ad0.off + 5, none⟩ = some (.slice B0 a.f5.length b0)) := Lib.hid ⟨x0, x1, x2, x3, x4, x5⟩
 have HK := Lib.hid (hE0)
 have hlen : 1 ≤ l.length := by rw [hk]; exact Nat.le_refl _
 have l0 : (0 : Int) < (l.length : Int) := by omega
 have l0' : (0 < l.length) = True := eq_true (by omega)
 clear hk hlen x0 x1 x2 x3 x4 x5 hE0
 have q0 : (9223372036854775807 < 4 + ta.size) = False := eq_false (by omega)
 have hb9 := fun o9 : Obj => HE.out.2.1.trans ((Ow.new (q := o9) (Ow.start w)).bel.mono HE.out.2.1.size)
 have x0 := fun o9 : Obj => pw_cell_below (hb9 o9) HX0.out.1
 have x1 := fun o9 : Obj => pw_cell_below (hb9 o9) HX0.out.2.1
 have x2 := fun o9 : Obj => pw_cell_below (hb9 o9) HX0.out.2.2.1
 have x3 := fun o9 : Obj => pw_cell_below (hb9 o9) HX0.out.2.2.2.1
 have x4 := fun o9 : Obj => pw_cell_below (hb9 o9) HX0.out.2.2.2.2.1
 have x5 := fun o9 : Obj => pw_cell_below (hb9 o9) HX0.out.2.2.2.2.2
 clear hb9
 clear he hb hT
 go_enter Tryz.func96, Tryz.ntmps96
 go_wp2_with (fail)
 have HO := Lib.hid ((Ow.start w).new (q := exO ⟨5, p, n, m, o, l⟩ (some ad0) c))
 refine (ha B0 b0 _ (HK.out) (HE.out.2.1.trans ((HO.out).bel.mono HE.out.2.1.size)) (Tl.Tabs.below HE.out.2.2 (HO.out).bel)).mono ?_
 rintro e' w1 ⟨rfl, hb⟩
 have HO2 := Lib.hid (HO.out.below hb)
 clear hb
 go_wp2_with (fail)
 go_ret
 exact ⟨rfl, HO2.out.bel⟩
set_option maxHeartbeats 4000000 in
set_option maxRecDepth 100000 in
theorem text_k10 {w0 : World} {l : List E} {a : E} {ta : ByteArray} {p n : Int} {m : ByteArray} {o : Bool} (hk : l = [a]) (ha : AtIs w0 a 8 ta) (sa : ta.size ≤ 1000002) : TxtIs w0 ⟨10, p, n, m, o, l⟩ ((⟨#[112, 114, 101, 32]⟩ : ByteArray) ++ ta) := by
 intro A c w he hb hT
 have HE := Lib.hid (And.intro he (And.intro hb hT))
 obtain ⟨ad0, B0, b0, hA0, x0, x1, x2, x3, x4, x5, hE0⟩ := kid_at he.kids 0 a (by show l[_]? = _; rw [hk]; rfl)
 subst hA0
 simp only [Nat.reduceMul, Nat.reduceEqDiff, Go.Addr.add, ↓reduceIte] at x0 x1 x2 x3 x4 x5
 have HX0 : Hid (w0.cell? ad0 = some (.int .i64 a.f0) ∧ w0.cell? ⟨ad0.block, ad0.off + 1, none⟩ = some (.int .i64 a.f1) ∧ w0.cell? ⟨ad0.block, ad0.off + 2, none⟩ = some (.int .i64 a.f2) ∧ w0.cell? ⟨ad0.block, ad0.off + 3, none⟩ = some (.string a.f3) ∧ w0.cell? ⟨ad0.block, ad0.off + 4, none⟩ = some (.bool a.f4) ∧ w0.cell? ⟨ad0.block, ad0.off + 5, none⟩ = some (.slice B0 a.f5.length b0)) := Lib.hid ⟨x0, x1, x2, x3, x4, x5⟩
 have HK := Lib.hid (hE0)
 have hlen : 1 ≤ l.length := by rw [hk]; exact Nat.le_refl _
 have l0 : (0 : Int) < (l.length : Int) := by omega
 have l0' : (0 < l.length) = True := eq_true (by omega)
 clear hk hlen x0 x1 x2 x3 x4 x5 hE0
 have q0 : (9223372036854775807 < 4 + ta.size) = False := eq_false (by omega)
 have hb9 := fun o9 : Obj => HE.out.2.1.trans ((Ow.new (q := o9) (Ow.start w)).bel.mono HE.out.2.1.size)
 have x0 := fun o9 : Obj => pw_cell_below (hb9 o9) HX0.out.1
 have x1 := fun o9 : Obj => pw_cell_below (hb9 o9) HX0.out.2.1
 have x2 := fun o9 : Obj => pw_cell_below (hb9 o9) HX0.out.2.2.1
 have x3 := fun o9 : Obj => pw_cell_below (hb9 o9) HX0.out.2.2.2.1
 have x4 := fun o9 : Obj => pw_cell_below (hb9 o9) HX0.out.2.2.2.2.1
 have x5 := fun o9 : Obj => pw_cell_below (hb9 o9) HX0.out.2.2.2.2.2
 clear hb9
 clear he hb hT
 go_enter Tryz.func96, Tryz.ntmps96
 go_wp2_with (fail)
 have HO := Lib.hid ((Ow.start w).new (q := exO ⟨10, p, n, m, o, l⟩ (some ad0) c))
 refine (ha B0 b0 _ (HK.out) (HE.out.2.1.trans ((HO.out).bel.mono HE.out.2.1.size)) (Tl.Tabs.below HE.out.2.2 (HO.out).bel)).mono ?_
 rintro e' w1 ⟨rfl, hb⟩
 have HO2 := Lib.hid (HO.out.below hb)
 clear hb
 go_wp2_with (fail)
 go_ret
 exact ⟨rfl, HO2.out.bel⟩
set_option maxHeartbeats 4000000 in
set_option maxRecDepth 100000 in
theorem text_k7 {w0 : World} {l : List E} {a b d : E} {ta tb td : ByteArray} {p n : Int} {m : ByteArray} {o : Bool} (hk : l = [a, b, d]) (ha : TxtIs w0 a ta) (sa : ta.size ≤ 1000002) (hb1 : TxtIs w0 b tb) (sb : tb.size ≤ 1000002) (hd1 : TxtIs w0 d td) (sd : td.size ≤ 1000002) : TxtIs w0 ⟨7, p, n, m, o, l⟩ ((⟨#[105, 102, 32]⟩ : ByteArray) ++ ta ++ (⟨#[32, 116, 104, 101, 110, 32]⟩ : ByteArray) ++ tb ++ (⟨#[32, 101, 108, 115, 101, 32]⟩ : ByteArray) ++ td) := by
 intro A c w he hb hT
 have HE := Lib.hid (And.intro he (And.intro hb hT))
 obtain ⟨ad0, B0, b0, hA0, x0, x1, x2, x3, x4, x5, hE0⟩ := kid_at he.kids 0 a (by show l[_]? = _; rw [hk]; rfl)
 obtain ⟨ad1, B1, b1, hA1, y0, y1, y2, y3, y4, y5, hE1⟩ := kid_at he.kids 1 b (by show l[_]? = _; rw [hk]; rfl)
 obtain ⟨ad2, B2, b2, hA2, z0, z1, z2, z3, z4, z5, hE2⟩ := kid_at he.kids 2 d (by show l[_]? = _; rw [hk]; rfl)
 subst hA0
 obtain rfl : ad0 = ad1 := Option.some.inj hA1
 obtain rfl : ad0 = ad2 := Option.some.inj hA2
 simp only [Nat.reduceMul, Nat.reduceEqDiff, Go.Addr.add, ↓reduceIte] at x0 x1 x2 x3 x4 x5 y0 y1 y2 y3 y4 y5 z0 z1 z2 z3 z4 z5
 have HX0 : Hid (w0.cell? ad0 = some (.int .i64 a.f0) ∧ w0.cell? ⟨ad0.block, ad0.off + 1, none⟩ = some (.int .i64 a.f1) ∧ w0.cell? ⟨ad0.block, ad0.off + 2, none⟩ = some (.int .i64 a.f2) ∧ w0.cell? ⟨ad0.block, ad0.off + 3, none⟩ = some (.string a.f3) ∧ w0.cell? ⟨ad0.block, ad0.off + 4, none⟩ = some (.bool a.f4) ∧ w0.cell? ⟨ad0.block, ad0.off + 5, none⟩ = some (.slice B0 a.f5.length b0)) := Lib.hid ⟨x0, x1, x2, x3, x4, x5⟩
 have HX1 : Hid (w0.cell? ⟨ad0.block, ad0.off + 6, none⟩ = some (.int .i64 b.f0) ∧ w0.cell? ⟨ad0.block, ad0.off + 6 + 1, none⟩ = some (.int .i64 b.f1) ∧ w0.cell? ⟨ad0.block, ad0.off + 6 + 2, none⟩ = some (.int .i64 b.f2) ∧ w0.cell? ⟨ad0.block, ad0.off + 6 + 3, none⟩ = some (.string b.f3) ∧ w0.cell? ⟨ad0.block, ad0.off + 6 + 4, none⟩ = some (.bool b.f4) ∧ w0.cell? ⟨ad0.block, ad0.off + 6 + 5, none⟩ = some (.slice B1 b.f5.length b1)) := Lib.hid ⟨y0, y1, y2, y3, y4, y5⟩
 have HX2 : Hid (w0.cell? ⟨ad0.block, ad0.off + 12, none⟩ = some (.int .i64 d.f0) ∧ w0.cell? ⟨ad0.block, ad0.off + 12 + 1, none⟩ = some (.int .i64 d.f1) ∧ w0.cell? ⟨ad0.block, ad0.off + 12 + 2, none⟩ = some (.int .i64 d.f2) ∧ w0.cell? ⟨ad0.block, ad0.off + 12 + 3, none⟩ = some (.string d.f3) ∧ w0.cell? ⟨ad0.block, ad0.off + 12 + 4, none⟩ = some (.bool d.f4) ∧ w0.cell? ⟨ad0.block, ad0.off + 12 + 5, none⟩ = some (.slice B2 d.f5.length b2)) := Lib.hid ⟨z0, z1, z2, z3, z4, z5⟩
 have HK := Lib.hid (And.intro hE0 (And.intro hE1 hE2))
 have hlen : 3 ≤ l.length := by rw [hk]; exact Nat.le_refl _
 have l0 : (0 : Int) < (l.length : Int) := by omega
 have l0' : (0 < l.length) = True := eq_true (by omega)
 have l1 : (1 : Int) < (l.length : Int) := by omega
 have l1' : (1 < l.length) = True := eq_true (by omega)
 have l2 : (2 : Int) < (l.length : Int) := by omega
 have l2' : (2 < l.length) = True := eq_true (by omega)
 clear hk hlen x0 x1 x2 x3 x4 x5 y0 y1 y2 y3 y4 y5 z0 z1 z2 z3 z4 z5 hE0 hE1 hE2 hA1 hA2
 have q0 : (9223372036854775807 < 3 + ta.size) = False := eq_false (by omega)
 have q1 : (9223372036854775807 < 3 + ta.size + 6) = False := eq_false (by omega)
 have q2 : (9223372036854775807 < 3 + ta.size + 6 + tb.size) = False := eq_false (by omega)
 have q3 : (9223372036854775807 < 3 + ta.size + 6 + tb.size + 6) = False := eq_false (by omega)
 have q4 : (9223372036854775807 < 3 + ta.size + 6 + tb.size + 6 + td.size) = False := eq_false (by omega)
 clear he hb hT
 go_enter Tryz.func96, Tryz.ntmps96
 go_wp2_with (fail)
 have HO := Lib.hid ((Ow.start w).new (q := exO ⟨7, p, n, m, o, l⟩ (some ad0) c))
 generalize hW : w.alloc _ = W
 rw [hW] at HO
 clear hW
 have pfS : ∀ {V : World}, Ow w V [(w.heap.size, exO ⟨7, p, n, m, o, l⟩ (some ad0) c)] → V.cell? ⟨w.heap.size, 5, none⟩ = some (.slice (some ad0) l.length c) ∧ V.cell? ad0 = some (.int .i64 a.f0) ∧ V.cell? ⟨ad0.block, ad0.off + 1, none⟩ = some (.int .i64 a.f1) ∧ V.cell? ⟨ad0.block, ad0.off + 2, none⟩ = some (.int .i64 a.f2) ∧ V.cell? ⟨ad0.block, ad0.off + 3, none⟩ = some (.string a.f3) ∧ V.cell? ⟨ad0.block, ad0.off + 4, none⟩ = some (.bool a.f4) ∧ V.cell? ⟨ad0.block, ad0.off + 5, none⟩ = some (.slice B0 a.f5.length b0) ∧ V.cell? ⟨ad0.block, ad0.off + 6, none⟩ = some (.int .i64 b.f0) ∧ V.cell? ⟨ad0.block, ad0.off + 6 + 1, none⟩ = some (.int .i64 b.f1) ∧ V.cell? ⟨ad0.block, ad0.off + 6 + 2, none⟩ = some (.int .i64 b.f2) ∧ V.cell? ⟨ad0.block, ad0.off + 6 + 3, none⟩ = some (.string b.f3) ∧ V.cell? ⟨ad0.block, ad0.off + 6 + 4, none⟩ = some (.bool b.f4) ∧ V.cell? ⟨ad0.block, ad0.off + 6 + 5, none⟩ = some (.slice B1 b.f5.length b1) ∧ V.cell? ⟨ad0.block, ad0.off + 12, none⟩ = some (.int .i64 d.f0) ∧ V.cell? ⟨ad0.block, ad0.off + 12 + 1, none⟩ = some (.int .i64 d.f1) ∧ V.cell? ⟨ad0.block, ad0.off + 12 + 2, none⟩ = some (.int .i64 d.f2) ∧ V.cell? ⟨ad0.block, ad0.off + 12 + 3, none⟩ = some (.string d.f3) ∧ V.cell? ⟨ad0.block, ad0.off + 12 + 4, none⟩ = some (.bool d.f4) ∧ V.cell? ⟨ad0.block, ad0.off + 12 + 5, none⟩ = some (.slice B2 d.f5.length b2) := fun {V} h => ⟨blk_cell h.l0 5, pw_cell_below (HE.out.2.1.trans (h.bel.mono HE.out.2.1.size)) (HX0.out.1), pw_cell_below (HE.out.2.1.trans (h.bel.mono HE.out.2.1.size)) (HX0.out.2.1), pw_cell_below (HE.out.2.1.trans (h.bel.mono HE.out.2.1.size)) (HX0.out.2.2.1), pw_cell_below (HE.out.2.1.trans (h.bel.mono HE.out.2.1.size)) (HX0.out.2.2.2.1), pw_cell_below (HE.out.2.1.trans (h.bel.mono HE.out.2.1.size)) (HX0.out.2.2.2.2.1), pw_cell_below (HE.out.2.1.trans (h.bel.mono HE.out.2.1.size)) (HX0.out.2.2.2.2.2), pw_cell_below (HE.out.2.1.trans (h.bel.mono HE.out.2.1.size)) (HX1.out.1), pw_cell_below (HE.out.2.1.trans (h.bel.mono HE.out.2.1.size)) (HX1.out.2.1), pw_cell_below (HE.out.2.1.trans (h.bel.mono HE.out.2.1.size)) (HX1.out.2.2.1), pw_cell_below (HE.out.2.1.trans (h.bel.mono HE.out.2.1.size)) (HX1.out.2.2.2.1), pw_cell_below (HE.out.2.1.trans (h.bel.mono HE.out.2.1.size)) (HX1.out.2.2.2.2.1), pw_cell_below (HE.out.2.1.trans (h.bel.mono HE.out.2.1.size)) (HX1.out.2.2.2.2.2), pw_cell_below (HE.out.2.1.trans (h.bel.mono HE.out.2.1.size)) (HX2.out.1), pw_cell_below (HE.out.2.1.trans (h.bel.mono HE.out.2.1.size)) (HX2.out.2.1), pw_cell_below (HE.out.2.1.trans (h.bel.mono HE.out.2.1.size)) (HX2.out.2.2.1), pw_cell_below (HE.out.2.1.trans (h.bel.mono HE.out.2.1.size)) (HX2.out.2.2.2.1), pw_cell_below (HE.out.2.1.trans (h.bel.mono HE.out.2.1.size)) (HX2.out.2.2.2.2.1), pw_cell_below (HE.out.2.1.trans (h.bel.mono HE.out.2.1.size)) (HX2.out.2.2.2.2.2)⟩
 have hS0 : (W.drew).cell? ⟨w.heap.size, 5, none⟩ = some (.slice (some ad0) l.length c) ∧ (W.drew).cell? ad0 = some (.int .i64 a.f0) ∧ (W.drew).cell? ⟨ad0.block, ad0.off + 1, none⟩ = some (.int .i64 a.f1) ∧ (W.drew).cell? ⟨ad0.block, ad0.off + 2, none⟩ = some (.int .i64 a.f2) ∧ (W.drew).cell? ⟨ad0.block, ad0.off + 3, none⟩ = some (.string a.f3) ∧ (W.drew).cell? ⟨ad0.block, ad0.off + 4, none⟩ = some (.bool a.f4) ∧ (W.drew).cell? ⟨ad0.block, ad0.off + 5, none⟩ = some (.slice B0 a.f5.length b0) ∧ (W.drew).cell? ⟨ad0.block, ad0.off + 6, none⟩ = some (.int .i64 b.f0) ∧ (W.drew).cell? ⟨ad0.block, ad0.off + 6 + 1, none⟩ = some (.int .i64 b.f1) ∧ (W.drew).cell? ⟨ad0.block, ad0.off + 6 + 2, none⟩ = some (.int .i64 b.f2) ∧ (W.drew).cell? ⟨ad0.block, ad0.off + 6 + 3, none⟩ = some (.string b.f3) ∧ (W.drew).cell? ⟨ad0.block, ad0.off + 6 + 4, none⟩ = some (.bool b.f4) ∧ (W.drew).cell? ⟨ad0.block, ad0.off + 6 + 5, none⟩ = some (.slice B1 b.f5.length b1) ∧ (W.drew).cell? ⟨ad0.block, ad0.off + 12, none⟩ = some (.int .i64 d.f0) ∧ (W.drew).cell? ⟨ad0.block, ad0.off + 12 + 1, none⟩ = some (.int .i64 d.f1) ∧ (W.drew).cell? ⟨ad0.block, ad0.off + 12 + 2, none⟩ = some (.int .i64 d.f2) ∧ (W.drew).cell? ⟨ad0.block, ad0.off + 12 + 3, none⟩ = some (.string d.f3) ∧ (W.drew).cell? ⟨ad0.block, ad0.off + 12 + 4, none⟩ = some (.bool d.f4) ∧ (W.drew).cell? ⟨ad0.block, ad0.off + 12 + 5, none⟩ = some (.slice B2 d.f5.length b2) := pfS HO.out.drew
 go_region_held2 (fun w' => w'.cell? ⟨w.heap.size, 5, none⟩ = some (.slice (some ad0) l.length c) ∧ w'.cell? ad0 = some (.int .i64 a.f0) ∧ w'.cell? ⟨ad0.block, ad0.off + 1, none⟩ = some (.int .i64 a.f1) ∧ w'.cell? ⟨ad0.block, ad0.off + 2, none⟩ = some (.int .i64 a.f2) ∧ w'.cell? ⟨ad0.block, ad0.off + 3, none⟩ = some (.string a.f3) ∧ w'.cell? ⟨ad0.block, ad0.off + 4, none⟩ = some (.bool a.f4) ∧ w'.cell? ⟨ad0.block, ad0.off + 5, none⟩ = some (.slice B0 a.f5.length b0) ∧ w'.cell? ⟨ad0.block, ad0.off + 6, none⟩ = some (.int .i64 b.f0) ∧ w'.cell? ⟨ad0.block, ad0.off + 6 + 1, none⟩ = some (.int .i64 b.f1) ∧ w'.cell? ⟨ad0.block, ad0.off + 6 + 2, none⟩ = some (.int .i64 b.f2) ∧ w'.cell? ⟨ad0.block, ad0.off + 6 + 3, none⟩ = some (.string b.f3) ∧ w'.cell? ⟨ad0.block, ad0.off + 6 + 4, none⟩ = some (.bool b.f4) ∧ w'.cell? ⟨ad0.block, ad0.off + 6 + 5, none⟩ = some (.slice B1 b.f5.length b1) ∧ w'.cell? ⟨ad0.block, ad0.off + 12, none⟩ = some (.int .i64 d.f0) ∧ w'.cell? ⟨ad0.block, ad0.off + 12 + 1, none⟩ = some (.int .i64 d.f1) ∧ w'.cell? ⟨ad0.block, ad0.off + 12 + 2, none⟩ = some (.int .i64 d.f2) ∧ w'.cell? ⟨ad0.block, ad0.off + 12 + 3, none⟩ = some (.string d.f3) ∧ w'.cell? ⟨ad0.block, ad0.off + 12 + 4, none⟩ = some (.bool d.f4) ∧ w'.cell? ⟨ad0.block, ad0.off + 12 + 5, none⟩ = some (.slice B2 d.f5.length b2)) (first | with_reducible exact hS0 | with_reducible exact hS1 | with_reducible exact hS2 | with_reducible exact hS3) (first | (go_at_call 96; (with_reducible refine (ha B0 b0 _ (HK.out.1) (HE.out.2.1.trans ((HO.out.drew).bel.mono HE.out.2.1.size)) (Tl.Tabs.below HE.out.2.2 (HO.out.drew).bel)).mono ?_); go_must (rintro e' v1 ⟨rfl, hb⟩; have HT1 := Lib.hid (Ow.below (HO.out.drew) hb); have hS1 : v1.cell? ⟨w.heap.size, 5, none⟩ = some (.slice (some ad0) l.length c) ∧ v1.cell? ad0 = some (.int .i64 a.f0) ∧ v1.cell? ⟨ad0.block, ad0.off + 1, none⟩ = some (.int .i64 a.f1) ∧ v1.cell? ⟨ad0.block, ad0.off + 2, none⟩ = some (.int .i64 a.f2) ∧ v1.cell? ⟨ad0.block, ad0.off + 3, none⟩ = some (.string a.f3) ∧ v1.cell? ⟨ad0.block, ad0.off + 4, none⟩ = some (.bool a.f4) ∧ v1.cell? ⟨ad0.block, ad0.off + 5, none⟩ = some (.slice B0 a.f5.length b0) ∧ v1.cell? ⟨ad0.block, ad0.off + 6, none⟩ = some (.int .i64 b.f0) ∧ v1.cell? ⟨ad0.block, ad0.off + 6 + 1, none⟩ = some (.int .i64 b.f1) ∧ v1.cell? ⟨ad0.block, ad0.off + 6 + 2, none⟩ = some (.int .i64 b.f2) ∧ v1.cell? ⟨ad0.block, ad0.off + 6 + 3, none⟩ = some (.string b.f3) ∧ v1.cell? ⟨ad0.block, ad0.off + 6 + 4, none⟩ = some (.bool b.f4) ∧ v1.cell? ⟨ad0.block, ad0.off + 6 + 5, none⟩ = some (.slice B1 b.f5.length b1) ∧ v1.cell? ⟨ad0.block, ad0.off + 12, none⟩ = some (.int .i64 d.f0) ∧ v1.cell? ⟨ad0.block, ad0.off + 12 + 1, none⟩ = some (.int .i64 d.f1) ∧ v1.cell? ⟨ad0.block, ad0.off + 12 + 2, none⟩ = some (.int .i64 d.f2) ∧ v1.cell? ⟨ad0.block, ad0.off + 12 + 3, none⟩ = some (.string d.f3) ∧ v1.cell? ⟨ad0.block, ad0.off + 12 + 4, none⟩ = some (.bool d.f4) ∧ v1.cell? ⟨ad0.block, ad0.off + 12 + 5, none⟩ = some (.slice B2 d.f5.length b2) := pfS HT1.out; clear hb)) | (go_at_call 96; (with_reducible refine (hb1 B1 b1 _ (HK.out.2.1) (HE.out.2.1.trans ((HT1.out).bel.mono HE.out.2.1.size)) (Tl.Tabs.below HE.out.2.2 (HT1.out).bel)).mono ?_); go_must (rintro e' v2 ⟨rfl, hb⟩; have HT2 := Lib.hid (Ow.below (HT1.out) hb); have hS2 : v2.cell? ⟨w.heap.size, 5, none⟩ = some (.slice (some ad0) l.length c) ∧ v2.cell? ad0 = some (.int .i64 a.f0) ∧ v2.cell? ⟨ad0.block, ad0.off + 1, none⟩ = some (.int .i64 a.f1) ∧ v2.cell? ⟨ad0.block, ad0.off + 2, none⟩ = some (.int .i64 a.f2) ∧ v2.cell? ⟨ad0.block, ad0.off + 3, none⟩ = some (.string a.f3) ∧ v2.cell? ⟨ad0.block, ad0.off + 4, none⟩ = some (.bool a.f4) ∧ v2.cell? ⟨ad0.block, ad0.off + 5, none⟩ = some (.slice B0 a.f5.length b0) ∧ v2.cell? ⟨ad0.block, ad0.off + 6, none⟩ = some (.int .i64 b.f0) ∧ v2.cell? ⟨ad0.block, ad0.off + 6 + 1, none⟩ = some (.int .i64 b.f1) ∧ v2.cell? ⟨ad0.block, ad0.off + 6 + 2, none⟩ = some (.int .i64 b.f2) ∧ v2.cell? ⟨ad0.block, ad0.off + 6 + 3, none⟩ = some (.string b.f3) ∧ v2.cell? ⟨ad0.block, ad0.off + 6 + 4, none⟩ = some (.bool b.f4) ∧ v2.cell? ⟨ad0.block, ad0.off + 6 + 5, none⟩ = some (.slice B1 b.f5.length b1) ∧ v2.cell? ⟨ad0.block, ad0.off + 12, none⟩ = some (.int .i64 d.f0) ∧ v2.cell? ⟨ad0.block, ad0.off + 12 + 1, none⟩ = some (.int .i64 d.f1) ∧ v2.cell? ⟨ad0.block, ad0.off + 12 + 2, none⟩ = some (.int .i64 d.f2) ∧ v2.cell? ⟨ad0.block, ad0.off + 12 + 3, none⟩ = some (.string d.f3) ∧ v2.cell? ⟨ad0.block, ad0.off + 12 + 4, none⟩ = some (.bool d.f4) ∧ v2.cell? ⟨ad0.block, ad0.off + 12 + 5, none⟩ = some (.slice B2 d.f5.length b2) := pfS HT2.out; clear hb)) | (go_at_call 96; (with_reducible refine (hd1 B2 b2 _ (HK.out.2.2) (HE.out.2.1.trans ((HT2.out).bel.mono HE.out.2.1.size)) (Tl.Tabs.below HE.out.2.2 (HT2.out).bel)).mono ?_); go_must (rintro e' v3 ⟨rfl, hb⟩; have HT3 := Lib.hid (Ow.below (HT2.out) hb); have hS3 : v3.cell? ⟨w.heap.size, 5, none⟩ = some (.slice (some ad0) l.length c) ∧ v3.cell? ad0 = some (.int .i64 a.f0) ∧ v3.cell? ⟨ad0.block, ad0.off + 1, none⟩ = some (.int .i64 a.f1) ∧ v3.cell? ⟨ad0.block, ad0.off + 2, none⟩ = some (.int .i64 a.f2) ∧ v3.cell? ⟨ad0.block, ad0.off + 3, none⟩ = some (.string a.f3) ∧ v3.cell? ⟨ad0.block, ad0.off + 4, none⟩ = some (.bool a.f4) ∧ v3.cell? ⟨ad0.block, ad0.off + 5, none⟩ = some (.slice B0 a.f5.length b0) ∧ v3.cell? ⟨ad0.block, ad0.off + 6, none⟩ = some (.int .i64 b.f0) ∧ v3.cell? ⟨ad0.block, ad0.off + 6 + 1, none⟩ = some (.int .i64 b.f1) ∧ v3.cell? ⟨ad0.block, ad0.off + 6 + 2, none⟩ = some (.int .i64 b.f2) ∧ v3.cell? ⟨ad0.block, ad0.off + 6 + 3, none⟩ = some (.string b.f3) ∧ v3.cell? ⟨ad0.block, ad0.off + 6 + 4, none⟩ = some (.bool b.f4) ∧ v3.cell? ⟨ad0.block, ad0.off + 6 + 5, none⟩ = some (.slice B1 b.f5.length b1) ∧ v3.cell? ⟨ad0.block, ad0.off + 12, none⟩ = some (.int .i64 d.f0) ∧ v3.cell? ⟨ad0.block, ad0.off + 12 + 1, none⟩ = some (.int .i64 d.f1) ∧ v3.cell? ⟨ad0.block, ad0.off + 12 + 2, none⟩ = some (.int .i64 d.f2) ∧ v3.cell? ⟨ad0.block, ad0.off + 12 + 3, none⟩ = some (.string d.f3) ∧ v3.cell? ⟨ad0.block, ad0.off + 12 + 4, none⟩ = some (.bool d.f4) ∧ v3.cell? ⟨ad0.block, ad0.off + 12 + 5, none⟩ = some (.slice B2 d.f5.length b2) := pfS HT3.out; clear hb)))
 go_wp2_with (fail)
 go_ret
 exact ⟨rfl, HT3.out.bel⟩
set_option maxHeartbeats 4000000 in
set_option maxRecDepth 100000 in
theorem text_k8 {w0 : World} {l : List E} {a b : E} {ta tb : ByteArray} {p n : Int} {m : ByteArray} {o : Bool} (hk : l = [a, b]) (ha : AtIs w0 a 2 ta) (sa : ta.size ≤ 1000002) (hb1 : AtIs w0 b 1 tb) (sb : tb.size ≤ 1000002) : TxtIs w0 ⟨8, p, n, m, o, l⟩ (ta ++ (⟨#[32, 45, 62, 32]⟩ : ByteArray) ++ tb) := by
 intro A c w he hb hT
 have HE := Lib.hid (And.intro he (And.intro hb hT))
 obtain ⟨ad0, B0, b0, hA0, x0, x1, x2, x3, x4, x5, hE0⟩ := kid_at he.kids 0 a (by show l[_]? = _; rw [hk]; rfl)
 obtain ⟨ad1, B1, b1, hA1, y0, y1, y2, y3, y4, y5, hE1⟩ := kid_at he.kids 1 b (by show l[_]? = _; rw [hk]; rfl)
 subst hA0
 obtain rfl : ad0 = ad1 := Option.some.inj hA1
 simp only [Nat.reduceMul, Nat.reduceEqDiff, Go.Addr.add, ↓reduceIte] at x0 x1 x2 x3 x4 x5 y0 y1 y2 y3 y4 y5
 have HX0 : Hid (w0.cell? ad0 = some (.int .i64 a.f0) ∧ w0.cell? ⟨ad0.block, ad0.off + 1, none⟩ = some (.int .i64 a.f1) ∧ w0.cell? ⟨ad0.block, ad0.off + 2, none⟩ = some (.int .i64 a.f2) ∧ w0.cell? ⟨ad0.block, ad0.off + 3, none⟩ = some (.string a.f3) ∧ w0.cell? ⟨ad0.block, ad0.off + 4, none⟩ = some (.bool a.f4) ∧ w0.cell? ⟨ad0.block, ad0.off + 5, none⟩ = some (.slice B0 a.f5.length b0)) := Lib.hid ⟨x0, x1, x2, x3, x4, x5⟩
 have HX1 : Hid (w0.cell? ⟨ad0.block, ad0.off + 6, none⟩ = some (.int .i64 b.f0) ∧ w0.cell? ⟨ad0.block, ad0.off + 6 + 1, none⟩ = some (.int .i64 b.f1) ∧ w0.cell? ⟨ad0.block, ad0.off + 6 + 2, none⟩ = some (.int .i64 b.f2) ∧ w0.cell? ⟨ad0.block, ad0.off + 6 + 3, none⟩ = some (.string b.f3) ∧ w0.cell? ⟨ad0.block, ad0.off + 6 + 4, none⟩ = some (.bool b.f4) ∧ w0.cell? ⟨ad0.block, ad0.off + 6 + 5, none⟩ = some (.slice B1 b.f5.length b1)) := Lib.hid ⟨y0, y1, y2, y3, y4, y5⟩
 have HK := Lib.hid (And.intro hE0 hE1)
 have hlen : 2 ≤ l.length := by rw [hk]; exact Nat.le_refl _
 have l0 : (0 : Int) < (l.length : Int) := by omega
 have l0' : (0 < l.length) = True := eq_true (by omega)
 have l1 : (1 : Int) < (l.length : Int) := by omega
 have l1' : (1 < l.length) = True := eq_true (by omega)
 clear hk hlen x0 x1 x2 x3 x4 x5 y0 y1 y2 y3 y4 y5 hE0 hE1 hA1
 have q0 : (9223372036854775807 < ta.size + 4) = False := eq_false (by omega)
 have q1 : (9223372036854775807 < ta.size + 4 + tb.size) = False := eq_false (by omega)
 clear he hb hT
 go_enter Tryz.func96, Tryz.ntmps96
 go_wp2_with (fail)
 have HO := Lib.hid ((Ow.start w).new (q := exO ⟨8, p, n, m, o, l⟩ (some ad0) c))
 generalize hW : w.alloc _ = W
 rw [hW] at HO
 clear hW
 have pfS : ∀ {V : World}, Ow w V [(w.heap.size, exO ⟨8, p, n, m, o, l⟩ (some ad0) c)] → V.cell? ⟨w.heap.size, 5, none⟩ = some (.slice (some ad0) l.length c) ∧ V.cell? ad0 = some (.int .i64 a.f0) ∧ V.cell? ⟨ad0.block, ad0.off + 1, none⟩ = some (.int .i64 a.f1) ∧ V.cell? ⟨ad0.block, ad0.off + 2, none⟩ = some (.int .i64 a.f2) ∧ V.cell? ⟨ad0.block, ad0.off + 3, none⟩ = some (.string a.f3) ∧ V.cell? ⟨ad0.block, ad0.off + 4, none⟩ = some (.bool a.f4) ∧ V.cell? ⟨ad0.block, ad0.off + 5, none⟩ = some (.slice B0 a.f5.length b0) ∧ V.cell? ⟨ad0.block, ad0.off + 6, none⟩ = some (.int .i64 b.f0) ∧ V.cell? ⟨ad0.block, ad0.off + 6 + 1, none⟩ = some (.int .i64 b.f1) ∧ V.cell? ⟨ad0.block, ad0.off + 6 + 2, none⟩ = some (.int .i64 b.f2) ∧ V.cell? ⟨ad0.block, ad0.off + 6 + 3, none⟩ = some (.string b.f3) ∧ V.cell? ⟨ad0.block, ad0.off + 6 + 4, none⟩ = some (.bool b.f4) ∧ V.cell? ⟨ad0.block, ad0.off + 6 + 5, none⟩ = some (.slice B1 b.f5.length b1) := fun {V} h => ⟨blk_cell h.l0 5, pw_cell_below (HE.out.2.1.trans (h.bel.mono HE.out.2.1.size)) (HX0.out.1), pw_cell_below (HE.out.2.1.trans (h.bel.mono HE.out.2.1.size)) (HX0.out.2.1), pw_cell_below (HE.out.2.1.trans (h.bel.mono HE.out.2.1.size)) (HX0.out.2.2.1), pw_cell_below (HE.out.2.1.trans (h.bel.mono HE.out.2.1.size)) (HX0.out.2.2.2.1), pw_cell_below (HE.out.2.1.trans (h.bel.mono HE.out.2.1.size)) (HX0.out.2.2.2.2.1), pw_cell_below (HE.out.2.1.trans (h.bel.mono HE.out.2.1.size)) (HX0.out.2.2.2.2.2), pw_cell_below (HE.out.2.1.trans (h.bel.mono HE.out.2.1.size)) (HX1.out.1), pw_cell_below (HE.out.2.1.trans (h.bel.mono HE.out.2.1.size)) (HX1.out.2.1), pw_cell_below (HE.out.2.1.trans (h.bel.mono HE.out.2.1.size)) (HX1.out.2.2.1), pw_cell_below (HE.out.2.1.trans (h.bel.mono HE.out.2.1.size)) (HX1.out.2.2.2.1), pw_cell_below (HE.out.2.1.trans (h.bel.mono HE.out.2.1.size)) (HX1.out.2.2.2.2.1), pw_cell_below (HE.out.2.1.trans (h.bel.mono HE.out.2.1.size)) (HX1.out.2.2.2.2.2)⟩
 have hS0 : (W.drew).cell? ⟨w.heap.size, 5, none⟩ = some (.slice (some ad0) l.length c) ∧ (W.drew).cell? ad0 = some (.int .i64 a.f0) ∧ (W.drew).cell? ⟨ad0.block, ad0.off + 1, none⟩ = some (.int .i64 a.f1) ∧ (W.drew).cell? ⟨ad0.block, ad0.off + 2, none⟩ = some (.int .i64 a.f2) ∧ (W.drew).cell? ⟨ad0.block, ad0.off + 3, none⟩ = some (.string a.f3) ∧ (W.drew).cell? ⟨ad0.block, ad0.off + 4, none⟩ = some (.bool a.f4) ∧ (W.drew).cell? ⟨ad0.block, ad0.off + 5, none⟩ = some (.slice B0 a.f5.length b0) ∧ (W.drew).cell? ⟨ad0.block, ad0.off + 6, none⟩ = some (.int .i64 b.f0) ∧ (W.drew).cell? ⟨ad0.block, ad0.off + 6 + 1, none⟩ = some (.int .i64 b.f1) ∧ (W.drew).cell? ⟨ad0.block, ad0.off + 6 + 2, none⟩ = some (.int .i64 b.f2) ∧ (W.drew).cell? ⟨ad0.block, ad0.off + 6 + 3, none⟩ = some (.string b.f3) ∧ (W.drew).cell? ⟨ad0.block, ad0.off + 6 + 4, none⟩ = some (.bool b.f4) ∧ (W.drew).cell? ⟨ad0.block, ad0.off + 6 + 5, none⟩ = some (.slice B1 b.f5.length b1) := pfS HO.out.drew
 go_region_held2 (fun w' => w'.cell? ⟨w.heap.size, 5, none⟩ = some (.slice (some ad0) l.length c) ∧ w'.cell? ad0 = some (.int .i64 a.f0) ∧ w'.cell? ⟨ad0.block, ad0.off + 1, none⟩ = some (.int .i64 a.f1) ∧ w'.cell? ⟨ad0.block, ad0.off + 2, none⟩ = some (.int .i64 a.f2) ∧ w'.cell? ⟨ad0.block, ad0.off + 3, none⟩ = some (.string a.f3) ∧ w'.cell? ⟨ad0.block, ad0.off + 4, none⟩ = some (.bool a.f4) ∧ w'.cell? ⟨ad0.block, ad0.off + 5, none⟩ = some (.slice B0 a.f5.length b0) ∧ w'.cell? ⟨ad0.block, ad0.off + 6, none⟩ = some (.int .i64 b.f0) ∧ w'.cell? ⟨ad0.block, ad0.off + 6 + 1, none⟩ = some (.int .i64 b.f1) ∧ w'.cell? ⟨ad0.block, ad0.off + 6 + 2, none⟩ = some (.int .i64 b.f2) ∧ w'.cell? ⟨ad0.block, ad0.off + 6 + 3, none⟩ = some (.string b.f3) ∧ w'.cell? ⟨ad0.block, ad0.off + 6 + 4, none⟩ = some (.bool b.f4) ∧ w'.cell? ⟨ad0.block, ad0.off + 6 + 5, none⟩ = some (.slice B1 b.f5.length b1)) (first | with_reducible exact hS0 | with_reducible exact hS1 | with_reducible exact hS2) (first | (go_at_call 144; (with_reducible refine (ha B0 b0 _ (HK.out.1) (HE.out.2.1.trans ((HO.out.drew).bel.mono HE.out.2.1.size)) (Tl.Tabs.below HE.out.2.2 (HO.out.drew).bel)).mono ?_); go_must (rintro e' v1 ⟨rfl, hb⟩; have HT1 := Lib.hid (Ow.below (HO.out.drew) hb); have hS1 : v1.cell? ⟨w.heap.size, 5, none⟩ = some (.slice (some ad0) l.length c) ∧ v1.cell? ad0 = some (.int .i64 a.f0) ∧ v1.cell? ⟨ad0.block, ad0.off + 1, none⟩ = some (.int .i64 a.f1) ∧ v1.cell? ⟨ad0.block, ad0.off + 2, none⟩ = some (.int .i64 a.f2) ∧ v1.cell? ⟨ad0.block, ad0.off + 3, none⟩ = some (.string a.f3) ∧ v1.cell? ⟨ad0.block, ad0.off + 4, none⟩ = some (.bool a.f4) ∧ v1.cell? ⟨ad0.block, ad0.off + 5, none⟩ = some (.slice B0 a.f5.length b0) ∧ v1.cell? ⟨ad0.block, ad0.off + 6, none⟩ = some (.int .i64 b.f0) ∧ v1.cell? ⟨ad0.block, ad0.off + 6 + 1, none⟩ = some (.int .i64 b.f1) ∧ v1.cell? ⟨ad0.block, ad0.off + 6 + 2, none⟩ = some (.int .i64 b.f2) ∧ v1.cell? ⟨ad0.block, ad0.off + 6 + 3, none⟩ = some (.string b.f3) ∧ v1.cell? ⟨ad0.block, ad0.off + 6 + 4, none⟩ = some (.bool b.f4) ∧ v1.cell? ⟨ad0.block, ad0.off + 6 + 5, none⟩ = some (.slice B1 b.f5.length b1) := pfS HT1.out; clear hb)) | (go_at_call 144; (with_reducible refine (hb1 B1 b1 _ (HK.out.2) (HE.out.2.1.trans ((HT1.out).bel.mono HE.out.2.1.size)) (Tl.Tabs.below HE.out.2.2 (HT1.out).bel)).mono ?_); go_must (rintro e' v2 ⟨rfl, hb⟩; have HT2 := Lib.hid (Ow.below (HT1.out) hb); have hS2 : v2.cell? ⟨w.heap.size, 5, none⟩ = some (.slice (some ad0) l.length c) ∧ v2.cell? ad0 = some (.int .i64 a.f0) ∧ v2.cell? ⟨ad0.block, ad0.off + 1, none⟩ = some (.int .i64 a.f1) ∧ v2.cell? ⟨ad0.block, ad0.off + 2, none⟩ = some (.int .i64 a.f2) ∧ v2.cell? ⟨ad0.block, ad0.off + 3, none⟩ = some (.string a.f3) ∧ v2.cell? ⟨ad0.block, ad0.off + 4, none⟩ = some (.bool a.f4) ∧ v2.cell? ⟨ad0.block, ad0.off + 5, none⟩ = some (.slice B0 a.f5.length b0) ∧ v2.cell? ⟨ad0.block, ad0.off + 6, none⟩ = some (.int .i64 b.f0) ∧ v2.cell? ⟨ad0.block, ad0.off + 6 + 1, none⟩ = some (.int .i64 b.f1) ∧ v2.cell? ⟨ad0.block, ad0.off + 6 + 2, none⟩ = some (.int .i64 b.f2) ∧ v2.cell? ⟨ad0.block, ad0.off + 6 + 3, none⟩ = some (.string b.f3) ∧ v2.cell? ⟨ad0.block, ad0.off + 6 + 4, none⟩ = some (.bool b.f4) ∧ v2.cell? ⟨ad0.block, ad0.off + 6 + 5, none⟩ = some (.slice B1 b.f5.length b1) := pfS HT2.out; clear hb)))
 go_wp2_with (fail)
 go_ret
 exact ⟨rfl, HT2.out.bel⟩
set_option maxHeartbeats 4000000 in
set_option maxRecDepth 100000 in
theorem text_k9 {w0 : World} {l : List E} {a b : E} {ta tb : ByteArray} {p n : Int} {m : ByteArray} {o : Bool} (hk : l = [a, b]) (ha : TxtIs w0 a ta) (sa : ta.size ≤ 1000002) (hb1 : AtIs w0 b 1 tb) (sb : tb.size ≤ 1000002) : TxtIs w0 ⟨9, p, n, m, o, l⟩ (ta ++ (⟨#[32, 102, 98, 121, 32]⟩ : ByteArray) ++ tb) := by
 intro A c w he hb hT
 have HE := Lib.hid (And.intro he (And.intro hb hT))
 obtain ⟨ad0, B0, b0, hA0, x0, x1, x2, x3, x4, x5, hE0⟩ := kid_at he.kids 0 a (by show l[_]? = _; rw [hk]; rfl)
 obtain ⟨ad1, B1, b1, hA1, y0, y1, y2, y3, y4, y5, hE1⟩ := kid_at he.kids 1 b (by show l[_]? = _; rw [hk]; rfl)
 subst hA0
 obtain rfl : ad0 = ad1 := Option.some.inj hA1
 simp only [Nat.reduceMul, Nat.reduceEqDiff, Go.Addr.add, ↓reduceIte] at x0 x1 x2 x3 x4 x5 y0 y1 y2 y3 y4 y5
 have HX0 : Hid (w0.cell? ad0 = some (.int .i64 a.f0) ∧ w0.cell? ⟨ad0.block, ad0.off + 1, none⟩ = some (.int .i64 a.f1) ∧ w0.cell? ⟨ad0.block, ad0.off + 2, none⟩ = some (.int .i64 a.f2) ∧ w0.cell? ⟨ad0.block, ad0.off + 3, none⟩ = some (.string a.f3) ∧ w0.cell? ⟨ad0.block, ad0.off + 4, none⟩ = some (.bool a.f4) ∧ w0.cell? ⟨ad0.block, ad0.off + 5, none⟩ = some (.slice B0 a.f5.length b0)) := Lib.hid ⟨x0, x1, x2, x3, x4, x5⟩
 have HX1 : Hid (w0.cell? ⟨ad0.block, ad0.off + 6, none⟩ = some (.int .i64 b.f0) ∧ w0.cell? ⟨ad0.block, ad0.off + 6 + 1, none⟩ = some (.int .i64 b.f1) ∧ w0.cell? ⟨ad0.block, ad0.off + 6 + 2, none⟩ = some (.int .i64 b.f2) ∧ w0.cell? ⟨ad0.block, ad0.off + 6 + 3, none⟩ = some (.string b.f3) ∧ w0.cell? ⟨ad0.block, ad0.off + 6 + 4, none⟩ = some (.bool b.f4) ∧ w0.cell? ⟨ad0.block, ad0.off + 6 + 5, none⟩ = some (.slice B1 b.f5.length b1)) := Lib.hid ⟨y0, y1, y2, y3, y4, y5⟩
 have HK := Lib.hid (And.intro hE0 hE1)
 have hlen : 2 ≤ l.length := by rw [hk]; exact Nat.le_refl _
 have l0 : (0 : Int) < (l.length : Int) := by omega
 have l0' : (0 < l.length) = True := eq_true (by omega)
 have l1 : (1 : Int) < (l.length : Int) := by omega
 have l1' : (1 < l.length) = True := eq_true (by omega)
 clear hk hlen x0 x1 x2 x3 x4 x5 y0 y1 y2 y3 y4 y5 hE0 hE1 hA1
 have q0 : (9223372036854775807 < ta.size + 5) = False := eq_false (by omega)
 have q1 : (9223372036854775807 < ta.size + 5 + tb.size) = False := eq_false (by omega)
 clear he hb hT
 go_enter Tryz.func96, Tryz.ntmps96
 go_wp2_with (fail)
 have HO := Lib.hid ((Ow.start w).new (q := exO ⟨9, p, n, m, o, l⟩ (some ad0) c))
 generalize hW : w.alloc _ = W
 rw [hW] at HO
 clear hW
 have pfS : ∀ {V : World}, Ow w V [(w.heap.size, exO ⟨9, p, n, m, o, l⟩ (some ad0) c)] → V.cell? ⟨w.heap.size, 5, none⟩ = some (.slice (some ad0) l.length c) ∧ V.cell? ad0 = some (.int .i64 a.f0) ∧ V.cell? ⟨ad0.block, ad0.off + 1, none⟩ = some (.int .i64 a.f1) ∧ V.cell? ⟨ad0.block, ad0.off + 2, none⟩ = some (.int .i64 a.f2) ∧ V.cell? ⟨ad0.block, ad0.off + 3, none⟩ = some (.string a.f3) ∧ V.cell? ⟨ad0.block, ad0.off + 4, none⟩ = some (.bool a.f4) ∧ V.cell? ⟨ad0.block, ad0.off + 5, none⟩ = some (.slice B0 a.f5.length b0) ∧ V.cell? ⟨ad0.block, ad0.off + 6, none⟩ = some (.int .i64 b.f0) ∧ V.cell? ⟨ad0.block, ad0.off + 6 + 1, none⟩ = some (.int .i64 b.f1) ∧ V.cell? ⟨ad0.block, ad0.off + 6 + 2, none⟩ = some (.int .i64 b.f2) ∧ V.cell? ⟨ad0.block, ad0.off + 6 + 3, none⟩ = some (.string b.f3) ∧ V.cell? ⟨ad0.block, ad0.off + 6 + 4, none⟩ = some (.bool b.f4) ∧ V.cell? ⟨ad0.block, ad0.off + 6 + 5, none⟩ = some (.slice B1 b.f5.length b1) := fun {V} h => ⟨blk_cell h.l0 5, pw_cell_below (HE.out.2.1.trans (h.bel.mono HE.out.2.1.size)) (HX0.out.1), pw_cell_below (HE.out.2.1.trans (h.bel.mono HE.out.2.1.size)) (HX0.out.2.1), pw_cell_below (HE.out.2.1.trans (h.bel.mono HE.out.2.1.size)) (HX0.out.2.2.1), pw_cell_below (HE.out.2.1.trans (h.bel.mono HE.out.2.1.size)) (HX0.out.2.2.2.1), pw_cell_below (HE.out.2.1.trans (h.bel.mono HE.out.2.1.size)) (HX0.out.2.2.2.2.1), pw_cell_below (HE.out.2.1.trans (h.bel.mono HE.out.2.1.size)) (HX0.out.2.2.2.2.2), pw_cell_below (HE.out.2.1.trans (h.bel.mono HE.out.2.1.size)) (HX1.out.1), pw_cell_below (HE.out.2.1.trans (h.bel.mono HE.out.2.1.size)) (HX1.out.2.1), pw_cell_below (HE.out.2.1.trans (h.bel.mono HE.out.2.1.size)) (HX1.out.2.2.1), pw_cell_below (HE.out.2.1.trans (h.bel.mono HE.out.2.1.size)) (HX1.out.2.2.2.1), pw_cell_below (HE.out.2.1.trans (h.bel.mono HE.out.2.1.size)) (HX1.out.2.2.2.2.1), pw_cell_below (HE.out.2.1.trans (h.bel.mono HE.out.2.1.size)) (HX1.out.2.2.2.2.2)⟩
 have hS0 : (W.drew).cell? ⟨w.heap.size, 5, none⟩ = some (.slice (some ad0) l.length c) ∧ (W.drew).cell? ad0 = some (.int .i64 a.f0) ∧ (W.drew).cell? ⟨ad0.block, ad0.off + 1, none⟩ = some (.int .i64 a.f1) ∧ (W.drew).cell? ⟨ad0.block, ad0.off + 2, none⟩ = some (.int .i64 a.f2) ∧ (W.drew).cell? ⟨ad0.block, ad0.off + 3, none⟩ = some (.string a.f3) ∧ (W.drew).cell? ⟨ad0.block, ad0.off + 4, none⟩ = some (.bool a.f4) ∧ (W.drew).cell? ⟨ad0.block, ad0.off + 5, none⟩ = some (.slice B0 a.f5.length b0) ∧ (W.drew).cell? ⟨ad0.block, ad0.off + 6, none⟩ = some (.int .i64 b.f0) ∧ (W.drew).cell? ⟨ad0.block, ad0.off + 6 + 1, none⟩ = some (.int .i64 b.f1) ∧ (W.drew).cell? ⟨ad0.block, ad0.off + 6 + 2, none⟩ = some (.int .i64 b.f2) ∧ (W.drew).cell? ⟨ad0.block, ad0.off + 6 + 3, none⟩ = some (.string b.f3) ∧ (W.drew).cell? ⟨ad0.block, ad0.off + 6 + 4, none⟩ = some (.bool b.f4) ∧ (W.drew).cell? ⟨ad0.block, ad0.off + 6 + 5, none⟩ = some (.slice B1 b.f5.length b1) := pfS HO.out.drew
 go_region_held2 (fun w' => w'.cell? ⟨w.heap.size, 5, none⟩ = some (.slice (some ad0) l.length c) ∧ w'.cell? ad0 = some (.int .i64 a.f0) ∧ w'.cell? ⟨ad0.block, ad0.off + 1, none⟩ = some (.int .i64 a.f1) ∧ w'.cell? ⟨ad0.block, ad0.off + 2, none⟩ = some (.int .i64 a.f2) ∧ w'.cell? ⟨ad0.block, ad0.off + 3, none⟩ = some (.string a.f3) ∧ w'.cell? ⟨ad0.block, ad0.off + 4, none⟩ = some (.bool a.f4) ∧ w'.cell? ⟨ad0.block, ad0.off + 5, none⟩ = some (.slice B0 a.f5.length b0) ∧ w'.cell? ⟨ad0.block, ad0.off + 6, none⟩ = some (.int .i64 b.f0) ∧ w'.cell? ⟨ad0.block, ad0.off + 6 + 1, none⟩ = some (.int .i64 b.f1) ∧ w'.cell? ⟨ad0.block, ad0.off + 6 + 2, none⟩ = some (.int .i64 b.f2) ∧ w'.cell? ⟨ad0.block, ad0.off + 6 + 3, none⟩ = some (.string b.f3) ∧ w'.cell? ⟨ad0.block, ad0.off + 6 + 4, none⟩ = some (.bool b.f4) ∧ w'.cell? ⟨ad0.block, ad0.off + 6 + 5, none⟩ = some (.slice B1 b.f5.length b1)) (first | with_reducible exact hS0 | with_reducible exact hS1 | with_reducible exact hS2) (first | (go_at_call 96; (with_reducible refine (ha B0 b0 _ (HK.out.1) (HE.out.2.1.trans ((HO.out.drew).bel.mono HE.out.2.1.size)) (Tl.Tabs.below HE.out.2.2 (HO.out.drew).bel)).mono ?_); go_must (rintro e' v1 ⟨rfl, hb⟩; have HT1 := Lib.hid (Ow.below (HO.out.drew) hb); have hS1 : v1.cell? ⟨w.heap.size, 5, none⟩ = some (.slice (some ad0) l.length c) ∧ v1.cell? ad0 = some (.int .i64 a.f0) ∧ v1.cell? ⟨ad0.block, ad0.off + 1, none⟩ = some (.int .i64 a.f1) ∧ v1.cell? ⟨ad0.block, ad0.off + 2, none⟩ = some (.int .i64 a.f2) ∧ v1.cell? ⟨ad0.block, ad0.off + 3, none⟩ = some (.string a.f3) ∧ v1.cell? ⟨ad0.block, ad0.off + 4, none⟩ = some (.bool a.f4) ∧ v1.cell? ⟨ad0.block, ad0.off + 5, none⟩ = some (.slice B0 a.f5.length b0) ∧ v1.cell? ⟨ad0.block, ad0.off + 6, none⟩ = some (.int .i64 b.f0) ∧ v1.cell? ⟨ad0.block, ad0.off + 6 + 1, none⟩ = some (.int .i64 b.f1) ∧ v1.cell? ⟨ad0.block, ad0.off + 6 + 2, none⟩ = some (.int .i64 b.f2) ∧ v1.cell? ⟨ad0.block, ad0.off + 6 + 3, none⟩ = some (.string b.f3) ∧ v1.cell? ⟨ad0.block, ad0.off + 6 + 4, none⟩ = some (.bool b.f4) ∧ v1.cell? ⟨ad0.block, ad0.off + 6 + 5, none⟩ = some (.slice B1 b.f5.length b1) := pfS HT1.out; clear hb)) | (go_at_call 144; (with_reducible refine (hb1 B1 b1 _ (HK.out.2) (HE.out.2.1.trans ((HT1.out).bel.mono HE.out.2.1.size)) (Tl.Tabs.below HE.out.2.2 (HT1.out).bel)).mono ?_); go_must (rintro e' v2 ⟨rfl, hb⟩; have HT2 := Lib.hid (Ow.below (HT1.out) hb); have hS2 : v2.cell? ⟨w.heap.size, 5, none⟩ = some (.slice (some ad0) l.length c) ∧ v2.cell? ad0 = some (.int .i64 a.f0) ∧ v2.cell? ⟨ad0.block, ad0.off + 1, none⟩ = some (.int .i64 a.f1) ∧ v2.cell? ⟨ad0.block, ad0.off + 2, none⟩ = some (.int .i64 a.f2) ∧ v2.cell? ⟨ad0.block, ad0.off + 3, none⟩ = some (.string a.f3) ∧ v2.cell? ⟨ad0.block, ad0.off + 4, none⟩ = some (.bool a.f4) ∧ v2.cell? ⟨ad0.block, ad0.off + 5, none⟩ = some (.slice B0 a.f5.length b0) ∧ v2.cell? ⟨ad0.block, ad0.off + 6, none⟩ = some (.int .i64 b.f0) ∧ v2.cell? ⟨ad0.block, ad0.off + 6 + 1, none⟩ = some (.int .i64 b.f1) ∧ v2.cell? ⟨ad0.block, ad0.off + 6 + 2, none⟩ = some (.int .i64 b.f2) ∧ v2.cell? ⟨ad0.block, ad0.off + 6 + 3, none⟩ = some (.string b.f3) ∧ v2.cell? ⟨ad0.block, ad0.off + 6 + 4, none⟩ = some (.bool b.f4) ∧ v2.cell? ⟨ad0.block, ad0.off + 6 + 5, none⟩ = some (.slice B1 b.f5.length b1) := pfS HT2.out; clear hb)))
 go_wp2_with (fail)
 go_ret
 exact ⟨rfl, HT2.out.bel⟩
set_option maxHeartbeats 4000000 in
set_option maxRecDepth 100000 in
theorem text_k12 {w0 : World} {l : List E} {a b : E} {ta tb : ByteArray} {p n : Int} {m : ByteArray} {o : Bool} (hk : l = [a, b]) (ha : TxtIs w0 a ta) (sa : ta.size ≤ 1000002) (hb1 : TxtIs w0 b tb) (sb : tb.size ≤ 1000002) (sm : m.size ≤ 1000000) : TxtIs w0 ⟨12, p, n, m, o, l⟩ ((⟨#[109, 101, 114, 103, 101, 32]⟩ : ByteArray) ++ m ++ (⟨#[32, 40]⟩ : ByteArray) ++ ta ++ (⟨#[41, 32, 40]⟩ : ByteArray) ++ tb ++ (⟨#[41]⟩ : ByteArray)) := by
 intro A c w he hb hT
 have HE := Lib.hid (And.intro he (And.intro hb hT))
 obtain ⟨ad0, B0, b0, hA0, x0, x1, x2, x3, x4, x5, hE0⟩ := kid_at he.kids 0 a (by show l[_]? = _; rw [hk]; rfl)
 obtain ⟨ad1, B1, b1, hA1, y0, y1, y2, y3, y4, y5, hE1⟩ := kid_at he.kids 1 b (by show l[_]? = _; rw [hk]; rfl)
 subst hA0
 obtain rfl : ad0 = ad1 := Option.some.inj hA1
 simp only [Nat.reduceMul, Nat.reduceEqDiff, Go.Addr.add, ↓reduceIte] at x0 x1 x2 x3 x4 x5 y0 y1 y2 y3 y4 y5
 have HX0 : Hid (w0.cell? ad0 = some (.int .i64 a.f0) ∧ w0.cell? ⟨ad0.block, ad0.off + 1, none⟩ = some (.int .i64 a.f1) ∧ w0.cell? ⟨ad0.block, ad0.off + 2, none⟩ = some (.int .i64 a.f2) ∧ w0.cell? ⟨ad0.block, ad0.off + 3, none⟩ = some (.string a.f3) ∧ w0.cell? ⟨ad0.block, ad0.off + 4, none⟩ = some (.bool a.f4) ∧ w0.cell? ⟨ad0.block, ad0.off + 5, none⟩ = some (.slice B0 a.f5.length b0)) := Lib.hid ⟨x0, x1, x2, x3, x4, x5⟩
 have HX1 : Hid (w0.cell? ⟨ad0.block, ad0.off + 6, none⟩ = some (.int .i64 b.f0) ∧ w0.cell? ⟨ad0.block, ad0.off + 6 + 1, none⟩ = some (.int .i64 b.f1) ∧ w0.cell? ⟨ad0.block, ad0.off + 6 + 2, none⟩ = some (.int .i64 b.f2) ∧ w0.cell? ⟨ad0.block, ad0.off + 6 + 3, none⟩ = some (.string b.f3) ∧ w0.cell? ⟨ad0.block, ad0.off + 6 + 4, none⟩ = some (.bool b.f4) ∧ w0.cell? ⟨ad0.block, ad0.off + 6 + 5, none⟩ = some (.slice B1 b.f5.length b1)) := Lib.hid ⟨y0, y1, y2, y3, y4, y5⟩
 have HK := Lib.hid (And.intro hE0 hE1)
 have hlen : 2 ≤ l.length := by rw [hk]; exact Nat.le_refl _
 have l0 : (0 : Int) < (l.length : Int) := by omega
 have l0' : (0 < l.length) = True := eq_true (by omega)
 have l1 : (1 : Int) < (l.length : Int) := by omega
 have l1' : (1 < l.length) = True := eq_true (by omega)
 clear hk hlen x0 x1 x2 x3 x4 x5 y0 y1 y2 y3 y4 y5 hE0 hE1 hA1
 have q0 : (9223372036854775807 < 6 + m.size) = False := eq_false (by omega)
 have q1 : (9223372036854775807 < 6 + m.size + 2) = False := eq_false (by omega)
 have q2 : (9223372036854775807 < 6 + m.size + 2 + ta.size) = False := eq_false (by omega)
 have q3 : (9223372036854775807 < 6 + m.size + 2 + ta.size + 3) = False := eq_false (by omega)
 have q4 : (9223372036854775807 < 6 + m.size + 2 + ta.size + 3 + tb.size) = False := eq_false (by omega)
 have q5 : (9223372036854775807 < 6 + m.size + 2 + ta.size + 3 + tb.size + 1) = False := eq_false (by omega)
 clear he hb hT
 go_enter Tryz.func96, Tryz.ntmps96
 go_wp2_with (fail)
 have HO := Lib.hid ((Ow.start w).new (q := exO ⟨12, p, n, m, o, l⟩ (some ad0) c))
 generalize hW : w.alloc _ = W
 rw [hW] at HO
 clear hW
 have pfS : ∀ {V : World}, Ow w V [(w.heap.size, exO ⟨12, p, n, m, o, l⟩ (some ad0) c)] → V.cell? ⟨w.heap.size, 3, none⟩ = some (.string m) ∧ V.cell? ⟨w.heap.size, 5, none⟩ = some (.slice (some ad0) l.length c) ∧ V.cell? ad0 = some (.int .i64 a.f0) ∧ V.cell? ⟨ad0.block, ad0.off + 1, none⟩ = some (.int .i64 a.f1) ∧ V.cell? ⟨ad0.block, ad0.off + 2, none⟩ = some (.int .i64 a.f2) ∧ V.cell? ⟨ad0.block, ad0.off + 3, none⟩ = some (.string a.f3) ∧ V.cell? ⟨ad0.block, ad0.off + 4, none⟩ = some (.bool a.f4) ∧ V.cell? ⟨ad0.block, ad0.off + 5, none⟩ = some (.slice B0 a.f5.length b0) ∧ V.cell? ⟨ad0.block, ad0.off + 6, none⟩ = some (.int .i64 b.f0) ∧ V.cell? ⟨ad0.block, ad0.off + 6 + 1, none⟩ = some (.int .i64 b.f1) ∧ V.cell? ⟨ad0.block, ad0.off + 6 + 2, none⟩ = some (.int .i64 b.f2) ∧ V.cell? ⟨ad0.block, ad0.off + 6 + 3, none⟩ = some (.string b.f3) ∧ V.cell? ⟨ad0.block, ad0.off + 6 + 4, none⟩ = some (.bool b.f4) ∧ V.cell? ⟨ad0.block, ad0.off + 6 + 5, none⟩ = some (.slice B1 b.f5.length b1) := fun {V} h => ⟨blk_cell h.l0 3, blk_cell h.l0 5, pw_cell_below (HE.out.2.1.trans (h.bel.mono HE.out.2.1.size)) (HX0.out.1), pw_cell_below (HE.out.2.1.trans (h.bel.mono HE.out.2.1.size)) (HX0.out.2.1), pw_cell_below (HE.out.2.1.trans (h.bel.mono HE.out.2.1.size)) (HX0.out.2.2.1), pw_cell_below (HE.out.2.1.trans (h.bel.mono HE.out.2.1.size)) (HX0.out.2.2.2.1), pw_cell_below (HE.out.2.1.trans (h.bel.mono HE.out.2.1.size)) (HX0.out.2.2.2.2.1), pw_cell_below (HE.out.2.1.trans (h.bel.mono HE.out.2.1.size)) (HX0.out.2.2.2.2.2), pw_cell_below (HE.out.2.1.trans (h.bel.mono HE.out.2.1.size)) (HX1.out.1), pw_cell_below (HE.out.2.1.trans (h.bel.mono HE.out.2.1.size)) (HX1.out.2.1), pw_cell_below (HE.out.2.1.trans (h.bel.mono HE.out.2.1.size)) (HX1.out.2.2.1), pw_cell_below (HE.out.2.1.trans (h.bel.mono HE.out.2.1.size)) (HX1.out.2.2.2.1), pw_cell_below (HE.out.2.1.trans (h.bel.mono HE.out.2.1.size)) (HX1.out.2.2.2.2.1), pw_cell_below (HE.out.2.1.trans (h.bel.mono HE.out.2.1.size)) (HX1.out.2.2.2.2.2)⟩
 have hS0 : (W.drew).cell? ⟨w.heap.size, 3, none⟩ = some (.string m) ∧ (W.drew).cell? ⟨w.heap.size, 5, none⟩ = some (.slice (some ad0) l.length c) ∧ (W.drew).cell? ad0 = some (.int .i64 a.f0) ∧ (W.drew).cell? ⟨ad0.block, ad0.off + 1, none⟩ = some (.int .i64 a.f1) ∧ (W.drew).cell? ⟨ad0.block, ad0.off + 2, none⟩ = some (.int .i64 a.f2) ∧ (W.drew).cell? ⟨ad0.block, ad0.off + 3, none⟩ = some (.string a.f3) ∧ (W.drew).cell? ⟨ad0.block, ad0.off + 4, none⟩ = some (.bool a.f4) ∧ (W.drew).cell? ⟨ad0.block, ad0.off + 5, none⟩ = some (.slice B0 a.f5.length b0) ∧ (W.drew).cell? ⟨ad0.block, ad0.off + 6, none⟩ = some (.int .i64 b.f0) ∧ (W.drew).cell? ⟨ad0.block, ad0.off + 6 + 1, none⟩ = some (.int .i64 b.f1) ∧ (W.drew).cell? ⟨ad0.block, ad0.off + 6 + 2, none⟩ = some (.int .i64 b.f2) ∧ (W.drew).cell? ⟨ad0.block, ad0.off + 6 + 3, none⟩ = some (.string b.f3) ∧ (W.drew).cell? ⟨ad0.block, ad0.off + 6 + 4, none⟩ = some (.bool b.f4) ∧ (W.drew).cell? ⟨ad0.block, ad0.off + 6 + 5, none⟩ = some (.slice B1 b.f5.length b1) := pfS HO.out.drew
 go_region_held2 (fun w' => w'.cell? ⟨w.heap.size, 3, none⟩ = some (.string m) ∧ w'.cell? ⟨w.heap.size, 5, none⟩ = some (.slice (some ad0) l.length c) ∧ w'.cell? ad0 = some (.int .i64 a.f0) ∧ w'.cell? ⟨ad0.block, ad0.off + 1, none⟩ = some (.int .i64 a.f1) ∧ w'.cell? ⟨ad0.block, ad0.off + 2, none⟩ = some (.int .i64 a.f2) ∧ w'.cell? ⟨ad0.block, ad0.off + 3, none⟩ = some (.string a.f3) ∧ w'.cell? ⟨ad0.block, ad0.off + 4, none⟩ = some (.bool a.f4) ∧ w'.cell? ⟨ad0.block, ad0.off + 5, none⟩ = some (.slice B0 a.f5.length b0) ∧ w'.cell? ⟨ad0.block, ad0.off + 6, none⟩ = some (.int .i64 b.f0) ∧ w'.cell? ⟨ad0.block, ad0.off + 6 + 1, none⟩ = some (.int .i64 b.f1) ∧ w'.cell? ⟨ad0.block, ad0.off + 6 + 2, none⟩ = some (.int .i64 b.f2) ∧ w'.cell? ⟨ad0.block, ad0.off + 6 + 3, none⟩ = some (.string b.f3) ∧ w'.cell? ⟨ad0.block, ad0.off + 6 + 4, none⟩ = some (.bool b.f4) ∧ w'.cell? ⟨ad0.block, ad0.off + 6 + 5, none⟩ = some (.slice B1 b.f5.length b1)) (first | with_reducible exact hS0 | with_reducible exact hS1 | with_reducible exact hS2) (first | (go_at_call 96; (with_reducible refine (ha B0 b0 _ (HK.out.1) (HE.out.2.1.trans ((HO.out.drew).bel.mono HE.out.2.1.size)) (Tl.Tabs.below HE.out.2.2 (HO.out.drew).bel)).mono ?_); go_must (rintro e' v1 ⟨rfl, hb⟩; have HT1 := Lib.hid (Ow.below (HO.out.drew) hb); have hS1 : v1.cell? ⟨w.heap.size, 3, none⟩ = some (.string m) ∧ v1.cell? ⟨w.heap.size, 5, none⟩ = some (.slice (some ad0) l.length c) ∧ v1.cell? ad0 = some (.int .i64 a.f0) ∧ v1.cell? ⟨ad0.block, ad0.off + 1, none⟩ = some (.int .i64 a.f1) ∧ v1.cell? ⟨ad0.block, ad0.off + 2, none⟩ = some (.int .i64 a.f2) ∧ v1.cell? ⟨ad0.block, ad0.off + 3, none⟩ = some (.string a.f3) ∧ v1.cell? ⟨ad0.block, ad0.off + 4, none⟩ = some (.bool a.f4) ∧ v1.cell? ⟨ad0.block, ad0.off + 5, none⟩ = some (.slice B0 a.f5.length b0) ∧ v1.cell? ⟨ad0.block, ad0.off + 6, none⟩ = some (.int .i64 b.f0) ∧ v1.cell? ⟨ad0.block, ad0.off + 6 + 1, none⟩ = some (.int .i64 b.f1) ∧ v1.cell? ⟨ad0.block, ad0.off + 6 + 2, none⟩ = some (.int .i64 b.f2) ∧ v1.cell? ⟨ad0.block, ad0.off + 6 + 3, none⟩ = some (.string b.f3) ∧ v1.cell? ⟨ad0.block, ad0.off + 6 + 4, none⟩ = some (.bool b.f4) ∧ v1.cell? ⟨ad0.block, ad0.off + 6 + 5, none⟩ = some (.slice B1 b.f5.length b1) := pfS HT1.out; clear hb)) | (go_at_call 96; (with_reducible refine (hb1 B1 b1 _ (HK.out.2) (HE.out.2.1.trans ((HT1.out).bel.mono HE.out.2.1.size)) (Tl.Tabs.below HE.out.2.2 (HT1.out).bel)).mono ?_); go_must (rintro e' v2 ⟨rfl, hb⟩; have HT2 := Lib.hid (Ow.below (HT1.out) hb); have hS2 : v2.cell? ⟨w.heap.size, 3, none⟩ = some (.string m) ∧ v2.cell? ⟨w.heap.size, 5, none⟩ = some (.slice (some ad0) l.length c) ∧ v2.cell? ad0 = some (.int .i64 a.f0) ∧ v2.cell? ⟨ad0.block, ad0.off + 1, none⟩ = some (.int .i64 a.f1) ∧ v2.cell? ⟨ad0.block, ad0.off + 2, none⟩ = some (.int .i64 a.f2) ∧ v2.cell? ⟨ad0.block, ad0.off + 3, none⟩ = some (.string a.f3) ∧ v2.cell? ⟨ad0.block, ad0.off + 4, none⟩ = some (.bool a.f4) ∧ v2.cell? ⟨ad0.block, ad0.off + 5, none⟩ = some (.slice B0 a.f5.length b0) ∧ v2.cell? ⟨ad0.block, ad0.off + 6, none⟩ = some (.int .i64 b.f0) ∧ v2.cell? ⟨ad0.block, ad0.off + 6 + 1, none⟩ = some (.int .i64 b.f1) ∧ v2.cell? ⟨ad0.block, ad0.off + 6 + 2, none⟩ = some (.int .i64 b.f2) ∧ v2.cell? ⟨ad0.block, ad0.off + 6 + 3, none⟩ = some (.string b.f3) ∧ v2.cell? ⟨ad0.block, ad0.off + 6 + 4, none⟩ = some (.bool b.f4) ∧ v2.cell? ⟨ad0.block, ad0.off + 6 + 5, none⟩ = some (.slice B1 b.f5.length b1) := pfS HT2.out; clear hb)))
 go_wp2_with (fail)
 go_ret
 exact ⟨rfl, HT2.out.bel⟩
set_option maxHeartbeats 4000000 in
set_option maxRecDepth 100000 in
theorem bin_5 {w0 : World} {l : List E} {a b : E} {ta tb : ByteArray} {p n : Int} {m : ByteArray} {o : Bool} (hk : l = [a, b]) (ha : AtIs w0 a 6 ta) (sa : ta.size ≤ 1000002) (hb1 : AtIs w0 b 6 tb) (sb : tb.size ≤ 1000002) (sm : m.size ≤ 1000000) (hL : PX.signLevel m.data.toList = 5) : BinIs w0 ⟨6, p, n, m, o, l⟩ (ta ++ (⟨#[32]⟩ : ByteArray) ++ m ++ (⟨#[32]⟩ : ByteArray) ++ tb) := by
 intro A c w he hb hT
 have HE := Lib.hid (And.intro he (And.intro hb hT))
 obtain ⟨ad0, B0, b0, hA0, x0, x1, x2, x3, x4, x5, hE0⟩ := kid_at he.kids 0 a (by show l[_]? = _; rw [hk]; rfl)
 obtain ⟨ad1, B1, b1, hA1, y0, y1, y2, y3, y4, y5, hE1⟩ := kid_at he.kids 1 b (by show l[_]? = _; rw [hk]; rfl)
 subst hA0
 obtain rfl : ad0 = ad1 := Option.some.inj hA1
 simp only [Nat.reduceMul, Nat.reduceEqDiff, Go.Addr.add, ↓reduceIte] at x0 x1 x2 x3 x4 x5 y0 y1 y2 y3 y4 y5
 have HX0 : Hid (w0.cell? ad0 = some (.int .i64 a.f0) ∧ w0.cell? ⟨ad0.block, ad0.off + 1, none⟩ = some (.int .i64 a.f1) ∧ w0.cell? ⟨ad0.block, ad0.off + 2, none⟩ = some (.int .i64 a.f2) ∧ w0.cell? ⟨ad0.block, ad0.off + 3, none⟩ = some (.string a.f3) ∧ w0.cell? ⟨ad0.block, ad0.off + 4, none⟩ = some (.bool a.f4) ∧ w0.cell? ⟨ad0.block, ad0.off + 5, none⟩ = some (.slice B0 a.f5.length b0)) := Lib.hid ⟨x0, x1, x2, x3, x4, x5⟩
 have HX1 : Hid (w0.cell? ⟨ad0.block, ad0.off + 6, none⟩ = some (.int .i64 b.f0) ∧ w0.cell? ⟨ad0.block, ad0.off + 6 + 1, none⟩ = some (.int .i64 b.f1) ∧ w0.cell? ⟨ad0.block, ad0.off + 6 + 2, none⟩ = some (.int .i64 b.f2) ∧ w0.cell? ⟨ad0.block, ad0.off + 6 + 3, none⟩ = some (.string b.f3) ∧ w0.cell? ⟨ad0.block, ad0.off + 6 + 4, none⟩ = some (.bool b.f4) ∧ w0.cell? ⟨ad0.block, ad0.off + 6 + 5, none⟩ = some (.slice B1 b.f5.length b1)) := Lib.hid ⟨y0, y1, y2, y3, y4, y5⟩
 have HK := Lib.hid (And.intro hE0 hE1)
 have hlen : 2 ≤ l.length := by rw [hk]; exact Nat.le_refl _
 have l0 : (0 : Int) < (l.length : Int) := by omega
 have l0' : (0 < l.length) = True := eq_true (by omega)
 have l1 : (1 : Int) < (l.length : Int) := by omega
 have l1' : (1 < l.length) = True := eq_true (by omega)
 clear hk hlen x0 x1 x2 x3 x4 x5 y0 y1 y2 y3 y4 y5 hE0 hE1 hA1
 obtain ⟨lv, hlv⟩ : ∃ lv : Int, (PX.signLevel m.data.toList : Int) = lv := ⟨_, rfl⟩
 have hlw : ∀ w, Calls Tryz.prog 169 #[exA ⟨6, p, n, m, o, l⟩ (some ad0) c] w fun e' w' => e' = .returned (.int .i64 lv) ∧ Below w.heap.size w w' := fun w => by
  have h9 := level_walk ⟨6, p, n, m, o, l⟩ (some ad0) c (show (0 : Int) ≤ 6 by decide) w
  have e9 : (PX.lvl (6 : Int).toNat n m.data.toList : Int) = lv := hlv
  dsimp only at h9
  rw [e9] at h9
  exact h9
 rw [hL] at hlv
 subst hlv
 have hb2 : AtIs w0 b (IntKind.i64.wrap 6) tb := by
  have e : IntKind.i64.wrap 6 = 6 := by decide
  rw [e]
  exact hb1
 have HLW := Lib.hid hlw
 clear hlw
 have q0 : (9223372036854775807 < ta.size + 1) = False := eq_false (by omega)
 have q1 : (9223372036854775807 < ta.size + 1 + m.size) = False := eq_false (by omega)
 have q2 : (9223372036854775807 < ta.size + 1 + m.size + 1) = False := eq_false (by omega)
 have q3 : (9223372036854775807 < ta.size + 1 + m.size + 1 + tb.size) = False := eq_false (by omega)
 clear he hb hT
 go_enter Tryz.func145, Tryz.ntmps145
 go_wp2_with (fail)
 have HO0 := Lib.hid ((Ow.start w).new (q := exO ⟨6, p, n, m, o, l⟩ (some ad0) c))
 refine (HLW.out _).mono ?_
 rintro e' W ⟨rfl, hb⟩
 have HO := Lib.hid (HO0.out.below hb)
 clear hb
 obtain ⟨r0, r1, r2, r3, r4, r5, rf⟩ := blk6 HO.out.l0
 have rl := blk_lt HO.out.l0
 go_wp2_with (fail)
 have pfS : ∀ {V : World}, Ow w V [(w.heap.size, exO ⟨6, p, n, m, o, l⟩ (some ad0) c)] → V.cell? ⟨w.heap.size, 3, none⟩ = some (.string m) ∧ V.cell? ⟨w.heap.size, 5, none⟩ = some (.slice (some ad0) l.length c) ∧ V.cell? ad0 = some (.int .i64 a.f0) ∧ V.cell? ⟨ad0.block, ad0.off + 1, none⟩ = some (.int .i64 a.f1) ∧ V.cell? ⟨ad0.block, ad0.off + 2, none⟩ = some (.int .i64 a.f2) ∧ V.cell? ⟨ad0.block, ad0.off + 3, none⟩ = some (.string a.f3) ∧ V.cell? ⟨ad0.block, ad0.off + 4, none⟩ = some (.bool a.f4) ∧ V.cell? ⟨ad0.block, ad0.off + 5, none⟩ = some (.slice B0 a.f5.length b0) ∧ V.cell? ⟨ad0.block, ad0.off + 6, none⟩ = some (.int .i64 b.f0) ∧ V.cell? ⟨ad0.block, ad0.off + 6 + 1, none⟩ = some (.int .i64 b.f1) ∧ V.cell? ⟨ad0.block, ad0.off + 6 + 2, none⟩ = some (.int .i64 b.f2) ∧ V.cell? ⟨ad0.block, ad0.off + 6 + 3, none⟩ = some (.string b.f3) ∧ V.cell? ⟨ad0.block, ad0.off + 6 + 4, none⟩ = some (.bool b.f4) ∧ V.cell? ⟨ad0.block, ad0.off + 6 + 5, none⟩ = some (.slice B1 b.f5.length b1) := fun {V} h => ⟨blk_cell h.l0 3, blk_cell h.l0 5, pw_cell_below (HE.out.2.1.trans (h.bel.mono HE.out.2.1.size)) (HX0.out.1), pw_cell_below (HE.out.2.1.trans (h.bel.mono HE.out.2.1.size)) (HX0.out.2.1), pw_cell_below (HE.out.2.1.trans (h.bel.mono HE.out.2.1.size)) (HX0.out.2.2.1), pw_cell_below (HE.out.2.1.trans (h.bel.mono HE.out.2.1.size)) (HX0.out.2.2.2.1), pw_cell_below (HE.out.2.1.trans (h.bel.mono HE.out.2.1.size)) (HX0.out.2.2.2.2.1), pw_cell_below (HE.out.2.1.trans (h.bel.mono HE.out.2.1.size)) (HX0.out.2.2.2.2.2), pw_cell_below (HE.out.2.1.trans (h.bel.mono HE.out.2.1.size)) (HX1.out.1), pw_cell_below (HE.out.2.1.trans (h.bel.mono HE.out.2.1.size)) (HX1.out.2.1), pw_cell_below (HE.out.2.1.trans (h.bel.mono HE.out.2.1.size)) (HX1.out.2.2.1), pw_cell_below (HE.out.2.1.trans (h.bel.mono HE.out.2.1.size)) (HX1.out.2.2.2.1), pw_cell_below (HE.out.2.1.trans (h.bel.mono HE.out.2.1.size)) (HX1.out.2.2.2.2.1), pw_cell_below (HE.out.2.1.trans (h.bel.mono HE.out.2.1.size)) (HX1.out.2.2.2.2.2)⟩
 have hS0 : (W.drew).cell? ⟨w.heap.size, 3, none⟩ = some (.string m) ∧ (W.drew).cell? ⟨w.heap.size, 5, none⟩ = some (.slice (some ad0) l.length c) ∧ (W.drew).cell? ad0 = some (.int .i64 a.f0) ∧ (W.drew).cell? ⟨ad0.block, ad0.off + 1, none⟩ = some (.int .i64 a.f1) ∧ (W.drew).cell? ⟨ad0.block, ad0.off + 2, none⟩ = some (.int .i64 a.f2) ∧ (W.drew).cell? ⟨ad0.block, ad0.off + 3, none⟩ = some (.string a.f3) ∧ (W.drew).cell? ⟨ad0.block, ad0.off + 4, none⟩ = some (.bool a.f4) ∧ (W.drew).cell? ⟨ad0.block, ad0.off + 5, none⟩ = some (.slice B0 a.f5.length b0) ∧ (W.drew).cell? ⟨ad0.block, ad0.off + 6, none⟩ = some (.int .i64 b.f0) ∧ (W.drew).cell? ⟨ad0.block, ad0.off + 6 + 1, none⟩ = some (.int .i64 b.f1) ∧ (W.drew).cell? ⟨ad0.block, ad0.off + 6 + 2, none⟩ = some (.int .i64 b.f2) ∧ (W.drew).cell? ⟨ad0.block, ad0.off + 6 + 3, none⟩ = some (.string b.f3) ∧ (W.drew).cell? ⟨ad0.block, ad0.off + 6 + 4, none⟩ = some (.bool b.f4) ∧ (W.drew).cell? ⟨ad0.block, ad0.off + 6 + 5, none⟩ = some (.slice B1 b.f5.length b1) := pfS HO.out.drew
 go_region_held2 (fun w' => w'.cell? ⟨w.heap.size, 3, none⟩ = some (.string m) ∧ w'.cell? ⟨w.heap.size, 5, none⟩ = some (.slice (some ad0) l.length c) ∧ w'.cell? ad0 = some (.int .i64 a.f0) ∧ w'.cell? ⟨ad0.block, ad0.off + 1, none⟩ = some (.int .i64 a.f1) ∧ w'.cell? ⟨ad0.block, ad0.off + 2, none⟩ = some (.int .i64 a.f2) ∧ w'.cell? ⟨ad0.block, ad0.off + 3, none⟩ = some (.string a.f3) ∧ w'.cell? ⟨ad0.block, ad0.off + 4, none⟩ = some (.bool a.f4) ∧ w'.cell? ⟨ad0.block, ad0.off + 5, none⟩ = some (.slice B0 a.f5.length b0) ∧ w'.cell? ⟨ad0.block, ad0.off + 6, none⟩ = some (.int .i64 b.f0) ∧ w'.cell? ⟨ad0.block, ad0.off + 6 + 1, none⟩ = some (.int .i64 b.f1) ∧ w'.cell? ⟨ad0.block, ad0.off + 6 + 2, none⟩ = some (.int .i64 b.f2) ∧ w'.cell? ⟨ad0.block, ad0.off + 6 + 3, none⟩ = some (.string b.f3) ∧ w'.cell? ⟨ad0.block, ad0.off + 6 + 4, none⟩ = some (.bool b.f4) ∧ w'.cell? ⟨ad0.block, ad0.off + 6 + 5, none⟩ = some (.slice B1 b.f5.length b1)) (first | with_reducible exact hS0 | with_reducible exact hS1 | with_reducible exact hS2) (first | (go_at_call 144; (with_reducible refine (ha B0 b0 _ (HK.out.1) (HE.out.2.1.trans ((HO.out.drew).bel.mono HE.out.2.1.size)) (Tl.Tabs.below HE.out.2.2 (HO.out.drew).bel)).mono ?_); go_must (rintro e' v1 ⟨rfl, hb⟩; have HT1 := Lib.hid (Ow.below (HO.out.drew) hb); have hS1 : v1.cell? ⟨w.heap.size, 3, none⟩ = some (.string m) ∧ v1.cell? ⟨w.heap.size, 5, none⟩ = some (.slice (some ad0) l.length c) ∧ v1.cell? ad0 = some (.int .i64 a.f0) ∧ v1.cell? ⟨ad0.block, ad0.off + 1, none⟩ = some (.int .i64 a.f1) ∧ v1.cell? ⟨ad0.block, ad0.off + 2, none⟩ = some (.int .i64 a.f2) ∧ v1.cell? ⟨ad0.block, ad0.off + 3, none⟩ = some (.string a.f3) ∧ v1.cell? ⟨ad0.block, ad0.off + 4, none⟩ = some (.bool a.f4) ∧ v1.cell? ⟨ad0.block, ad0.off + 5, none⟩ = some (.slice B0 a.f5.length b0) ∧ v1.cell? ⟨ad0.block, ad0.off + 6, none⟩ = some (.int .i64 b.f0) ∧ v1.cell? ⟨ad0.block, ad0.off + 6 + 1, none⟩ = some (.int .i64 b.f1) ∧ v1.cell? ⟨ad0.block, ad0.off + 6 + 2, none⟩ = some (.int .i64 b.f2) ∧ v1.cell? ⟨ad0.block, ad0.off + 6 + 3, none⟩ = some (.string b.f3) ∧ v1.cell? ⟨ad0.block, ad0.off + 6 + 4, none⟩ = some (.bool b.f4) ∧ v1.cell? ⟨ad0.block, ad0.off + 6 + 5, none⟩ = some (.slice B1 b.f5.length b1) := pfS HT1.out; clear hb)) | (go_at_call 144; (with_reducible refine (hb2 B1 b1 _ (HK.out.2) (HE.out.2.1.trans ((HT1.out).bel.mono HE.out.2.1.size)) (Tl.Tabs.below HE.out.2.2 (HT1.out).bel)).mono ?_); go_must (rintro e' v2 ⟨rfl, hb⟩; have HT2 := Lib.hid (Ow.below (HT1.out) hb); have hS2 : v2.cell? ⟨w.heap.size, 3, none⟩ = some (.string m) ∧ v2.cell? ⟨w.heap.size, 5, none⟩ = some (.slice (some ad0) l.length c) ∧ v2.cell? ad0 = some (.int .i64 a.f0) ∧ v2.cell? ⟨ad0.block, ad0.off + 1, none⟩ = some (.int .i64 a.f1) ∧ v2.cell? ⟨ad0.block, ad0.off + 2, none⟩ = some (.int .i64 a.f2) ∧ v2.cell? ⟨ad0.block, ad0.off + 3, none⟩ = some (.string a.f3) ∧ v2.cell? ⟨ad0.block, ad0.off + 4, none⟩ = some (.bool a.f4) ∧ v2.cell? ⟨ad0.block, ad0.off + 5, none⟩ = some (.slice B0 a.f5.length b0) ∧ v2.cell? ⟨ad0.block, ad0.off + 6, none⟩ = some (.int .i64 b.f0) ∧ v2.cell? ⟨ad0.block, ad0.off + 6 + 1, none⟩ = some (.int .i64 b.f1) ∧ v2.cell? ⟨ad0.block, ad0.off + 6 + 2, none⟩ = some (.int .i64 b.f2) ∧ v2.cell? ⟨ad0.block, ad0.off + 6 + 3, none⟩ = some (.string b.f3) ∧ v2.cell? ⟨ad0.block, ad0.off + 6 + 4, none⟩ = some (.bool b.f4) ∧ v2.cell? ⟨ad0.block, ad0.off + 6 + 5, none⟩ = some (.slice B1 b.f5.length b1) := pfS HT2.out; clear hb)))
 go_wp2_with (fail)
 go_ret
 exact ⟨rfl, HT2.out.bel⟩
set_option maxHeartbeats 4000000 in
set_option maxRecDepth 100000 in
theorem bin_n {w0 : World} {l : List E} {a b : E} {ta tb : ByteArray} {p n : Int} {m : ByteArray} {o : Bool} (hk : l = [a, b]) {lz : Int} (ha : AtIs w0 a lz ta) (sa : ta.size ≤ 1000002) (hb1 : AtIs w0 b (lz + 1) tb) (sb : tb.size ≤ 1000002) (sm : m.size ≤ 1000000) (hL : (PX.signLevel m.data.toList : Int) = lz) (h5 : lz ≠ 5) (h0 : 0 ≤ lz) (h9 : lz ≤ 100) : BinIs w0 ⟨6, p, n, m, o, l⟩ (ta ++ (⟨#[32]⟩ : ByteArray) ++ m ++ (⟨#[32]⟩ : ByteArray) ++ tb) := by
 intro A c w he hb hT
 have HE := Lib.hid (And.intro he (And.intro hb hT))
 obtain ⟨ad0, B0, b0, hA0, x0, x1, x2, x3, x4, x5, hE0⟩ := kid_at he.kids 0 a (by show l[_]? = _; rw [hk]; rfl)
 obtain ⟨ad1, B1, b1, hA1, y0, y1, y2, y3, y4, y5, hE1⟩ := kid_at he.kids 1 b (by show l[_]? = _; rw [hk]; rfl)
 subst hA0
 obtain rfl : ad0 = ad1 := Option.some.inj hA1
 simp only [Nat.reduceMul, Nat.reduceEqDiff, Go.Addr.add, ↓reduceIte] at x0 x1 x2 x3 x4 x5 y0 y1 y2 y3 y4 y5
 have HX0 : Hid (w0.cell? ad0 = some (.int .i64 a.f0) ∧ w0.cell? ⟨ad0.block, ad0.off + 1, none⟩ = some (.int .i64 a.f1) ∧ w0.cell? ⟨ad0.block, ad0.off + 2, none⟩ = some (.int .i64 a.f2) ∧ w0.cell? ⟨ad0.block, ad0.off + 3, none⟩ = some (.string a.f3) ∧ w0.cell? ⟨ad0.block, ad0.off + 4, none⟩ = some (.bool a.f4) ∧ w0.cell? ⟨ad0.block, ad0.off + 5, none⟩ = some (.slice B0 a.f5.length b0)) := Lib.hid ⟨x0, x1, x2, x3, x4, x5⟩
 have HX1 : Hid (w0.cell? ⟨ad0.block, ad0.off + 6, none⟩ = some (.int .i64 b.f0) ∧ w0.cell? ⟨ad0.block, ad0.off + 6 + 1, none⟩ = some (.int .i64 b.f1) ∧ w0.cell? ⟨ad0.block, ad0.off + 6 + 2, none⟩ = some (.int .i64 b.f2) ∧ w0.cell? ⟨ad0.block, ad0.off + 6 + 3, none⟩ = some (.string b.f3) ∧ w0.cell? ⟨ad0.block, ad0.off + 6 + 4, none⟩ = some (.bool b.f4) ∧ w0.cell? ⟨ad0.block, ad0.off + 6 + 5, none⟩ = some (.slice B1 b.f5.length b1)) := Lib.hid ⟨y0, y1, y2, y3, y4, y5⟩
 have HK := Lib.hid (And.intro hE0 hE1)
 have hlen : 2 ≤ l.length := by rw [hk]; exact Nat.le_refl _
 have l0 : (0 : Int) < (l.length : Int) := by omega
 have l0' : (0 < l.length) = True := eq_true (by omega)
 have l1 : (1 : Int) < (l.length : Int) := by omega
 have l1' : (1 < l.length) = True := eq_true (by omega)
 clear hk hlen x0 x1 x2 x3 x4 x5 y0 y1 y2 y3 y4 y5 hE0 hE1 hA1
 obtain ⟨lv, hlv⟩ : ∃ lv : Int, (PX.signLevel m.data.toList : Int) = lv := ⟨_, rfl⟩
 have hlw : ∀ w, Calls Tryz.prog 169 #[exA ⟨6, p, n, m, o, l⟩ (some ad0) c] w fun e' w' => e' = .returned (.int .i64 lv) ∧ Below w.heap.size w w' := fun w => by
  have h9 := level_walk ⟨6, p, n, m, o, l⟩ (some ad0) c (show (0 : Int) ≤ 6 by decide) w
  have e9 : (PX.lvl (6 : Int).toNat n m.data.toList : Int) = lv := hlv
  dsimp only at h9
  rw [e9] at h9
  exact h9
 obtain rfl : lz = lv := hL.symm.trans hlv
 have HLW := Lib.hid hlw
 have hb2 : AtIs w0 b (IntKind.i64.wrap (lz + 1)) tb := by
  have e : IntKind.i64.wrap (lz + 1) = lz + 1 := by rw [IntKind.wrap_i64]; omega
  rw [e]
  exact hb1
 have k0 : (lz == 5) = false := beq_eq_false_iff_ne.2 h5
 clear hlw hlv hL h5 h0 h9
 have q0 : (9223372036854775807 < ta.size + 1) = False := eq_false (by omega)
 have q1 : (9223372036854775807 < ta.size + 1 + m.size) = False := eq_false (by omega)
 have q2 : (9223372036854775807 < ta.size + 1 + m.size + 1) = False := eq_false (by omega)
 have q3 : (9223372036854775807 < ta.size + 1 + m.size + 1 + tb.size) = False := eq_false (by omega)
 clear he hb hT
 go_enter Tryz.func145, Tryz.ntmps145
 go_wp2_with (fail)
 have HO0 := Lib.hid ((Ow.start w).new (q := exO ⟨6, p, n, m, o, l⟩ (some ad0) c))
 refine (HLW.out _).mono ?_
 rintro e' W ⟨rfl, hb⟩
 have HO := Lib.hid (HO0.out.below hb)
 clear hb
 obtain ⟨r0, r1, r2, r3, r4, r5, rf⟩ := blk6 HO.out.l0
 have rl := blk_lt HO.out.l0
 go_wp2_with (fail)
 have pfS : ∀ {V : World}, Ow w V [(w.heap.size, exO ⟨6, p, n, m, o, l⟩ (some ad0) c)] → V.cell? ⟨w.heap.size, 3, none⟩ = some (.string m) ∧ V.cell? ⟨w.heap.size, 5, none⟩ = some (.slice (some ad0) l.length c) ∧ V.cell? ad0 = some (.int .i64 a.f0) ∧ V.cell? ⟨ad0.block, ad0.off + 1, none⟩ = some (.int .i64 a.f1) ∧ V.cell? ⟨ad0.block, ad0.off + 2, none⟩ = some (.int .i64 a.f2) ∧ V.cell? ⟨ad0.block, ad0.off + 3, none⟩ = some (.string a.f3) ∧ V.cell? ⟨ad0.block, ad0.off + 4, none⟩ = some (.bool a.f4) ∧ V.cell? ⟨ad0.block, ad0.off + 5, none⟩ = some (.slice B0 a.f5.length b0) ∧ V.cell? ⟨ad0.block, ad0.off + 6, none⟩ = some (.int .i64 b.f0) ∧ V.cell? ⟨ad0.block, ad0.off + 6 + 1, none⟩ = some (.int .i64 b.f1) ∧ V.cell? ⟨ad0.block, ad0.off + 6 + 2, none⟩ = some (.int .i64 b.f2) ∧ V.cell? ⟨ad0.block, ad0.off + 6 + 3, none⟩ = some (.string b.f3) ∧ V.cell? ⟨ad0.block, ad0.off + 6 + 4, none⟩ = some (.bool b.f4) ∧ V.cell? ⟨ad0.block, ad0.off + 6 + 5, none⟩ = some (.slice B1 b.f5.length b1) := fun {V} h => ⟨blk_cell h.l0 3, blk_cell h.l0 5, pw_cell_below (HE.out.2.1.trans (h.bel.mono HE.out.2.1.size)) (HX0.out.1), pw_cell_below (HE.out.2.1.trans (h.bel.mono HE.out.2.1.size)) (HX0.out.2.1), pw_cell_below (HE.out.2.1.trans (h.bel.mono HE.out.2.1.size)) (HX0.out.2.2.1), pw_cell_below (HE.out.2.1.trans (h.bel.mono HE.out.2.1.size)) (HX0.out.2.2.2.1), pw_cell_below (HE.out.2.1.trans (h.bel.mono HE.out.2.1.size)) (HX0.out.2.2.2.2.1), pw_cell_below (HE.out.2.1.trans (h.bel.mono HE.out.2.1.size)) (HX0.out.2.2.2.2.2), pw_cell_below (HE.out.2.1.trans (h.bel.mono HE.out.2.1.size)) (HX1.out.1), pw_cell_below (HE.out.2.1.trans (h.bel.mono HE.out.2.1.size)) (HX1.out.2.1), pw_cell_below (HE.out.2.1.trans (h.bel.mono HE.out.2.1.size)) (HX1.out.2.2.1), pw_cell_below (HE.out.2.1.trans (h.bel.mono HE.out.2.1.size)) (HX1.out.2.2.2.1), pw_cell_below (HE.out.2.1.trans (h.bel.mono HE.out.2.1.size)) (HX1.out.2.2.2.2.1), pw_cell_below (HE.out.2.1.trans (h.bel.mono HE.out.2.1.size)) (HX1.out.2.2.2.2.2)⟩
 have hS0 : (W.drew).cell? ⟨w.heap.size, 3, none⟩ = some (.string m) ∧ (W.drew).cell? ⟨w.heap.size, 5, none⟩ = some (.slice (some ad0) l.length c) ∧ (W.drew).cell? ad0 = some (.int .i64 a.f0) ∧ (W.drew).cell? ⟨ad0.block, ad0.off + 1, none⟩ = some (.int .i64 a.f1) ∧ (W.drew).cell? ⟨ad0.block, ad0.off + 2, none⟩ = some (.int .i64 a.f2) ∧ (W.drew).cell? ⟨ad0.block, ad0.off + 3, none⟩ = some (.string a.f3) ∧ (W.drew).cell? ⟨ad0.block, ad0.off + 4, none⟩ = some (.bool a.f4) ∧ (W.drew).cell? ⟨ad0.block, ad0.off + 5, none⟩ = some (.slice B0 a.f5.length b0) ∧ (W.drew).cell? ⟨ad0.block, ad0.off + 6, none⟩ = some (.int .i64 b.f0) ∧ (W.drew).cell? ⟨ad0.block, ad0.off + 6 + 1, none⟩ = some (.int .i64 b.f1) ∧ (W.drew).cell? ⟨ad0.block, ad0.off + 6 + 2, none⟩ = some (.int .i64 b.f2) ∧ (W.drew).cell? ⟨ad0.block, ad0.off + 6 + 3, none⟩ = some (.string b.f3) ∧ (W.drew).cell? ⟨ad0.block, ad0.off + 6 + 4, none⟩ = some (.bool b.f4) ∧ (W.drew).cell? ⟨ad0.block, ad0.off + 6 + 5, none⟩ = some (.slice B1 b.f5.length b1) := pfS HO.out.drew
 go_region_held2 (fun w' => w'.cell? ⟨w.heap.size, 3, none⟩ = some (.string m) ∧ w'.cell? ⟨w.heap.size, 5, none⟩ = some (.slice (some ad0) l.length c) ∧ w'.cell? ad0 = some (.int .i64 a.f0) ∧ w'.cell? ⟨ad0.block, ad0.off + 1, none⟩ = some (.int .i64 a.f1) ∧ w'.cell? ⟨ad0.block, ad0.off + 2, none⟩ = some (.int .i64 a.f2) ∧ w'.cell? ⟨ad0.block, ad0.off + 3, none⟩ = some (.string a.f3) ∧ w'.cell? ⟨ad0.block, ad0.off + 4, none⟩ = some (.bool a.f4) ∧ w'.cell? ⟨ad0.block, ad0.off + 5, none⟩ = some (.slice B0 a.f5.length b0) ∧ w'.cell? ⟨ad0.block, ad0.off + 6, none⟩ = some (.int .i64 b.f0) ∧ w'.cell? ⟨ad0.block, ad0.off + 6 + 1, none⟩ = some (.int .i64 b.f1) ∧ w'.cell? ⟨ad0.block, ad0.off + 6 + 2, none⟩ = some (.int .i64 b.f2) ∧ w'.cell? ⟨ad0.block, ad0.off + 6 + 3, none⟩ = some (.string b.f3) ∧ w'.cell? ⟨ad0.block, ad0.off + 6 + 4, none⟩ = some (.bool b.f4) ∧ w'.cell? ⟨ad0.block, ad0.off + 6 + 5, none⟩ = some (.slice B1 b.f5.length b1)) (first | with_reducible exact hS0 | with_reducible exact hS1 | with_reducible exact hS2) (first | (go_at_call 144; (with_reducible refine (ha B0 b0 _ (HK.out.1) (HE.out.2.1.trans ((HO.out.drew).bel.mono HE.out.2.1.size)) (Tl.Tabs.below HE.out.2.2 (HO.out.drew).bel)).mono ?_); go_must (rintro e' v1 ⟨rfl, hb⟩; have HT1 := Lib.hid (Ow.below (HO.out.drew) hb); have hS1 : v1.cell? ⟨w.heap.size, 3, none⟩ = some (.string m) ∧ v1.cell? ⟨w.heap.size, 5, none⟩ = some (.slice (some ad0) l.length c) ∧ v1.cell? ad0 = some (.int .i64 a.f0) ∧ v1.cell? ⟨ad0.block, ad0.off + 1, none⟩ = some (.int .i64 a.f1) ∧ v1.cell? ⟨ad0.block, ad0.off + 2, none⟩ = some (.int .i64 a.f2) ∧ v1.cell? ⟨ad0.block, ad0.off + 3, none⟩ = some (.string a.f3) ∧ v1.cell? ⟨ad0.block, ad0.off + 4, none⟩ = some (.bool a.f4) ∧ v1.cell? ⟨ad0.block, ad0.off + 5, none⟩ = some (.slice B0 a.f5.length b0) ∧ v1.cell? ⟨ad0.block, ad0.off + 6, none⟩ = some (.int .i64 b.f0) ∧ v1.cell? ⟨ad0.block, ad0.off + 6 + 1, none⟩ = some (.int .i64 b.f1) ∧ v1.cell? ⟨ad0.block, ad0.off + 6 + 2, none⟩ = some (.int .i64 b.f2) ∧ v1.cell? ⟨ad0.block, ad0.off + 6 + 3, none⟩ = some (.string b.f3) ∧ v1.cell? ⟨ad0.block, ad0.off + 6 + 4, none⟩ = some (.bool b.f4) ∧ v1.cell? ⟨ad0.block, ad0.off + 6 + 5, none⟩ = some (.slice B1 b.f5.length b1) := pfS HT1.out; clear hb)) | (go_at_call 144; (with_reducible refine (hb2 B1 b1 _ (HK.out.2) (HE.out.2.1.trans ((HT1.out).bel.mono HE.out.2.1.size)) (Tl.Tabs.below HE.out.2.2 (HT1.out).bel)).mono ?_); go_must (rintro e' v2 ⟨rfl, hb⟩; have HT2 := Lib.hid (Ow.below (HT1.out) hb); have hS2 : v2.cell? ⟨w.heap.size, 3, none⟩ = some (.string m) ∧ v2.cell? ⟨w.heap.size, 5, none⟩ = some (.slice (some ad0) l.length c) ∧ v2.cell? ad0 = some (.int .i64 a.f0) ∧ v2.cell? ⟨ad0.block, ad0.off + 1, none⟩ = some (.int .i64 a.f1) ∧ v2.cell? ⟨ad0.block, ad0.off + 2, none⟩ = some (.int .i64 a.f2) ∧ v2.cell? ⟨ad0.block, ad0.off + 3, none⟩ = some (.string a.f3) ∧ v2.cell? ⟨ad0.block, ad0.off + 4, none⟩ = some (.bool a.f4) ∧ v2.cell? ⟨ad0.block, ad0.off + 5, none⟩ = some (.slice B0 a.f5.length b0) ∧ v2.cell? ⟨ad0.block, ad0.off + 6, none⟩ = some (.int .i64 b.f0) ∧ v2.cell? ⟨ad0.block, ad0.off + 6 + 1, none⟩ = some (.int .i64 b.f1) ∧ v2.cell? ⟨ad0.block, ad0.off + 6 + 2, none⟩ = some (.int .i64 b.f2) ∧ v2.cell? ⟨ad0.block, ad0.off + 6 + 3, none⟩ = some (.string b.f3) ∧ v2.cell? ⟨ad0.block, ad0.off + 6 + 4, none⟩ = some (.bool b.f4) ∧ v2.cell? ⟨ad0.block, ad0.off + 6 + 5, none⟩ = some (.slice B1 b.f5.length b1) := pfS HT2.out; clear hb)))
 go_wp2_with (fail)
 go_ret
 exact ⟨rfl, HT2.out.bel⟩
set_option maxHeartbeats 4000000 in
set_option maxRecDepth 100000 in
theorem text_k6 {w0 : World} {l : List E} {a b : E} {ta tb : ByteArray} {p n : Int} {m : ByteArray} {o : Bool} (hk : l = [a, b]) {t : ByteArray} (ha : BinIs w0 ⟨6, p, n, m, o, l⟩ t) : TxtIs w0 ⟨6, p, n, m, o, l⟩ (t) := by
 intro A c w he hb hT
 have HE := Lib.hid (And.intro he (And.intro hb hT))
 clear hk
 clear he hb hT
 go_enter Tryz.func96, Tryz.ntmps96
 go_wp2_with (fail)
 have HO := Lib.hid ((Ow.start w).new (q := exO ⟨6, p, n, m, o, l⟩ A c))
 refine (ha A c _ HE.out.1 (HE.out.2.1.trans ((HO.out).bel.mono HE.out.2.1.size)) (Tl.Tabs.below HE.out.2.2 (HO.out).bel)).mono ?_
 rintro e' w1 ⟨rfl, hb⟩
 have HO2 := Lib.hid (HO.out.below hb)
 clear hb
 go_wp2_with (fail)
 go_ret
 exact ⟨rfl, HO2.out.bel⟩
set_option maxHeartbeats 4000000 in
set_option maxRecDepth 100000 in
theorem text_k11 {w0 : World} {l : List E} {a : E} {ta : ByteArray} {p n : Int} {m : ByteArray} {o : Bool} (hk : l = [a]) (ha : AtIs w0 a 9 ta) (sa : ta.size ≤ 1000002) {tk : ByteArray} (sk : tk.size ≤ 1000010) (hck : ∀ w, Calls Tryz.prog 94 #[.string m, .bool o] w fun e w' => e = .returned (.string tk) ∧ w' = w) : TxtIs w0 ⟨11, p, n, m, o, l⟩ (ta ++ tk) := by
 intro A c w he hb hT
 have HE := Lib.hid (And.intro he (And.intro hb hT))
 obtain ⟨ad0, B0, b0, hA0, x0, x1, x2, x3, x4, x5, hE0⟩ := kid_at he.kids 0 a (by show l[_]? = _; rw [hk]; rfl)
 subst hA0
 simp only [Nat.reduceMul, Nat.reduceEqDiff, Go.Addr.add, ↓reduceIte] at x0 x1 x2 x3 x4 x5
 have HX0 : Hid (w0.cell? ad0 = some (.int .i64 a.f0) ∧ w0.cell? ⟨ad0.block, ad0.off + 1, none⟩ = some (.int .i64 a.f1) ∧ w0.cell? ⟨ad0.block, ad0.off + 2, none⟩ = some (.int .i64 a.f2) ∧ w0.cell? ⟨ad0.block, ad0.off + 3, none⟩ = some (.string a.f3) ∧ w0.cell? ⟨ad0.block, ad0.off + 4, none⟩ = some (.bool a.f4) ∧ w0.cell? ⟨ad0.block, ad0.off + 5, none⟩ = some (.slice B0 a.f5.length b0)) := Lib.hid ⟨x0, x1, x2, x3, x4, x5⟩
 have HK := Lib.hid (hE0)
 have hlen : 1 ≤ l.length := by rw [hk]; exact Nat.le_refl _
 have l0 : (0 : Int) < (l.length : Int) := by omega
 have l0' : (0 < l.length) = True := eq_true (by omega)
 clear hk hlen x0 x1 x2 x3 x4 x5 hE0
 have HCK := Lib.hid hck
 clear hck
 have q0 : (9223372036854775807 < ta.size + tk.size) = False := eq_false (by omega)
 clear he hb hT
 go_enter Tryz.func96, Tryz.ntmps96
 go_wp2_with (fail)
 have HO := Lib.hid ((Ow.start w).new (q := exO ⟨11, p, n, m, o, l⟩ (some ad0) c))
 generalize hW : w.alloc _ = W
 rw [hW] at HO
 clear hW
 have pfS : ∀ {V : World}, Ow w V [(w.heap.size, exO ⟨11, p, n, m, o, l⟩ (some ad0) c)] → V.cell? ⟨w.heap.size, 3, none⟩ = some (.string m) ∧ V.cell? ⟨w.heap.size, 4, none⟩ = some (.bool o) ∧ V.cell? ⟨w.heap.size, 5, none⟩ = some (.slice (some ad0) l.length c) ∧ V.cell? ad0 = some (.int .i64 a.f0) ∧ V.cell? ⟨ad0.block, ad0.off + 1, none⟩ = some (.int .i64 a.f1) ∧ V.cell? ⟨ad0.block, ad0.off + 2, none⟩ = some (.int .i64 a.f2) ∧ V.cell? ⟨ad0.block, ad0.off + 3, none⟩ = some (.string a.f3) ∧ V.cell? ⟨ad0.block, ad0.off + 4, none⟩ = some (.bool a.f4) ∧ V.cell? ⟨ad0.block, ad0.off + 5, none⟩ = some (.slice B0 a.f5.length b0) := fun {V} h => ⟨blk_cell h.l0 3, blk_cell h.l0 4, blk_cell h.l0 5, pw_cell_below (HE.out.2.1.trans (h.bel.mono HE.out.2.1.size)) (HX0.out.1), pw_cell_below (HE.out.2.1.trans (h.bel.mono HE.out.2.1.size)) (HX0.out.2.1), pw_cell_below (HE.out.2.1.trans (h.bel.mono HE.out.2.1.size)) (HX0.out.2.2.1), pw_cell_below (HE.out.2.1.trans (h.bel.mono HE.out.2.1.size)) (HX0.out.2.2.2.1), pw_cell_below (HE.out.2.1.trans (h.bel.mono HE.out.2.1.size)) (HX0.out.2.2.2.2.1), pw_cell_below (HE.out.2.1.trans (h.bel.mono HE.out.2.1.size)) (HX0.out.2.2.2.2.2)⟩
 have hS0 : (W.drew).cell? ⟨w.heap.size, 3, none⟩ = some (.string m) ∧ (W.drew).cell? ⟨w.heap.size, 4, none⟩ = some (.bool o) ∧ (W.drew).cell? ⟨w.heap.size, 5, none⟩ = some (.slice (some ad0) l.length c) ∧ (W.drew).cell? ad0 = some (.int .i64 a.f0) ∧ (W.drew).cell? ⟨ad0.block, ad0.off + 1, none⟩ = some (.int .i64 a.f1) ∧ (W.drew).cell? ⟨ad0.block, ad0.off + 2, none⟩ = some (.int .i64 a.f2) ∧ (W.drew).cell? ⟨ad0.block, ad0.off + 3, none⟩ = some (.string a.f3) ∧ (W.drew).cell? ⟨ad0.block, ad0.off + 4, none⟩ = some (.bool a.f4) ∧ (W.drew).cell? ⟨ad0.block, ad0.off + 5, none⟩ = some (.slice B0 a.f5.length b0) := pfS HO.out.drew
 go_region_held2 (fun w' => w'.cell? ⟨w.heap.size, 3, none⟩ = some (.string m) ∧ w'.cell? ⟨w.heap.size, 4, none⟩ = some (.bool o) ∧ w'.cell? ⟨w.heap.size, 5, none⟩ = some (.slice (some ad0) l.length c) ∧ w'.cell? ad0 = some (.int .i64 a.f0) ∧ w'.cell? ⟨ad0.block, ad0.off + 1, none⟩ = some (.int .i64 a.f1) ∧ w'.cell? ⟨ad0.block, ad0.off + 2, none⟩ = some (.int .i64 a.f2) ∧ w'.cell? ⟨ad0.block, ad0.off + 3, none⟩ = some (.string a.f3) ∧ w'.cell? ⟨ad0.block, ad0.off + 4, none⟩ = some (.bool a.f4) ∧ w'.cell? ⟨ad0.block, ad0.off + 5, none⟩ = some (.slice B0 a.f5.length b0)) (first | with_reducible exact hS0 | with_reducible exact hS1) (first | (go_at_call 144; (with_reducible refine (ha B0 b0 _ (HK.out) (HE.out.2.1.trans ((HO.out.drew).bel.mono HE.out.2.1.size)) (Tl.Tabs.below HE.out.2.2 (HO.out.drew).bel)).mono ?_); go_must (rintro e' v1 ⟨rfl, hb⟩; have HT1 := Lib.hid (Ow.below (HO.out.drew) hb); have hS1 : v1.cell? ⟨w.heap.size, 3, none⟩ = some (.string m) ∧ v1.cell? ⟨w.heap.size, 4, none⟩ = some (.bool o) ∧ v1.cell? ⟨w.heap.size, 5, none⟩ = some (.slice (some ad0) l.length c) ∧ v1.cell? ad0 = some (.int .i64 a.f0) ∧ v1.cell? ⟨ad0.block, ad0.off + 1, none⟩ = some (.int .i64 a.f1) ∧ v1.cell? ⟨ad0.block, ad0.off + 2, none⟩ = some (.int .i64 a.f2) ∧ v1.cell? ⟨ad0.block, ad0.off + 3, none⟩ = some (.string a.f3) ∧ v1.cell? ⟨ad0.block, ad0.off + 4, none⟩ = some (.bool a.f4) ∧ v1.cell? ⟨ad0.block, ad0.off + 5, none⟩ = some (.slice B0 a.f5.length b0) := pfS HT1.out; clear hb)) | (go_at_call 94; (with_reducible refine (HCK.out _).mono ?_); go_must (rintro e' v2 ⟨rfl, rfl⟩)))
 go_wp2_with (fail)
 go_ret
 exact ⟨rfl, HT1.out.bel⟩
set_option maxHeartbeats 4000000 in
set_option maxRecDepth 100000 in
theorem text_k13 {w0 : World} {p n : Int} {m : ByteArray} {o : Bool} {l : List E} {tl : ByteArray} (hl : ListIs w0 l tl) (sl : tl.size ≤ 1000000) (sm : m.size ≤ 1000000) : TxtIs w0 ⟨13, p, n, m, o, l⟩ (m ++ (⟨#[40]⟩ : ByteArray) ++ tl ++ (⟨#[41]⟩ : ByteArray)) := by
 intro A c w he hb hT
 have HE := Lib.hid (And.intro he (And.intro hb hT))
 have q0 : (9223372036854775807 < m.size + 1) = False := eq_false (by omega)
 have q1 : (9223372036854775807 < m.size + 1 + tl.size) = False := eq_false (by omega)
 have q2 : (9223372036854775807 < m.size + 1 + tl.size + 1) = False := eq_false (by omega)
 clear he hb hT
 go_enter Tryz.func96, Tryz.ntmps96
 go_wp2_with (fail)
 have HO := Lib.hid ((Ow.start w).new (q := exO ⟨13, p, n, m, o, l⟩ A c))
 generalize hW : w.alloc _ = W
 rw [hW] at HO
 clear hW
 have pfS : ∀ {V : World}, Ow w V [(w.heap.size, exO ⟨13, p, n, m, o, l⟩ A c)] → V.cell? ⟨w.heap.size, 3, none⟩ = some (.string m) ∧ V.cell? ⟨w.heap.size, 5, none⟩ = some (.slice A l.length c) := fun {V} h => ⟨blk_cell h.l0 3, blk_cell h.l0 5⟩
 have hS0 : (W.drew).cell? ⟨w.heap.size, 3, none⟩ = some (.string m) ∧ (W.drew).cell? ⟨w.heap.size, 5, none⟩ = some (.slice A l.length c) := pfS HO.out.drew
 go_region_held2 (fun w' => w'.cell? ⟨w.heap.size, 3, none⟩ = some (.string m) ∧ w'.cell? ⟨w.heap.size, 5, none⟩ = some (.slice A l.length c)) (first | with_reducible exact hS0 | with_reducible exact hS1) (first | (go_at_call 146; (with_reducible refine (hl A c _ HE.out.1.kids (HE.out.2.1.trans ((HO.out.drew).bel.mono HE.out.2.1.size)) (Tl.Tabs.below HE.out.2.2 (HO.out.drew).bel)).mono ?_); go_must (rintro e' v1 ⟨rfl, hb⟩; have HT1 := Lib.hid (Ow.below (HO.out.drew) hb); have hS1 : v1.cell? ⟨w.heap.size, 3, none⟩ = some (.string m) ∧ v1.cell? ⟨w.heap.size, 5, none⟩ = some (.slice A l.length c) := pfS HT1.out; clear hb)))
 go_wp2_with (fail)
 go_ret
 exact ⟨rfl, HT1.out.bel⟩
set_option maxHeartbeats 4000000 in
set_option maxRecDepth 100000 in
theorem text_k14 {w0 : World} {p n : Int} {m : ByteArray} {o : Bool} {l : List E} {tl : ByteArray} (hl : ListIs w0 l tl) (sl : tl.size ≤ 1000000) (sm : m.size ≤ 1000000) (hn : 0 < l.length) : TxtIs w0 ⟨14, p, n, m, o, l⟩ ((⟨#[97, 119, 97, 105, 116, 32]⟩ : ByteArray) ++ m ++ (⟨#[32, 97, 102, 116, 101, 114, 32, 40]⟩ : ByteArray) ++ tl ++ (⟨#[41]⟩ : ByteArray)) := by
 intro A c w he hb hT
 have HE := Lib.hid (And.intro he (And.intro hb hT))
 have k0 : ((l.length : Int) == 0) = false := by rw [beq_eq_false_iff_ne]; omega
 have k1 : (l.length = 0) = False := eq_false (by omega)
 have k2 : l.isEmpty = false := by cases l with
  | nil => exact absurd hn (by decide)
  | cons _ _ => rfl
 have k3 : (l = []) = False := eq_false (by rintro rfl; exact absurd hn (by decide))
 clear hn
 have q0 : (9223372036854775807 < 6 + m.size) = False := eq_false (by omega)
 have q1 : (9223372036854775807 < 6 + m.size + 8) = False := eq_false (by omega)
 have q2 : (9223372036854775807 < 6 + m.size + 8 + tl.size) = False := eq_false (by omega)
 have q3 : (9223372036854775807 < 6 + m.size + 8 + tl.size + 1) = False := eq_false (by omega)
 clear he hb hT
 go_enter Tryz.func96, Tryz.ntmps96
 go_wp2_with (fail)
 have HO := Lib.hid ((Ow.start w).new (q := exO ⟨14, p, n, m, o, l⟩ A c))
 generalize hW : w.alloc _ = W
 rw [hW] at HO
 clear hW
 have pfS : ∀ {V : World}, Ow w V [(w.heap.size, exO ⟨14, p, n, m, o, l⟩ A c)] → V.cell? ⟨w.heap.size, 3, none⟩ = some (.string m) ∧ V.cell? ⟨w.heap.size, 5, none⟩ = some (.slice A l.length c) := fun {V} h => ⟨blk_cell h.l0 3, blk_cell h.l0 5⟩
 have hS0 : (W.drew).cell? ⟨w.heap.size, 3, none⟩ = some (.string m) ∧ (W.drew).cell? ⟨w.heap.size, 5, none⟩ = some (.slice A l.length c) := pfS HO.out.drew
 go_region_held2 (fun w' => w'.cell? ⟨w.heap.size, 3, none⟩ = some (.string m) ∧ w'.cell? ⟨w.heap.size, 5, none⟩ = some (.slice A l.length c)) (first | with_reducible exact hS0 | with_reducible exact hS1) (first | (go_at_call 146; (with_reducible refine (hl A c _ HE.out.1.kids (HE.out.2.1.trans ((HO.out.drew).bel.mono HE.out.2.1.size)) (Tl.Tabs.below HE.out.2.2 (HO.out.drew).bel)).mono ?_); go_must (rintro e' v1 ⟨rfl, hb⟩; have HT1 := Lib.hid (Ow.below (HO.out.drew) hb); have hS1 : v1.cell? ⟨w.heap.size, 3, none⟩ = some (.string m) ∧ v1.cell? ⟨w.heap.size, 5, none⟩ = some (.slice A l.length c) := pfS HT1.out; clear hb)))
 go_wp2_with (fail)
 go_ret
 exact ⟨rfl, HT1.out.bel⟩
set_option maxHeartbeats 4000000 in
set_option maxRecDepth 100000 in
theorem text_k140 {w0 : World} {p n : Int} {m : ByteArray} {o : Bool} (sm : m.size ≤ 1000000) : TxtIs w0 ⟨14, p, n, m, o, []⟩ ((⟨#[97, 119, 97, 105, 116, 32]⟩ : ByteArray) ++ m) := by
 intro A c w he hb hT
 have HE := Lib.hid (And.intro he (And.intro hb hT))
 have q0 : (9223372036854775807 < 6 + m.size) = False := eq_false (by omega)
 clear he hb hT
 go_enter Tryz.func96, Tryz.ntmps96
 go_wp2_with (fail)
 have HO := Lib.hid ((Ow.start w).new (q := exO ⟨14, p, n, m, o, []⟩ A c))
 go_ret
 exact ⟨rfl, HO.out.bel⟩
end Go.Proofs.YtjafllnbgfcchaaGreatDoor.Tx
