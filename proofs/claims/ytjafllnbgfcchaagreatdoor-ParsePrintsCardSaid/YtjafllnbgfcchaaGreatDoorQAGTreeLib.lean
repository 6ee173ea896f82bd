/- Joined of: TreeLib, TxW. -/
import Derived.Test.YtjafllnbgfcchaaGreatDoorQAShelfT
import Derived.Lib.AppendIntMem
import Derived.Lib.LaidTab
import Derived.Below
import Derived.Test.YtjafllnbgfcchaaGreatDoorQAGOw
import Derived.Test.YtjafllnbgfcchaaGreatDoorQAGPBase
import Derived.Deep.DeepMust
import Derived.Deep.RegionHeld2
import Derived.Lib.Hide
section
/- The library's functions that the tree's texts call. -/
namespace Go.Proofs.YtjafllnbgfcchaaGreatDoor.Tl
open Go Go.RowKit
def Tabs (w : World) : Prop := Lib.TabIs Tryz.prog w "internal/strconv.uint64pow10" .u64 Lib.pow10Tab
theorem Tabs.below {w0 w : World} (h : Tabs w0) (hb : Below w0.heap.size w0 w) : Tabs w := by
 unfold Tabs Lib.TabIs World.var? at h ⊢
 rw [← h]
 cases hg : Tryz.prog.globalNamed "internal/strconv.uint64pow10" with
 | none => rfl
 | some g =>
  simp only [Option.bind_some]
  have hlt : g < w0.heap.size := by
   rw [hg] at h
   simp only [Option.bind_some] at h
   rcases Nat.lt_or_ge g w0.heap.size with h1 | h1
   ·exact h1
   ·rw [Array.getElem?_eq_none h1] at h
    cases h
  rw [hb.block g hlt]
theorem formatInt_walk (a0 : Int) (h0 : -9223372036854775808 ≤ a0) (h1 : a0 ≤ 9223372036854775807) (w : World) (hT : Tabs w) :
  Calls Tryz.prog 141 #[.int .i64 a0, .int .i64 10] w fun e w' => e = .returned (.string ⟨(Lib.itoa a0).toArray⟩) ∧ Below w.heap.size w w' := by
 refine (Tryz.strconv_FormatInt_10 a0 h0 h1 w hT).mono ?_
 rintro e w' ⟨rfl, k, os, rfl⟩
 exact ⟨rfl, Go.Lib.below_grow _ _ (Nat.le_refl _) _ _⟩
end Go.Proofs.YtjafllnbgfcchaaGreatDoor.Tl
end
section
/- The smaller functions behind an expression's text, walked. -/
namespace Go.Proofs.YtjafllnbgfcchaaGreatDoor.Tx
set_option linter.unusedVariables false
set_option linter.unusedSimpArgs false
open Go Go.RowKit Go.Proofs.YtjafllnbgfcchaaGreatDoorW.PrintWords Go.Proofs.YtjafllnbgfcchaaGreatDoorW.PrintLast Go.Proofs.YtjafllnbgfcchaaGreatDoorW.PrintMore Go.Proofs.YtjafllnbgfcchaaGreatDoor.XK Go.Proofs.YtjafllnbgfcchaaGreatDoor.Px Go.Proofs.YtjafllnbgfcchaaGreatDoor.Ow
attribute [local go_sem ↓] Go.wp_at_zero Go.wp_at_succ
abbrev E := S54
abbrev exA (e : E) (A : Option Addr) (c : Nat) : Value := .agg #[.int .i64 e.f0, .int .i64 e.f1, .int .i64 e.f2, .string e.f3, .bool e.f4, .slice A e.f5.length c]
abbrev exO (e : E) (A : Option Addr) (c : Nat) : Obj := .cells #[.int .i64 e.f0, .int .i64 e.f1, .int .i64 e.f2, .string e.f3, .bool e.f4, .slice A e.f5.length c] 54 (0, 0)
structure ExAt (w0 : World) (e : E) (A : Option Addr) (c : Nat) : Prop where
 kids : Kd.C k54 w0 A e.f5.length e.f5
 room : e.f5.length ≤ c
theorem kid_at {w0 : World} {A : Option Addr} {l : List E} (h : Kd.C k54 w0 A l.length l) (i : Nat) (k : E) (hk : l[i]? = some k) : ∃ ad A' c', A = some ad ∧ w0.cell? (ad.add (i * 6)) = some (.int .i64 k.f0) ∧
  w0.cell? ⟨(ad.add (i * 6)).block, (ad.add (i * 6)).off + 1, none⟩ = some (.int .i64 k.f1) ∧ w0.cell? ⟨(ad.add (i * 6)).block, (ad.add (i * 6)).off + 2, none⟩ = some (.int .i64 k.f2) ∧
  w0.cell? ⟨(ad.add (i * 6)).block, (ad.add (i * 6)).off + 3, none⟩ = some (.string k.f3) ∧ w0.cell? ⟨(ad.add (i * 6)).block, (ad.add (i * 6)).off + 4, none⟩ = some (.bool k.f4) ∧
  w0.cell? ⟨(ad.add (i * 6)).block, (ad.add (i * 6)).off + 5, none⟩ = some (.slice A' k.f5.length c') ∧ ExAt w0 k A' c' := by
 have hlt := (List.getElem?_eq_some_iff.1 hk).1
 obtain ⟨ad, A', c', e1, hx0, hx1, hx2, hx3, hx4, hx5, hl, hC⟩ := at_T54 h (i : Int) (by omega) (by omega)
 have hr : rd_T54 l (i : Int) = k := by
  unfold rd_T54
  simp [hk]
 rw [hr] at hx0 hx1 hx2 hx3 hx4 hx5 hl hC
 simp only [Int.toNat_natCast] at hx0 hx1 hx2 hx3 hx4 hx5
 exact ⟨ad, A', c', e1, hx0, hx1, hx2, hx3, hx4, hx5, hC, hl⟩
theorem drop_at {α : Type} {l : List α} {i : Nat} (h : i < l.length) : ∃ k, l[i]? = some k ∧ l.drop i = k :: l.drop (i + 1) := ⟨l[i], by simp [h], List.drop_eq_getElem_cons h⟩
theorem ms9 {a b : Nat} (h : b < a) : a + 1 - (b + 1) < a + 1 - b := by omega
abbrev TxtIs (w0 : World) (a : E) (t : ByteArray) : Prop := ∀ (A : Option Addr) (c : Nat) (w : World), ExAt w0 a A c → Below w0.heap.size w0 w → Tl.Tabs w →
 Calls Tryz.prog 96 #[exA a A c] w fun e w' => e = .returned (.string t) ∧ Below w.heap.size w w'
abbrev AtIs (w0 : World) (a : E) (least : Int) (t : ByteArray) : Prop := ∀ (A : Option Addr) (c : Nat) (w : World), ExAt w0 a A c → Below w0.heap.size w0 w → Tl.Tabs w →
 Calls Tryz.prog 144 #[exA a A c, .int .i64 least] w fun e w' => e = .returned (.string t) ∧ Below w.heap.size w w'
theorem toList_sign (m : ByteArray) : m.data.toList = m.toList := (Fnd.toList_data m).symm
set_option maxHeartbeats 4000000 in
theorem sign_walk (m : ByteArray) (w : World) :
  Calls Tryz.prog 184 #[.string m] w fun e w' => e = .returned (.int .i64 (PX.signLevel m.data.toList : Int)) ∧ w' = w := by
 obtain ⟨r, hr⟩ : ∃ r, PX.signLevel m.data.toList = r := ⟨_, rfl⟩
 rw [hr]
 have HR := Lib.hid hr
 clear hr
 go_enter Tryz.func184, Tryz.ntmps184
 by_cases n0 : m.toList = [111, 114]
 ·obtain rfl : 2 = r := by rw [← HR.out, toList_sign, n0]; decide
  go_wp2_with (fail)
  go_ret
  exact ⟨rfl, rfl⟩
 have j0 : (m.toList == [111, 114]) = false := beq_eq_false_iff_ne.2 n0
 by_cases n1 : m.toList = [120, 111, 114]
 ·obtain rfl : 2 = r := by rw [← HR.out, toList_sign, n1]; decide
  have i0 : ([120, 111, 114] == [111, 114]) = false := by decide
  go_wp2_with (fail)
  go_ret
  exact ⟨rfl, rfl⟩
 have j1 : (m.toList == [120, 111, 114]) = false := beq_eq_false_iff_ne.2 n1
 by_cases n2 : m.toList = [97, 110, 100]
 ·obtain rfl : 3 = r := by rw [← HR.out, toList_sign, n2]; decide
  have i0 : ([97, 110, 100] == [111, 114]) = false := by decide
  have i1 : ([97, 110, 100] == [120, 111, 114]) = false := by decide
  go_wp2_with (fail)
  go_ret
  exact ⟨rfl, rfl⟩
 have j2 : (m.toList == [97, 110, 100]) = false := beq_eq_false_iff_ne.2 n2
 by_cases n3 : m.toList = [43]
 ·obtain rfl : 6 = r := by rw [← HR.out, toList_sign, n3]; decide
  have i0 : ([43] == [111, 114]) = false := by decide
  have i1 : ([43] == [120, 111, 114]) = false := by decide
  have i2 : ([43] == [97, 110, 100]) = false := by decide
  go_wp2_with (fail)
  go_ret
  exact ⟨rfl, rfl⟩
 have j3 : (m.toList == [43]) = false := beq_eq_false_iff_ne.2 n3
 by_cases n4 : m.toList = [45]
 ·obtain rfl : 6 = r := by rw [← HR.out, toList_sign, n4]; decide
  have i0 : ([45] == [111, 114]) = false := by decide
  have i1 : ([45] == [120, 111, 114]) = false := by decide
  have i2 : ([45] == [97, 110, 100]) = false := by decide
  have i3 : ([45] == [43]) = false := by decide
  go_wp2_with (fail)
  go_ret
  exact ⟨rfl, rfl⟩
 have j4 : (m.toList == [45]) = false := beq_eq_false_iff_ne.2 n4
 by_cases n5 : m.toList = [42]
 ·obtain rfl : 7 = r := by rw [← HR.out, toList_sign, n5]; decide
  have i0 : ([42] == [111, 114]) = false := by decide
  have i1 : ([42] == [120, 111, 114]) = false := by decide
  have i2 : ([42] == [97, 110, 100]) = false := by decide
  have i3 : ([42] == [43]) = false := by decide
  have i4 : ([42] == [45]) = false := by decide
  go_wp2_with (fail)
  go_ret
  exact ⟨rfl, rfl⟩
 have j5 : (m.toList == [42]) = false := beq_eq_false_iff_ne.2 n5
 by_cases n6 : m.toList = [47]
 ·obtain rfl : 7 = r := by rw [← HR.out, toList_sign, n6]; decide
  have i0 : ([47] == [111, 114]) = false := by decide
  have i1 : ([47] == [120, 111, 114]) = false := by decide
  have i2 : ([47] == [97, 110, 100]) = false := by decide
  have i3 : ([47] == [43]) = false := by decide
  have i4 : ([47] == [45]) = false := by decide
  have i5 : ([47] == [42]) = false := by decide
  go_wp2_with (fail)
  go_ret
  exact ⟨rfl, rfl⟩
 have j6 : (m.toList == [47]) = false := beq_eq_false_iff_ne.2 n6
 by_cases n7 : m.toList = [109, 111, 100]
 ·obtain rfl : 7 = r := by rw [← HR.out, toList_sign, n7]; decide
  have i0 : ([109, 111, 100] == [111, 114]) = false := by decide
  have i1 : ([109, 111, 100] == [120, 111, 114]) = false := by decide
  have i2 : ([109, 111, 100] == [97, 110, 100]) = false := by decide
  have i3 : ([109, 111, 100] == [43]) = false := by decide
  have i4 : ([109, 111, 100] == [45]) = false := by decide
  have i5 : ([109, 111, 100] == [42]) = false := by decide
  have i6 : ([109, 111, 100] == [47]) = false := by decide
  go_wp2_with (fail)
  go_ret
  exact ⟨rfl, rfl⟩
 have j7 : (m.toList == [109, 111, 100]) = false := beq_eq_false_iff_ne.2 n7
 obtain rfl : 5 = r := by
  rw [← HR.out, toList_sign, PX.signLevel, if_neg (by simp [n0, n1]), if_neg (by simp [n2]), if_neg (by simp [n3, n4]), if_neg (by simp [n5, n6, n7])]
 clear n0 n1 n2 n3 n4 n5 n6 n7
 go_wp2_with (fail)
 go_ret
 exact ⟨rfl, rfl⟩
set_option maxHeartbeats 4000000 in
theorem level_walk (e : E) (A : Option Addr) (c : Nat) (h0 : 0 ≤ e.f0) (w : World) :
  Calls Tryz.prog 169 #[exA e A c] w fun e' w' => e' = .returned (.int .i64 (PX.lvl e.f0.toNat e.f2 e.f3.data.toList : Int)) ∧ Below w.heap.size w w' := by
 obtain ⟨r, hr⟩ : ∃ r, PX.lvl e.f0.toNat e.f2 e.f3.data.toList = r := ⟨_, rfl⟩
 rw [hr]
 have HR := Lib.hid hr
 have HO := Lib.hid ((Ow.start w).new (q := exO e A c))
 clear hr
 obtain ⟨e0, e1, e2, e3, e4, e5⟩ := e
 dsimp only at h0
 go_enter Tryz.func169, Tryz.ntmps169
 by_cases n7 : e0 = 7
 ·subst n7
  obtain rfl : 0 = r := HR.out
  go_wp2_with (fail)
  go_ret
  exact ⟨rfl, HO.out.bel⟩
 have j7 : (e0 == 7) = false := beq_eq_false_iff_ne.2 n7
 by_cases n8 : e0 = 8
 ·subst n8
  obtain rfl : 1 = r := HR.out
  go_wp2_with (fail)
  go_ret
  exact ⟨rfl, HO.out.bel⟩
 have j8 : (e0 == 8) = false := beq_eq_false_iff_ne.2 n8
 by_cases n9 : e0 = 9
 ·subst n9
  obtain rfl : 1 = r := HR.out
  go_wp2_with (fail)
  go_ret
  exact ⟨rfl, HO.out.bel⟩
 have j9 : (e0 == 9) = false := beq_eq_false_iff_ne.2 n9
 by_cases n5 : e0 = 5
 ·subst n5
  obtain rfl : 4 = r := HR.out
  go_wp2_with (fail)
  go_ret
  exact ⟨rfl, HO.out.bel⟩
 have j5 : (e0 == 5) = false := beq_eq_false_iff_ne.2 n5
 by_cases n4 : e0 = 4
 ·subst n4
  obtain rfl : 8 = r := HR.out
  go_wp2_with (fail)
  go_ret
  exact ⟨rfl, HO.out.bel⟩
 have j4 : (e0 == 4) = false := beq_eq_false_iff_ne.2 n4
 by_cases n10 : e0 = 10
 ·subst n10
  obtain rfl : 8 = r := HR.out
  go_wp2_with (fail)
  go_ret
  exact ⟨rfl, HO.out.bel⟩
 have j10 : (e0 == 10) = false := beq_eq_false_iff_ne.2 n10
 by_cases n11 : e0 = 11
 ·subst n11
  obtain rfl : 9 = r := HR.out
  go_wp2_with (fail)
  go_ret
  exact ⟨rfl, HO.out.bel⟩
 have j11 : (e0 == 11) = false := beq_eq_false_iff_ne.2 n11
 by_cases n6 : e0 = 6
 ·subst n6
  obtain rfl : PX.signLevel e3.data.toList = r := HR.out
  go_wp2_with (fail)
  refine (sign_walk e3 _).mono ?_
  rintro e' w1 ⟨rfl, rfl⟩
  go_wp2_with (fail)
  go_ret
  exact ⟨rfl, HO.out.bel⟩
 have j6 : (e0 == 6) = false := beq_eq_false_iff_ne.2 n6
 by_cases n1 : e0 = 1
 ·subst n1
  by_cases hn : e2 < 0
  ·obtain rfl : 8 = r := by rw [← HR.out]; simp [PX.lvl, hn]
   have i0 : decide (e2 < 0) = true := decide_eq_true hn
   go_wp2_with (fail)
   go_ret
   exact ⟨rfl, HO.out.bel⟩
  ·obtain rfl : 10 = r := by rw [← HR.out]; simp [PX.lvl, hn]
   have i0 : decide (e2 < 0) = false := decide_eq_false hn
   go_wp2_with (fail)
   go_ret
   exact ⟨rfl, HO.out.bel⟩
 have j1 : (e0 == 1) = false := beq_eq_false_iff_ne.2 n1
 obtain rfl : 10 = r := by
  rw [← HR.out]
  unfold PX.lvl
  dsimp only
  rw [if_neg (by omega), if_neg (by omega), if_neg (by omega), if_neg (by omega), if_neg (by omega), if_neg (by omega), if_neg (by omega)]
 clear n7 n8 n9 n5 n4 n10 n11 n6 n1 h0
 go_wp2_with (fail)
 go_ret
 exact ⟨rfl, HO.out.bel⟩
set_option maxHeartbeats 4000000 in
theorem clock_walk (m : ByteArray) (off : Bool) (w : World) (hm : m.size ≤ 1000000) :
  Calls Tryz.prog 94 #[.string m, .bool off] w fun e w' => e = .returned (.string (if m.toList = [] then ⟨#[]⟩ else if off then (⟨#[32, 119, 104, 101, 110, 32, 110, 111, 116, 32]⟩ : ByteArray) ++ m else (⟨#[32, 119, 104, 101, 110, 32]⟩ : ByteArray) ++ m)) ∧ w' = w := by
 obtain ⟨r, hr⟩ : ∃ r, (if m.toList = [] then (⟨#[]⟩ : ByteArray) else if off then (⟨#[32, 119, 104, 101, 110, 32, 110, 111, 116, 32]⟩ : ByteArray) ++ m else (⟨#[32, 119, 104, 101, 110, 32]⟩ : ByteArray) ++ m) = r := ⟨_, rfl⟩
 rw [hr]
 have HR := Lib.hid hr
 clear hr
 have q0 : (9223372036854775807 < 10 + m.size) = False := eq_false (by omega)
 have q1 : (9223372036854775807 < 6 + m.size) = False := eq_false (by omega)
 clear hm
 go_enter Tryz.func94, Tryz.ntmps94
 by_cases hz : m.toList = []
 ·obtain rfl : (⟨#[]⟩ : ByteArray) = r := by rw [← HR.out, if_pos hz]
  go_wp2_with (fail)
  go_ret
  exact ⟨rfl, rfl⟩
 ·have z1 : (m.toList == []) = false := beq_eq_false_iff_ne.2 hz
  have z2 : m.toList.isEmpty = false := by cases h9 : m.toList with
   | nil => exact absurd h9 hz
   | cons _ _ => rfl
  have z3 : (m.toList = []) = False := eq_false hz
  have hr := HR.out
  rw [if_neg hz] at hr
  clear HR hz
  cases off with
  | true =>
   obtain rfl : (⟨#[32, 119, 104, 101, 110, 32, 110, 111, 116, 32]⟩ : ByteArray) ++ m = r := hr
   go_wp2_with (fail)
   go_ret
   exact ⟨rfl, rfl⟩
  | false =>
   obtain rfl : (⟨#[32, 119, 104, 101, 110, 32]⟩ : ByteArray) ++ m = r := hr
   go_wp2_with (fail)
   go_ret
   exact ⟨rfl, rfl⟩
def clkB (m : ByteArray) (off : Bool) : ByteArray := if m.toList = [] then ⟨#[]⟩ else if off then (⟨#[32, 119, 104, 101, 110, 32, 110, 111, 116, 32]⟩ : ByteArray) ++ m else (⟨#[32, 119, 104, 101, 110, 32]⟩ : ByteArray) ++ m
theorem clkB_size (m : ByteArray) (off : Bool) (hm : m.size ≤ 1000000) : (clkB m off).size ≤ 1000010 := by
 unfold clkB
 split
 ·exact Nat.zero_le _
 ·split
  ·rw [ByteArray.size_append]
   show 10 + m.size ≤ _
   omega
  ·rw [ByteArray.size_append]
   show 6 + m.size ≤ _
   omega
theorem clkB_walk (m : ByteArray) (off : Bool) (hm : m.size ≤ 1000000) (w : World) :
  Calls Tryz.prog 94 #[.string m, .bool off] w fun e w' => e = .returned (.string (clkB m off)) ∧ w' = w := clock_walk m off w hm
set_option maxHeartbeats 4000000 in
theorem at_yes {w0 : World} {a : E} {t : ByteArray} (ha : TxtIs w0 a t) (h0 : 0 ≤ a.f0) (hs : t.size ≤ 1000000) (least : Int) (hl : (PX.lvl a.f0.toNat a.f2 a.f3.data.toList : Int) < least) : AtIs w0 a least ((⟨#[40]⟩ : ByteArray) ++ t ++ ⟨#[41]⟩) := by
 intro A c w he hb hT
 obtain ⟨v, hv⟩ : ∃ v : Int, (PX.lvl a.f0.toNat a.f2 a.f3.data.toList : Int) = v := ⟨_, rfl⟩
 have hlv := level_walk a A c h0
 rw [hv] at hlv hl
 have HL := Lib.hid hlv
 have HE := Lib.hid (And.intro he (And.intro hb hT))
 have HO := Lib.hid ((Ow.start w).new (q := exO a A c))
 have i0 : decide (v < least) = true := decide_eq_true hl
 have q0 : (9223372036854775807 < 1 + t.size) = False := eq_false (by omega)
 have q1 : (9223372036854775807 < 1 + t.size + 1) = False := eq_false (by omega)
 clear hlv he hb hT hv hs h0 hl
 go_enter Tryz.func144, Tryz.ntmps144
 go_wp2_with (fail)
 refine (HL.out _).mono ?_
 rintro e' w1 ⟨rfl, hb⟩
 have HO2 := Lib.hid (HO.out.below hb)
 clear hb
 obtain ⟨r0, r1, r2, r3, r4, r5, rf⟩ := blk6 HO2.out.l0
 go_wp2_with (fail)
 refine (ha A c _ HE.out.1 (HE.out.2.1.trans (HO2.out.bel.mono HE.out.2.1.size)) (Tl.Tabs.below HE.out.2.2 HO2.out.bel)).mono ?_
 rintro e' w2 ⟨rfl, hb⟩
 have HO3 := Lib.hid (HO2.out.below hb)
 clear hb
 go_wp2_with (fail)
 go_ret
 exact ⟨rfl, HO3.out.bel⟩
set_option maxHeartbeats 4000000 in
theorem at_no {w0 : World} {a : E} {t : ByteArray} (ha : TxtIs w0 a t) (h0 : 0 ≤ a.f0) (least : Int) (hl : ¬ (PX.lvl a.f0.toNat a.f2 a.f3.data.toList : Int) < least) : AtIs w0 a least t := by
 intro A c w he hb hT
 obtain ⟨v, hv⟩ : ∃ v : Int, (PX.lvl a.f0.toNat a.f2 a.f3.data.toList : Int) = v := ⟨_, rfl⟩
 have hlv := level_walk a A c h0
 rw [hv] at hlv hl
 have HL := Lib.hid hlv
 have HE := Lib.hid (And.intro he (And.intro hb hT))
 have HO := Lib.hid ((Ow.start w).new (q := exO a A c))
 have i0 : decide (v < least) = false := decide_eq_false hl
 clear hlv he hb hT hv h0 hl
 go_enter Tryz.func144, Tryz.ntmps144
 go_wp2_with (fail)
 refine (HL.out _).mono ?_
 rintro e' w1 ⟨rfl, hb⟩
 have HO2 := Lib.hid (HO.out.below hb)
 clear hb
 obtain ⟨r0, r1, r2, r3, r4, r5, rf⟩ := blk6 HO2.out.l0
 go_wp2_with (fail)
 refine (ha A c _ HE.out.1 (HE.out.2.1.trans (HO2.out.bel.mono HE.out.2.1.size)) (Tl.Tabs.below HE.out.2.2 HO2.out.bel)).mono ?_
 rintro e' w2 ⟨rfl, hb⟩
 have HO3 := Lib.hid (HO2.out.below hb)
 clear hb
 go_wp2_with (fail)
 go_ret
 exact ⟨rfl, HO3.out.bel⟩
def atB (a : E) (least : Nat) (t : ByteArray) : ByteArray := if PX.lvl a.f0.toNat a.f2 a.f3.data.toList < least then (⟨#[40]⟩ : ByteArray) ++ t ++ ⟨#[41]⟩ else t
theorem at_walk {w0 : World} {a : E} {t : ByteArray} (ha : TxtIs w0 a t) (h0 : 0 ≤ a.f0) (hs : t.size ≤ 1000000) (least : Nat) : AtIs w0 a (least : Int) (atB a least t) := by
 unfold atB
 by_cases hl : PX.lvl a.f0.toNat a.f2 a.f3.data.toList < least
 ·rw [if_pos hl]
  exact at_yes ha h0 hs _ (by omega)
 ·rw [if_neg hl]
  exact at_no ha h0 _ (by omega)
theorem atB_size {a : E} {t : ByteArray} (hs : t.size ≤ 1000000) (least : Nat) : (atB a least t).size ≤ 1000002 := by
 unfold atB
 split
 ·rw [ByteArray.size_append, ByteArray.size_append]
  show 1 + t.size + 1 ≤ _
  omega
 ·omega
def negB (a : E) (t : ByteArray) : ByteArray := if a.f0 = 1 ∨ (atB a 8 t).data[0]? = some 45 then (⟨#[45, 40]⟩ : ByteArray) ++ t ++ ⟨#[41]⟩ else (⟨#[45]⟩ : ByteArray) ++ atB a 8 t
abbrev NegIs (w0 : World) (a : E) (t : ByteArray) : Prop := ∀ (A : Option Addr) (c : Nat) (w : World), ExAt w0 a A c → Below w0.heap.size w0 w → Tl.Tabs w →
 Calls Tryz.prog 143 #[exA a A c] w fun e w' => e = .returned (.string t) ∧ Below w.heap.size w w'
set_option maxHeartbeats 4000000 in
theorem neg_walk {w0 : World} {a : E} {t : ByteArray} (ha : TxtIs w0 a t) (h0 : 0 ≤ a.f0) (hs : t.size ≤ 1000000) (hp : 0 < t.size) : NegIs w0 a (negB a t) := by
 intro A c w he hb hT
 have hat := at_walk ha h0 hs 8
 obtain ⟨s, hs2⟩ : ∃ s, atB a 8 t = s := ⟨_, rfl⟩
 have hsz := atB_size (a := a) hs 8
 have hne : 0 < s.size := by
  rw [← hs2, atB]
  split
  ·rw [ByteArray.size_append, ByteArray.size_append]
   show 0 < 1 + t.size + 1
   omega
  ·exact hp
 obtain ⟨r, hr⟩ : ∃ r, negB a t = r := ⟨_, rfl⟩
 rw [hr]
 unfold negB at hr
 rw [hs2] at hr hat hsz
 have HA := Lib.hid hat
 have HR := Lib.hid hr
 have HE := Lib.hid (And.intro he (And.intro hb hT))
 have HO := Lib.hid ((Ow.start w).new (q := exO a A c))
 have q0 : (9223372036854775807 < 2 + t.size) = False := eq_false (by omega)
 have q1 : (9223372036854775807 < 2 + t.size + 1) = False := eq_false (by omega)
 have q2 : (9223372036854775807 < 1 + s.size) = False := eq_false (by omega)
 have q3 : (0 < s.size) = True := eq_true hne
 have q4 : (0 : Int) < (s.size : Int) := by omega
 have HS := Lib.hid hne
 clear hat he hb hT hs h0 hr hs2 hsz hp
 go_enter Tryz.func143, Tryz.ntmps143
 go_wp2_with (fail)
 refine (HA.out A c _ HE.out.1 (HE.out.2.1.trans (HO.out.bel.mono HE.out.2.1.size)) (Tl.Tabs.below HE.out.2.2 HO.out.bel)).mono ?_
 rintro e' w1 ⟨rfl, hb⟩
 have HO2 := Lib.hid (HO.out.below hb)
 clear hb
 obtain ⟨r0, r1, r2, r3, r4, r5, rf⟩ := blk6 HO2.out.l0
 obtain ⟨a0, a1, a2, a3, a4, a5⟩ := a
 by_cases hk : a0 = 1
 ·subst hk
  obtain rfl : (⟨#[45, 40]⟩ : ByteArray) ++ t ++ ⟨#[41]⟩ = r := by
   have h9 := HR.out
   rw [if_pos (.inl rfl)] at h9
   exact h9
  go_wp2_with (fail)
  refine (ha A c _ HE.out.1 (HE.out.2.1.trans (HO2.out.bel.mono HE.out.2.1.size)) (Tl.Tabs.below HE.out.2.2 HO2.out.bel)).mono ?_
  rintro e' w2 ⟨rfl, hb⟩
  have HO3 := Lib.hid (HO2.out.below hb)
  clear hb
  go_wp2_with (fail)
  go_ret
  exact ⟨rfl, HO3.out.bel⟩
 ·have k0 : (a0 == 1) = false := beq_eq_false_iff_ne.2 hk
  have hd : s.data[0]? = some (s[0]'HS.out) := getElem?_pos s.data 0 HS.out
  by_cases h45 : (s[0]'HS.out) = 45
  ·have k1 : (((s[0]'HS.out).toNat : Int) == 45) = true := by rw [h45]; rfl
   obtain rfl : (⟨#[45, 40]⟩ : ByteArray) ++ t ++ ⟨#[41]⟩ = r := by
    have h9 := HR.out
    rw [if_pos (.inr (by rw [hd, h45]))] at h9
    exact h9
   clear hd h45 hk
   go_wp2_with (fail)
   refine (ha A c _ HE.out.1 (HE.out.2.1.trans (HO2.out.bel.mono HE.out.2.1.size)) (Tl.Tabs.below HE.out.2.2 HO2.out.bel)).mono ?_
   rintro e' w2 ⟨rfl, hb⟩
   have HO3 := Lib.hid (HO2.out.below hb)
   clear hb
   go_wp2_with (fail)
   go_ret
   exact ⟨rfl, HO3.out.bel⟩
  ·have k1 : (((s[0]'HS.out).toNat : Int) == 45) = false := by
    rw [beq_eq_false_iff_ne]
    intro h9
    apply h45
    apply UInt8.toNat_inj.1
    show _ = 45
    omega
   obtain rfl : (⟨#[45]⟩ : ByteArray) ++ s = r := by
    have h9 := HR.out
    rw [if_neg (by
     rintro (h8 | h8)
     ·exact hk h8
     ·rw [hd] at h8
      exact h45 (Option.some.inj h8))] at h9
    exact h9
   clear hd h45 hk
   go_wp2_with (fail)
   go_ret
   exact ⟨rfl, HO2.out.bel⟩
def TxtsIs (w0 : World) : List E → List ByteArray → Prop
 | [], [] => True
 | e :: r, t :: ts => TxtIs w0 e t ∧ t.size ≤ 1000000 ∧ TxtsIs w0 r ts
 | _, _ => False
theorem txts_len {w0 : World} : ∀ {l : List E} {ts : List ByteArray}, TxtsIs w0 l ts → l.length = ts.length
 | [], [], _ => rfl
 | e :: r, t :: ts, h => by rw [List.length_cons, List.length_cons, txts_len h.2.2]
 | [], _ :: _, h => h.elim
 | _ :: _, [], h => h.elim
theorem txts_at {w0 : World} : ∀ {l : List E} {ts : List ByteArray}, TxtsIs w0 l ts → ∀ (i : Nat) (e : E), l[i]? = some e → ∃ t, ts[i]? = some t ∧ TxtIs w0 e t ∧ t.size ≤ 1000000
 | e :: r, t :: ts, h, 0, e', he => by
  obtain rfl : e = e' := by simpa using he
  exact ⟨t, rfl, h.1, h.2.1⟩
 | e :: r, t :: ts, h, i + 1, e', he => txts_at h.2.2 i e' (by simpa using he)
 | [], [], h, i, e', he => by simp at he
 | [], _ :: _, h, _, _, _ => h.elim
 | _ :: _, [], h, _, _, _ => h.elim
theorem info_s : (Tryz.prog.info? 9).map (fun i => (i.zero, i.size, i.bytes)) = some (some (.string ⟨#[]⟩), 1, 16) := by kernel_rfl
theorem join_walk (ts : List ByteArray) (sep : ByteArray) (base : Nat) (v : Value) (w : World) (ho : w.ownsRow base 9 1 v ts.length (ts.map Value.string)) (hl : ts.length ≤ 1000000) (hj : (Lib.join (ts.map (·.data.toList)) sep.data.toList).length ≤ 140737488355328) :
  Calls Tryz.prog 95 #[v, .string sep] w fun e w' => e = .returned (.string ⟨(Lib.join (ts.map (·.data.toList)) sep.data.toList).toArray⟩) ∧ Below w.heap.size w w' := by
 cases ts with
 | nil =>
  obtain ⟨_, h | ⟨g, cap, cur, rfl, hb, hg, h1, h2, h3, h4⟩⟩ := ho
  ·rw [h.1]
   refine (Tryz.strings_Join_none _ _ sep w).mono ?_
   rintro e w' ⟨rfl, rfl⟩
   exact ⟨by simp [Lib.join], Below.refl _ _⟩
  ·refine (Tryz.strings_Join_none _ _ sep w).mono ?_
   rintro e w' ⟨rfl, rfl⟩
   exact ⟨by simp [Lib.join], Below.refl _ _⟩
 | cons x l =>
  obtain ⟨hl2, h | ⟨g, cap, cur, rfl, hb, hg, h1, h2, h3, h4⟩⟩ := ho
  ·exact absurd h.2 (by simp)
  ·refine Tryz.strings_Join g 0 cap (x :: l) sep w ?_ (blk_lt hg) (by omega) (by omega) hj
   intro j y hy
   have hjl : j < (x :: l).length := (List.getElem?_eq_some_iff.1 hy).1
   have hc : (cur.toList.take ((x :: l).length * 1))[j]? = some (.string y) := by rw [h4, List.getElem?_map, hy]; rfl
   rw [List.getElem?_take, if_pos (by omega), Array.getElem?_toList] at hc
   rw [Nat.zero_add]
   exact (blk_cell hg j).trans hc
abbrev ListIs (w0 : World) (l : List E) (t : ByteArray) : Prop := ∀ (A : Option Addr) (c : Nat) (w : World), Kd.C k54 w0 A l.length l → Below w0.heap.size w0 w → Tl.Tabs w →
 Calls Tryz.prog 146 #[.slice A l.length c] w fun e w' => e = .returned (.string t) ∧ Below w.heap.size w w'
def sepB : ByteArray := ⟨#[44, 32]⟩
def listB (ts : List ByteArray) : ByteArray := ⟨(Lib.join (ts.map (·.data.toList)) [44, 32]).toArray⟩
set_option maxHeartbeats 4000000 in
set_option maxRecDepth 100000 in
theorem list_walk {w0 : World} {l : List E} {ts : List ByteArray} (ht : TxtsIs w0 l ts) (hl : l.length ≤ 1000000) (hj : (listB ts).size ≤ 1000000) : ListIs w0 l (listB ts) := by
 intro A c w hr hb hT
 have HE := Lib.hid (And.intro hr (And.intro hb hT))
 have HX := Lib.hid ht
 have HL := Lib.hid hl
 have HJ := Lib.hid (show (Lib.join (ts.map (·.data.toList)) sepB.data.toList).length ≤ 140737488355328 from by
  have h9 : (Lib.join (ts.map (·.data.toList)) [44, 32]).length ≤ 1000000 := by
   have : (listB ts).size = (Lib.join (ts.map (·.data.toList)) [44, 32]).length := by show (Lib.join (ts.map (·.data.toList)) [44, 32]).toArray.size = _; simp
   omega
  show (Lib.join (ts.map (·.data.toList)) [44, 32]).length ≤ _
  omega)
 have HN := Lib.hid (txts_len ht)
 have HB0 : Hid (Below w.heap.size w w) := Lib.hid (Below.refl _ _)
 have HV0 : Hid (w.ownsRow w.heap.size 9 1 (.slice none 0 0) 0 ((ts.take 0).map Value.string)) := Lib.hid (own_nil _ _ _ _)
 clear hr hb hT hl hj ht
 go_enter Tryz.func146, Tryz.ntmps146
 go_wp2_with (fail)
 go_loopg [8, 3] (l.length + 1) (fun m9 u v wr => ∃ i : Nat, u = .int .i64 (i : Int) ∧ i ≤ l.length ∧ m9 = l.length + 1 - i ∧ Hid (Below w.heap.size w wr) ∧ Hid (wr.ownsRow w.heap.size 9 1 v i ((ts.take i).map Value.string)))
 case atStart => exact ⟨0, rfl, by omega, by simp, HB0, HV0⟩
 case round =>
  obtain ⟨i, rfl, hi, rfl, HB, HV⟩ := hrel
  clear HB0 HV0
  rcases Nat.lt_or_ge i l.length with hlt | hge
  ·obtain ⟨k, hk, hd⟩ := drop_at hlt
   obtain ⟨ad, A', c', hA, x0, x1, x2, x3, x4, x5, hE⟩ := kid_at HE.out.1 i k hk
   obtain ⟨t, htk, htx, hts⟩ := txts_at HX.out i k hk
   subst hA
   have hb := HE.out.2.1.trans (HB.out.mono HE.out.2.1.size)
   replace x0 := pw_cell_below hb x0
   replace x1 := pw_cell_below hb x1
   replace x2 := pw_cell_below hb x2
   replace x3 := pw_cell_below hb x3
   replace x4 := pw_cell_below hb x4
   replace x5 := pw_cell_below hb x5
   have xl := World.block_lt_of_cell? _ _ x0
   have xn : ¬ ((ad.add (i * 6)).block = wr.heap.size) := Nat.ne_of_lt xl
   have HT := Lib.hid (And.intro htx (And.intro hE htk))
   have HO := Lib.hid ((Ow.start wr).new (q := exO k A' c'))
   have HBW := Lib.hid hb
   have HK : Hid ((i + 1) * 16 ≤ 140737488355328) := Lib.hid (by have := HL.out; omega)
   have HS0 := Lib.hid HB.out.size
   have i0 : ((i : Int) < (l.length : Int)) = True := eq_true (by omega)
   have i1 : decide ((i : Int) < (l.length : Int)) = true := decide_eq_true (by omega)
   have i2 : (0 ≤ (i : Int)) = True := eq_true (by omega)
   have hw9 : wrap64 ((i : Int) + 1) = ((i + 1 : Nat) : Int) := by have h9 := HL.out; unfold wrap64; omega
   clear hb htx hE htk hts hk hd
   go_wp2_with (fail)
   refine (HT.out.1 A' c' _ HT.out.2.1 (HBW.out.trans (HO.out.bel.mono HBW.out.size)) (Tl.Tabs.below HE.out.2.2 (HB.out.trans (HO.out.bel.mono HB.out.size)))).mono ?_
   rintro e' w1 ⟨rfl, hb⟩
   have HO2 := Lib.hid (HO.out.below hb)
   have HB2 := Lib.hid (HB.out.trans (HO2.out.bel.mono HB.out.size))
   have HV2 : Hid (w1.ownsRow w.heap.size 9 1 u3 i ((ts.take i).map Value.string)) := Lib.hid (own_move HV.out (fun k hk => HO2.out.bel.block k (own_lt HV.out k hk)))
   clear hb HO
   go_wp2_with (first | ((with_reducible refine gate_builtin (b := .append) (xs := #[.tmp 12, .tmp 15]) rfl ?_); at_builtin; (refine print_append_cells (w0 := w) w.heap.size rfl (.tmp 12) (.tmp 15) 36 9 (.string ⟨#[]⟩) 1 16 rfl Tryz.underlying36 info_s rfl (by decide) (by decide) u3 i ((ts.take i).map Value.string) [.string t] rfl (show Value.slice (some ⟨w1.heap.size, 0, none⟩) 1 1 = _ by simp) rfl (by simp [Value.oneCell']) HV2.out HB2.out HB2.out.size HK.out ?_); intro v5 w5 hown hb5 hg5 hat5; have HB5 := Lib.hid hb5; have HV5 := Lib.hid hown; clear hown hb5 hg5 hat5))
   go_roundg (l.length + 1 - (i + 1))
   case measure => exact ms9 hlt
   case rel =>
    refine ⟨i + 1, (by first | rw [hw9] | rfl), hlt, rfl, HB5, Lib.hid ?_⟩
    have h9 := HV5.out
    have e9 : ts.take (i + 1) = ts.take i ++ [t] := by rw [List.take_add_one, HT.out.2.2]; rfl
    rw [e9, List.map_append]
    exact h9
  ·obtain rfl : i = l.length := by omega
   have i0 : ((l.length : Int) < (l.length : Int)) = False := eq_false (by omega)
   have i1 : decide ((l.length : Int) < (l.length : Int)) = false := decide_eq_false (by omega)
   have hV : wr.ownsRow w.heap.size 9 1 u3 ts.length (ts.map Value.string) := by
    have h9 := HV.out
    rw [HN.out, List.take_length] at h9
    exact h9
   have HV3 := Lib.hid hV
   have HL3 : Hid (ts.length ≤ 1000000) := Lib.hid (by rw [← HN.out]; exact HL.out)
   clear hV
   go_wp2_with (fail)
   refine (join_walk ts sepB w.heap.size u3 _ HV3.out HL3.out HJ.out).mono ?_
   rintro e' w1 ⟨rfl, hb⟩
   have HB2 := Lib.hid (HB.out.trans (hb.mono HB.out.size))
   clear hb
   go_wp2_with (fail)
   go_ret
   exact ⟨rfl, HB2.out⟩
end Go.Proofs.YtjafllnbgfcchaaGreatDoor.Tx
end
