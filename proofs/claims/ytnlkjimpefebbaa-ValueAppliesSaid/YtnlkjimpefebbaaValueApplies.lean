/- The statement ValueApplies: for every sign and every three numbers the program's answer is the page's. No condition. -/
import Derived.Test.YtnlkjimpefebbaaRows
import Derived.Test.YtnlkjimpefebbaaVal
import Derived.WalkKit
import Derived.ProofKit
import Derived.OpenShut
import Derived.ShutString
import Derived.ChangeOld
import Derived.Below
import Derived.SizedLaws
namespace Go.Proofs.Ytnlkjimpefebbaa.Wk
set_option linter.unusedSimpArgs false
open Go Go.RowKit Go.Proofs.Ytnlkjimpefebbaa.PValueApplies Go.Proofs.YtnlkjimpefebbaaW.PrintWords Go.Proofs.YtnlkjimpefebbaaW.PrintLast
theorem C1 {W : World} {g : Nat} {a : Int} (h0 : W.cell? ⟨g, 0, none⟩ = some (.int .i64 a)) : Kd.C (Kd.int .i64) W (some ⟨g, 0, none⟩) 1 [a] := by
  refine ⟨rfl, by omega, fun _ => ⟨_, rfl, ?_⟩⟩
  intro j p hp
  match j, hp with
  | 0, hp =>
    obtain rfl : a = p := by simpa using hp
    exact ⟨[.int .i64 a], rfl, rfl, fun i u hu => by
      match i, hu with
      | 0, hu =>
        obtain rfl := Option.some.inj hu
        simpa [Kd.int, Kd.scalar, Addr.add] using h0⟩
theorem C3 {W : World} {g : Nat} {a b c : Int} (h0 : W.cell? ⟨g, 0, none⟩ = some (.int .i64 a)) (h1 : W.cell? ⟨g, 1, none⟩ = some (.int .i64 b)) (h2 : W.cell? ⟨g, 2, none⟩ = some (.int .i64 c)) : Kd.C (Kd.int .i64) W (some ⟨g, 0, none⟩) 3 [a, b, c] := by
  refine ⟨rfl, by omega, fun _ => ⟨_, rfl, ?_⟩⟩
  intro j p hp
  match j, hp with
  | 0, hp =>
    obtain rfl : a = p := by simpa using hp
    exact ⟨[.int .i64 a], rfl, rfl, fun i u hu => by
      match i, hu with
      | 0, hu =>
        obtain rfl := Option.some.inj hu
        simpa [Kd.int, Kd.scalar, Addr.add] using h0⟩
  | 1, hp =>
    obtain rfl : b = p := by simpa using hp
    exact ⟨[.int .i64 b], rfl, rfl, fun i u hu => by
      match i, hu with
      | 0, hu =>
        obtain rfl := Option.some.inj hu
        simpa [Kd.int, Kd.scalar, Addr.add] using h1⟩
  | 2, hp =>
    obtain rfl : c = p := by simpa using hp
    exact ⟨[.int .i64 c], rfl, rfl, fun i u hu => by
      match i, hu with
      | 0, hu =>
        obtain rfl := Option.some.inj hu
        simpa [Kd.int, Kd.scalar, Addr.add] using h2⟩
theorem apply1 (op : ByteArray) (a r : Int) (g : Nat) (w : World) (h : value_Apply.f op [a] = some r) (h0 : w.cell? ⟨g, 0, none⟩ = some (.int .i64 a)) :
    Calls Try.prog 22 #[.string op, .slice (some ⟨g, 0, none⟩) 1 1] w fun e w' => e = .returned (.int .i64 r) ∧ Drawn0 w w' :=
  value_Apply.calls op (some ⟨g, 0, none⟩) 1 [a] r w (C1 h0) (Nat.le_refl _) h
theorem apply3 (op : ByteArray) (a b c r : Int) (g : Nat) (w : World) (h : value_Apply.f op [a, b, c] = some r) (h0 : w.cell? ⟨g, 0, none⟩ = some (.int .i64 a)) (h1 : w.cell? ⟨g, 1, none⟩ = some (.int .i64 b)) (h2 : w.cell? ⟨g, 2, none⟩ = some (.int .i64 c)) :
    Calls Try.prog 22 #[.string op, .slice (some ⟨g, 0, none⟩) 3 3] w fun e w' => e = .returned (.int .i64 r) ∧ Drawn0 w w' :=
  value_Apply.calls op (some ⟨g, 0, none⟩) 3 [a, b, c] r w (C3 h0 h1 h2) (Nat.le_refl _) h
theorem ref_any (k : Nat) (a0 : ByteArray) (a1 a2 a3 r : Int) (w : World) (h : girandoleref10_Apply.f k a0 a1 a2 a3 = some r) :
    Calls Try.prog 21 #[.string a0, .int .i64 a1, .int .i64 a2, .int .i64 a3] w fun e w' => e = .returned (.int .i64 r) ∧ Drawn0 w w' := girandoleref10_Apply.calls k a0 a1 a2 a3 r w h

theorem app_0 (a0 a b c r : Int) (k : Nat) (w : World) (hi : (Go.bits .and .i64 a0 65535).tmod 18 = 0) (hr : girandoleref10_Apply.f k ⟨#[99, 111, 112, 121]⟩ a b c = some r) (hv : value_Apply.f ⟨#[99, 111, 112, 121]⟩ [a] = some r) :
    Calls Try.prog 5 #[.int .i64 a0, .int .i64 a, .int .i64 b, .int .i64 c] w fun e w' => e = .returned (.bool true) ∧ Below w.heap.size w w' := by
  have Hr := Lib.hid hr
  have Hv := Lib.hid hv
  clear hr hv
  go_enter Try.func5, Try.ntmps5
  go_wp2_with fail
  refine (awake_any _).mono ?_
  rintro e w1 ⟨rfl, hB1⟩
  have HB := Lib.hid hB1; clear hB1
  go_wp2_with fail
  refine (ref_any _ _ _ _ _ _ _ Hr.out).mono ?_
  rintro e w2 ⟨rfl, ⟨n2, rfl⟩⟩
  go_wp2_with fail
  refine (apply1 _ _ _ _ _ Hv.out (by go_simp)).mono ?_
  rintro e w2 ⟨rfl, ⟨n3, rfl⟩⟩
  go_wp2_with fail
  go_ret
  refine ⟨by simp, ?_⟩
  repeat (first | exact HB.out | (with_reducible first | apply below_alloc | apply pw_below_drewN | apply below_drew1))
theorem app_1 (a0 a b c r : Int) (k : Nat) (w : World) (hi : (Go.bits .and .i64 a0 65535).tmod 18 = 1) (hr : girandoleref10_Apply.f k ⟨#[110, 101, 103]⟩ a b c = some r) (hv : value_Apply.f ⟨#[110, 101, 103]⟩ [a] = some r) :
    Calls Try.prog 5 #[.int .i64 a0, .int .i64 a, .int .i64 b, .int .i64 c] w fun e w' => e = .returned (.bool true) ∧ Below w.heap.size w w' := by
  have Hr := Lib.hid hr
  have Hv := Lib.hid hv
  clear hr hv
  go_enter Try.func5, Try.ntmps5
  go_wp2_with fail
  refine (awake_any _).mono ?_
  rintro e w1 ⟨rfl, hB1⟩
  have HB := Lib.hid hB1; clear hB1
  go_wp2_with fail
  refine (ref_any _ _ _ _ _ _ _ Hr.out).mono ?_
  rintro e w2 ⟨rfl, ⟨n2, rfl⟩⟩
  go_wp2_with fail
  refine (apply1 _ _ _ _ _ Hv.out (by go_simp)).mono ?_
  rintro e w2 ⟨rfl, ⟨n3, rfl⟩⟩
  go_wp2_with fail
  go_ret
  refine ⟨by simp, ?_⟩
  repeat (first | exact HB.out | (with_reducible first | apply below_alloc | apply pw_below_drewN | apply below_drew1))
theorem app_2 (a0 a b c r : Int) (k : Nat) (w : World) (hi : (Go.bits .and .i64 a0 65535).tmod 18 = 2) (hr : girandoleref10_Apply.f k ⟨#[110, 111, 116]⟩ (Go.bits .and .i64 a 1) (Go.bits .and .i64 b 1) c = some r) (hv : value_Apply.f ⟨#[110, 111, 116]⟩ [(Go.bits .and .i64 a 1)] = some r) :
    Calls Try.prog 5 #[.int .i64 a0, .int .i64 a, .int .i64 b, .int .i64 c] w fun e w' => e = .returned (.bool true) ∧ Below w.heap.size w w' := by
  have Hr := Lib.hid hr
  have Hv := Lib.hid hv
  clear hr hv
  go_enter Try.func5, Try.ntmps5
  go_wp2_with fail
  refine (awake_any _).mono ?_
  rintro e w1 ⟨rfl, hB1⟩
  have HB := Lib.hid hB1; clear hB1
  go_wp2_with fail
  refine (ref_any _ _ _ _ _ _ _ Hr.out).mono ?_
  rintro e w2 ⟨rfl, ⟨n2, rfl⟩⟩
  go_wp2_with fail
  refine (apply1 _ _ _ _ _ Hv.out (by go_simp)).mono ?_
  rintro e w2 ⟨rfl, ⟨n3, rfl⟩⟩
  go_wp2_with fail
  go_ret
  refine ⟨by simp, ?_⟩
  repeat (first | exact HB.out | (with_reducible first | apply below_alloc | apply pw_below_drewN | apply below_drew1))
theorem app_3 (a0 a b c r : Int) (k : Nat) (w : World) (hi : (Go.bits .and .i64 a0 65535).tmod 18 = 3) (hr : girandoleref10_Apply.f k ⟨#[105, 102]⟩ a b c = some r) (hv : value_Apply.f ⟨#[105, 102]⟩ [a, b, c] = some r) :
    Calls Try.prog 5 #[.int .i64 a0, .int .i64 a, .int .i64 b, .int .i64 c] w fun e w' => e = .returned (.bool true) ∧ Below w.heap.size w w' := by
  have Hr := Lib.hid hr
  have Hv := Lib.hid hv
  clear hr hv
  go_enter Try.func5, Try.ntmps5
  go_wp2_with fail
  refine (awake_any _).mono ?_
  rintro e w1 ⟨rfl, hB1⟩
  have HB := Lib.hid hB1; clear hB1
  go_wp2_with fail
  refine (ref_any _ _ _ _ _ _ _ Hr.out).mono ?_
  rintro e w2 ⟨rfl, ⟨n2, rfl⟩⟩
  go_wp2_with fail
  refine (apply3 _ _ _ _ _ _ _ Hv.out (by go_simp) (by go_simp) (by go_simp)).mono ?_
  rintro e w2 ⟨rfl, ⟨n3, rfl⟩⟩
  go_wp2_with fail
  go_ret
  refine ⟨by simp, ?_⟩
  repeat (first | exact HB.out | (with_reducible first | apply below_alloc | apply pw_below_drewN | apply below_drew1))
theorem app_4 (a0 a b c r : Int) (k : Nat) (w : World) (hi : (Go.bits .and .i64 a0 65535).tmod 18 = 4) (hr : girandoleref10_Apply.f k ⟨#[43]⟩ a b c = some r) (hv : value_Apply.f ⟨#[43]⟩ [a, b] = some r) :
    Calls Try.prog 5 #[.int .i64 a0, .int .i64 a, .int .i64 b, .int .i64 c] w fun e w' => e = .returned (.bool true) ∧ Below w.heap.size w w' := by
  have Hr := Lib.hid hr
  have Hv := Lib.hid hv
  clear hr hv
  go_enter Try.func5, Try.ntmps5
  go_wp2_with fail
  refine (awake_any _).mono ?_
  rintro e w1 ⟨rfl, hB1⟩
  have HB := Lib.hid hB1; clear hB1
  go_wp2_with fail
  refine (ref_any _ _ _ _ _ _ _ Hr.out).mono ?_
  rintro e w2 ⟨rfl, ⟨n2, rfl⟩⟩
  go_wp2_with fail
  refine (apply2 _ _ _ _ _ _ Hv.out (by go_simp) (by go_simp)).mono ?_
  rintro e w2 ⟨rfl, ⟨n3, rfl⟩⟩
  go_wp2_with fail
  go_ret
  refine ⟨by simp, ?_⟩
  repeat (first | exact HB.out | (with_reducible first | apply below_alloc | apply pw_below_drewN | apply below_drew1))
theorem app_5 (a0 a b c r : Int) (k : Nat) (w : World) (hi : (Go.bits .and .i64 a0 65535).tmod 18 = 5) (hr : girandoleref10_Apply.f k ⟨#[45]⟩ a b c = some r) (hv : value_Apply.f ⟨#[45]⟩ [a, b] = some r) :
    Calls Try.prog 5 #[.int .i64 a0, .int .i64 a, .int .i64 b, .int .i64 c] w fun e w' => e = .returned (.bool true) ∧ Below w.heap.size w w' := by
  have Hr := Lib.hid hr
  have Hv := Lib.hid hv
  clear hr hv
  go_enter Try.func5, Try.ntmps5
  go_wp2_with fail
  refine (awake_any _).mono ?_
  rintro e w1 ⟨rfl, hB1⟩
  have HB := Lib.hid hB1; clear hB1
  go_wp2_with fail
  refine (ref_any _ _ _ _ _ _ _ Hr.out).mono ?_
  rintro e w2 ⟨rfl, ⟨n2, rfl⟩⟩
  go_wp2_with fail
  refine (apply2 _ _ _ _ _ _ Hv.out (by go_simp) (by go_simp)).mono ?_
  rintro e w2 ⟨rfl, ⟨n3, rfl⟩⟩
  go_wp2_with fail
  go_ret
  refine ⟨by simp, ?_⟩
  repeat (first | exact HB.out | (with_reducible first | apply below_alloc | apply pw_below_drewN | apply below_drew1))
theorem app_6 (a0 a b c r : Int) (k : Nat) (w : World) (hi : (Go.bits .and .i64 a0 65535).tmod 18 = 6) (hr : girandoleref10_Apply.f k ⟨#[42]⟩ a b c = some r) (hv : value_Apply.f ⟨#[42]⟩ [a, b] = some r) :
    Calls Try.prog 5 #[.int .i64 a0, .int .i64 a, .int .i64 b, .int .i64 c] w fun e w' => e = .returned (.bool true) ∧ Below w.heap.size w w' := by
  have Hr := Lib.hid hr
  have Hv := Lib.hid hv
  clear hr hv
  go_enter Try.func5, Try.ntmps5
  go_wp2_with fail
  refine (awake_any _).mono ?_
  rintro e w1 ⟨rfl, hB1⟩
  have HB := Lib.hid hB1; clear hB1
  go_wp2_with fail
  refine (ref_any _ _ _ _ _ _ _ Hr.out).mono ?_
  rintro e w2 ⟨rfl, ⟨n2, rfl⟩⟩
  go_wp2_with fail
  refine (apply2 _ _ _ _ _ _ Hv.out (by go_simp) (by go_simp)).mono ?_
  rintro e w2 ⟨rfl, ⟨n3, rfl⟩⟩
  go_wp2_with fail
  go_ret
  refine ⟨by simp, ?_⟩
  repeat (first | exact HB.out | (with_reducible first | apply below_alloc | apply pw_below_drewN | apply below_drew1))
theorem app_7z (a0 a c r : Int) (k : Nat) (w : World) (hi : (Go.bits .and .i64 a0 65535).tmod 18 = 7) (hr : girandoleref10_Apply.f k ⟨#[47]⟩ a 1 c = some r) (hv : value_Apply.f ⟨#[47]⟩ [a, 1] = some r) :
    Calls Try.prog 5 #[.int .i64 a0, .int .i64 a, .int .i64 0, .int .i64 c] w fun e w' => e = .returned (.bool true) ∧ Below w.heap.size w w' := by
  have Hr := Lib.hid hr
  have Hv := Lib.hid hv
  clear hr hv
  go_enter Try.func5, Try.ntmps5
  go_wp2_with fail
  refine (awake_any _).mono ?_
  rintro e w1 ⟨rfl, hB1⟩
  have HB := Lib.hid hB1; clear hB1
  go_wp2_with fail
  refine (ref_any _ _ _ _ _ _ _ Hr.out).mono ?_
  rintro e w2 ⟨rfl, ⟨n2, rfl⟩⟩
  go_wp2_with fail
  refine (apply2 _ _ _ _ _ _ Hv.out (by go_simp) (by go_simp)).mono ?_
  rintro e w2 ⟨rfl, ⟨n3, rfl⟩⟩
  go_wp2_with fail
  go_ret
  refine ⟨by simp, ?_⟩
  repeat (first | exact HB.out | (with_reducible first | apply below_alloc | apply pw_below_drewN | apply below_drew1))
theorem app_7n (a0 a b c r : Int) (k : Nat) (w : World) (hi : (Go.bits .and .i64 a0 65535).tmod 18 = 7) (hb : (b == 0) = false) (hr : girandoleref10_Apply.f k ⟨#[47]⟩ a b c = some r) (hv : value_Apply.f ⟨#[47]⟩ [a, b] = some r) :
    Calls Try.prog 5 #[.int .i64 a0, .int .i64 a, .int .i64 b, .int .i64 c] w fun e w' => e = .returned (.bool true) ∧ Below w.heap.size w w' := by
  have Hr := Lib.hid hr
  have Hv := Lib.hid hv
  clear hr hv
  go_enter Try.func5, Try.ntmps5
  go_wp2_with fail
  refine (awake_any _).mono ?_
  rintro e w1 ⟨rfl, hB1⟩
  have HB := Lib.hid hB1; clear hB1
  go_wp2_with fail
  refine (ref_any _ _ _ _ _ _ _ Hr.out).mono ?_
  rintro e w2 ⟨rfl, ⟨n2, rfl⟩⟩
  go_wp2_with fail
  refine (apply2 _ _ _ _ _ _ Hv.out (by go_simp) (by go_simp)).mono ?_
  rintro e w2 ⟨rfl, ⟨n3, rfl⟩⟩
  go_wp2_with fail
  go_ret
  refine ⟨by simp, ?_⟩
  repeat (first | exact HB.out | (with_reducible first | apply below_alloc | apply pw_below_drewN | apply below_drew1))
theorem app_8z (a0 a c r : Int) (k : Nat) (w : World) (hi : (Go.bits .and .i64 a0 65535).tmod 18 = 8) (hr : girandoleref10_Apply.f k ⟨#[109, 111, 100]⟩ a 1 c = some r) (hv : value_Apply.f ⟨#[109, 111, 100]⟩ [a, 1] = some r) :
    Calls Try.prog 5 #[.int .i64 a0, .int .i64 a, .int .i64 0, .int .i64 c] w fun e w' => e = .returned (.bool true) ∧ Below w.heap.size w w' := by
  have Hr := Lib.hid hr
  have Hv := Lib.hid hv
  clear hr hv
  go_enter Try.func5, Try.ntmps5
  go_wp2_with fail
  refine (awake_any _).mono ?_
  rintro e w1 ⟨rfl, hB1⟩
  have HB := Lib.hid hB1; clear hB1
  go_wp2_with fail
  refine (ref_any _ _ _ _ _ _ _ Hr.out).mono ?_
  rintro e w2 ⟨rfl, ⟨n2, rfl⟩⟩
  go_wp2_with fail
  refine (apply2 _ _ _ _ _ _ Hv.out (by go_simp) (by go_simp)).mono ?_
  rintro e w2 ⟨rfl, ⟨n3, rfl⟩⟩
  go_wp2_with fail
  go_ret
  refine ⟨by simp, ?_⟩
  repeat (first | exact HB.out | (with_reducible first | apply below_alloc | apply pw_below_drewN | apply below_drew1))
theorem app_8n (a0 a b c r : Int) (k : Nat) (w : World) (hi : (Go.bits .and .i64 a0 65535).tmod 18 = 8) (hb : (b == 0) = false) (hr : girandoleref10_Apply.f k ⟨#[109, 111, 100]⟩ a b c = some r) (hv : value_Apply.f ⟨#[109, 111, 100]⟩ [a, b] = some r) :
    Calls Try.prog 5 #[.int .i64 a0, .int .i64 a, .int .i64 b, .int .i64 c] w fun e w' => e = .returned (.bool true) ∧ Below w.heap.size w w' := by
  have Hr := Lib.hid hr
  have Hv := Lib.hid hv
  clear hr hv
  go_enter Try.func5, Try.ntmps5
  go_wp2_with fail
  refine (awake_any _).mono ?_
  rintro e w1 ⟨rfl, hB1⟩
  have HB := Lib.hid hB1; clear hB1
  go_wp2_with fail
  refine (ref_any _ _ _ _ _ _ _ Hr.out).mono ?_
  rintro e w2 ⟨rfl, ⟨n2, rfl⟩⟩
  go_wp2_with fail
  refine (apply2 _ _ _ _ _ _ Hv.out (by go_simp) (by go_simp)).mono ?_
  rintro e w2 ⟨rfl, ⟨n3, rfl⟩⟩
  go_wp2_with fail
  go_ret
  refine ⟨by simp, ?_⟩
  repeat (first | exact HB.out | (with_reducible first | apply below_alloc | apply pw_below_drewN | apply below_drew1))
theorem app_9 (a0 a b c r : Int) (k : Nat) (w : World) (hi : (Go.bits .and .i64 a0 65535).tmod 18 = 9) (hr : girandoleref10_Apply.f k ⟨#[97, 110, 100]⟩ (Go.bits .and .i64 a 1) (Go.bits .and .i64 b 1) c = some r) (hv : value_Apply.f ⟨#[97, 110, 100]⟩ [(Go.bits .and .i64 a 1), (Go.bits .and .i64 b 1)] = some r) :
    Calls Try.prog 5 #[.int .i64 a0, .int .i64 a, .int .i64 b, .int .i64 c] w fun e w' => e = .returned (.bool true) ∧ Below w.heap.size w w' := by
  have Hr := Lib.hid hr
  have Hv := Lib.hid hv
  clear hr hv
  go_enter Try.func5, Try.ntmps5
  go_wp2_with fail
  refine (awake_any _).mono ?_
  rintro e w1 ⟨rfl, hB1⟩
  have HB := Lib.hid hB1; clear hB1
  go_wp2_with fail
  refine (ref_any _ _ _ _ _ _ _ Hr.out).mono ?_
  rintro e w2 ⟨rfl, ⟨n2, rfl⟩⟩
  go_wp2_with fail
  refine (apply2 _ _ _ _ _ _ Hv.out (by go_simp) (by go_simp)).mono ?_
  rintro e w2 ⟨rfl, ⟨n3, rfl⟩⟩
  go_wp2_with fail
  go_ret
  refine ⟨by simp, ?_⟩
  repeat (first | exact HB.out | (with_reducible first | apply below_alloc | apply pw_below_drewN | apply below_drew1))
theorem app_10 (a0 a b c r : Int) (k : Nat) (w : World) (hi : (Go.bits .and .i64 a0 65535).tmod 18 = 10) (hr : girandoleref10_Apply.f k ⟨#[111, 114]⟩ (Go.bits .and .i64 a 1) (Go.bits .and .i64 b 1) c = some r) (hv : value_Apply.f ⟨#[111, 114]⟩ [(Go.bits .and .i64 a 1), (Go.bits .and .i64 b 1)] = some r) :
    Calls Try.prog 5 #[.int .i64 a0, .int .i64 a, .int .i64 b, .int .i64 c] w fun e w' => e = .returned (.bool true) ∧ Below w.heap.size w w' := by
  have Hr := Lib.hid hr
  have Hv := Lib.hid hv
  clear hr hv
  go_enter Try.func5, Try.ntmps5
  go_wp2_with fail
  refine (awake_any _).mono ?_
  rintro e w1 ⟨rfl, hB1⟩
  have HB := Lib.hid hB1; clear hB1
  go_wp2_with fail
  refine (ref_any _ _ _ _ _ _ _ Hr.out).mono ?_
  rintro e w2 ⟨rfl, ⟨n2, rfl⟩⟩
  go_wp2_with fail
  refine (apply2 _ _ _ _ _ _ Hv.out (by go_simp) (by go_simp)).mono ?_
  rintro e w2 ⟨rfl, ⟨n3, rfl⟩⟩
  go_wp2_with fail
  go_ret
  refine ⟨by simp, ?_⟩
  repeat (first | exact HB.out | (with_reducible first | apply below_alloc | apply pw_below_drewN | apply below_drew1))
theorem app_11 (a0 a b c r : Int) (k : Nat) (w : World) (hi : (Go.bits .and .i64 a0 65535).tmod 18 = 11) (hr : girandoleref10_Apply.f k ⟨#[120, 111, 114]⟩ (Go.bits .and .i64 a 1) (Go.bits .and .i64 b 1) c = some r) (hv : value_Apply.f ⟨#[120, 111, 114]⟩ [(Go.bits .and .i64 a 1), (Go.bits .and .i64 b 1)] = some r) :
    Calls Try.prog 5 #[.int .i64 a0, .int .i64 a, .int .i64 b, .int .i64 c] w fun e w' => e = .returned (.bool true) ∧ Below w.heap.size w w' := by
  have Hr := Lib.hid hr
  have Hv := Lib.hid hv
  clear hr hv
  go_enter Try.func5, Try.ntmps5
  go_wp2_with fail
  refine (awake_any _).mono ?_
  rintro e w1 ⟨rfl, hB1⟩
  have HB := Lib.hid hB1; clear hB1
  go_wp2_with fail
  refine (ref_any _ _ _ _ _ _ _ Hr.out).mono ?_
  rintro e w2 ⟨rfl, ⟨n2, rfl⟩⟩
  go_wp2_with fail
  refine (apply2 _ _ _ _ _ _ Hv.out (by go_simp) (by go_simp)).mono ?_
  rintro e w2 ⟨rfl, ⟨n3, rfl⟩⟩
  go_wp2_with fail
  go_ret
  refine ⟨by simp, ?_⟩
  repeat (first | exact HB.out | (with_reducible first | apply below_alloc | apply pw_below_drewN | apply below_drew1))
theorem app_12 (a0 a b c r : Int) (k : Nat) (w : World) (hi : (Go.bits .and .i64 a0 65535).tmod 18 = 12) (hr : girandoleref10_Apply.f k ⟨#[60]⟩ a b c = some r) (hv : value_Apply.f ⟨#[60]⟩ [a, b] = some r) :
    Calls Try.prog 5 #[.int .i64 a0, .int .i64 a, .int .i64 b, .int .i64 c] w fun e w' => e = .returned (.bool true) ∧ Below w.heap.size w w' := by
  have Hr := Lib.hid hr
  have Hv := Lib.hid hv
  clear hr hv
  go_enter Try.func5, Try.ntmps5
  go_wp2_with fail
  refine (awake_any _).mono ?_
  rintro e w1 ⟨rfl, hB1⟩
  have HB := Lib.hid hB1; clear hB1
  go_wp2_with fail
  refine (ref_any _ _ _ _ _ _ _ Hr.out).mono ?_
  rintro e w2 ⟨rfl, ⟨n2, rfl⟩⟩
  go_wp2_with fail
  refine (apply2 _ _ _ _ _ _ Hv.out (by go_simp) (by go_simp)).mono ?_
  rintro e w2 ⟨rfl, ⟨n3, rfl⟩⟩
  go_wp2_with fail
  go_ret
  refine ⟨by simp, ?_⟩
  repeat (first | exact HB.out | (with_reducible first | apply below_alloc | apply pw_below_drewN | apply below_drew1))
theorem app_13 (a0 a b c r : Int) (k : Nat) (w : World) (hi : (Go.bits .and .i64 a0 65535).tmod 18 = 13) (hr : girandoleref10_Apply.f k ⟨#[60, 61]⟩ a b c = some r) (hv : value_Apply.f ⟨#[60, 61]⟩ [a, b] = some r) :
    Calls Try.prog 5 #[.int .i64 a0, .int .i64 a, .int .i64 b, .int .i64 c] w fun e w' => e = .returned (.bool true) ∧ Below w.heap.size w w' := by
  have Hr := Lib.hid hr
  have Hv := Lib.hid hv
  clear hr hv
  go_enter Try.func5, Try.ntmps5
  go_wp2_with fail
  refine (awake_any _).mono ?_
  rintro e w1 ⟨rfl, hB1⟩
  have HB := Lib.hid hB1; clear hB1
  go_wp2_with fail
  refine (ref_any _ _ _ _ _ _ _ Hr.out).mono ?_
  rintro e w2 ⟨rfl, ⟨n2, rfl⟩⟩
  go_wp2_with fail
  refine (apply2 _ _ _ _ _ _ Hv.out (by go_simp) (by go_simp)).mono ?_
  rintro e w2 ⟨rfl, ⟨n3, rfl⟩⟩
  go_wp2_with fail
  go_ret
  refine ⟨by simp, ?_⟩
  repeat (first | exact HB.out | (with_reducible first | apply below_alloc | apply pw_below_drewN | apply below_drew1))
theorem app_14 (a0 a b c r : Int) (k : Nat) (w : World) (hi : (Go.bits .and .i64 a0 65535).tmod 18 = 14) (hr : girandoleref10_Apply.f k ⟨#[62]⟩ a b c = some r) (hv : value_Apply.f ⟨#[62]⟩ [a, b] = some r) :
    Calls Try.prog 5 #[.int .i64 a0, .int .i64 a, .int .i64 b, .int .i64 c] w fun e w' => e = .returned (.bool true) ∧ Below w.heap.size w w' := by
  have Hr := Lib.hid hr
  have Hv := Lib.hid hv
  clear hr hv
  go_enter Try.func5, Try.ntmps5
  go_wp2_with fail
  refine (awake_any _).mono ?_
  rintro e w1 ⟨rfl, hB1⟩
  have HB := Lib.hid hB1; clear hB1
  go_wp2_with fail
  refine (ref_any _ _ _ _ _ _ _ Hr.out).mono ?_
  rintro e w2 ⟨rfl, ⟨n2, rfl⟩⟩
  go_wp2_with fail
  refine (apply2 _ _ _ _ _ _ Hv.out (by go_simp) (by go_simp)).mono ?_
  rintro e w2 ⟨rfl, ⟨n3, rfl⟩⟩
  go_wp2_with fail
  go_ret
  refine ⟨by simp, ?_⟩
  repeat (first | exact HB.out | (with_reducible first | apply below_alloc | apply pw_below_drewN | apply below_drew1))
theorem app_15 (a0 a b c r : Int) (k : Nat) (w : World) (hi : (Go.bits .and .i64 a0 65535).tmod 18 = 15) (hr : girandoleref10_Apply.f k ⟨#[62, 61]⟩ a b c = some r) (hv : value_Apply.f ⟨#[62, 61]⟩ [a, b] = some r) :
    Calls Try.prog 5 #[.int .i64 a0, .int .i64 a, .int .i64 b, .int .i64 c] w fun e w' => e = .returned (.bool true) ∧ Below w.heap.size w w' := by
  have Hr := Lib.hid hr
  have Hv := Lib.hid hv
  clear hr hv
  go_enter Try.func5, Try.ntmps5
  go_wp2_with fail
  refine (awake_any _).mono ?_
  rintro e w1 ⟨rfl, hB1⟩
  have HB := Lib.hid hB1; clear hB1
  go_wp2_with fail
  refine (ref_any _ _ _ _ _ _ _ Hr.out).mono ?_
  rintro e w2 ⟨rfl, ⟨n2, rfl⟩⟩
  go_wp2_with fail
  refine (apply2 _ _ _ _ _ _ Hv.out (by go_simp) (by go_simp)).mono ?_
  rintro e w2 ⟨rfl, ⟨n3, rfl⟩⟩
  go_wp2_with fail
  go_ret
  refine ⟨by simp, ?_⟩
  repeat (first | exact HB.out | (with_reducible first | apply below_alloc | apply pw_below_drewN | apply below_drew1))
theorem app_16 (a0 a b c r : Int) (k : Nat) (w : World) (hi : (Go.bits .and .i64 a0 65535).tmod 18 = 16) (hr : girandoleref10_Apply.f k ⟨#[61]⟩ a b c = some r) (hv : value_Apply.f ⟨#[61]⟩ [a, b] = some r) :
    Calls Try.prog 5 #[.int .i64 a0, .int .i64 a, .int .i64 b, .int .i64 c] w fun e w' => e = .returned (.bool true) ∧ Below w.heap.size w w' := by
  have Hr := Lib.hid hr
  have Hv := Lib.hid hv
  clear hr hv
  go_enter Try.func5, Try.ntmps5
  go_wp2_with fail
  refine (awake_any _).mono ?_
  rintro e w1 ⟨rfl, hB1⟩
  have HB := Lib.hid hB1; clear hB1
  go_wp2_with fail
  refine (ref_any _ _ _ _ _ _ _ Hr.out).mono ?_
  rintro e w2 ⟨rfl, ⟨n2, rfl⟩⟩
  go_wp2_with fail
  refine (apply2 _ _ _ _ _ _ Hv.out (by go_simp) (by go_simp)).mono ?_
  rintro e w2 ⟨rfl, ⟨n3, rfl⟩⟩
  go_wp2_with fail
  go_ret
  refine ⟨by simp, ?_⟩
  repeat (first | exact HB.out | (with_reducible first | apply below_alloc | apply pw_below_drewN | apply below_drew1))
theorem app_17 (a0 a b c r : Int) (k : Nat) (w : World) (hi : (Go.bits .and .i64 a0 65535).tmod 18 = 17) (hr : girandoleref10_Apply.f k ⟨#[60, 62]⟩ a b c = some r) (hv : value_Apply.f ⟨#[60, 62]⟩ [a, b] = some r) :
    Calls Try.prog 5 #[.int .i64 a0, .int .i64 a, .int .i64 b, .int .i64 c] w fun e w' => e = .returned (.bool true) ∧ Below w.heap.size w w' := by
  have Hr := Lib.hid hr
  have Hv := Lib.hid hv
  clear hr hv
  go_enter Try.func5, Try.ntmps5
  go_wp2_with fail
  refine (awake_any _).mono ?_
  rintro e w1 ⟨rfl, hB1⟩
  have HB := Lib.hid hB1; clear hB1
  go_wp2_with fail
  refine (ref_any _ _ _ _ _ _ _ Hr.out).mono ?_
  rintro e w2 ⟨rfl, ⟨n2, rfl⟩⟩
  go_wp2_with fail
  refine (apply2 _ _ _ _ _ _ Hv.out (by go_simp) (by go_simp)).mono ?_
  rintro e w2 ⟨rfl, ⟨n3, rfl⟩⟩
  go_wp2_with fail
  go_ret
  refine ⟨by simp, ?_⟩
  repeat (first | exact HB.out | (with_reducible first | apply below_alloc | apply pw_below_drewN | apply below_drew1))
theorem and_mask (i : Nat) (hi : i ≤ 62) (x : Int) : Go.bits .and .i64 x (((2 ^ i - 1 : Nat)) : Int) = x % ((2 ^ i : Nat) : Int) := by
  have hp : 2 ^ i ≤ 2 ^ 62 := Nat.pow_le_pow_right (by decide) hi
  have hp0 : 0 < 2 ^ i := Nat.pow_pos (by decide)
  have h1 : (BitVec.ofInt 64 x &&& BitVec.ofInt 64 ((2 ^ i - 1 : Nat) : Int)).toNat = (x % 18446744073709551616).toNat % 2 ^ i := by
    rw [BitVec.toNat_and, BitVec.ofInt_natCast, BitVec.toNat_ofNat, Nat.mod_eq_of_lt (a := 2 ^ i - 1) (by omega), Nat.and_two_pow_sub_one_eq_mod, BitVec.toNat_ofInt]
    rfl
  have h2 : ((x % 18446744073709551616).toNat % 2 ^ i : Nat) < 2 ^ i := Nat.mod_lt _ hp0
  have h3 : (((x % 18446744073709551616).toNat % 2 ^ i : Nat) : Int) = x % ((2 ^ i : Nat) : Int) := by
    rw [Int.natCast_emod, Int.toNat_of_nonneg (Int.emod_nonneg _ (by decide))]
    apply Int.emod_emod_of_dvd
    have : (18446744073709551616 : Int) = ((2 ^ 64 : Nat) : Int) := by decide
    rw [this]
    exact Int.natCast_dvd_natCast.2 (Nat.pow_dvd_pow 2 (by omega))
  unfold Go.bits
  show IntKind.i64.wrap (((BitVec.ofInt 64 x &&& BitVec.ofInt 64 ((2 ^ i - 1 : Nat) : Int)).toNat : Nat) : Int) = _
  rw [h1, IntKind.wrap_i64, ← h3]
  omega
theorem and_1 (x : Int) : Go.bits .and .i64 x 1 = x % 2 := and_mask 1 (by decide) x
theorem and_65535 (x : Int) : Go.bits .and .i64 x 65535 = x % 65536 := and_mask 16 (by decide) x

theorem u64_wrap (n : Int) : IntKind.u64.wrap n = n % 18446744073709551616 := by simp [IntKind.wrap, IntKind.bits, IntKind.signed]
theorem wrap64_u64 (a : Int) : wrap64 (a % 18446744073709551616) = wrap64 a := wrap64_congr (by omega)
theorem mod_two (a b c : Int) (M : Int) : (a % M + b % M * c) % M = (a + b * c) % M := by
  rw [Int.add_emod, Int.emod_emod, Int.mul_emod, Int.emod_emod, ← Int.mul_emod, ← Int.add_emod]
theorem wrap64_mulm (a b : Int) : wrap64 (a % 18446744073709551616 * (b % 18446744073709551616)) = wrap64 (a * b) :=
  wrap64_congr (by rw [Int.mul_emod, Int.emod_emod, Int.emod_emod, ← Int.mul_emod])

theorem times_l0 (k : Nat) : ∀ (x y z : Int), 0 ≤ z → z < 2 ^ k → girandoleref10_times.l0 (k + 1) x y z = some (wrap64 (x + y * z)) := by
  induction k with
  | zero =>
    intro x y z h0 h1
    obtain rfl : z = 0 := by omega
    simp [girandoleref10_times.l0]
  | succ k ih =>
    intro x y z h0 h1
    rw [girandoleref10_times.l0]
    by_cases hz : z > 0
    · rw [if_pos hz]
      have h2 : (2 : Int) ^ (k + 1) = 2 ^ k * 2 := Int.pow_succ 2 k
      have ed : Int.tdiv z 2 = z / 2 := Int.tdiv_eq_ediv_of_nonneg h0
      have em : Int.tmod z 2 = z % 2 := Int.tmod_eq_emod_of_nonneg h0
      rw [ed, em, u64_wrap, u64_wrap, u64_wrap]
      have hq : z / 2 % 18446744073709551616 = z / 2 ∨ ¬ (z / 2 < 18446744073709551616) := by omega
      have hb : z / 2 % 18446744073709551616 < 2 ^ k := by omega
      have hw : ∀ x' : Int, wrap64 (x' % 18446744073709551616 + (y + y) % 18446744073709551616 * (z / 2 % 18446744073709551616)) = wrap64 (x' + (y + y) * (z / 2)) := by
        intro x'
        refine wrap64_congr ?_
        rw [mod_two, Int.add_emod, Int.mul_emod, Int.emod_emod, ← Int.mul_emod, ← Int.add_emod]
      have hw' : ∀ x' : Int, wrap64 (x' + (y + y) % 18446744073709551616 * (z / 2 % 18446744073709551616)) = wrap64 (x' + (y + y) * (z / 2)) := by
        intro x'
        refine wrap64_congr ?_
        rw [Int.add_emod, Int.mul_emod, Int.emod_emod, Int.emod_emod, ← Int.mul_emod, ← Int.add_emod]
      have hyz : z = 2 * (z / 2) + z % 2 := by omega
      by_cases ho : z % 2 = 1
      · rw [if_pos ho, ih _ _ _ (by omega) hb, hw]
        congr 2
        have : y * z = y * (2 * (z / 2) + 1) := by rw [← ho, ← hyz]
        rw [this, Int.mul_add, Int.add_mul]
        have : y * (2 * (z / 2)) = y * (z / 2) + y * (z / 2) := by rw [← Int.mul_assoc, Int.mul_comm y 2, Int.mul_assoc]; omega
        omega
      · rw [if_neg ho, ih _ _ _ (by omega) hb, hw']
        congr 2
        have h0' : z % 2 = 0 := by omega
        have : y * z = y * (2 * (z / 2)) := by
          have : z = 2 * (z / 2) := by omega
          rw [← this]
        rw [this, Int.add_mul]
        have : y * (2 * (z / 2)) = y * (z / 2) + y * (z / 2) := by rw [← Int.mul_assoc, Int.mul_comm y 2, Int.mul_assoc]; omega
        omega
    · obtain rfl : z = 0 := by omega
      simp

theorem times_f (k : Nat) (hk : 65 ≤ k) (a b : Int) : girandoleref10_times.f k a b = some (wrap64 (a * b)) := by
  obtain ⟨j, rfl⟩ : ∃ j, k = j + 65 := ⟨k - 65, by omega⟩
  unfold girandoleref10_times.f
  rw [u64_wrap, u64_wrap]
  have h1 : b % 18446744073709551616 < 2 ^ (j + 64) := by
    have h2 : b % 18446744073709551616 < 18446744073709551616 := Int.emod_lt_of_pos _ (by decide)
    have h3 : ((2 ^ 64 : Nat) : Int) ≤ ((2 ^ (j + 64) : Nat) : Int) := Int.ofNat_le.2 (Nat.pow_le_pow_right (by decide) (by omega))
    have h4 : ((2 ^ (j + 64) : Nat) : Int) = (2 : Int) ^ (j + 64) := by push_cast; rfl
    have h5 : ((2 ^ 64 : Nat) : Int) = 18446744073709551616 := by decide
    omega
  rw [times_l0 (j + 64) _ _ _ (by omega) h1, Int.zero_add, wrap64_mulm]

theorem size_f {a : Int} (ha : -9223372036854775808 ≤ a ∧ a ≤ 9223372036854775807) : girandoleref10_size.f a = some (if a < 0 then -a else a) := by
  unfold girandoleref10_size.f
  simp only [u64_wrap]
  split
  · congr 1
    unfold wrap64
    omega
  · congr 1
    omega

theorem over_f {a b : Int} (ha : -9223372036854775808 ≤ a ∧ a ≤ 9223372036854775807) (hb : -9223372036854775808 ≤ b ∧ b ≤ 9223372036854775807) (h0 : b ≠ 0) : girandoleref10_over.f a b = some (wrap64 (Int.tdiv a b)) := by
  unfold girandoleref10_over.f
  rw [size_f ha, size_f hb]
  simp only [Option.bind_some, u64_wrap, wrap64_u64]
  have e1 : ∀ x : Int, wrap64 (-(x % 18446744073709551616)) = wrap64 (-x) := fun x => wrap64_congr (by omega)
  simp only [e1]
  by_cases h1 : a < 0 <;> by_cases h2 : b < 0 <;> simp only [h1, h2, if_true, if_false, decide_true, decide_false, bne_self_eq_false, Bool.false_eq_true]
  · rw [if_neg (by omega)]
    congr 2
    rw [Int.neg_tdiv, Int.tdiv_neg]; omega
  · rw [if_neg (by omega)]
    simp only [Bool.bne_false, if_true]
    congr 2
    rw [Int.neg_tdiv]; omega
  · rw [if_neg (by omega)]
    simp only [Bool.bne_true, Bool.not_false, if_true]
    congr 2
    rw [Int.tdiv_neg]; omega
  · rw [if_neg (by omega)]


theorem l_0 : (⟨#[99, 111, 112, 121]⟩ : ByteArray).toList = [99, 111, 112, 121] := by decide +kernel
theorem l_1 : (⟨#[110, 101, 103]⟩ : ByteArray).toList = [110, 101, 103] := by decide +kernel
theorem l_2 : (⟨#[110, 111, 116]⟩ : ByteArray).toList = [110, 111, 116] := by decide +kernel
theorem l_3 : (⟨#[105, 102]⟩ : ByteArray).toList = [105, 102] := by decide +kernel
theorem l_4 : (⟨#[43]⟩ : ByteArray).toList = [43] := by decide +kernel
theorem l_5 : (⟨#[45]⟩ : ByteArray).toList = [45] := by decide +kernel
theorem l_6 : (⟨#[42]⟩ : ByteArray).toList = [42] := by decide +kernel
theorem l_7 : (⟨#[47]⟩ : ByteArray).toList = [47] := by decide +kernel
theorem l_8 : (⟨#[109, 111, 100]⟩ : ByteArray).toList = [109, 111, 100] := by decide +kernel
theorem l_9 : (⟨#[97, 110, 100]⟩ : ByteArray).toList = [97, 110, 100] := by decide +kernel
theorem l_10 : (⟨#[111, 114]⟩ : ByteArray).toList = [111, 114] := by decide +kernel
theorem l_11 : (⟨#[120, 111, 114]⟩ : ByteArray).toList = [120, 111, 114] := by decide +kernel
theorem l_12 : (⟨#[60]⟩ : ByteArray).toList = [60] := by decide +kernel
theorem l_13 : (⟨#[60, 61]⟩ : ByteArray).toList = [60, 61] := by decide +kernel
theorem l_14 : (⟨#[62]⟩ : ByteArray).toList = [62] := by decide +kernel
theorem l_15 : (⟨#[62, 61]⟩ : ByteArray).toList = [62, 61] := by decide +kernel
theorem l_16 : (⟨#[61]⟩ : ByteArray).toList = [61] := by decide +kernel
theorem l_17 : (⟨#[60, 62]⟩ : ByteArray).toList = [60, 62] := by decide +kernel
theorem modr (a b : Int) (hb : -9223372036854775808 ≤ b ∧ b ≤ 9223372036854775807) (h0 : b ≠ 0) :
    wrap64 ((a - wrap64 (b * wrap64 (Int.tdiv a b))) % 18446744073709551616) = Int.tmod a b := by
  have hm := Int.tmod_add_mul_tdiv a b
  have hn : (Int.tmod a b).natAbs < b.natAbs := by rw [Int.natAbs_tmod]; exact Nat.mod_lt _ (by omega)
  have h1 : wrap64 (b * wrap64 (Int.tdiv a b)) = wrap64 (b * Int.tdiv a b) := by rw [Int.mul_comm, wrap64_mul, Int.mul_comm]
  rw [h1]
  have h3 := wrap64_mod (b * Int.tdiv a b)
  have h2 : wrap64 ((a - wrap64 (b * Int.tdiv a b)) % 18446744073709551616) = wrap64 (Int.tmod a b) := wrap64_congr (by omega)
  rw [h2]
  unfold wrap64
  omega
theorem wrap64_in' {a : Int} (h : -9223372036854775808 ≤ a ∧ a ≤ 9223372036854775807) : wrap64 a = a := by unfold wrap64; omega
theorem wrap64_u3 (a : Int) : wrap64 (a % 18446744073709551616 % 18446744073709551616) = wrap64 a := wrap64_congr (by omega)
theorem two (x : Int) : x % 2 = 0 ∨ x % 2 = 1 := by omega
theorem applies_any (a0 a b c : Int) (w : World) (_w0 : (Lit.int .i64 a0).wf = true) (wa : (Lit.int .i64 a).wf = true) (wb : (Lit.int .i64 b).wf = true) (_wc : (Lit.int .i64 c).wf = true) :
    Calls Try.prog 5 #[.int .i64 a0, .int .i64 a, .int .i64 b, .int .i64 c] w fun e w' => e = .returned (.bool true) ∧ Below w.heap.size w w' := by
  have ha := wf_bounds wa
  have hb := wf_bounds wb
  have h1 := and_65535 a0
  have h2 : (Go.bits .and .i64 a0 65535).tmod 18 = (a0 % 65536) % 18 := by rw [h1, Int.tmod_eq_emod_of_nonneg (by omega)]
  have h3 : ∃ i : Int, (Go.bits .and .i64 a0 65535).tmod 18 = i ∧ 0 ≤ i ∧ i < 18 := ⟨_, h2, by omega, by omega⟩
  obtain ⟨i, hi, i0, i1⟩ := h3
  have hc : i = 0 ∨ i = 1 ∨ i = 2 ∨ i = 3 ∨ i = 4 ∨ i = 5 ∨ i = 6 ∨ i = 7 ∨ i = 8 ∨ i = 9 ∨ i = 10 ∨ i = 11 ∨ i = 12 ∨ i = 13 ∨ i = 14 ∨ i = 15 ∨ i = 16 ∨ i = 17 := by omega
  clear h1 h2
  have ha1 := and_1 a
  have hb1 := and_1 b
  rcases hc with rfl | rfl | rfl | rfl | rfl | rfl | rfl | rfl | rfl | rfl | rfl | rfl | rfl | rfl | rfl | rfl | rfl | rfl
  · exact app_0 a0 a b c a 65 w hi (by unfold girandoleref10_Apply.f; simp only [l_0]; simp [girandoleref10_truth.f]) (by unfold value_Apply.f; simp only [l_0]; simp [rd, value_compare.f, value_truth.f, l_0])
  · exact app_1 a0 a b c (wrap64 (-a)) 65 w hi (by unfold girandoleref10_Apply.f; simp only [l_1]; simp [girandoleref10_truth.f]) (by unfold value_Apply.f; simp only [l_1]; simp [rd, value_compare.f, value_truth.f, l_1])
  · rcases two a with e | e <;> rw [e] at ha1
    · exact app_2 a0 a b c 1 65 w hi (by rw [ha1]; unfold girandoleref10_Apply.f; simp only [l_2]; simp [girandoleref10_truth.f]) (by rw [ha1]; unfold value_Apply.f; simp only [l_2]; simp [rd, value_compare.f, value_truth.f, l_2, wrap64])
    · exact app_2 a0 a b c 0 65 w hi (by rw [ha1]; unfold girandoleref10_Apply.f; simp only [l_2]; simp [girandoleref10_truth.f]) (by rw [ha1]; unfold value_Apply.f; simp only [l_2]; simp [rd, value_compare.f, value_truth.f, l_2, wrap64])
  · by_cases e : a = 0
    · exact app_3 a0 a b c c 65 w hi (by subst e; unfold girandoleref10_Apply.f; simp only [l_3]; simp [girandoleref10_truth.f]) (by subst e; unfold value_Apply.f; simp only [l_3]; simp [rd, value_compare.f, value_truth.f, l_3])
    · exact app_3 a0 a b c b 65 w hi (by unfold girandoleref10_Apply.f; simp only [l_3]; simp [girandoleref10_truth.f, e]) (by unfold value_Apply.f; simp only [l_3]; simp [rd, value_compare.f, value_truth.f, l_3, e])
  · exact app_4 a0 a b c (wrap64 (a + b)) 65 w hi (by unfold girandoleref10_Apply.f; simp only [l_4, u64_wrap]; simp; exact wrap64_congr (by omega)) (by unfold value_Apply.f; simp only [l_4]; simp [rd, value_compare.f, value_truth.f, l_4])
  · exact app_5 a0 a b c (wrap64 (a - b)) 65 w hi (by unfold girandoleref10_Apply.f; simp only [l_5, u64_wrap]; simp; exact wrap64_congr (by omega)) (by unfold value_Apply.f; simp only [l_5]; simp [rd, value_compare.f, value_truth.f, l_5])
  · exact app_6 a0 a b c (wrap64 (a * b)) 65 w hi (by unfold girandoleref10_Apply.f; simp only [l_6, times_f 65 (Nat.le_refl _)]; simp) (by unfold value_Apply.f; simp only [l_6]; simp [rd, value_compare.f, value_truth.f, l_6])
  · by_cases e : b = 0
    · subst e; exact app_7z a0 a c (wrap64 (Int.tdiv a 1)) 65 w hi (by unfold girandoleref10_Apply.f; simp only [l_7, over_f (b := 1) ha (by decide) (by decide)]; simp) (by exact f_div a 1 (by decide))
    · have hbb : (b == 0) = false := by simpa using e
      exact app_7n a0 a b c (wrap64 (Int.tdiv a b)) 65 w hi hbb (by unfold girandoleref10_Apply.f; simp only [l_7, over_f (b := b) ha hb e]; simp) (by exact f_div a b e)
  · by_cases e : b = 0
    · subst e; exact app_8z a0 a c (Int.tmod a 1) 65 w hi (by unfold girandoleref10_Apply.f; simp only [l_8, over_f (b := 1) ha (by decide) (by decide), times_f 65 (Nat.le_refl _), u64_wrap]; simp only [Option.bind_some]; simp; exact (by have hx := modr a 1 (by decide) (by decide); (try simp at hx); exact hx)) (by exact f_mod a 1 (by decide))
    · have hbb : (b == 0) = false := by simpa using e
      exact app_8n a0 a b c (Int.tmod a b) 65 w hi hbb (by unfold girandoleref10_Apply.f; simp only [l_8, over_f (b := b) ha hb e, times_f 65 (Nat.le_refl _), u64_wrap]; simp only [Option.bind_some]; simp; exact (by have hx := modr a b hb e; (try simp at hx); exact hx)) (by exact f_mod a b e)
  · rcases two a with e | e <;> rcases two b with f | f <;> rw [e] at ha1 <;> rw [f] at hb1
    · exact app_9 a0 a b c 0 65 w hi (by rw [ha1, hb1]; unfold girandoleref10_Apply.f; simp only [l_9]; simp [girandoleref10_truth.f]) (by rw [ha1, hb1]; unfold value_Apply.f; simp only [l_9]; simp [rd]; decide)
    · exact app_9 a0 a b c 0 65 w hi (by rw [ha1, hb1]; unfold girandoleref10_Apply.f; simp only [l_9]; simp [girandoleref10_truth.f]) (by rw [ha1, hb1]; unfold value_Apply.f; simp only [l_9]; simp [rd]; decide)
    · exact app_9 a0 a b c 0 65 w hi (by rw [ha1, hb1]; unfold girandoleref10_Apply.f; simp only [l_9]; simp [girandoleref10_truth.f]) (by rw [ha1, hb1]; unfold value_Apply.f; simp only [l_9]; simp [rd]; decide)
    · exact app_9 a0 a b c 1 65 w hi (by rw [ha1, hb1]; unfold girandoleref10_Apply.f; simp only [l_9]; simp [girandoleref10_truth.f]) (by rw [ha1, hb1]; unfold value_Apply.f; simp only [l_9]; simp [rd]; decide)
  · rcases two a with e | e <;> rcases two b with f | f <;> rw [e] at ha1 <;> rw [f] at hb1
    · exact app_10 a0 a b c 0 65 w hi (by rw [ha1, hb1]; unfold girandoleref10_Apply.f; simp only [l_10]; simp [girandoleref10_truth.f]) (by rw [ha1, hb1]; unfold value_Apply.f; simp only [l_10]; simp [rd]; decide)
    · exact app_10 a0 a b c 1 65 w hi (by rw [ha1, hb1]; unfold girandoleref10_Apply.f; simp only [l_10]; simp [girandoleref10_truth.f]) (by rw [ha1, hb1]; unfold value_Apply.f; simp only [l_10]; simp [rd]; decide)
    · exact app_10 a0 a b c 1 65 w hi (by rw [ha1, hb1]; unfold girandoleref10_Apply.f; simp only [l_10]; simp [girandoleref10_truth.f]) (by rw [ha1, hb1]; unfold value_Apply.f; simp only [l_10]; simp [rd]; decide)
    · exact app_10 a0 a b c 1 65 w hi (by rw [ha1, hb1]; unfold girandoleref10_Apply.f; simp only [l_10]; simp [girandoleref10_truth.f]) (by rw [ha1, hb1]; unfold value_Apply.f; simp only [l_10]; simp [rd]; decide)
  · rcases two a with e | e <;> rcases two b with f | f <;> rw [e] at ha1 <;> rw [f] at hb1
    · exact app_11 a0 a b c 0 65 w hi (by rw [ha1, hb1]; unfold girandoleref10_Apply.f; simp only [l_11]; simp [girandoleref10_truth.f]) (by rw [ha1, hb1]; unfold value_Apply.f; simp only [l_11]; simp [rd]; decide)
    · exact app_11 a0 a b c 1 65 w hi (by rw [ha1, hb1]; unfold girandoleref10_Apply.f; simp only [l_11]; simp [girandoleref10_truth.f]) (by rw [ha1, hb1]; unfold value_Apply.f; simp only [l_11]; simp [rd]; decide)
    · exact app_11 a0 a b c 1 65 w hi (by rw [ha1, hb1]; unfold girandoleref10_Apply.f; simp only [l_11]; simp [girandoleref10_truth.f]) (by rw [ha1, hb1]; unfold value_Apply.f; simp only [l_11]; simp [rd]; decide)
    · exact app_11 a0 a b c 0 65 w hi (by rw [ha1, hb1]; unfold girandoleref10_Apply.f; simp only [l_11]; simp [girandoleref10_truth.f]) (by rw [ha1, hb1]; unfold value_Apply.f; simp only [l_11]; simp [rd]; decide)
  · by_cases e : a < b
    · exact app_12 a0 a b c 1 65 w hi (by unfold girandoleref10_Apply.f; simp only [l_12]; simp [girandoleref10_truth.f, e]) (by unfold value_Apply.f; simp only [l_12]; simp [rd, value_compare.f, value_truth.f, l_12, e])
    · have e2 := Int.not_lt.mp e; exact app_12 a0 a b c 0 65 w hi (by unfold girandoleref10_Apply.f; simp only [l_12]; simp [girandoleref10_truth.f, e, e2]) (by unfold value_Apply.f; simp only [l_12]; simp [rd, value_compare.f, value_truth.f, l_12, e, e2])
  · by_cases e : a ≤ b
    · exact app_13 a0 a b c 1 65 w hi (by unfold girandoleref10_Apply.f; simp only [l_13]; simp [girandoleref10_truth.f, e]) (by unfold value_Apply.f; simp only [l_13]; simp [rd, value_compare.f, value_truth.f, l_13, e])
    · have e2 := Int.not_le.mp e; exact app_13 a0 a b c 0 65 w hi (by unfold girandoleref10_Apply.f; simp only [l_13]; simp [girandoleref10_truth.f, e, e2]) (by unfold value_Apply.f; simp only [l_13]; simp [rd, value_compare.f, value_truth.f, l_13, e, e2])
  · by_cases e : b < a
    · exact app_14 a0 a b c 1 65 w hi (by unfold girandoleref10_Apply.f; simp only [l_14]; simp [girandoleref10_truth.f, e]) (by unfold value_Apply.f; simp only [l_14]; simp [rd, value_compare.f, value_truth.f, l_14, e])
    · have e2 := Int.not_lt.mp e; exact app_14 a0 a b c 0 65 w hi (by unfold girandoleref10_Apply.f; simp only [l_14]; simp [girandoleref10_truth.f, e, e2]) (by unfold value_Apply.f; simp only [l_14]; simp [rd, value_compare.f, value_truth.f, l_14, e, e2])
  · by_cases e : b ≤ a
    · exact app_15 a0 a b c 1 65 w hi (by unfold girandoleref10_Apply.f; simp only [l_15]; simp [girandoleref10_truth.f, e]) (by unfold value_Apply.f; simp only [l_15]; simp [rd, value_compare.f, value_truth.f, l_15, e])
    · have e2 := Int.not_le.mp e; exact app_15 a0 a b c 0 65 w hi (by unfold girandoleref10_Apply.f; simp only [l_15]; simp [girandoleref10_truth.f, e, e2]) (by unfold value_Apply.f; simp only [l_15]; simp [rd, value_compare.f, value_truth.f, l_15, e, e2])
  · by_cases e : a = b
    · subst e; exact app_16 a0 a a c 1 65 w hi (by unfold girandoleref10_Apply.f; simp only [l_16]; simp [girandoleref10_truth.f]) (by unfold value_Apply.f; simp only [l_16]; simp [rd, value_compare.f, value_truth.f, l_16])
    · exact app_16 a0 a b c 0 65 w hi (by unfold girandoleref10_Apply.f; simp only [l_16]; simp [girandoleref10_truth.f, e]) (by unfold value_Apply.f; simp only [l_16]; simp [rd, value_compare.f, value_truth.f, l_16, e])
  · by_cases e : a = b
    · subst e; exact app_17 a0 a a c 0 65 w hi (by unfold girandoleref10_Apply.f; simp only [l_17]; simp [girandoleref10_truth.f]) (by unfold value_Apply.f; simp only [l_17]; simp [rd, value_compare.f, value_truth.f, l_17])
    · exact app_17 a0 a b c 1 65 w hi (by unfold girandoleref10_Apply.f; simp only [l_17]; simp [girandoleref10_truth.f, e]) (by unfold value_Apply.f; simp only [l_17]; simp [rd, value_compare.f, value_truth.f, l_17, e])
end Go.Proofs.Ytnlkjimpefebbaa.Wk
namespace Go.Proofs.Ytnlkjimpefebbaa.valueApplies
open Go.ChangeShapes Go.WideShapes Go.ChangeAt Go.RowKit
open Go.ChangeMaps (open_string shut_string)
set_option linter.unusedVariables false
theorem own : ownKnob Try.prog.godebug = none := by kernel_rfl
set_option maxRecDepth 100000 in
theorem lifted (os : Os) (started : os.Started) (H : Type) (enc : TypeId × Value → H) :
    ReturnsInHanded {} Try.checked os 5 .any (Rows.valueAppliesSpec.pre6 enc Try.prog Try.f5 Rows.valueAppliesRow.domain false) (Rows.valueAppliesSpec.post enc Try.prog Try.f5 false true false false) := by
  refine returnsInHanded_of_change_sized (C := Try.checked) own started (by kernel_rfl) Try.func5
    (ChangeSpec.witness6 (enc := enc) (C := Try.checked) false ⟨#[], #[.int .i64 0, .int .i64 0, .int .i64 0, .int .i64 0], []⟩ 8 (by kernel_rfl) (by kernel_rfl) (by kernel_rfl) (by kernel_rfl)) ?_
  intro W base args ds gs before hval0 hW hcnd hsz0 _
  have hsz : (DataW.weightsEach Try.prog (Try.f5.params.toList ++ Rows.valueAppliesSpec.plain.varTypes Try.prog) (ds ++ gs)).all (· ≤ reachBytes) = true := hsz0
  have hval : ∀ (j : Nat) t v, Try.f5.params[j]? = some t → args[j]? = some v → Value.okWide Try.prog W .any base t v := hval0
  have hW' := hW
  obtain ⟨p, q, hA0, hV, rfl, hfz, hnd⟩ := hW
  have hA : DataW.TrodAll enc Try.prog W 0 (fun _ => true) true Try.f5.params.toList args.toList ds p := hA0
  rw [Try.params5] at hA hval hsz
  obtain ⟨v0, vs0, d0, ds0, p0, q0, hargs, rfl, rfl, h0, r0⟩ := trodAll_cons hA
  obtain ⟨v1, vs1, d1, ds1, p1, q1, rfl, rfl, rfl, h1, r1⟩ := trodAll_cons r0
  obtain ⟨v2, vs2, d2, ds2, p2, q2, rfl, rfl, rfl, h2, r2⟩ := trodAll_cons r1
  obtain ⟨v3, vs3, d3, ds3, p3, q3, rfl, rfl, rfl, h3, r3⟩ := trodAll_cons r2
  obtain ⟨rfl, rfl, rfl⟩ := trodAll_nil r3
  obtain rfl : args = #[v0, v1, v2, v3] := by cases args; simp_all
  obtain ⟨rfl, rfl⟩ := trodVars_none hV
  obtain ⟨a0, rfl, rfl, rfl, w0⟩ := open_int Try.underlying3 (hval 0 3 v0 rfl rfl) h0
  obtain ⟨a1, rfl, rfl, rfl, w1⟩ := open_int Try.underlying2 (hval 1 2 v1 rfl rfl) h1
  obtain ⟨a2, rfl, rfl, rfl, w2⟩ := open_int Try.underlying2 (hval 2 2 v2 rfl rfl) h2
  obtain ⟨a3, rfl, rfl, rfl, w3⟩ := open_int Try.underlying2 (hval 3 2 v3 rfl rfl) h3
  clear hA0 hval0 hsz0 hsz
  refine (Wk.applies_any a0 a1 a2 a3 W w0 w1 w2 w3).mono fun e W' ⟨he, bel⟩ => ?_
  subst he
  exact ⟨_, rfl, _, _, _, [], _, [], hW', trodAll_mk1 (shut_bool Try.underlying4 _), (trodAll_cons_mk (shut_int Try.underlying3 w0) (trodAll_cons_mk (shut_int Try.underlying2 w1) (trodAll_cons_mk (shut_int Try.underlying2 w2) (trodAll_cons_mk (shut_int Try.underlying2 w3) trodAll_mk0)))), rfl, bel.frame _, fun h => by cases h⟩
theorem over : Rows.valueAppliesRow.holds Try.pinned (OpenSpec.ofChange Rows.valueAppliesSpec) :=
  OpenClaim.holds_of_wide 5 Try.f5 rfl rfl rfl rfl rfl rfl rfl ⟨rfl, rfl, rfl, rfl, rfl⟩ rfl rfl rfl rfl rfl (by kernel_rfl) Try.func5 (by kernel_rfl)
    (of_decide_eq_true (by kernel_rfl)) (by unfold Func.isWrapper; first | (rw [if_pos (by decide +kernel)]; kernel_rfl) | (rw [if_neg (by decide +kernel)]; exact ⟨rfl, rfl⟩))
    (fun os started H enc _ => lifted os started H enc)
theorem proved : Rows.ValueAppliesSaid := over
end Go.Proofs.Ytnlkjimpefebbaa.valueApplies
namespace Go.Proofs.Ytnlkjimpefebbaa
/-- The row, under a short name, for the claim. -/
theorem valueApplies_holds : Rows.ValueAppliesSaid := valueApplies.proved
end Go.Proofs.Ytnlkjimpefebbaa
