/- The statement ValueRules: for every three numbers, sums, products and comparisons. No condition. -/
import Derived.Test.YtnlkjimpefebbaaRows
import Derived.Test.YtnlkjimpefebbaaVal
import Derived.Test.YtnlkjimpefebbaaWMore
import Derived.WalkKit
import Derived.ProofKit
import Derived.OpenShut
import Derived.ShutString
import Derived.ChangeOld
import Derived.Below
import Derived.SizedLaws
namespace Go.Proofs.Ytnlkjimpefebbaa.Wk
open Go Go.RowKit Go.Proofs.Ytnlkjimpefebbaa.PValueApplies Go.Proofs.YtnlkjimpefebbaaW.PrintWords Go.Proofs.YtnlkjimpefebbaaW.PrintLast Go.Proofs.YtnlkjimpefebbaaW.PrintMore
attribute [local go_sem] min2_int min_two   -- for this text's walks alone

theorem C1 {W : World} {g : Nat} {a : Int} (h0 : W.cell? ⟨g, 0, none⟩ = some (.int .i64 a)) : Kd.C (Kd.int .i64) W (some ⟨g, 0, none⟩) 1 [a] := by
  refine ⟨rfl, by omega, fun _ => ⟨_, rfl, ?_⟩⟩
  intro j p hp
  match j, hp with
  | 0, hp =>
    obtain rfl : a = p := by simpa using hp
    exact ⟨[.int .i64 a], rfl, rfl, fun i u hu => by
      match i, hu with
      | 0, hu =>
        obtain rfl := Option.some.inj hu
        simpa [Kd.int, Kd.scalar, Addr.add] using h0⟩
theorem C3 {W : World} {g : Nat} {a b c : Int} (h0 : W.cell? ⟨g, 0, none⟩ = some (.int .i64 a)) (h1 : W.cell? ⟨g, 1, none⟩ = some (.int .i64 b)) (h2 : W.cell? ⟨g, 2, none⟩ = some (.int .i64 c)) : Kd.C (Kd.int .i64) W (some ⟨g, 0, none⟩) 3 [a, b, c] := by
  refine ⟨rfl, by omega, fun _ => ⟨_, rfl, ?_⟩⟩
  intro j p hp
  match j, hp with
  | 0, hp =>
    obtain rfl : a = p := by simpa using hp
    exact ⟨[.int .i64 a], rfl, rfl, fun i u hu => by
      match i, hu with
      | 0, hu =>
        obtain rfl := Option.some.inj hu
        simpa [Kd.int, Kd.scalar, Addr.add] using h0⟩
  | 1, hp =>
    obtain rfl : b = p := by simpa using hp
    exact ⟨[.int .i64 b], rfl, rfl, fun i u hu => by
      match i, hu with
      | 0, hu =>
        obtain rfl := Option.some.inj hu
        simpa [Kd.int, Kd.scalar, Addr.add] using h1⟩
  | 2, hp =>
    obtain rfl : c = p := by simpa using hp
    exact ⟨[.int .i64 c], rfl, rfl, fun i u hu => by
      match i, hu with
      | 0, hu =>
        obtain rfl := Option.some.inj hu
        simpa [Kd.int, Kd.scalar, Addr.add] using h2⟩
theorem apply1 (op : ByteArray) (a r : Int) (g : Nat) (w : World) (h : value_Apply.f op [a] = some r) (h0 : w.cell? ⟨g, 0, none⟩ = some (.int .i64 a)) :
    Calls Try.prog 22 #[.string op, .slice (some ⟨g, 0, none⟩) 1 1] w fun e w' => e = .returned (.int .i64 r) ∧ Drawn0 w w' :=
  value_Apply.calls op (some ⟨g, 0, none⟩) 1 [a] r w (C1 h0) (Nat.le_refl _) h
theorem apply3 (op : ByteArray) (a b c r : Int) (g : Nat) (w : World) (h : value_Apply.f op [a, b, c] = some r) (h0 : w.cell? ⟨g, 0, none⟩ = some (.int .i64 a)) (h1 : w.cell? ⟨g, 1, none⟩ = some (.int .i64 b)) (h2 : w.cell? ⟨g, 2, none⟩ = some (.int .i64 c)) :
    Calls Try.prog 22 #[.string op, .slice (some ⟨g, 0, none⟩) 3 3] w fun e w' => e = .returned (.int .i64 r) ∧ Drawn0 w w' :=
  value_Apply.calls op (some ⟨g, 0, none⟩) 3 [a, b, c] r w (C3 h0 h1 h2) (Nat.le_refl _) h

theorem add_any (a b : Int) (w : World) : Calls Try.prog 23 #[.int .i64 a, .int .i64 b] w fun e w' => e = .returned (.int .i64 (wrap64 (a + b))) ∧ Below w.heap.size w w' := by
  have H := Lib.hid (f_add a b)
  go_enter Try.func23, Try.ntmps23
  go_wp2_with fail
  refine (apply2 _ _ _ _ _ _ H.out (by go_simp) (by go_simp)).mono ?_
  rintro e w2 ⟨rfl, ⟨n2, rfl⟩⟩
  go_wp2_with fail
  go_ret
  exact ⟨by rfl, pw_below_drewN (below_alloc (Below.refl _ _) _) _⟩
theorem mul_any (a b : Int) (w : World) : Calls Try.prog 24 #[.int .i64 a, .int .i64 b] w fun e w' => e = .returned (.int .i64 (wrap64 (a * b))) ∧ Below w.heap.size w w' := by
  have H := Lib.hid (f_mul a b)
  go_enter Try.func24, Try.ntmps24
  go_wp2_with fail
  refine (apply2 _ _ _ _ _ _ H.out (by go_simp) (by go_simp)).mono ?_
  rintro e w2 ⟨rfl, ⟨n2, rfl⟩⟩
  go_wp2_with fail
  go_ret
  exact ⟨by rfl, pw_below_drewN (below_alloc (Below.refl _ _) _) _⟩
theorem is_any (op : ByteArray) (a b r : Int) (t : Bool) (w : World) (h : value_Apply.f op [a, b] = some r) (ht : (r == 1) = t) : Calls Try.prog 25 #[.string op, .int .i64 a, .int .i64 b] w fun e w' => e = .returned (.bool t) ∧ Below w.heap.size w w' := by
  have H := Lib.hid h
  have HT := Lib.hid ht
  clear h ht
  go_enter Try.func25, Try.ntmps25
  go_wp2_with fail
  refine (apply2 _ _ _ _ _ _ H.out (by go_simp) (by go_simp)).mono ?_
  rintro e w2 ⟨rfl, ⟨n2, rfl⟩⟩
  go_wp2_with fail
  go_ret
  exact ⟨by rw [← HT.out]; rfl, pw_below_drewN (below_alloc (Below.refl _ _) _) _⟩

set_option maxRecDepth 100000 in
set_option maxHeartbeats 4000000 in
theorem rules_lt (a b c : Int) (w : World) (n ab t : Int) (hab : a ≤ b)
  (e1 : wrap64 (a + b) = ab) (e1' : wrap64 (b + a) = ab) (em : wrap64 (a * wrap64 (b + c)) = t) (em' : wrap64 (wrap64 (a * b) + wrap64 (a * c)) = t)
  (hn : value_Apply.f ⟨#[110, 101, 103]⟩ [a] = some n) (ean : wrap64 (a + n) = 0) (hs : value_Apply.f ⟨#[45]⟩ [ab, b] = some a)
  (c1 : value_Apply.f ⟨#[60]⟩ [a, b] = some 1) (c2 : value_Apply.f ⟨#[62]⟩ [b, a] = some 1) (c3 : value_Apply.f ⟨#[60, 61]⟩ [a, b] = some 1) (c4 : value_Apply.f ⟨#[62]⟩ [a, b] = some 0) (c5 : value_Apply.f ⟨#[62, 61]⟩ [a, b] = some 0)
  (c6 : value_Apply.f ⟨#[61]⟩ [a, b] = some 0) (c7 : value_Apply.f ⟨#[60, 62]⟩ [a, b] = some 1) (c8 : value_Apply.f ⟨#[61]⟩ [a, a] = some 1) (c9 : value_Apply.f ⟨#[105, 102]⟩ [1, a, b] = some a) :
    Calls Try.prog 7 #[.int .i64 a, .int .i64 b, .int .i64 c] w fun e w' => e = .returned (.bool true) ∧ Below w.heap.size w w' := by
  have He1 := Lib.hid e1
  have He1' := Lib.hid e1'
  have Hem := Lib.hid em
  have Hem' := Lib.hid em'
  have Hhn := Lib.hid hn
  have Hean := Lib.hid ean
  have Hhs := Lib.hid hs
  have Hc1 := Lib.hid c1
  have Hc2 := Lib.hid c2
  have Hc3 := Lib.hid c3
  have Hc4 := Lib.hid c4
  have Hc5 := Lib.hid c5
  have Hc6 := Lib.hid c6
  have Hc7 := Lib.hid c7
  have Hc8 := Lib.hid c8
  have Hc9 := Lib.hid c9
  clear e1 e1' em em' hn ean hs c1 c2 c3 c4 c5 c6 c7 c8 c9
  have HB := Lib.hid (Below.refl w.heap.size w)
  go_enter Try.func7, Try.ntmps7
  go_wp2_with fail
  refine (awake_any _).mono ?_
  rintro e w1 ⟨rfl, hB1⟩
  have hS := below_step (by repeat (first | exact HB.out | (with_reducible first | apply below_alloc | apply pw_below_drewN | apply below_drew1))) hB1
  clear HB hB1
  have HB := Lib.hid hS; clear hS
  go_wp2_with fail
  refine (add_any _ _ _).mono ?_
  rw [He1.out]
  rintro e w1 ⟨rfl, hB1⟩
  have hS := below_step (by repeat (first | exact HB.out | (with_reducible first | apply below_alloc | apply pw_below_drewN | apply below_drew1))) hB1
  clear HB hB1
  have HB := Lib.hid hS; clear hS
  go_wp2_with fail
  refine (add_any _ _ _).mono ?_
  rw [He1'.out]
  rintro e w1 ⟨rfl, hB1⟩
  have hS := below_step (by repeat (first | exact HB.out | (with_reducible first | apply below_alloc | apply pw_below_drewN | apply below_drew1))) hB1
  clear HB hB1
  have HB := Lib.hid hS; clear hS
  go_wp2_with fail
  refine (add_any _ _ _).mono ?_
  rintro e w1 ⟨rfl, hB1⟩
  have hS := below_step (by repeat (first | exact HB.out | (with_reducible first | apply below_alloc | apply pw_below_drewN | apply below_drew1))) hB1
  clear HB hB1
  have HB := Lib.hid hS; clear hS
  go_wp2_with fail
  refine (mul_any _ _ _).mono ?_
  rw [Hem.out]
  rintro e w1 ⟨rfl, hB1⟩
  have hS := below_step (by repeat (first | exact HB.out | (with_reducible first | apply below_alloc | apply pw_below_drewN | apply below_drew1))) hB1
  clear HB hB1
  have HB := Lib.hid hS; clear hS
  go_wp2_with fail
  refine (mul_any _ _ _).mono ?_
  rintro e w1 ⟨rfl, hB1⟩
  have hS := below_step (by repeat (first | exact HB.out | (with_reducible first | apply below_alloc | apply pw_below_drewN | apply below_drew1))) hB1
  clear HB hB1
  have HB := Lib.hid hS; clear hS
  go_wp2_with fail
  refine (mul_any _ _ _).mono ?_
  rintro e w1 ⟨rfl, hB1⟩
  have hS := below_step (by repeat (first | exact HB.out | (with_reducible first | apply below_alloc | apply pw_below_drewN | apply below_drew1))) hB1
  clear HB hB1
  have HB := Lib.hid hS; clear hS
  go_wp2_with fail
  refine (add_any _ _ _).mono ?_
  rw [Hem'.out]
  rintro e w1 ⟨rfl, hB1⟩
  have hS := below_step (by repeat (first | exact HB.out | (with_reducible first | apply below_alloc | apply pw_below_drewN | apply below_drew1))) hB1
  clear HB hB1
  have HB := Lib.hid hS; clear hS
  go_wp2_with fail
  go_wp2_with fail
  refine (apply1 _ _ _ _ _ Hhn.out (by go_simp)).mono ?_
  rintro e w1 ⟨rfl, ⟨n2, rfl⟩⟩
  go_wp2_with fail
  refine (add_any _ _ _).mono ?_
  rw [Hean.out]
  rintro e w1 ⟨rfl, hB1⟩
  have hS := below_step (by repeat (first | exact HB.out | (with_reducible first | apply below_alloc | apply pw_below_drewN | apply below_drew1))) hB1
  clear HB hB1
  have HB := Lib.hid hS; clear hS
  go_wp2_with fail
  refine (add_any _ _ _).mono ?_
  rw [He1.out]
  rintro e w1 ⟨rfl, hB1⟩
  have hS := below_step (by repeat (first | exact HB.out | (with_reducible first | apply below_alloc | apply pw_below_drewN | apply below_drew1))) hB1
  clear HB hB1
  have HB := Lib.hid hS; clear hS
  go_wp2_with fail
  refine (apply2 _ _ _ _ _ _ Hhs.out (by go_simp) (by go_simp)).mono ?_
  rintro e w1 ⟨rfl, ⟨n2, rfl⟩⟩
  go_wp2_with fail
  refine (is_any _ _ _ _ _ _ Hc1.out rfl).mono ?_
  rintro e w1 ⟨rfl, hB1⟩
  have hS := below_step (by repeat (first | exact HB.out | (with_reducible first | apply below_alloc | apply pw_below_drewN | apply below_drew1))) hB1
  clear HB hB1
  have HB := Lib.hid hS; clear hS
  go_wp2_with fail
  refine (is_any _ _ _ _ _ _ Hc2.out rfl).mono ?_
  rintro e w1 ⟨rfl, hB1⟩
  have hS := below_step (by repeat (first | exact HB.out | (with_reducible first | apply below_alloc | apply pw_below_drewN | apply below_drew1))) hB1
  clear HB hB1
  have HB := Lib.hid hS; clear hS
  go_wp2_with fail
  refine (is_any _ _ _ _ _ _ Hc3.out rfl).mono ?_
  rintro e w1 ⟨rfl, hB1⟩
  have hS := below_step (by repeat (first | exact HB.out | (with_reducible first | apply below_alloc | apply pw_below_drewN | apply below_drew1))) hB1
  clear HB hB1
  have HB := Lib.hid hS; clear hS
  go_wp2_with fail
  refine (is_any _ _ _ _ _ _ Hc4.out rfl).mono ?_
  rintro e w1 ⟨rfl, hB1⟩
  have hS := below_step (by repeat (first | exact HB.out | (with_reducible first | apply below_alloc | apply pw_below_drewN | apply below_drew1))) hB1
  clear HB hB1
  have HB := Lib.hid hS; clear hS
  go_wp2_with fail
  refine (is_any _ _ _ _ _ _ Hc5.out rfl).mono ?_
  rintro e w1 ⟨rfl, hB1⟩
  have hS := below_step (by repeat (first | exact HB.out | (with_reducible first | apply below_alloc | apply pw_below_drewN | apply below_drew1))) hB1
  clear HB hB1
  have HB := Lib.hid hS; clear hS
  go_wp2_with fail
  refine (is_any _ _ _ _ _ _ Hc1.out rfl).mono ?_
  rintro e w1 ⟨rfl, hB1⟩
  have hS := below_step (by repeat (first | exact HB.out | (with_reducible first | apply below_alloc | apply pw_below_drewN | apply below_drew1))) hB1
  clear HB hB1
  have HB := Lib.hid hS; clear hS
  go_wp2_with fail
  refine (is_any _ _ _ _ _ _ Hc6.out rfl).mono ?_
  rintro e w1 ⟨rfl, hB1⟩
  have hS := below_step (by repeat (first | exact HB.out | (with_reducible first | apply below_alloc | apply pw_below_drewN | apply below_drew1))) hB1
  clear HB hB1
  have HB := Lib.hid hS; clear hS
  go_wp2_with fail
  refine (is_any _ _ _ _ _ _ Hc7.out rfl).mono ?_
  rintro e w1 ⟨rfl, hB1⟩
  have hS := below_step (by repeat (first | exact HB.out | (with_reducible first | apply below_alloc | apply pw_below_drewN | apply below_drew1))) hB1
  clear HB hB1
  have HB := Lib.hid hS; clear hS
  go_wp2_with fail
  refine (is_any _ _ _ _ _ _ Hc8.out rfl).mono ?_
  rintro e w1 ⟨rfl, hB1⟩
  have hS := below_step (by repeat (first | exact HB.out | (with_reducible first | apply below_alloc | apply pw_below_drewN | apply below_drew1))) hB1
  clear HB hB1
  have HB := Lib.hid hS; clear hS
  go_wp2_with fail
  refine (apply2 _ _ _ _ _ _ Hc1.out (by go_simp) (by go_simp)).mono ?_
  rintro e w1 ⟨rfl, ⟨n2, rfl⟩⟩
  go_wp2_with fail
  refine (apply3 _ _ _ _ _ _ _ Hc9.out (by go_simp) (by go_simp) (by go_simp)).mono ?_
  rintro e w1 ⟨rfl, ⟨n2, rfl⟩⟩
  go_wp2_with fail
  go_ret
  refine ⟨by rfl, ?_⟩
  repeat (first | exact HB.out | (with_reducible first | apply below_alloc | apply pw_below_drewN | apply below_drew1))
set_option maxRecDepth 100000 in
set_option maxHeartbeats 4000000 in
theorem rules_eq (a b c : Int) (w : World) (n ab t : Int) (hab : a ≤ b)
  (e1 : wrap64 (a + b) = ab) (e1' : wrap64 (b + a) = ab) (em : wrap64 (a * wrap64 (b + c)) = t) (em' : wrap64 (wrap64 (a * b) + wrap64 (a * c)) = t)
  (hn : value_Apply.f ⟨#[110, 101, 103]⟩ [a] = some n) (ean : wrap64 (a + n) = 0) (hs : value_Apply.f ⟨#[45]⟩ [ab, b] = some a)
  (c1 : value_Apply.f ⟨#[60]⟩ [a, b] = some 0) (c2 : value_Apply.f ⟨#[62]⟩ [b, a] = some 0) (c3 : value_Apply.f ⟨#[60, 61]⟩ [a, b] = some 1) (c4 : value_Apply.f ⟨#[62]⟩ [a, b] = some 0) (c5 : value_Apply.f ⟨#[62, 61]⟩ [a, b] = some 1)
  (c6 : value_Apply.f ⟨#[61]⟩ [a, b] = some 1) (c7 : value_Apply.f ⟨#[60, 62]⟩ [a, b] = some 0) (c8 : value_Apply.f ⟨#[61]⟩ [a, a] = some 1) (c9 : value_Apply.f ⟨#[105, 102]⟩ [0, a, b] = some a) :
    Calls Try.prog 7 #[.int .i64 a, .int .i64 b, .int .i64 c] w fun e w' => e = .returned (.bool true) ∧ Below w.heap.size w w' := by
  have He1 := Lib.hid e1
  have He1' := Lib.hid e1'
  have Hem := Lib.hid em
  have Hem' := Lib.hid em'
  have Hhn := Lib.hid hn
  have Hean := Lib.hid ean
  have Hhs := Lib.hid hs
  have Hc1 := Lib.hid c1
  have Hc2 := Lib.hid c2
  have Hc3 := Lib.hid c3
  have Hc4 := Lib.hid c4
  have Hc5 := Lib.hid c5
  have Hc6 := Lib.hid c6
  have Hc7 := Lib.hid c7
  have Hc8 := Lib.hid c8
  have Hc9 := Lib.hid c9
  clear e1 e1' em em' hn ean hs c1 c2 c3 c4 c5 c6 c7 c8 c9
  have HB := Lib.hid (Below.refl w.heap.size w)
  go_enter Try.func7, Try.ntmps7
  go_wp2_with fail
  refine (awake_any _).mono ?_
  rintro e w1 ⟨rfl, hB1⟩
  have hS := below_step (by repeat (first | exact HB.out | (with_reducible first | apply below_alloc | apply pw_below_drewN | apply below_drew1))) hB1
  clear HB hB1
  have HB := Lib.hid hS; clear hS
  go_wp2_with fail
  refine (add_any _ _ _).mono ?_
  rw [He1.out]
  rintro e w1 ⟨rfl, hB1⟩
  have hS := below_step (by repeat (first | exact HB.out | (with_reducible first | apply below_alloc | apply pw_below_drewN | apply below_drew1))) hB1
  clear HB hB1
  have HB := Lib.hid hS; clear hS
  go_wp2_with fail
  refine (add_any _ _ _).mono ?_
  rw [He1'.out]
  rintro e w1 ⟨rfl, hB1⟩
  have hS := below_step (by repeat (first | exact HB.out | (with_reducible first | apply below_alloc | apply pw_below_drewN | apply below_drew1))) hB1
  clear HB hB1
  have HB := Lib.hid hS; clear hS
  go_wp2_with fail
  refine (add_any _ _ _).mono ?_
  rintro e w1 ⟨rfl, hB1⟩
  have hS := below_step (by repeat (first | exact HB.out | (with_reducible first | apply below_alloc | apply pw_below_drewN | apply below_drew1))) hB1
  clear HB hB1
  have HB := Lib.hid hS; clear hS
  go_wp2_with fail
  refine (mul_any _ _ _).mono ?_
  rw [Hem.out]
  rintro e w1 ⟨rfl, hB1⟩
  have hS := below_step (by repeat (first | exact HB.out | (with_reducible first | apply below_alloc | apply pw_below_drewN | apply below_drew1))) hB1
  clear HB hB1
  have HB := Lib.hid hS; clear hS
  go_wp2_with fail
  refine (mul_any _ _ _).mono ?_
  rintro e w1 ⟨rfl, hB1⟩
  have hS := below_step (by repeat (first | exact HB.out | (with_reducible first | apply below_alloc | apply pw_below_drewN | apply below_drew1))) hB1
  clear HB hB1
  have HB := Lib.hid hS; clear hS
  go_wp2_with fail
  refine (mul_any _ _ _).mono ?_
  rintro e w1 ⟨rfl, hB1⟩
  have hS := below_step (by repeat (first | exact HB.out | (with_reducible first | apply below_alloc | apply pw_below_drewN | apply below_drew1))) hB1
  clear HB hB1
  have HB := Lib.hid hS; clear hS
  go_wp2_with fail
  refine (add_any _ _ _).mono ?_
  rw [Hem'.out]
  rintro e w1 ⟨rfl, hB1⟩
  have hS := below_step (by repeat (first | exact HB.out | (with_reducible first | apply below_alloc | apply pw_below_drewN | apply below_drew1))) hB1
  clear HB hB1
  have HB := Lib.hid hS; clear hS
  go_wp2_with fail
  go_wp2_with fail
  refine (apply1 _ _ _ _ _ Hhn.out (by go_simp)).mono ?_
  rintro e w1 ⟨rfl, ⟨n2, rfl⟩⟩
  go_wp2_with fail
  refine (add_any _ _ _).mono ?_
  rw [Hean.out]
  rintro e w1 ⟨rfl, hB1⟩
  have hS := below_step (by repeat (first | exact HB.out | (with_reducible first | apply below_alloc | apply pw_below_drewN | apply below_drew1))) hB1
  clear HB hB1
  have HB := Lib.hid hS; clear hS
  go_wp2_with fail
  refine (add_any _ _ _).mono ?_
  rw [He1.out]
  rintro e w1 ⟨rfl, hB1⟩
  have hS := below_step (by repeat (first | exact HB.out | (with_reducible first | apply below_alloc | apply pw_below_drewN | apply below_drew1))) hB1
  clear HB hB1
  have HB := Lib.hid hS; clear hS
  go_wp2_with fail
  refine (apply2 _ _ _ _ _ _ Hhs.out (by go_simp) (by go_simp)).mono ?_
  rintro e w1 ⟨rfl, ⟨n2, rfl⟩⟩
  go_wp2_with fail
  refine (is_any _ _ _ _ _ _ Hc1.out rfl).mono ?_
  rintro e w1 ⟨rfl, hB1⟩
  have hS := below_step (by repeat (first | exact HB.out | (with_reducible first | apply below_alloc | apply pw_below_drewN | apply below_drew1))) hB1
  clear HB hB1
  have HB := Lib.hid hS; clear hS
  go_wp2_with fail
  refine (is_any _ _ _ _ _ _ Hc2.out rfl).mono ?_
  rintro e w1 ⟨rfl, hB1⟩
  have hS := below_step (by repeat (first | exact HB.out | (with_reducible first | apply below_alloc | apply pw_below_drewN | apply below_drew1))) hB1
  clear HB hB1
  have HB := Lib.hid hS; clear hS
  go_wp2_with fail
  refine (is_any _ _ _ _ _ _ Hc3.out rfl).mono ?_
  rintro e w1 ⟨rfl, hB1⟩
  have hS := below_step (by repeat (first | exact HB.out | (with_reducible first | apply below_alloc | apply pw_below_drewN | apply below_drew1))) hB1
  clear HB hB1
  have HB := Lib.hid hS; clear hS
  go_wp2_with fail
  refine (is_any _ _ _ _ _ _ Hc4.out rfl).mono ?_
  rintro e w1 ⟨rfl, hB1⟩
  have hS := below_step (by repeat (first | exact HB.out | (with_reducible first | apply below_alloc | apply pw_below_drewN | apply below_drew1))) hB1
  clear HB hB1
  have HB := Lib.hid hS; clear hS
  go_wp2_with fail
  refine (is_any _ _ _ _ _ _ Hc5.out rfl).mono ?_
  rintro e w1 ⟨rfl, hB1⟩
  have hS := below_step (by repeat (first | exact HB.out | (with_reducible first | apply below_alloc | apply pw_below_drewN | apply below_drew1))) hB1
  clear HB hB1
  have HB := Lib.hid hS; clear hS
  go_wp2_with fail
  refine (is_any _ _ _ _ _ _ Hc1.out rfl).mono ?_
  rintro e w1 ⟨rfl, hB1⟩
  have hS := below_step (by repeat (first | exact HB.out | (with_reducible first | apply below_alloc | apply pw_below_drewN | apply below_drew1))) hB1
  clear HB hB1
  have HB := Lib.hid hS; clear hS
  go_wp2_with fail
  refine (is_any _ _ _ _ _ _ Hc6.out rfl).mono ?_
  rintro e w1 ⟨rfl, hB1⟩
  have hS := below_step (by repeat (first | exact HB.out | (with_reducible first | apply below_alloc | apply pw_below_drewN | apply below_drew1))) hB1
  clear HB hB1
  have HB := Lib.hid hS; clear hS
  go_wp2_with fail
  refine (is_any _ _ _ _ _ _ Hc7.out rfl).mono ?_
  rintro e w1 ⟨rfl, hB1⟩
  have hS := below_step (by repeat (first | exact HB.out | (with_reducible first | apply below_alloc | apply pw_below_drewN | apply below_drew1))) hB1
  clear HB hB1
  have HB := Lib.hid hS; clear hS
  go_wp2_with fail
  refine (is_any _ _ _ _ _ _ Hc8.out rfl).mono ?_
  rintro e w1 ⟨rfl, hB1⟩
  have hS := below_step (by repeat (first | exact HB.out | (with_reducible first | apply below_alloc | apply pw_below_drewN | apply below_drew1))) hB1
  clear HB hB1
  have HB := Lib.hid hS; clear hS
  go_wp2_with fail
  refine (apply2 _ _ _ _ _ _ Hc1.out (by go_simp) (by go_simp)).mono ?_
  rintro e w1 ⟨rfl, ⟨n2, rfl⟩⟩
  go_wp2_with fail
  refine (apply3 _ _ _ _ _ _ _ Hc9.out (by go_simp) (by go_simp) (by go_simp)).mono ?_
  rintro e w1 ⟨rfl, ⟨n2, rfl⟩⟩
  go_wp2_with fail
  go_ret
  refine ⟨by rfl, ?_⟩
  repeat (first | exact HB.out | (with_reducible first | apply below_alloc | apply pw_below_drewN | apply below_drew1))
set_option maxRecDepth 100000 in
set_option maxHeartbeats 4000000 in
theorem rules_gt (a b c : Int) (w : World) (n ab t : Int) (hab : b < a)
  (e1 : wrap64 (a + b) = ab) (e1' : wrap64 (b + a) = ab) (em : wrap64 (a * wrap64 (b + c)) = t) (em' : wrap64 (wrap64 (a * b) + wrap64 (a * c)) = t)
  (hn : value_Apply.f ⟨#[110, 101, 103]⟩ [a] = some n) (ean : wrap64 (a + n) = 0) (hs : value_Apply.f ⟨#[45]⟩ [ab, b] = some a)
  (c1 : value_Apply.f ⟨#[60]⟩ [a, b] = some 0) (c2 : value_Apply.f ⟨#[62]⟩ [b, a] = some 0) (c3 : value_Apply.f ⟨#[60, 61]⟩ [a, b] = some 0) (c4 : value_Apply.f ⟨#[62]⟩ [a, b] = some 1) (c5 : value_Apply.f ⟨#[62, 61]⟩ [a, b] = some 1)
  (c6 : value_Apply.f ⟨#[61]⟩ [a, b] = some 0) (c7 : value_Apply.f ⟨#[60, 62]⟩ [a, b] = some 1) (c8 : value_Apply.f ⟨#[61]⟩ [a, a] = some 1) (c9 : value_Apply.f ⟨#[105, 102]⟩ [0, a, b] = some b) :
    Calls Try.prog 7 #[.int .i64 a, .int .i64 b, .int .i64 c] w fun e w' => e = .returned (.bool true) ∧ Below w.heap.size w w' := by
  have He1 := Lib.hid e1
  have He1' := Lib.hid e1'
  have Hem := Lib.hid em
  have Hem' := Lib.hid em'
  have Hhn := Lib.hid hn
  have Hean := Lib.hid ean
  have Hhs := Lib.hid hs
  have Hc1 := Lib.hid c1
  have Hc2 := Lib.hid c2
  have Hc3 := Lib.hid c3
  have Hc4 := Lib.hid c4
  have Hc5 := Lib.hid c5
  have Hc6 := Lib.hid c6
  have Hc7 := Lib.hid c7
  have Hc8 := Lib.hid c8
  have Hc9 := Lib.hid c9
  clear e1 e1' em em' hn ean hs c1 c2 c3 c4 c5 c6 c7 c8 c9
  have HB := Lib.hid (Below.refl w.heap.size w)
  go_enter Try.func7, Try.ntmps7
  go_wp2_with fail
  refine (awake_any _).mono ?_
  rintro e w1 ⟨rfl, hB1⟩
  have hS := below_step (by repeat (first | exact HB.out | (with_reducible first | apply below_alloc | apply pw_below_drewN | apply below_drew1))) hB1
  clear HB hB1
  have HB := Lib.hid hS; clear hS
  go_wp2_with fail
  refine (add_any _ _ _).mono ?_
  rw [He1.out]
  rintro e w1 ⟨rfl, hB1⟩
  have hS := below_step (by repeat (first | exact HB.out | (with_reducible first | apply below_alloc | apply pw_below_drewN | apply below_drew1))) hB1
  clear HB hB1
  have HB := Lib.hid hS; clear hS
  go_wp2_with fail
  refine (add_any _ _ _).mono ?_
  rw [He1'.out]
  rintro e w1 ⟨rfl, hB1⟩
  have hS := below_step (by repeat (first | exact HB.out | (with_reducible first | apply below_alloc | apply pw_below_drewN | apply below_drew1))) hB1
  clear HB hB1
  have HB := Lib.hid hS; clear hS
  go_wp2_with fail
  refine (add_any _ _ _).mono ?_
  rintro e w1 ⟨rfl, hB1⟩
  have hS := below_step (by repeat (first | exact HB.out | (with_reducible first | apply below_alloc | apply pw_below_drewN | apply below_drew1))) hB1
  clear HB hB1
  have HB := Lib.hid hS; clear hS
  go_wp2_with fail
  refine (mul_any _ _ _).mono ?_
  rw [Hem.out]
  rintro e w1 ⟨rfl, hB1⟩
  have hS := below_step (by repeat (first | exact HB.out | (with_reducible first | apply below_alloc | apply pw_below_drewN | apply below_drew1))) hB1
  clear HB hB1
  have HB := Lib.hid hS; clear hS
  go_wp2_with fail
  refine (mul_any _ _ _).mono ?_
  rintro e w1 ⟨rfl, hB1⟩
  have hS := below_step (by repeat (first | exact HB.out | (with_reducible first | apply below_alloc | apply pw_below_drewN | apply below_drew1))) hB1
  clear HB hB1
  have HB := Lib.hid hS; clear hS
  go_wp2_with fail
  refine (mul_any _ _ _).mono ?_
  rintro e w1 ⟨rfl, hB1⟩
  have hS := below_step (by repeat (first | exact HB.out | (with_reducible first | apply below_alloc | apply pw_below_drewN | apply below_drew1))) hB1
  clear HB hB1
  have HB := Lib.hid hS; clear hS
  go_wp2_with fail
  refine (add_any _ _ _).mono ?_
  rw [Hem'.out]
  rintro e w1 ⟨rfl, hB1⟩
  have hS := below_step (by repeat (first | exact HB.out | (with_reducible first | apply below_alloc | apply pw_below_drewN | apply below_drew1))) hB1
  clear HB hB1
  have HB := Lib.hid hS; clear hS
  go_wp2_with fail
  go_wp2_with fail
  refine (apply1 _ _ _ _ _ Hhn.out (by go_simp)).mono ?_
  rintro e w1 ⟨rfl, ⟨n2, rfl⟩⟩
  go_wp2_with fail
  refine (add_any _ _ _).mono ?_
  rw [Hean.out]
  rintro e w1 ⟨rfl, hB1⟩
  have hS := below_step (by repeat (first | exact HB.out | (with_reducible first | apply below_alloc | apply pw_below_drewN | apply below_drew1))) hB1
  clear HB hB1
  have HB := Lib.hid hS; clear hS
  go_wp2_with fail
  refine (add_any _ _ _).mono ?_
  rw [He1.out]
  rintro e w1 ⟨rfl, hB1⟩
  have hS := below_step (by repeat (first | exact HB.out | (with_reducible first | apply below_alloc | apply pw_below_drewN | apply below_drew1))) hB1
  clear HB hB1
  have HB := Lib.hid hS; clear hS
  go_wp2_with fail
  refine (apply2 _ _ _ _ _ _ Hhs.out (by go_simp) (by go_simp)).mono ?_
  rintro e w1 ⟨rfl, ⟨n2, rfl⟩⟩
  go_wp2_with fail
  refine (is_any _ _ _ _ _ _ Hc1.out rfl).mono ?_
  rintro e w1 ⟨rfl, hB1⟩
  have hS := below_step (by repeat (first | exact HB.out | (with_reducible first | apply below_alloc | apply pw_below_drewN | apply below_drew1))) hB1
  clear HB hB1
  have HB := Lib.hid hS; clear hS
  go_wp2_with fail
  refine (is_any _ _ _ _ _ _ Hc2.out rfl).mono ?_
  rintro e w1 ⟨rfl, hB1⟩
  have hS := below_step (by repeat (first | exact HB.out | (with_reducible first | apply below_alloc | apply pw_below_drewN | apply below_drew1))) hB1
  clear HB hB1
  have HB := Lib.hid hS; clear hS
  go_wp2_with fail
  refine (is_any _ _ _ _ _ _ Hc3.out rfl).mono ?_
  rintro e w1 ⟨rfl, hB1⟩
  have hS := below_step (by repeat (first | exact HB.out | (with_reducible first | apply below_alloc | apply pw_below_drewN | apply below_drew1))) hB1
  clear HB hB1
  have HB := Lib.hid hS; clear hS
  go_wp2_with fail
  refine (is_any _ _ _ _ _ _ Hc4.out rfl).mono ?_
  rintro e w1 ⟨rfl, hB1⟩
  have hS := below_step (by repeat (first | exact HB.out | (with_reducible first | apply below_alloc | apply pw_below_drewN | apply below_drew1))) hB1
  clear HB hB1
  have HB := Lib.hid hS; clear hS
  go_wp2_with fail
  refine (is_any _ _ _ _ _ _ Hc5.out rfl).mono ?_
  rintro e w1 ⟨rfl, hB1⟩
  have hS := below_step (by repeat (first | exact HB.out | (with_reducible first | apply below_alloc | apply pw_below_drewN | apply below_drew1))) hB1
  clear HB hB1
  have HB := Lib.hid hS; clear hS
  go_wp2_with fail
  refine (is_any _ _ _ _ _ _ Hc1.out rfl).mono ?_
  rintro e w1 ⟨rfl, hB1⟩
  have hS := below_step (by repeat (first | exact HB.out | (with_reducible first | apply below_alloc | apply pw_below_drewN | apply below_drew1))) hB1
  clear HB hB1
  have HB := Lib.hid hS; clear hS
  go_wp2_with fail
  refine (is_any _ _ _ _ _ _ Hc6.out rfl).mono ?_
  rintro e w1 ⟨rfl, hB1⟩
  have hS := below_step (by repeat (first | exact HB.out | (with_reducible first | apply below_alloc | apply pw_below_drewN | apply below_drew1))) hB1
  clear HB hB1
  have HB := Lib.hid hS; clear hS
  go_wp2_with fail
  refine (is_any _ _ _ _ _ _ Hc7.out rfl).mono ?_
  rintro e w1 ⟨rfl, hB1⟩
  have hS := below_step (by repeat (first | exact HB.out | (with_reducible first | apply below_alloc | apply pw_below_drewN | apply below_drew1))) hB1
  clear HB hB1
  have HB := Lib.hid hS; clear hS
  go_wp2_with fail
  refine (is_any _ _ _ _ _ _ Hc8.out rfl).mono ?_
  rintro e w1 ⟨rfl, hB1⟩
  have hS := below_step (by repeat (first | exact HB.out | (with_reducible first | apply below_alloc | apply pw_below_drewN | apply below_drew1))) hB1
  clear HB hB1
  have HB := Lib.hid hS; clear hS
  go_wp2_with fail
  refine (apply2 _ _ _ _ _ _ Hc1.out (by go_simp) (by go_simp)).mono ?_
  rintro e w1 ⟨rfl, ⟨n2, rfl⟩⟩
  go_wp2_with fail
  refine (apply3 _ _ _ _ _ _ _ Hc9.out (by go_simp) (by go_simp) (by go_simp)).mono ?_
  rintro e w1 ⟨rfl, ⟨n2, rfl⟩⟩
  go_wp2_with fail
  go_ret
  refine ⟨by rfl, ?_⟩
  repeat (first | exact HB.out | (with_reducible first | apply below_alloc | apply pw_below_drewN | apply below_drew1))

theorem wrap64_in' {a : Int} (h : -9223372036854775808 ≤ a ∧ a ≤ 9223372036854775807) : wrap64 a = a := by unfold wrap64; omega
theorem wrap64_mul' (a b : Int) : wrap64 (a * wrap64 b) = wrap64 (a * b) := by rw [Int.mul_comm, wrap64_mul, Int.mul_comm]
theorem wrap64_add' (a b : Int) : wrap64 (a + wrap64 b) = wrap64 (a + b) := by rw [Int.add_comm, wrap64_add, Int.add_comm]
theorem f_neg (a : Int) : value_Apply.f ⟨#[110, 101, 103]⟩ [a] = some (wrap64 (-a)) := by
  have e : (⟨#[110, 101, 103]⟩ : ByteArray).toList = [110, 101, 103] := by decide +kernel
  unfold value_Apply.f
  simp only [e]
  simp [rd]
theorem f_sub (a b : Int) : value_Apply.f ⟨#[45]⟩ [a, b] = some (wrap64 (a - b)) := by
  have e : (⟨#[45]⟩ : ByteArray).toList = [45] := by decide +kernel
  unfold value_Apply.f
  simp only [e]
  simp [rd]
theorem f_lt (a b r : Int) (h : (if a < b then 1 else 0) = r) : value_Apply.f ⟨#[60]⟩ [a, b] = some r := by
  have e : (⟨#[60]⟩ : ByteArray).toList = [60] := by decide +kernel
  subst h
  unfold value_Apply.f value_compare.f value_truth.f
  simp only [e]
  simp [rd, apply_ite some]
theorem f_le (a b r : Int) (h : (if a ≤ b then 1 else 0) = r) : value_Apply.f ⟨#[60, 61]⟩ [a, b] = some r := by
  have e : (⟨#[60, 61]⟩ : ByteArray).toList = [60, 61] := by decide +kernel
  subst h
  unfold value_Apply.f value_compare.f value_truth.f
  simp only [e]
  simp [rd, apply_ite some]
theorem f_gt (a b r : Int) (h : (if a > b then 1 else 0) = r) : value_Apply.f ⟨#[62]⟩ [a, b] = some r := by
  have e : (⟨#[62]⟩ : ByteArray).toList = [62] := by decide +kernel
  subst h
  unfold value_Apply.f value_compare.f value_truth.f
  simp only [e]
  simp [rd, apply_ite some]
theorem f_ge (a b r : Int) (h : (if a ≥ b then 1 else 0) = r) : value_Apply.f ⟨#[62, 61]⟩ [a, b] = some r := by
  have e : (⟨#[62, 61]⟩ : ByteArray).toList = [62, 61] := by decide +kernel
  subst h
  unfold value_Apply.f value_compare.f value_truth.f
  simp only [e]
  simp [rd, apply_ite some]
theorem f_eq (a b r : Int) (h : (if a = b then 1 else 0) = r) : value_Apply.f ⟨#[61]⟩ [a, b] = some r := by
  have e : (⟨#[61]⟩ : ByteArray).toList = [61] := by decide +kernel
  subst h
  unfold value_Apply.f value_compare.f value_truth.f
  simp only [e]
  simp [rd, apply_ite some]
theorem f_ne (a b r : Int) (h : (if a = b then 0 else 1) = r) : value_Apply.f ⟨#[60, 62]⟩ [a, b] = some r := by
  have e : (⟨#[60, 62]⟩ : ByteArray).toList = [60, 62] := by decide +kernel
  subst h
  unfold value_Apply.f value_compare.f value_truth.f
  simp only [e]
  simp [rd, apply_ite some]
theorem f_if (c a b r : Int) (h : (if c = 0 then b else a) = r) : value_Apply.f ⟨#[105, 102]⟩ [c, a, b] = some r := by
  have e : (⟨#[105, 102]⟩ : ByteArray).toList = [105, 102] := by decide +kernel
  subst h
  unfold value_Apply.f
  simp only [e]
  simp [rd, apply_ite some]

theorem rules_any (a b c : Int) (w : World) (wa : (Lit.int .i64 a).wf = true) (wb : (Lit.int .i64 b).wf = true) (_wc : (Lit.int .i64 c).wf = true) :
    Calls Try.prog 7 #[.int .i64 a, .int .i64 b, .int .i64 c] w fun e w' => e = .returned (.bool true) ∧ Below w.heap.size w w' := by
  have ha := wf_bounds wa
  have hb := wf_bounds wb
  have e1 : wrap64 (b + a) = wrap64 (a + b) := by rw [Int.add_comm]
  have em : wrap64 (a * wrap64 (b + c)) = wrap64 (a * b + a * c) := by rw [wrap64_mul', Int.mul_add]
  have em' : wrap64 (wrap64 (a * b) + wrap64 (a * c)) = wrap64 (a * b + a * c) := by rw [wrap64_add, wrap64_add']
  have en : wrap64 (a + wrap64 (-a)) = 0 := by rw [wrap64_add']; unfold wrap64; omega
  have es : wrap64 (wrap64 (a + b) - b) = a := by unfold wrap64; omega
  have hs : value_Apply.f ⟨#[45]⟩ [wrap64 (a + b), b] = some a := by rw [f_sub, es]
  rcases Int.lt_trichotomy a b with h | h | h
  · exact rules_lt a b c w _ _ _ (by omega) rfl e1 em em' (f_neg a) en hs (f_lt _ _ _ (if_pos h)) (f_gt _ _ _ (if_pos h)) (f_le _ _ _ (if_pos (by omega))) (f_gt _ _ _ (if_neg (by omega))) (f_ge _ _ _ (if_neg (by omega)))
      (f_eq _ _ _ (if_neg (by omega))) (f_ne _ _ _ (if_neg (by omega))) (f_eq _ _ _ (if_pos rfl)) (f_if _ _ _ _ (if_neg (by decide)))
  · exact rules_eq a b c w _ _ _ (by omega) rfl e1 em em' (f_neg a) en hs (f_lt _ _ _ (if_neg (by omega))) (f_gt _ _ _ (if_neg (by omega))) (f_le _ _ _ (if_pos (by omega))) (f_gt _ _ _ (if_neg (by omega))) (f_ge _ _ _ (if_pos (by omega)))
      (f_eq _ _ _ (if_pos h)) (f_ne _ _ _ (if_pos h)) (f_eq _ _ _ (if_pos rfl)) (f_if _ _ _ _ (by rw [if_pos rfl, h]))
  · exact rules_gt a b c w _ _ _ h rfl e1 em em' (f_neg a) en hs (f_lt _ _ _ (if_neg (by omega))) (f_gt _ _ _ (if_neg (by omega))) (f_le _ _ _ (if_neg (by omega))) (f_gt _ _ _ (if_pos h)) (f_ge _ _ _ (if_pos (by omega)))
      (f_eq _ _ _ (if_neg (by omega))) (f_ne _ _ _ (if_neg (by omega))) (f_eq _ _ _ (if_pos rfl)) (f_if _ _ _ _ (if_pos rfl))
end Go.Proofs.Ytnlkjimpefebbaa.Wk
namespace Go.Proofs.Ytnlkjimpefebbaa.valueRules
open Go.ChangeShapes Go.WideShapes Go.ChangeAt Go.RowKit
open Go.ChangeMaps (open_string shut_string)
set_option linter.unusedVariables false
theorem own : ownKnob Try.prog.godebug = none := by kernel_rfl
set_option maxRecDepth 100000 in
theorem lifted (os : Os) (started : os.Started) (H : Type) (enc : TypeId × Value → H) :
    ReturnsInHanded {} Try.checked os 7 .any (Rows.valueRulesSpec.pre6 enc Try.prog Try.f7 Rows.valueRulesRow.domain false) (Rows.valueRulesSpec.post enc Try.prog Try.f7 false true false false) := by
  refine returnsInHanded_of_change_sized (C := Try.checked) own started (by kernel_rfl) Try.func7
    (ChangeSpec.witness6 (enc := enc) (C := Try.checked) false ⟨#[], #[.int .i64 0, .int .i64 0, .int .i64 0], []⟩ 8 (by kernel_rfl) (by kernel_rfl) (by kernel_rfl) (by kernel_rfl)) ?_
  intro W base args ds gs before hval0 hW hcnd hsz0 _
  have hsz : (DataW.weightsEach Try.prog (Try.f7.params.toList ++ Rows.valueRulesSpec.plain.varTypes Try.prog) (ds ++ gs)).all (· ≤ reachBytes) = true := hsz0
  have hval : ∀ (j : Nat) t v, Try.f7.params[j]? = some t → args[j]? = some v → Value.okWide Try.prog W .any base t v := hval0
  have hW' := hW
  obtain ⟨p, q, hA0, hV, rfl, hfz, hnd⟩ := hW
  have hA : DataW.TrodAll enc Try.prog W 0 (fun _ => true) true Try.f7.params.toList args.toList ds p := hA0
  rw [Try.params7] at hA hval hsz
  obtain ⟨v0, vs0, d0, ds0, p0, q0, hargs, rfl, rfl, h0, r0⟩ := trodAll_cons hA
  obtain ⟨v1, vs1, d1, ds1, p1, q1, rfl, rfl, rfl, h1, r1⟩ := trodAll_cons r0
  obtain ⟨v2, vs2, d2, ds2, p2, q2, rfl, rfl, rfl, h2, r2⟩ := trodAll_cons r1
  obtain ⟨rfl, rfl, rfl⟩ := trodAll_nil r2
  obtain rfl : args = #[v0, v1, v2] := by cases args; simp_all
  obtain ⟨rfl, rfl⟩ := trodVars_none hV
  obtain ⟨a0, rfl, rfl, rfl, w0⟩ := open_int Try.underlying2 (hval 0 2 v0 rfl rfl) h0
  obtain ⟨a1, rfl, rfl, rfl, w1⟩ := open_int Try.underlying2 (hval 1 2 v1 rfl rfl) h1
  obtain ⟨a2, rfl, rfl, rfl, w2⟩ := open_int Try.underlying2 (hval 2 2 v2 rfl rfl) h2
  clear hA0 hval0 hsz0 hsz
  refine (Wk.rules_any a0 a1 a2 W w0 w1 w2).mono fun e W' ⟨he, bel⟩ => ?_
  subst he
  exact ⟨_, rfl, _, _, _, [], _, [], hW', trodAll_mk1 (shut_bool Try.underlying4 _), (trodAll_cons_mk (shut_int Try.underlying2 w0) (trodAll_cons_mk (shut_int Try.underlying2 w1) (trodAll_cons_mk (shut_int Try.underlying2 w2) trodAll_mk0))), rfl, bel.frame _, fun h => by cases h⟩
theorem over : Rows.valueRulesRow.holds Try.pinned (OpenSpec.ofChange Rows.valueRulesSpec) :=
  OpenClaim.holds_of_wide 7 Try.f7 rfl rfl rfl rfl rfl rfl rfl ⟨rfl, rfl, rfl, rfl, rfl⟩ rfl rfl rfl rfl rfl (by kernel_rfl) Try.func7 (by kernel_rfl)
    (of_decide_eq_true (by kernel_rfl)) (by unfold Func.isWrapper; first | (rw [if_pos (by decide +kernel)]; kernel_rfl) | (rw [if_neg (by decide +kernel)]; exact ⟨rfl, rfl⟩))
    (fun os started H enc _ => lifted os started H enc)
theorem proved : Rows.ValueRulesSaid := over
end Go.Proofs.Ytnlkjimpefebbaa.valueRules
namespace Go.Proofs.Ytnlkjimpefebbaa
/-- The row, under a short name, for the claim. -/
theorem valueRules_holds : Rows.ValueRulesSaid := valueRules.proved
end Go.Proofs.Ytnlkjimpefebbaa
