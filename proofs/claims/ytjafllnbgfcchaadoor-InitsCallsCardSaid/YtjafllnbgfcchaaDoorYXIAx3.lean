import Derived.Test.YtjafllnbgfcchaaDoorYGXIAx0
-- Written by a program of this session (wip/xprint) out of the translation.
namespace Go.Proofs.YtjafllnbgfcchaaDoor.XIA
open Go.RowKit Go.Proofs.YtjafllnbgfcchaaDoorW.PrintWords Go.Proofs.YtjafllnbgfcchaaDoorW.PrintLast Go.Proofs.YtjafllnbgfcchaaDoorW.PrintMore Go.Proofs.YtjafllnbgfcchaaDoor.XK
attribute [local go_sem] max2_int min2_int max_two min_two max_three min_three max_four min_four   -- for this text's walks alone
set_option linter.unusedVariables false
set_option linter.unusedSimpArgs false

/-! ### inits_checker_late: function 87 -/
def inits_checker_late.T3 : Bool × List (List Nat × List Nat) := (true, [([], []), ([], []), ([1], [1]), ([2], [2]), ([3], [3]), ([], []), ([5], [5]), ([6], [6]), ([7], [7]), ([8], [8]), ([0, 4, 9], [0, 4, 9])])
def inits_checker_late.B3 : List Nat := [0, 0, 2, 6, 14, 0, 32, 96, 224, 480, 1023]
theorem inits_checker_late.tab3 : rtab .any (opsOf Tryd.f87 3) = inits_checker_late.T3 := by kernel_rfl
theorem inits_checker_late.bits3 : waitsOk inits_checker_late.T3.2 inits_checker_late.B3 = true := by kernel_rfl
def inits_checker_late.T7 : Bool × List (List Nat × List Nat) := (true, [([], []), ([], []), ([1], [1]), ([2], [2]), ([3], [3]), ([], []), ([5], [5]), ([6], [6]), ([7], [7]), ([8], [8]), ([0, 4, 9], [0, 4, 9])])
def inits_checker_late.B7 : List Nat := [0, 0, 2, 6, 14, 0, 32, 96, 224, 480, 1023]
theorem inits_checker_late.tab7 : rtab .any (opsOf Tryd.f87 7) = inits_checker_late.T7 := by kernel_rfl
theorem inits_checker_late.bits7 : waitsOk inits_checker_late.T7.2 inits_checker_late.B7 = true := by kernel_rfl
def inits_checker_late.T10 : Bool × List (List Nat × List Nat) := (true, [([], []), ([], []), ([1], [1]), ([2], [2]), ([3], [3]), ([], []), ([5], [5]), ([6], [6]), ([7], [7]), ([8], [8]), ([0, 4, 9], [0, 4, 9])])
def inits_checker_late.B10 : List Nat := [0, 0, 2, 6, 14, 0, 32, 96, 224, 480, 1023]
theorem inits_checker_late.tab10 : rtab .any (opsOf Tryd.f87 10) = inits_checker_late.T10 := by kernel_rfl
theorem inits_checker_late.bits10 : waitsOk inits_checker_late.T10.2 inits_checker_late.B10 = true := by kernel_rfl
def inits_checker_late.T13 : Bool × List (List Nat × List Nat) := (true, [([], []), ([], []), ([1], [1]), ([2], [2]), ([3], [3]), ([], []), ([5], [5]), ([6], [6]), ([7], [7]), ([8], [8]), ([0, 4, 9], [0, 4, 9])])
def inits_checker_late.B13 : List Nat := [0, 0, 2, 6, 14, 0, 32, 96, 224, 480, 1023]
theorem inits_checker_late.tab13 : rtab .any (opsOf Tryd.f87 13) = inits_checker_late.T13 := by kernel_rfl
theorem inits_checker_late.bits13 : waitsOk inits_checker_late.T13.2 inits_checker_late.B13 = true := by kernel_rfl
def inits_checker_late.T14 : Bool × List (List Nat × List Nat) := (true, [([], []), ([], []), ([1], [1]), ([2], [2]), ([3], [3]), ([], []), ([5], [5]), ([6], [6]), ([7], [7]), ([8], [8]), ([0, 4, 9], [0, 4, 9])])
def inits_checker_late.B14 : List Nat := [0, 0, 2, 6, 14, 0, 32, 96, 224, 480, 1023]
theorem inits_checker_late.tab14 : rtab .any (opsOf Tryd.f87 14) = inits_checker_late.T14 := by kernel_rfl
theorem inits_checker_late.bits14 : waitsOk inits_checker_late.T14.2 inits_checker_late.B14 = true := by kernel_rfl
set_option maxHeartbeats 8000000 in
set_option maxRecDepth 100000 in
theorem inits_checker_late.step (k : Nat) (ih_108 : ∀ m, m < k → inits_checker_some.Stmt m) (ih_87 : ∀ m, m < k → inits_checker_late.Stmt m) (ih_53 : ∀ m, m < k → inits_checker_now.Stmt m) (ih_52 : ∀ m, m < k → inits_checker_call.Stmt m) : ∀ (g : Nat) (s0_0 : List (S34)) (s0_1 : Int) (s0_2 : Int) (a1_0 : Int) (a1_1 : Int) (a1_2 : Int) (a1_3 : ByteArray) (a1_4 : Bool) (A1_5 : Option Addr) (c1_5 : Nat) (l1_5 : List (S43)) (r1 : Bool) (r2 : Int) (r3 : Int) (w0 w : World) (hI : IsS114 w0 w g s0_0 s0_1 s0_2) (hB : Below w0.heap.size w0 w) (hr1_5 : Kd.C k43 w0 A1_5 l1_5.length l1_5) (hc1_5 : l1_5.length ≤ c1_5) (h : inits_checker_late.f k s0_0 s0_1 s0_2 a1_0 a1_1 a1_2 a1_3 a1_4 l1_5 = some (r1, r2, r3)),
  Calls Tryd.prog 87 #[.pointer (some ⟨g, 0, none⟩), .agg #[.int .i64 a1_0, .int .i64 a1_1, .int .i64 a1_2, .string a1_3, .bool a1_4, .slice A1_5 l1_5.length c1_5]] w fun e w' => e = .returned (.bool r1) ∧ IsS114 w0 w' g s0_0 r2 r3 ∧ Below w0.heap.size w0 w' ∧ KeepBut w w' g none := by
 intro g s0_0 s0_1 s0_2 a1_0 a1_1 a1_2 a1_3 a1_4 A1_5 c1_5 l1_5 r1 r2 r3 w0 w hI hB hr1_5 hc1_5 h
 cases k with
 | zero => exact absurd h (by simp [inits_checker_late.f])
 | succ k =>
 simp only [inits_checker_late.f] at h
 have hu43 := Tryd.underlying43
 have HR1_5 := Aside0.mk hr1_5
 have HC1_5 := Aside0.mk hc1_5
 clear hr1_5 hc1_5
 have HI0 := Aside0.mk hI
 have HK := Aside0.mk (KeepBut.refl w g none)
 have HL := Aside0.mk hB.size
 clear hI
 have HW0 := Aside0.mk hB.size
 have HB := Aside0.mk hB
 clear hB
 have H : (if a1_0 = 8 then (if 0 < (l1_5.length : Int) then ((inits_checker_now.f k s0_0 s0_1 s0_2 ((rd_T43 l1_5 0).f0) ((rd_T43 l1_5 0).f1) ((rd_T43 l1_5 0).f2) ((rd_T43 l1_5 0).f3) ((rd_T43 l1_5 0).f4) ((rd_T43 l1_5 0).f5) ((rd_T43 l1_5 0).f1)).bind fun bt109 => (if 1 < (l1_5.length : Int) then ((inits_checker_late.f k s0_0 bt109.1 bt109.2 ((rd_T43 l1_5 1).f0) ((rd_T43 l1_5 1).f1) ((rd_T43 l1_5 1).f2) ((rd_T43 l1_5 1).f3) ((rd_T43 l1_5 1).f4) ((rd_T43 l1_5 1).f5)).bind fun bt112 => (some (false, bt112.2.1, bt112.2.2))) else (none))) else (none)) else (if a1_0 = 9 then (if 1 < (l1_5.length : Int) then ((inits_checker_now.f k s0_0 s0_1 s0_2 ((rd_T43 l1_5 1).f0) ((rd_T43 l1_5 1).f1) ((rd_T43 l1_5 1).f2) ((rd_T43 l1_5 1).f3) ((rd_T43 l1_5 1).f4) ((rd_T43 l1_5 1).f5) ((rd_T43 l1_5 1).f1)).bind fun bt117 => (some (false, bt117.1, bt117.2))) else (none)) else (if a1_0 = 10 then (if 0 < (l1_5.length : Int) then ((inits_checker_now.f k s0_0 s0_1 s0_2 ((rd_T43 l1_5 0).f0) ((rd_T43 l1_5 0).f1) ((rd_T43 l1_5 0).f2) ((rd_T43 l1_5 0).f3) ((rd_T43 l1_5 0).f4) ((rd_T43 l1_5 0).f5) ((rd_T43 l1_5 0).f1)).bind fun bt121 => (some (true, bt121.1, bt121.2))) else (none)) else (if a1_0 = 12 then (if 0 < (l1_5.length : Int) then ((inits_checker_now.f k s0_0 s0_1 s0_2 ((rd_T43 l1_5 0).f0) ((rd_T43 l1_5 0).f1) ((rd_T43 l1_5 0).f2) ((rd_T43 l1_5 0).f3) ((rd_T43 l1_5 0).f4) ((rd_T43 l1_5 0).f5) ((rd_T43 l1_5 0).f1)).bind fun bt125 => (if 1 < (l1_5.length : Int) then ((inits_checker_now.f k s0_0 bt125.1 bt125.2 ((rd_T43 l1_5 1).f0) ((rd_T43 l1_5 1).f1) ((rd_T43 l1_5 1).f2) ((rd_T43 l1_5 1).f3) ((rd_T43 l1_5 1).f4) ((rd_T43 l1_5 1).f5) ((rd_T43 l1_5 1).f1)).bind fun bt129 => (some (false, bt129.1, bt129.2))) else (none))) else (none)) else (if a1_0 = 13 then ((inits_checker_call.f k s0_0 s0_1 s0_2 a1_0 a1_1 a1_2 a1_3 a1_4 l1_5).bind fun bt131 => (some (false, bt131.1, bt131.2))) else (if a1_0 = 14 then (some (false, s0_1, s0_2)) else ((inits_checker_some.f k s0_0 s0_1 s0_2 l1_5).bind fun bt133 => (some (bt133.1, bt133.2.1, bt133.2.2))))))))) = some (r1, r2, r3) := h
 clear h
 by_cases c3 : a1_0 = 8
 ·rw [if_pos c3] at H
  have c3b0 : (a1_0 == 8) = true := beq_iff_eq.mpr c3
  have c3b1 : (a1_0 != 8) = false := bne_eq_false_iff_eq.mpr c3
  clear c3
  by_cases c4 : 0 < (l1_5.length : Int)
  ·rw [if_pos c4] at H
   have c4b0 : decide (0 < (l1_5.length : Int)) = true := decide_eq_true c4
   have c4b1 : decide (0 < l1_5.length) = true := decide_eq_true (by omega)
   clear c4
   replace H := Option.bind_eq_some_iff.mp H
   obtain ⟨⟨t109, t110⟩, A50, H⟩ := H
   replace H : (if 1 < (l1_5.length : Int) then ((inits_checker_late.f k s0_0 t109 t110 ((rd_T43 l1_5 1).f0) ((rd_T43 l1_5 1).f1) ((rd_T43 l1_5 1).f2) ((rd_T43 l1_5 1).f3) ((rd_T43 l1_5 1).f4) ((rd_T43 l1_5 1).f5)).bind fun bt112 => (some (false, bt112.2.1, bt112.2.2))) else (none)) = some (r1, r2, r3) := H
   have A5 := Aside0.mk A50
   clear A50
   by_cases c6 : 1 < (l1_5.length : Int)
   ·rw [if_pos c6] at H
    have c6b0 : decide (1 < (l1_5.length : Int)) = true := decide_eq_true c6
    have c6b1 : decide (1 < l1_5.length) = true := decide_eq_true (by omega)
    clear c6
    replace H := Option.bind_eq_some_iff.mp H
    obtain ⟨⟨t112, t113, t114⟩, A70, H⟩ := H
    replace H : (some (false, t113, t114)) = some (r1, r2, r3) := H
    have A7 := Aside0.mk A70
    clear A70
    simp only [Option.some.injEq, Prod.mk.injEq] at H
    obtain ⟨rfl, rfl, rfl⟩ := H
    go_enter Tryd.func87, Tryd.ntmps87
    try go_wp2_with (first | ((with_reducible refine gate_dst (N := 3) rfl ?_); refine box_event ?hg (N := 3) ?hd (cs := #[.int .i64 a1_0, .int .i64 a1_1, .int .i64 a1_2, .string a1_3, .bool a1_4, .slice A1_5 l1_5.length c1_5]) (t := 43) ?hr ?_; (case hd => rfl); (case hg => rfl); (case hr => first | (go_simp; done) | (go_simp; rfl)); intro gb106 hg w8 hbox hb; have n0_ := Aside0.mk (IsS114.below (by repeat (first | (with_reducible first | exact HI0.out | apply IsS114.alloc | apply IsS114.drewN | apply IsS114.drew | apply IsS114.set_1 | apply IsS114.set_2) | exact HI0.out)) hb); have n1_ := Aside0.mk (KeepBut.trans (by repeat (first | (with_reducible first | exact HK.out | apply KeepBut.set_ | apply keep_drewN | apply keep_drew | apply keep_alloc) | exact HK.out)) (KeepBut.of_below hb g none) (.inl rfl)); have n2_ := Aside0.mk (below_step (by repeat (first | (with_reducible first | exact HB.out | apply below_alloc | apply pw_below_drewN | apply below_drew1 | refine below_set ?_ (IsS114.ge HI0.out)) | exact HB.out)) hb); have n3_ := Aside0.mk (hbox); have n4_ := Aside0.mk ((by rw [hg]; exact (keep_size (w := w) (g := g) (row := none) (by repeat (first | (with_reducible first | exact HK.out | apply KeepBut.set_ | apply keep_drewN | apply keep_drew | apply keep_alloc) | exact HK.out))) : w.heap.size ≤ gb106)); have n5_ := Aside0.mk ((Nat.le_trans HW0.out (by rw [hg]; exact (keep_size (w := w) (g := g) (row := none) (by repeat (first | (with_reducible first | exact HK.out | apply KeepBut.set_ | apply keep_drewN | apply keep_drew | apply keep_alloc) | exact HK.out))) : w.heap.size ≤ gb106) : w0.heap.size ≤ gb106)); have n6_ := Aside0.mk ((by rw [hg]; exact Nat.ne_of_lt (IsS114.lt (show IsS114 w0 _ g s0_0 s0_1 s0_2 from by repeat (first | (with_reducible first | exact HI0.out | apply IsS114.alloc | apply IsS114.drewN | apply IsS114.drew | apply IsS114.set_1 | apply IsS114.set_2) | exact HI0.out))) : g ≠ gb106)); have n7_ := Aside0.mk ((by rw [hg]; exact Nat.ne_of_gt (IsS114.lt (show IsS114 w0 _ g s0_0 s0_1 s0_2 from by repeat (first | (with_reducible first | exact HI0.out | apply IsS114.alloc | apply IsS114.drewN | apply IsS114.drew | apply IsS114.set_1 | apply IsS114.set_2) | exact HI0.out))) : gb106 ≠ g)); clear HI0; clear HK; clear HB; have HI0 := n0_; have HK := n1_; have HB := n2_; have BK106 := n3_; have GW106 := n4_; have GE106 := n5_; have NB0_106 := n6_; have NB106_0 := n7_; clear n0_ n1_ n2_ n3_ n4_ n5_ n6_ n7_; clear hb hbox hg; have hnb9 := NB106_0.out; have hnc9 := NB0_106.out; have hcz10_0 : w8.cell? ⟨gb106, 0, none⟩ = some (.int .i64 a1_0) := (blk_cell BK106.out 0).trans rfl; have hcz10_1 : w8.cell? ⟨gb106, 1, none⟩ = some (.int .i64 a1_1) := (blk_cell BK106.out 1).trans rfl; have hcz10_2 : w8.cell? ⟨gb106, 2, none⟩ = some (.int .i64 a1_2) := (blk_cell BK106.out 2).trans rfl; have hcz10_3 : w8.cell? ⟨gb106, 3, none⟩ = some (.string a1_3) := (blk_cell BK106.out 3).trans rfl; have hcz10_4 : w8.cell? ⟨gb106, 4, none⟩ = some (.bool a1_4) := (blk_cell BK106.out 4).trans rfl; have hcz10_5 : w8.cell? ⟨gb106, 5, none⟩ = some (.slice A1_5 l1_5.length c1_5) := (blk_cell BK106.out 5).trans rfl; have hfz10_0 := blk_frozen BK106.out 0; have hfz10_1 := blk_frozen BK106.out 1; have hfz10_2 := blk_frozen BK106.out 2; have hfz10_3 := blk_frozen BK106.out 3; have hfz10_4 := blk_frozen BK106.out 4; have hfz10_5 := blk_frozen BK106.out 5))
    have n0_ := Aside0.mk (blk_drew BK106.out)
    have n1_ := Aside0.mk (IsS114.drew HI0.out)
    have n2_ := Aside0.mk (keep_drew HK.out)
    have n3_ := Aside0.mk (below_drew1 HB.out)
    clear BK106
    clear HI0
    clear HK
    clear HB
    have BK106 := n0_
    have HI0 := n1_
    have HK := n2_
    have HB := n3_
    clear n0_ n1_ n2_ n3_
    have p107 : 0 ≤ (0 : Int) := (by omega)
    have q107 : 0 < (l1_5.length : Int) := of_decide_eq_true (by first | (with_reducible assumption) | assumption)
    obtain ⟨ad107, A107_5, c107_5, e107, hx107_0, hx107_1, hx107_2, hx107_3, hx107_4, hx107_5, hl107_5, hi107_5⟩ := at_T43 HR1_5.out 0 p107 q107
    have hw107_5 := hx107_5
    (try rw [show ((0 : Int)).toNat = 0 from rfl] at hw107_5)
    (try rw [show 0 * 6 = 0 from rfl] at hw107_5)
    (try rw [Addr.add_zero'] at hw107_5)
    have hw107_4 := hx107_4
    (try rw [show ((0 : Int)).toNat = 0 from rfl] at hw107_4)
    (try rw [show 0 * 6 = 0 from rfl] at hw107_4)
    (try rw [Addr.add_zero'] at hw107_4)
    have hw107_3 := hx107_3
    (try rw [show ((0 : Int)).toNat = 0 from rfl] at hw107_3)
    (try rw [show 0 * 6 = 0 from rfl] at hw107_3)
    (try rw [Addr.add_zero'] at hw107_3)
    have hw107_2 := hx107_2
    (try rw [show ((0 : Int)).toNat = 0 from rfl] at hw107_2)
    (try rw [show 0 * 6 = 0 from rfl] at hw107_2)
    (try rw [Addr.add_zero'] at hw107_2)
    have hw107_1 := hx107_1
    (try rw [show ((0 : Int)).toNat = 0 from rfl] at hw107_1)
    (try rw [show 0 * 6 = 0 from rfl] at hw107_1)
    (try rw [Addr.add_zero'] at hw107_1)
    have hw107_0 := hx107_0
    (try rw [show ((0 : Int)).toNat = 0 from rfl] at hw107_0)
    (try rw [show 0 * 6 = 0 from rfl] at hw107_0)
    (try rw [Addr.add_zero'] at hw107_0)
    cases e107
    have qi107 : (0 < l1_5.length) = True := eq_true (by omega)
    (try rw [show ((0 : Int)).toNat = 0 from rfl] at hx107_0)
    (try rw [show 0 * 6 = 0 from rfl] at hx107_0)
    (try rw [Addr.add_zero'] at hx107_0)
    (try rw [show ((0 : Int)).toNat = 0 from rfl] at hx107_1)
    (try rw [show 0 * 6 = 0 from rfl] at hx107_1)
    (try rw [Addr.add_zero'] at hx107_1)
    (try rw [show ((0 : Int)).toNat = 0 from rfl] at hx107_2)
    (try rw [show 0 * 6 = 0 from rfl] at hx107_2)
    (try rw [Addr.add_zero'] at hx107_2)
    (try rw [show ((0 : Int)).toNat = 0 from rfl] at hx107_3)
    (try rw [show 0 * 6 = 0 from rfl] at hx107_3)
    (try rw [Addr.add_zero'] at hx107_3)
    (try rw [show ((0 : Int)).toNat = 0 from rfl] at hx107_4)
    (try rw [show 0 * 6 = 0 from rfl] at hx107_4)
    (try rw [Addr.add_zero'] at hx107_4)
    (try rw [show ((0 : Int)).toNat = 0 from rfl] at hx107_5)
    (try rw [show 0 * 6 = 0 from rfl] at hx107_5)
    (try rw [Addr.add_zero'] at hx107_5)
    replace hx107_0 := pw_cell_below HB.out hx107_0
    replace hx107_1 := pw_cell_below HB.out hx107_1
    replace hx107_2 := pw_cell_below HB.out hx107_2
    replace hx107_3 := pw_cell_below HB.out hx107_3
    replace hx107_4 := pw_cell_below HB.out hx107_4
    replace hx107_5 := pw_cell_below HB.out hx107_5
    have HR107_5 := Aside0.mk hi107_5
    have HC107_5 := Aside0.mk hl107_5
    clear hi107_5 hl107_5
    replace p107 := eq_true p107
    replace q107 := eq_true q107
    have p108 : 0 ≤ (0 : Int) := (by omega)
    have q108 : 0 < (l1_5.length : Int) := of_decide_eq_true (by first | (with_reducible assumption) | assumption)
    obtain ⟨ad108, A108_5, c108_5, e108, hx108_0, hx108_1, hx108_2, hx108_3, hx108_4, hx108_5, hl108_5, hi108_5⟩ := at_T43 HR1_5.out 0 p108 q108
    have hw108_5 := hx108_5
    (try rw [show ((0 : Int)).toNat = 0 from rfl] at hw108_5)
    (try rw [show 0 * 6 = 0 from rfl] at hw108_5)
    (try rw [Addr.add_zero'] at hw108_5)
    have hw108_4 := hx108_4
    (try rw [show ((0 : Int)).toNat = 0 from rfl] at hw108_4)
    (try rw [show 0 * 6 = 0 from rfl] at hw108_4)
    (try rw [Addr.add_zero'] at hw108_4)
    have hw108_3 := hx108_3
    (try rw [show ((0 : Int)).toNat = 0 from rfl] at hw108_3)
    (try rw [show 0 * 6 = 0 from rfl] at hw108_3)
    (try rw [Addr.add_zero'] at hw108_3)
    have hw108_2 := hx108_2
    (try rw [show ((0 : Int)).toNat = 0 from rfl] at hw108_2)
    (try rw [show 0 * 6 = 0 from rfl] at hw108_2)
    (try rw [Addr.add_zero'] at hw108_2)
    have hw108_1 := hx108_1
    (try rw [show ((0 : Int)).toNat = 0 from rfl] at hw108_1)
    (try rw [show 0 * 6 = 0 from rfl] at hw108_1)
    (try rw [Addr.add_zero'] at hw108_1)
    have hw108_0 := hx108_0
    (try rw [show ((0 : Int)).toNat = 0 from rfl] at hw108_0)
    (try rw [show 0 * 6 = 0 from rfl] at hw108_0)
    (try rw [Addr.add_zero'] at hw108_0)
    obtain rfl : ad107 = ad108 := (by injection e108)
    have qi108 : (0 < l1_5.length) = True := eq_true (by omega)
    (try rw [show ((0 : Int)).toNat = 0 from rfl] at hx108_0)
    (try rw [show 0 * 6 = 0 from rfl] at hx108_0)
    (try rw [Addr.add_zero'] at hx108_0)
    (try rw [show ((0 : Int)).toNat = 0 from rfl] at hx108_1)
    (try rw [show 0 * 6 = 0 from rfl] at hx108_1)
    (try rw [Addr.add_zero'] at hx108_1)
    (try rw [show ((0 : Int)).toNat = 0 from rfl] at hx108_2)
    (try rw [show 0 * 6 = 0 from rfl] at hx108_2)
    (try rw [Addr.add_zero'] at hx108_2)
    (try rw [show ((0 : Int)).toNat = 0 from rfl] at hx108_3)
    (try rw [show 0 * 6 = 0 from rfl] at hx108_3)
    (try rw [Addr.add_zero'] at hx108_3)
    (try rw [show ((0 : Int)).toNat = 0 from rfl] at hx108_4)
    (try rw [show 0 * 6 = 0 from rfl] at hx108_4)
    (try rw [Addr.add_zero'] at hx108_4)
    (try rw [show ((0 : Int)).toNat = 0 from rfl] at hx108_5)
    (try rw [show 0 * 6 = 0 from rfl] at hx108_5)
    (try rw [Addr.add_zero'] at hx108_5)
    replace hx108_0 := pw_cell_below HB.out hx108_0
    replace hx108_1 := pw_cell_below HB.out hx108_1
    replace hx108_2 := pw_cell_below HB.out hx108_2
    replace hx108_3 := pw_cell_below HB.out hx108_3
    replace hx108_4 := pw_cell_below HB.out hx108_4
    replace hx108_5 := pw_cell_below HB.out hx108_5
    have HR108_5 := Aside0.mk hi108_5
    have HC108_5 := Aside0.mk hl108_5
    clear hi108_5 hl108_5
    replace p108 := eq_true p108
    replace q108 := eq_true q108
    have ea_ := Option.some.inj (hx107_5.symm.trans hx108_5)
    injection ea_ with ea_ en_ ec_
    subst ea_
    subst ec_
    clear en_
    refine start_ (n := 11) (S := fun w' => w'.cell? ⟨gb106, 0, none⟩ = some (.int .i64 a1_0) ∧ w'.cell? ⟨gb106, 1, none⟩ = some (.int .i64 a1_1) ∧ w'.cell? ⟨gb106, 2, none⟩ = some (.int .i64 a1_2) ∧ w'.cell? ⟨gb106, 3, none⟩ = some (.string a1_3) ∧ w'.cell? ⟨gb106, 4, none⟩ = some (.bool a1_4) ∧ w'.cell? ⟨gb106, 5, none⟩ = some (.slice (some ad107) l1_5.length c1_5) ∧ w'.cell? ad107 = some (.int .i64 ((rd_T43 l1_5 0).f0)) ∧ w'.cell? ⟨ad107.block, ad107.off + 1, none⟩ = some (.int .i64 ((rd_T43 l1_5 0).f1)) ∧ w'.cell? ⟨ad107.block, ad107.off + 2, none⟩ = some (.int .i64 ((rd_T43 l1_5 0).f2)) ∧ w'.cell? ⟨ad107.block, ad107.off + 3, none⟩ = some (.string ((rd_T43 l1_5 0).f3)) ∧ w'.cell? ⟨ad107.block, ad107.off + 4, none⟩ = some (.bool ((rd_T43 l1_5 0).f4)) ∧ w'.cell? ⟨ad107.block, ad107.off + 5, none⟩ = some (.slice A107_5 ((rd_T43 l1_5 0).f5).length c107_5) ∧ w'.cell? ad107 = some (.int .i64 ((rd_T43 l1_5 0).f0)) ∧ w'.cell? ⟨ad107.block, ad107.off + 1, none⟩ = some (.int .i64 ((rd_T43 l1_5 0).f1)) ∧ w'.cell? ⟨ad107.block, ad107.off + 2, none⟩ = some (.int .i64 ((rd_T43 l1_5 0).f2)) ∧ w'.cell? ⟨ad107.block, ad107.off + 3, none⟩ = some (.string ((rd_T43 l1_5 0).f3)) ∧ w'.cell? ⟨ad107.block, ad107.off + 4, none⟩ = some (.bool ((rd_T43 l1_5 0).f4)) ∧ w'.cell? ⟨ad107.block, ad107.off + 5, none⟩ = some (.slice A107_5 ((rd_T43 l1_5 0).f5).length c107_5)) (ds := []) #[false, false, false, false, false, false, false, false, false, false, false] (by kernel_rfl) rfl rfl ⟨(blk_cell BK106.out 0).trans rfl, (blk_cell BK106.out 1).trans rfl, (blk_cell BK106.out 2).trans rfl, (blk_cell BK106.out 3).trans rfl, (blk_cell BK106.out 4).trans rfl, (blk_cell BK106.out 5).trans rfl, (pw_cell_below HB.out hw107_0), (pw_cell_below HB.out hw107_1), (pw_cell_below HB.out hw107_2), (pw_cell_below HB.out hw107_3), (pw_cell_below HB.out hw107_4), (pw_cell_below HB.out hw107_5), (pw_cell_below HB.out hw108_0), (pw_cell_below HB.out hw108_1), (pw_cell_below HB.out hw108_2), (pw_cell_below HB.out hw108_3), (pw_cell_below HB.out hw108_4), (pw_cell_below HB.out hw108_5)⟩ (fun hHeld => ?_); refine with_tabW inits_checker_late.tab3 inits_checker_late.bits3 (fun HT_ HW_ => ?_)
    generalize w8.drew = w11 at BK106 HI0 HK HB HR107_5 HR108_5 hx107_0 hx107_1 hx107_2 hx107_3 hx107_4 hx107_5 hx108_0 hx108_1 hx108_2 hx108_3 hx108_4 hx108_5 hHeld ⊢
    refine pure_ (i := 0) (N := some 9) (v := ?_) (a' := ?_) #[true, false, false, false, false, false, false, false, false, false, false] rfl rfl (any_of HT_.out (by kernel_rfl)) (fun _ _ _ h => h) (Or.inl ⟨by rfl, ?_⟩) ?_ ?_
    rotate_left
    ·intro w'
     go_simp
     with_reducible rfl
    rotate_left
    ·simp only [Act.put, List.setIfInBounds_toArray, List.set_cons_zero, List.set_cons_succ, i64_w, i32_w]
     rfl
    refine pure_ (i := 1) (N := some 10) (v := ?_) (a' := ?_) #[true, true, false, false, false, false, false, false, false, false, false] rfl rfl (any_of HT_.out (by kernel_rfl)) (fun _ _ _ h => h) (Or.inl ⟨by rfl, ?_⟩) ?_ ?_
    rotate_left
    ·intro w'
     go_simp
     with_reducible rfl
    rotate_left
    ·simp only [Act.put, List.setIfInBounds_toArray, List.set_cons_zero, List.set_cons_succ, i64_w, i32_w]
     rfl
    refine pure_ (i := 5) (N := some 14) (v := ?_) (a' := ?_) #[true, true, false, false, false, true, false, false, false, false, false] rfl rfl (any_of HT_.out (by kernel_rfl)) (fun _ _ _ h => h) (Or.inl ⟨by rfl, ?_⟩) ?_ ?_
    rotate_left
    ·intro w'
     go_simp
     with_reducible rfl
    rotate_left
    ·simp only [Act.put, List.setIfInBounds_toArray, List.set_cons_zero, List.set_cons_succ, i64_w, i32_w]
     rfl
    refine take_ (i := 2) (N := some 11) (v := ?_) (a' := ?_) #[true, true, true, false, false, true, false, false, false, false, false] rfl rfl (take_ofW HT_.out HW_.out (by kernel_rfl)) (fun _ _ _ h => h) (Or.inl ⟨by rfl, ?_⟩) hHeld ?_ ?_
    rotate_left
    ·rintro w' ⟨s0, s1, s2, s3, s4, s5, s6, s7, s8, s9, s10, s11, s12, s13, s14, s15, s16, s17⟩
     go_simp
     with_reducible rfl
    rotate_left
    ·simp only [Act.put, List.setIfInBounds_toArray, List.set_cons_zero, List.set_cons_succ, i64_w, i32_w]
     rfl
    refine pure_ (i := 3) (N := some 12) (v := ?_) (a' := ?_) #[true, true, true, true, false, true, false, false, false, false, false] rfl rfl (any_of HT_.out (by kernel_rfl)) (fun _ _ _ h => h) (Or.inl ⟨by rfl, ?_⟩) ?_ ?_
    rotate_left
    ·intro w'
     go_simp
     with_reducible rfl
    rotate_left
    ·simp only [Act.put, List.setIfInBounds_toArray, List.set_cons_zero, List.set_cons_succ, i64_w, i32_w]
     rfl
    refine take_ (i := 4) (N := some 13) (v := ?_) (a' := ?_) #[true, true, true, true, true, true, false, false, false, false, false] rfl rfl (take_ofW HT_.out HW_.out (by kernel_rfl)) (fun _ _ _ h => h) (Or.inl ⟨by rfl, ?_⟩) hHeld ?_ ?_
    rotate_left
    ·rintro w' ⟨s0, s1, s2, s3, s4, s5, s6, s7, s8, s9, s10, s11, s12, s13, s14, s15, s16, s17⟩
     go_simp
     with_reducible rfl
    rotate_left
    ·simp only [Act.put, List.setIfInBounds_toArray, List.set_cons_zero, List.set_cons_succ, i64_w, i32_w]
     rfl
    refine take_ (i := 6) (N := some 15) (v := ?_) (a' := ?_) #[true, true, true, true, true, true, true, false, false, false, false] rfl rfl (take_ofW HT_.out HW_.out (by kernel_rfl)) (fun _ _ _ h => h) (Or.inl ⟨by rfl, ?_⟩) hHeld ?_ ?_
    rotate_left
    ·rintro w' ⟨s0, s1, s2, s3, s4, s5, s6, s7, s8, s9, s10, s11, s12, s13, s14, s15, s16, s17⟩
     go_simp
     with_reducible rfl
    rotate_left
    ·simp only [Act.put, List.setIfInBounds_toArray, List.set_cons_zero, List.set_cons_succ, i64_w, i32_w]
     rfl
    refine pure_ (i := 7) (N := some 16) (v := ?_) (a' := ?_) #[true, true, true, true, true, true, true, true, false, false, false] rfl rfl (any_of HT_.out (by kernel_rfl)) (fun _ _ _ h => h) (Or.inl ⟨by rfl, ?_⟩) ?_ ?_
    rotate_left
    ·intro w'
     go_simp
     with_reducible rfl
    rotate_left
    ·simp only [Act.put, List.setIfInBounds_toArray, List.set_cons_zero, List.set_cons_succ, i64_w, i32_w]
     rfl
    refine pure_ (i := 8) (N := some 17) (v := ?_) (a' := ?_) #[true, true, true, true, true, true, true, true, true, false, false] rfl rfl (any_of HT_.out (by kernel_rfl)) (fun _ _ _ h => h) (Or.inl ⟨by rfl, ?_⟩) ?_ ?_
    rotate_left
    ·intro w'
     go_simp
     with_reducible rfl
    rotate_left
    ·simp only [Act.put, List.setIfInBounds_toArray, List.set_cons_zero, List.set_cons_succ, i64_w, i32_w]
     rfl
    refine take_ (i := 9) (N := some 18) (v := ?_) (a' := ?_) #[true, true, true, true, true, true, true, true, true, true, false] rfl rfl (take_ofW HT_.out HW_.out (by kernel_rfl)) (fun _ _ _ h => h) (Or.inl ⟨by rfl, ?_⟩) hHeld ?_ ?_
    rotate_left
    ·rintro w' ⟨s0, s1, s2, s3, s4, s5, s6, s7, s8, s9, s10, s11, s12, s13, s14, s15, s16, s17⟩
     go_simp
     with_reducible rfl
    rotate_left
    ·simp only [Act.put, List.setIfInBounds_toArray, List.set_cons_zero, List.set_cons_succ, i64_w, i32_w]
     rfl
    refine one_ (i := 10) (N := some 19) #[true, true, true, true, true, true, true, true, true, true, true] rfl rfl (one_of HT_.out (by kernel_rfl)) (by decide) (fun K hK => ?_)
    refine goes_ Tryd.func53 (by kernel_rfl) rfl #[.pointer (some ⟨g, 0, none⟩), .agg #[.int .i64 ((rd_T43 l1_5 0).f0), .int .i64 ((rd_T43 l1_5 0).f1), .int .i64 ((rd_T43 l1_5 0).f2), .string ((rd_T43 l1_5 0).f3), .bool ((rd_T43 l1_5 0).f4), .slice A107_5 ((rd_T43 l1_5 0).f5).length c107_5], .int .i64 ((rd_T43 l1_5 0).f1)] (by rfl) rfl rfl (by (try simp only [List.map_toArray, List.map_cons, List.map_nil]); first | done | rfl | (simp only [List.length_drop, List.length_take]; rfl)) ?_
    with_reducible refine (ih_53 k (by omega) g s0_0 s0_1 s0_2 ((rd_T43 l1_5 0).f0) ((rd_T43 l1_5 0).f1) ((rd_T43 l1_5 0).f2) ((rd_T43 l1_5 0).f3) ((rd_T43 l1_5 0).f4) _ _ ((rd_T43 l1_5 0).f5) ((rd_T43 l1_5 0).f1) t109 t110 w0 _ ?side1 ?side2 ?side3 ?side4 A5.out).mono ?_
    (case side1 => repeat (first | (with_reducible first | exact HI0.out | apply IsS114.alloc | apply IsS114.drewN | apply IsS114.drew | apply IsS114.set_1 | apply IsS114.set_2 | refine IsS114.far ?_ NB0_106.out _) | exact HI0.out))
    (case side2 => repeat (first | (with_reducible first | exact HB.out | apply below_alloc | apply pw_below_drewN | apply below_drew1 | refine below_set ?_ (IsS114.ge HI0.out) | refine below_set ?_ GE106.out) | exact HB.out))
    (case side3 => exact HR107_5.out)
    (case side4 => exact HC107_5.out)
    rintro e w12 ⟨rfl, hi, hb, hk⟩
    refine ⟨_, rfl, ?_⟩
    have n0_ := Aside0.mk (KeepBut.blk hk (g' := gb106) (o := .cells #[.int .i64 a1_0, .int .i64 a1_1, .int .i64 a1_2, .string a1_3, .bool a1_4, .slice (some ad107) l1_5.length c1_5] 43 (0, 0)) (by (with_reducible repeat (first | refine blk_drewN ?_ _ | refine blk_drew ?_ | refine blk_alloc ?_ _)); exact BK106.out) NB106_0.out (by simp))
    have n1_ := Aside0.mk (KeepBut.trans (by repeat (first | (with_reducible first | exact HK.out | apply KeepBut.set_ | apply keep_drewN | apply keep_drew | apply keep_alloc | refine keep_far ?_ GW106.out _) | exact HK.out)) hk (.inl rfl))
    have n2_ := Aside0.mk (hb)
    have n3_ := Aside0.mk (hi)
    clear BK106
    clear HK
    clear HB
    clear HI0
    have BK106 := n0_
    have HK := n1_
    have HB := n2_
    have HI0 := n3_
    clear n0_ n1_ n2_ n3_
    (try clear hb)
    (try clear hb2)
    (try clear hk)
    (try clear hi)
    refine hK.out _ _ ⟨(blk_cell BK106.out 0).trans rfl, (blk_cell BK106.out 1).trans rfl, (blk_cell BK106.out 2).trans rfl, (blk_cell BK106.out 3).trans rfl, (blk_cell BK106.out 4).trans rfl, (blk_cell BK106.out 5).trans rfl, (pw_cell_below HB.out hw107_0), (pw_cell_below HB.out hw107_1), (pw_cell_below HB.out hw107_2), (pw_cell_below HB.out hw107_3), (pw_cell_below HB.out hw107_4), (pw_cell_below HB.out hw107_5), (pw_cell_below HB.out hw108_0), (pw_cell_below HB.out hw108_1), (pw_cell_below HB.out hw108_2), (pw_cell_below HB.out hw108_3), (pw_cell_below HB.out hw108_4), (pw_cell_below HB.out hw108_5)⟩ (fun hHeld => ?_)
    clear hK K
    refine norm_ (a' := ?_) ?_ ?_
    rotate_left
    ·show Act.put _ (some 19) _ = _
     simp only [Act.put, List.setIfInBounds_toArray, List.set_cons_zero, List.set_cons_succ, i64_w, i32_w]
     rfl
    refine done_ (done_of HT_.out (by kernel_rfl)) ?_
    have hcz13_0 : w12.cell? ⟨gb106, 0, none⟩ = some (.int .i64 a1_0) := (blk_cell BK106.out 0).trans rfl
    have hcz13_1 : w12.cell? ⟨gb106, 1, none⟩ = some (.int .i64 a1_1) := (blk_cell BK106.out 1).trans rfl
    have hcz13_2 : w12.cell? ⟨gb106, 2, none⟩ = some (.int .i64 a1_2) := (blk_cell BK106.out 2).trans rfl
    have hcz13_3 : w12.cell? ⟨gb106, 3, none⟩ = some (.string a1_3) := (blk_cell BK106.out 3).trans rfl
    have hcz13_4 : w12.cell? ⟨gb106, 4, none⟩ = some (.bool a1_4) := (blk_cell BK106.out 4).trans rfl
    have hcz13_5 : w12.cell? ⟨gb106, 5, none⟩ = some (.slice (some ad107) l1_5.length c1_5) := (blk_cell BK106.out 5).trans rfl
    have hfz13_0 := blk_frozen BK106.out 0
    have hfz13_1 := blk_frozen BK106.out 1
    have hfz13_2 := blk_frozen BK106.out 2
    have hfz13_3 := blk_frozen BK106.out 3
    have hfz13_4 := blk_frozen BK106.out 4
    have hfz13_5 := blk_frozen BK106.out 5
    have p111 : 0 ≤ (1 : Int) := (by omega)
    have q111 : 1 < (l1_5.length : Int) := of_decide_eq_true (by first | (with_reducible assumption) | assumption)
    obtain ⟨ad111, A111_5, c111_5, e111, hx111_0, hx111_1, hx111_2, hx111_3, hx111_4, hx111_5, hl111_5, hi111_5⟩ := at_T43 HR1_5.out 1 p111 q111
    obtain rfl : ad107 = ad111 := (by injection e111)
    (try simp only [show (1 : Int).toNat = 1 from rfl, Nat.reduceMul, Nat.reduceEqDiff, Go.Addr.add, ↓reduceIte] at hx111_0)
    (try simp only [show (1 : Int).toNat = 1 from rfl, Nat.reduceMul, Nat.reduceEqDiff, Go.Addr.add, ↓reduceIte] at hx111_1)
    (try simp only [show (1 : Int).toNat = 1 from rfl, Nat.reduceMul, Nat.reduceEqDiff, Go.Addr.add, ↓reduceIte] at hx111_2)
    (try simp only [show (1 : Int).toNat = 1 from rfl, Nat.reduceMul, Nat.reduceEqDiff, Go.Addr.add, ↓reduceIte] at hx111_3)
    (try simp only [show (1 : Int).toNat = 1 from rfl, Nat.reduceMul, Nat.reduceEqDiff, Go.Addr.add, ↓reduceIte] at hx111_4)
    (try simp only [show (1 : Int).toNat = 1 from rfl, Nat.reduceMul, Nat.reduceEqDiff, Go.Addr.add, ↓reduceIte] at hx111_5)
    have qi111 : (1 < l1_5.length) = True := eq_true (by omega)
    (try rw [show ((1 : Int)).toNat = 1 from rfl] at hx111_0)
    (try rw [show 1 * 6 = 6 from rfl] at hx111_0)
    (try rw [show ((1 : Int)).toNat = 1 from rfl] at hx111_1)
    (try rw [show 1 * 6 = 6 from rfl] at hx111_1)
    (try rw [show ((1 : Int)).toNat = 1 from rfl] at hx111_2)
    (try rw [show 1 * 6 = 6 from rfl] at hx111_2)
    (try rw [show ((1 : Int)).toNat = 1 from rfl] at hx111_3)
    (try rw [show 1 * 6 = 6 from rfl] at hx111_3)
    (try rw [show ((1 : Int)).toNat = 1 from rfl] at hx111_4)
    (try rw [show 1 * 6 = 6 from rfl] at hx111_4)
    (try rw [show ((1 : Int)).toNat = 1 from rfl] at hx111_5)
    (try rw [show 1 * 6 = 6 from rfl] at hx111_5)
    replace hx111_0 := pw_cell_below HB.out hx111_0
    replace hx111_1 := pw_cell_below HB.out hx111_1
    replace hx111_2 := pw_cell_below HB.out hx111_2
    replace hx111_3 := pw_cell_below HB.out hx111_3
    replace hx111_4 := pw_cell_below HB.out hx111_4
    replace hx111_5 := pw_cell_below HB.out hx111_5
    have HR111_5 := Aside0.mk hi111_5
    have HC111_5 := Aside0.mk hl111_5
    clear hi111_5 hl111_5
    replace p111 := eq_true p111
    replace q111 := eq_true q111
    try go_wp2_with (first | ((with_reducible refine gate_callee (f := 87) rfl ?_); refine goesL_ (some 25) rfl rfl Tryd.func87 (by kernel_rfl) rfl #[.pointer (some ⟨g, 0, none⟩), .agg #[.int .i64 ((rd_T43 l1_5 1).f0), .int .i64 ((rd_T43 l1_5 1).f1), .int .i64 ((rd_T43 l1_5 1).f2), .string ((rd_T43 l1_5 1).f3), .bool ((rd_T43 l1_5 1).f4), .slice A111_5 ((rd_T43 l1_5 1).f5).length c111_5]] rfl (by (try simp only [List.map_toArray, List.map_cons, List.map_nil]); first | done | rfl | (simp only [List.length_drop, List.length_take]; rfl)) ?_; (with_reducible refine (ih_87 k (by omega) g s0_0 t109 t110 ((rd_T43 l1_5 1).f0) ((rd_T43 l1_5 1).f1) ((rd_T43 l1_5 1).f2) ((rd_T43 l1_5 1).f3) ((rd_T43 l1_5 1).f4) _ _ ((rd_T43 l1_5 1).f5) t112 t113 t114 w0 _ ?side1 ?side2 ?side3 ?side4 A7.out).mono ?_); (case side1 => repeat (first | (with_reducible first | exact HI0.out | apply IsS114.alloc | apply IsS114.drewN | apply IsS114.drew | apply IsS114.set_1 | apply IsS114.set_2 | refine IsS114.far ?_ NB0_106.out _) | exact HI0.out)); (case side2 => repeat (first | (with_reducible first | exact HB.out | apply below_alloc | apply pw_below_drewN | apply below_drew1 | refine below_set ?_ (IsS114.ge HI0.out) | refine below_set ?_ GE106.out) | exact HB.out)); (case side3 => exact HR111_5.out); (case side4 => exact HC111_5.out); rintro e w14 ⟨rfl, hi, hb, hk⟩; refine ⟨_, rfl, ?_⟩; have n0_ := Aside0.mk (KeepBut.blk hk (g' := gb106) (o := .cells #[.int .i64 a1_0, .int .i64 a1_1, .int .i64 a1_2, .string a1_3, .bool a1_4, .slice (some ad107) l1_5.length c1_5] 43 (0, 0)) (by (with_reducible repeat (first | refine blk_drewN ?_ _ | refine blk_drew ?_ | refine blk_alloc ?_ _)); exact BK106.out) NB106_0.out (by simp)); have n1_ := Aside0.mk (KeepBut.trans (by repeat (first | (with_reducible first | exact HK.out | apply KeepBut.set_ | apply keep_drewN | apply keep_drew | apply keep_alloc | refine keep_far ?_ GW106.out _) | exact HK.out)) hk (.inl rfl)); have n2_ := Aside0.mk (hb); have n3_ := Aside0.mk (hi); clear BK106; clear HK; clear HB; clear HI0; have BK106 := n0_; have HK := n1_; have HB := n2_; have HI0 := n3_; clear n0_ n1_ n2_ n3_; (try clear hb); (try clear hb2); (try clear hk); (try clear hi)))
    go_ret
    exact ⟨by first | rfl | (simp [errW_none, errW_some] <;> rfl) | (simp [*, errW_none, errW_some] <;> rfl), by repeat (first | (with_reducible first | exact HI0.out | apply IsS114.alloc | apply IsS114.drewN | apply IsS114.drew | apply IsS114.set_1 | apply IsS114.set_2 | refine IsS114.far ?_ NB0_106.out _) | exact HI0.out), by repeat (first | (with_reducible first | exact HB.out | apply below_alloc | apply pw_below_drewN | apply below_drew1 | refine below_set ?_ (IsS114.ge HI0.out) | refine below_set ?_ GE106.out) | exact HB.out), by repeat (first | (with_reducible first | exact HK.out | apply KeepBut.set_ | apply keep_drewN | apply keep_drew | apply keep_alloc | refine keep_far ?_ GW106.out _) | exact HK.out)⟩
   ·rw [if_neg c6] at H
    exact absurd H (by simp)
  ·rw [if_neg c4] at H
   exact absurd H (by simp)
 ·rw [if_neg c3] at H
  have c3b0 : (a1_0 == 8) = false := beq_eq_false_iff_ne.mpr c3
  have c3b1 : (a1_0 != 8) = true := bne_iff_ne.mpr c3
  by_cases c15 : a1_0 = 9
  ·rw [if_pos c15] at H
   have c15b0 : (a1_0 == 9) = true := beq_iff_eq.mpr c15
   have c15b1 : (a1_0 != 9) = false := bne_eq_false_iff_eq.mpr c15
   clear c15
   by_cases c16 : 1 < (l1_5.length : Int)
   ·rw [if_pos c16] at H
    have c16b0 : decide (1 < (l1_5.length : Int)) = true := decide_eq_true c16
    have c16b1 : decide (1 < l1_5.length) = true := decide_eq_true (by omega)
    clear c16
    replace H := Option.bind_eq_some_iff.mp H
    obtain ⟨⟨t117, t118⟩, A170, H⟩ := H
    replace H : (some (false, t117, t118)) = some (r1, r2, r3) := H
    have A17 := Aside0.mk A170
    clear A170
    simp only [Option.some.injEq, Prod.mk.injEq] at H
    obtain ⟨rfl, rfl, rfl⟩ := H
    go_enter Tryd.func87, Tryd.ntmps87
    try go_wp2_with (first | ((with_reducible refine gate_dst (N := 3) rfl ?_); refine box_event ?hg (N := 3) ?hd (cs := #[.int .i64 a1_0, .int .i64 a1_1, .int .i64 a1_2, .string a1_3, .bool a1_4, .slice A1_5 l1_5.length c1_5]) (t := 43) ?hr ?_; (case hd => rfl); (case hg => rfl); (case hr => first | (go_simp; done) | (go_simp; rfl)); intro gb106 hg w18 hbox hb; have n0_ := Aside0.mk (IsS114.below (by repeat (first | (with_reducible first | exact HI0.out | apply IsS114.alloc | apply IsS114.drewN | apply IsS114.drew | apply IsS114.set_1 | apply IsS114.set_2) | exact HI0.out)) hb); have n1_ := Aside0.mk (KeepBut.trans (by repeat (first | (with_reducible first | exact HK.out | apply KeepBut.set_ | apply keep_drewN | apply keep_drew | apply keep_alloc) | exact HK.out)) (KeepBut.of_below hb g none) (.inl rfl)); have n2_ := Aside0.mk (below_step (by repeat (first | (with_reducible first | exact HB.out | apply below_alloc | apply pw_below_drewN | apply below_drew1 | refine below_set ?_ (IsS114.ge HI0.out)) | exact HB.out)) hb); have n3_ := Aside0.mk (hbox); have n4_ := Aside0.mk ((by rw [hg]; exact (keep_size (w := w) (g := g) (row := none) (by repeat (first | (with_reducible first | exact HK.out | apply KeepBut.set_ | apply keep_drewN | apply keep_drew | apply keep_alloc) | exact HK.out))) : w.heap.size ≤ gb106)); have n5_ := Aside0.mk ((Nat.le_trans HW0.out (by rw [hg]; exact (keep_size (w := w) (g := g) (row := none) (by repeat (first | (with_reducible first | exact HK.out | apply KeepBut.set_ | apply keep_drewN | apply keep_drew | apply keep_alloc) | exact HK.out))) : w.heap.size ≤ gb106) : w0.heap.size ≤ gb106)); have n6_ := Aside0.mk ((by rw [hg]; exact Nat.ne_of_lt (IsS114.lt (show IsS114 w0 _ g s0_0 s0_1 s0_2 from by repeat (first | (with_reducible first | exact HI0.out | apply IsS114.alloc | apply IsS114.drewN | apply IsS114.drew | apply IsS114.set_1 | apply IsS114.set_2) | exact HI0.out))) : g ≠ gb106)); have n7_ := Aside0.mk ((by rw [hg]; exact Nat.ne_of_gt (IsS114.lt (show IsS114 w0 _ g s0_0 s0_1 s0_2 from by repeat (first | (with_reducible first | exact HI0.out | apply IsS114.alloc | apply IsS114.drewN | apply IsS114.drew | apply IsS114.set_1 | apply IsS114.set_2) | exact HI0.out))) : gb106 ≠ g)); clear HI0; clear HK; clear HB; have HI0 := n0_; have HK := n1_; have HB := n2_; have BK106 := n3_; have GW106 := n4_; have GE106 := n5_; have NB0_106 := n6_; have NB106_0 := n7_; clear n0_ n1_ n2_ n3_ n4_ n5_ n6_ n7_; clear hb hbox hg; have hnb19 := NB106_0.out; have hnc19 := NB0_106.out; have hcz20_0 : w18.cell? ⟨gb106, 0, none⟩ = some (.int .i64 a1_0) := (blk_cell BK106.out 0).trans rfl; have hcz20_1 : w18.cell? ⟨gb106, 1, none⟩ = some (.int .i64 a1_1) := (blk_cell BK106.out 1).trans rfl; have hcz20_2 : w18.cell? ⟨gb106, 2, none⟩ = some (.int .i64 a1_2) := (blk_cell BK106.out 2).trans rfl; have hcz20_3 : w18.cell? ⟨gb106, 3, none⟩ = some (.string a1_3) := (blk_cell BK106.out 3).trans rfl; have hcz20_4 : w18.cell? ⟨gb106, 4, none⟩ = some (.bool a1_4) := (blk_cell BK106.out 4).trans rfl; have hcz20_5 : w18.cell? ⟨gb106, 5, none⟩ = some (.slice A1_5 l1_5.length c1_5) := (blk_cell BK106.out 5).trans rfl; have hfz20_0 := blk_frozen BK106.out 0; have hfz20_1 := blk_frozen BK106.out 1; have hfz20_2 := blk_frozen BK106.out 2; have hfz20_3 := blk_frozen BK106.out 3; have hfz20_4 := blk_frozen BK106.out 4; have hfz20_5 := blk_frozen BK106.out 5))
    have n0_ := Aside0.mk (blk_drew BK106.out)
    have n1_ := Aside0.mk (IsS114.drew HI0.out)
    have n2_ := Aside0.mk (keep_drew HK.out)
    have n3_ := Aside0.mk (below_drew1 HB.out)
    clear BK106
    clear HI0
    clear HK
    clear HB
    have BK106 := n0_
    have HI0 := n1_
    have HK := n2_
    have HB := n3_
    clear n0_ n1_ n2_ n3_
    have p115 : 0 ≤ (1 : Int) := (by omega)
    have q115 : 1 < (l1_5.length : Int) := of_decide_eq_true (by first | (with_reducible assumption) | assumption)
    obtain ⟨ad115, A115_5, c115_5, e115, hx115_0, hx115_1, hx115_2, hx115_3, hx115_4, hx115_5, hl115_5, hi115_5⟩ := at_T43 HR1_5.out 1 p115 q115
    have hw115_5 := hx115_5
    (try rw [show ((1 : Int)).toNat = 1 from rfl] at hw115_5)
    (try rw [show 1 * 6 = 6 from rfl] at hw115_5)
    (try simp only [Nat.reduceMul, Nat.reduceEqDiff, Go.Addr.add, ↓reduceIte] at hw115_5)
    have hw115_4 := hx115_4
    (try rw [show ((1 : Int)).toNat = 1 from rfl] at hw115_4)
    (try rw [show 1 * 6 = 6 from rfl] at hw115_4)
    (try simp only [Nat.reduceMul, Nat.reduceEqDiff, Go.Addr.add, ↓reduceIte] at hw115_4)
    have hw115_3 := hx115_3
    (try rw [show ((1 : Int)).toNat = 1 from rfl] at hw115_3)
    (try rw [show 1 * 6 = 6 from rfl] at hw115_3)
    (try simp only [Nat.reduceMul, Nat.reduceEqDiff, Go.Addr.add, ↓reduceIte] at hw115_3)
    have hw115_2 := hx115_2
    (try rw [show ((1 : Int)).toNat = 1 from rfl] at hw115_2)
    (try rw [show 1 * 6 = 6 from rfl] at hw115_2)
    (try simp only [Nat.reduceMul, Nat.reduceEqDiff, Go.Addr.add, ↓reduceIte] at hw115_2)
    have hw115_1 := hx115_1
    (try rw [show ((1 : Int)).toNat = 1 from rfl] at hw115_1)
    (try rw [show 1 * 6 = 6 from rfl] at hw115_1)
    (try simp only [Nat.reduceMul, Nat.reduceEqDiff, Go.Addr.add, ↓reduceIte] at hw115_1)
    have hw115_0 := hx115_0
    (try rw [show ((1 : Int)).toNat = 1 from rfl] at hw115_0)
    (try rw [show 1 * 6 = 6 from rfl] at hw115_0)
    (try simp only [Nat.reduceMul, Nat.reduceEqDiff, Go.Addr.add, ↓reduceIte] at hw115_0)
    cases e115
    (try simp only [show (1 : Int).toNat = 1 from rfl, Nat.reduceMul, Nat.reduceEqDiff, Go.Addr.add, ↓reduceIte] at hx115_0)
    (try simp only [show (1 : Int).toNat = 1 from rfl, Nat.reduceMul, Nat.reduceEqDiff, Go.Addr.add, ↓reduceIte] at hx115_1)
    (try simp only [show (1 : Int).toNat = 1 from rfl, Nat.reduceMul, Nat.reduceEqDiff, Go.Addr.add, ↓reduceIte] at hx115_2)
    (try simp only [show (1 : Int).toNat = 1 from rfl, Nat.reduceMul, Nat.reduceEqDiff, Go.Addr.add, ↓reduceIte] at hx115_3)
    (try simp only [show (1 : Int).toNat = 1 from rfl, Nat.reduceMul, Nat.reduceEqDiff, Go.Addr.add, ↓reduceIte] at hx115_4)
    (try simp only [show (1 : Int).toNat = 1 from rfl, Nat.reduceMul, Nat.reduceEqDiff, Go.Addr.add, ↓reduceIte] at hx115_5)
    have qi115 : (1 < l1_5.length) = True := eq_true (by omega)
    (try rw [show ((1 : Int)).toNat = 1 from rfl] at hx115_0)
    (try rw [show 1 * 6 = 6 from rfl] at hx115_0)
    (try rw [show ((1 : Int)).toNat = 1 from rfl] at hx115_1)
    (try rw [show 1 * 6 = 6 from rfl] at hx115_1)
    (try rw [show ((1 : Int)).toNat = 1 from rfl] at hx115_2)
    (try rw [show 1 * 6 = 6 from rfl] at hx115_2)
    (try rw [show ((1 : Int)).toNat = 1 from rfl] at hx115_3)
    (try rw [show 1 * 6 = 6 from rfl] at hx115_3)
    (try rw [show ((1 : Int)).toNat = 1 from rfl] at hx115_4)
    (try rw [show 1 * 6 = 6 from rfl] at hx115_4)
    (try rw [show ((1 : Int)).toNat = 1 from rfl] at hx115_5)
    (try rw [show 1 * 6 = 6 from rfl] at hx115_5)
    replace hx115_0 := pw_cell_below HB.out hx115_0
    replace hx115_1 := pw_cell_below HB.out hx115_1
    replace hx115_2 := pw_cell_below HB.out hx115_2
    replace hx115_3 := pw_cell_below HB.out hx115_3
    replace hx115_4 := pw_cell_below HB.out hx115_4
    replace hx115_5 := pw_cell_below HB.out hx115_5
    have HR115_5 := Aside0.mk hi115_5
    have HC115_5 := Aside0.mk hl115_5
    clear hi115_5 hl115_5
    replace p115 := eq_true p115
    replace q115 := eq_true q115
    have p116 : 0 ≤ (1 : Int) := (by omega)
    have q116 : 1 < (l1_5.length : Int) := of_decide_eq_true (by first | (with_reducible assumption) | assumption)
    obtain ⟨ad116, A116_5, c116_5, e116, hx116_0, hx116_1, hx116_2, hx116_3, hx116_4, hx116_5, hl116_5, hi116_5⟩ := at_T43 HR1_5.out 1 p116 q116
    have hw116_5 := hx116_5
    (try rw [show ((1 : Int)).toNat = 1 from rfl] at hw116_5)
    (try rw [show 1 * 6 = 6 from rfl] at hw116_5)
    (try simp only [Nat.reduceMul, Nat.reduceEqDiff, Go.Addr.add, ↓reduceIte] at hw116_5)
    have hw116_4 := hx116_4
    (try rw [show ((1 : Int)).toNat = 1 from rfl] at hw116_4)
    (try rw [show 1 * 6 = 6 from rfl] at hw116_4)
    (try simp only [Nat.reduceMul, Nat.reduceEqDiff, Go.Addr.add, ↓reduceIte] at hw116_4)
    have hw116_3 := hx116_3
    (try rw [show ((1 : Int)).toNat = 1 from rfl] at hw116_3)
    (try rw [show 1 * 6 = 6 from rfl] at hw116_3)
    (try simp only [Nat.reduceMul, Nat.reduceEqDiff, Go.Addr.add, ↓reduceIte] at hw116_3)
    have hw116_2 := hx116_2
    (try rw [show ((1 : Int)).toNat = 1 from rfl] at hw116_2)
    (try rw [show 1 * 6 = 6 from rfl] at hw116_2)
    (try simp only [Nat.reduceMul, Nat.reduceEqDiff, Go.Addr.add, ↓reduceIte] at hw116_2)
    have hw116_1 := hx116_1
    (try rw [show ((1 : Int)).toNat = 1 from rfl] at hw116_1)
    (try rw [show 1 * 6 = 6 from rfl] at hw116_1)
    (try simp only [Nat.reduceMul, Nat.reduceEqDiff, Go.Addr.add, ↓reduceIte] at hw116_1)
    have hw116_0 := hx116_0
    (try rw [show ((1 : Int)).toNat = 1 from rfl] at hw116_0)
    (try rw [show 1 * 6 = 6 from rfl] at hw116_0)
    (try simp only [Nat.reduceMul, Nat.reduceEqDiff, Go.Addr.add, ↓reduceIte] at hw116_0)
    obtain rfl : ad115 = ad116 := (by injection e116)
    (try simp only [show (1 : Int).toNat = 1 from rfl, Nat.reduceMul, Nat.reduceEqDiff, Go.Addr.add, ↓reduceIte] at hx116_0)
    (try simp only [show (1 : Int).toNat = 1 from rfl, Nat.reduceMul, Nat.reduceEqDiff, Go.Addr.add, ↓reduceIte] at hx116_1)
    (try simp only [show (1 : Int).toNat = 1 from rfl, Nat.reduceMul, Nat.reduceEqDiff, Go.Addr.add, ↓reduceIte] at hx116_2)
    (try simp only [show (1 : Int).toNat = 1 from rfl, Nat.reduceMul, Nat.reduceEqDiff, Go.Addr.add, ↓reduceIte] at hx116_3)
    (try simp only [show (1 : Int).toNat = 1 from rfl, Nat.reduceMul, Nat.reduceEqDiff, Go.Addr.add, ↓reduceIte] at hx116_4)
    (try simp only [show (1 : Int).toNat = 1 from rfl, Nat.reduceMul, Nat.reduceEqDiff, Go.Addr.add, ↓reduceIte] at hx116_5)
    have qi116 : (1 < l1_5.length) = True := eq_true (by omega)
    (try rw [show ((1 : Int)).toNat = 1 from rfl] at hx116_0)
    (try rw [show 1 * 6 = 6 from rfl] at hx116_0)
    (try rw [show ((1 : Int)).toNat = 1 from rfl] at hx116_1)
    (try rw [show 1 * 6 = 6 from rfl] at hx116_1)
    (try rw [show ((1 : Int)).toNat = 1 from rfl] at hx116_2)
    (try rw [show 1 * 6 = 6 from rfl] at hx116_2)
    (try rw [show ((1 : Int)).toNat = 1 from rfl] at hx116_3)
    (try rw [show 1 * 6 = 6 from rfl] at hx116_3)
    (try rw [show ((1 : Int)).toNat = 1 from rfl] at hx116_4)
    (try rw [show 1 * 6 = 6 from rfl] at hx116_4)
    (try rw [show ((1 : Int)).toNat = 1 from rfl] at hx116_5)
    (try rw [show 1 * 6 = 6 from rfl] at hx116_5)
    replace hx116_0 := pw_cell_below HB.out hx116_0
    replace hx116_1 := pw_cell_below HB.out hx116_1
    replace hx116_2 := pw_cell_below HB.out hx116_2
    replace hx116_3 := pw_cell_below HB.out hx116_3
    replace hx116_4 := pw_cell_below HB.out hx116_4
    replace hx116_5 := pw_cell_below HB.out hx116_5
    have HR116_5 := Aside0.mk hi116_5
    have HC116_5 := Aside0.mk hl116_5
    clear hi116_5 hl116_5
    replace p116 := eq_true p116
    replace q116 := eq_true q116
    have ea_ := Option.some.inj (hx115_5.symm.trans hx116_5)
    injection ea_ with ea_ en_ ec_
    subst ea_
    subst ec_
    clear en_
    refine start_ (n := 11) (S := fun w' => w'.cell? ⟨gb106, 0, none⟩ = some (.int .i64 a1_0) ∧ w'.cell? ⟨gb106, 1, none⟩ = some (.int .i64 a1_1) ∧ w'.cell? ⟨gb106, 2, none⟩ = some (.int .i64 a1_2) ∧ w'.cell? ⟨gb106, 3, none⟩ = some (.string a1_3) ∧ w'.cell? ⟨gb106, 4, none⟩ = some (.bool a1_4) ∧ w'.cell? ⟨gb106, 5, none⟩ = some (.slice (some ad115) l1_5.length c1_5) ∧ w'.cell? ⟨ad115.block, ad115.off + 6, none⟩ = some (.int .i64 ((rd_T43 l1_5 1).f0)) ∧ w'.cell? ⟨ad115.block, ad115.off + 6 + 1, none⟩ = some (.int .i64 ((rd_T43 l1_5 1).f1)) ∧ w'.cell? ⟨ad115.block, ad115.off + 6 + 2, none⟩ = some (.int .i64 ((rd_T43 l1_5 1).f2)) ∧ w'.cell? ⟨ad115.block, ad115.off + 6 + 3, none⟩ = some (.string ((rd_T43 l1_5 1).f3)) ∧ w'.cell? ⟨ad115.block, ad115.off + 6 + 4, none⟩ = some (.bool ((rd_T43 l1_5 1).f4)) ∧ w'.cell? ⟨ad115.block, ad115.off + 6 + 5, none⟩ = some (.slice A115_5 ((rd_T43 l1_5 1).f5).length c115_5) ∧ w'.cell? ⟨ad115.block, ad115.off + 6, none⟩ = some (.int .i64 ((rd_T43 l1_5 1).f0)) ∧ w'.cell? ⟨ad115.block, ad115.off + 6 + 1, none⟩ = some (.int .i64 ((rd_T43 l1_5 1).f1)) ∧ w'.cell? ⟨ad115.block, ad115.off + 6 + 2, none⟩ = some (.int .i64 ((rd_T43 l1_5 1).f2)) ∧ w'.cell? ⟨ad115.block, ad115.off + 6 + 3, none⟩ = some (.string ((rd_T43 l1_5 1).f3)) ∧ w'.cell? ⟨ad115.block, ad115.off + 6 + 4, none⟩ = some (.bool ((rd_T43 l1_5 1).f4)) ∧ w'.cell? ⟨ad115.block, ad115.off + 6 + 5, none⟩ = some (.slice A115_5 ((rd_T43 l1_5 1).f5).length c115_5)) (ds := []) #[false, false, false, false, false, false, false, false, false, false, false] (by kernel_rfl) rfl rfl ⟨(blk_cell BK106.out 0).trans rfl, (blk_cell BK106.out 1).trans rfl, (blk_cell BK106.out 2).trans rfl, (blk_cell BK106.out 3).trans rfl, (blk_cell BK106.out 4).trans rfl, (blk_cell BK106.out 5).trans rfl, (pw_cell_below HB.out hw115_0), (pw_cell_below HB.out hw115_1), (pw_cell_below HB.out hw115_2), (pw_cell_below HB.out hw115_3), (pw_cell_below HB.out hw115_4), (pw_cell_below HB.out hw115_5), (pw_cell_below HB.out hw116_0), (pw_cell_below HB.out hw116_1), (pw_cell_below HB.out hw116_2), (pw_cell_below HB.out hw116_3), (pw_cell_below HB.out hw116_4), (pw_cell_below HB.out hw116_5)⟩ (fun hHeld => ?_); refine with_tabW inits_checker_late.tab7 inits_checker_late.bits7 (fun HT_ HW_ => ?_)
    generalize w18.drew = w21 at BK106 HI0 HK HB HR115_5 HR116_5 hx115_0 hx115_1 hx115_2 hx115_3 hx115_4 hx115_5 hx116_0 hx116_1 hx116_2 hx116_3 hx116_4 hx116_5 hHeld ⊢
    refine pure_ (i := 0) (N := some 28) (v := ?_) (a' := ?_) #[true, false, false, false, false, false, false, false, false, false, false] rfl rfl (any_of HT_.out (by kernel_rfl)) (fun _ _ _ h => h) (Or.inl ⟨by rfl, ?_⟩) ?_ ?_
    rotate_left
    ·intro w'
     go_simp
     with_reducible rfl
    rotate_left
    ·simp only [Act.put, List.setIfInBounds_toArray, List.set_cons_zero, List.set_cons_succ, i64_w, i32_w]
     rfl
    refine pure_ (i := 1) (N := some 29) (v := ?_) (a' := ?_) #[true, true, false, false, false, false, false, false, false, false, false] rfl rfl (any_of HT_.out (by kernel_rfl)) (fun _ _ _ h => h) (Or.inl ⟨by rfl, ?_⟩) ?_ ?_
    rotate_left
    ·intro w'
     go_simp
     with_reducible rfl
    rotate_left
    ·simp only [Act.put, List.setIfInBounds_toArray, List.set_cons_zero, List.set_cons_succ, i64_w, i32_w]
     rfl
    refine pure_ (i := 5) (N := some 33) (v := ?_) (a' := ?_) #[true, true, false, false, false, true, false, false, false, false, false] rfl rfl (any_of HT_.out (by kernel_rfl)) (fun _ _ _ h => h) (Or.inl ⟨by rfl, ?_⟩) ?_ ?_
    rotate_left
    ·intro w'
     go_simp
     with_reducible rfl
    rotate_left
    ·simp only [Act.put, List.setIfInBounds_toArray, List.set_cons_zero, List.set_cons_succ, i64_w, i32_w]
     rfl
    refine take_ (i := 2) (N := some 30) (v := ?_) (a' := ?_) #[true, true, true, false, false, true, false, false, false, false, false] rfl rfl (take_ofW HT_.out HW_.out (by kernel_rfl)) (fun _ _ _ h => h) (Or.inl ⟨by rfl, ?_⟩) hHeld ?_ ?_
    rotate_left
    ·rintro w' ⟨s0, s1, s2, s3, s4, s5, s6, s7, s8, s9, s10, s11, s12, s13, s14, s15, s16, s17⟩
     go_simp
     with_reducible rfl
    rotate_left
    ·simp only [Act.put, List.setIfInBounds_toArray, List.set_cons_zero, List.set_cons_succ, i64_w, i32_w]
     rfl
    refine pure_ (i := 3) (N := some 31) (v := ?_) (a' := ?_) #[true, true, true, true, false, true, false, false, false, false, false] rfl rfl (any_of HT_.out (by kernel_rfl)) (fun _ _ _ h => h) (Or.inl ⟨by rfl, ?_⟩) ?_ ?_
    rotate_left
    ·intro w'
     go_simp
     with_reducible rfl
    rotate_left
    ·simp only [Act.put, List.setIfInBounds_toArray, List.set_cons_zero, List.set_cons_succ, i64_w, i32_w]
     rfl
    refine take_ (i := 4) (N := some 32) (v := ?_) (a' := ?_) #[true, true, true, true, true, true, false, false, false, false, false] rfl rfl (take_ofW HT_.out HW_.out (by kernel_rfl)) (fun _ _ _ h => h) (Or.inl ⟨by rfl, ?_⟩) hHeld ?_ ?_
    rotate_left
    ·rintro w' ⟨s0, s1, s2, s3, s4, s5, s6, s7, s8, s9, s10, s11, s12, s13, s14, s15, s16, s17⟩
     go_simp
     with_reducible rfl
    rotate_left
    ·simp only [Act.put, List.setIfInBounds_toArray, List.set_cons_zero, List.set_cons_succ, i64_w, i32_w]
     rfl
    refine take_ (i := 6) (N := some 34) (v := ?_) (a' := ?_) #[true, true, true, true, true, true, true, false, false, false, false] rfl rfl (take_ofW HT_.out HW_.out (by kernel_rfl)) (fun _ _ _ h => h) (Or.inl ⟨by rfl, ?_⟩) hHeld ?_ ?_
    rotate_left
    ·rintro w' ⟨s0, s1, s2, s3, s4, s5, s6, s7, s8, s9, s10, s11, s12, s13, s14, s15, s16, s17⟩
     go_simp
     with_reducible rfl
    rotate_left
    ·simp only [Act.put, List.setIfInBounds_toArray, List.set_cons_zero, List.set_cons_succ, i64_w, i32_w]
     rfl
    refine pure_ (i := 7) (N := some 35) (v := ?_) (a' := ?_) #[true, true, true, true, true, true, true, true, false, false, false] rfl rfl (any_of HT_.out (by kernel_rfl)) (fun _ _ _ h => h) (Or.inl ⟨by rfl, ?_⟩) ?_ ?_
    rotate_left
    ·intro w'
     go_simp
     with_reducible rfl
    rotate_left
    ·simp only [Act.put, List.setIfInBounds_toArray, List.set_cons_zero, List.set_cons_succ, i64_w, i32_w]
     rfl
    refine pure_ (i := 8) (N := some 36) (v := ?_) (a' := ?_) #[true, true, true, true, true, true, true, true, true, false, false] rfl rfl (any_of HT_.out (by kernel_rfl)) (fun _ _ _ h => h) (Or.inl ⟨by rfl, ?_⟩) ?_ ?_
    rotate_left
    ·intro w'
     go_simp
     with_reducible rfl
    rotate_left
    ·simp only [Act.put, List.setIfInBounds_toArray, List.set_cons_zero, List.set_cons_succ, i64_w, i32_w]
     rfl
    refine take_ (i := 9) (N := some 37) (v := ?_) (a' := ?_) #[true, true, true, true, true, true, true, true, true, true, false] rfl rfl (take_ofW HT_.out HW_.out (by kernel_rfl)) (fun _ _ _ h => h) (Or.inl ⟨by rfl, ?_⟩) hHeld ?_ ?_
    rotate_left
    ·rintro w' ⟨s0, s1, s2, s3, s4, s5, s6, s7, s8, s9, s10, s11, s12, s13, s14, s15, s16, s17⟩
     go_simp
     with_reducible rfl
    rotate_left
    ·simp only [Act.put, List.setIfInBounds_toArray, List.set_cons_zero, List.set_cons_succ, i64_w, i32_w]
     rfl
    refine one_ (i := 10) (N := some 38) #[true, true, true, true, true, true, true, true, true, true, true] rfl rfl (one_of HT_.out (by kernel_rfl)) (by decide) (fun K hK => ?_)
    refine goes_ Tryd.func53 (by kernel_rfl) rfl #[.pointer (some ⟨g, 0, none⟩), .agg #[.int .i64 ((rd_T43 l1_5 1).f0), .int .i64 ((rd_T43 l1_5 1).f1), .int .i64 ((rd_T43 l1_5 1).f2), .string ((rd_T43 l1_5 1).f3), .bool ((rd_T43 l1_5 1).f4), .slice A115_5 ((rd_T43 l1_5 1).f5).length c115_5], .int .i64 ((rd_T43 l1_5 1).f1)] (by rfl) rfl rfl (by (try simp only [List.map_toArray, List.map_cons, List.map_nil]); first | done | rfl | (simp only [List.length_drop, List.length_take]; rfl)) ?_
    with_reducible refine (ih_53 k (by omega) g s0_0 s0_1 s0_2 ((rd_T43 l1_5 1).f0) ((rd_T43 l1_5 1).f1) ((rd_T43 l1_5 1).f2) ((rd_T43 l1_5 1).f3) ((rd_T43 l1_5 1).f4) _ _ ((rd_T43 l1_5 1).f5) ((rd_T43 l1_5 1).f1) t117 t118 w0 _ ?side1 ?side2 ?side3 ?side4 A17.out).mono ?_
    (case side1 => repeat (first | (with_reducible first | exact HI0.out | apply IsS114.alloc | apply IsS114.drewN | apply IsS114.drew | apply IsS114.set_1 | apply IsS114.set_2 | refine IsS114.far ?_ NB0_106.out _) | exact HI0.out))
    (case side2 => repeat (first | (with_reducible first | exact HB.out | apply below_alloc | apply pw_below_drewN | apply below_drew1 | refine below_set ?_ (IsS114.ge HI0.out) | refine below_set ?_ GE106.out) | exact HB.out))
    (case side3 => exact HR115_5.out)
    (case side4 => exact HC115_5.out)
    rintro e w22 ⟨rfl, hi, hb, hk⟩
    refine ⟨_, rfl, ?_⟩
    have n0_ := Aside0.mk (KeepBut.blk hk (g' := gb106) (o := .cells #[.int .i64 a1_0, .int .i64 a1_1, .int .i64 a1_2, .string a1_3, .bool a1_4, .slice (some ad115) l1_5.length c1_5] 43 (0, 0)) (by (with_reducible repeat (first | refine blk_drewN ?_ _ | refine blk_drew ?_ | refine blk_alloc ?_ _)); exact BK106.out) NB106_0.out (by simp))
    have n1_ := Aside0.mk (KeepBut.trans (by repeat (first | (with_reducible first | exact HK.out | apply KeepBut.set_ | apply keep_drewN | apply keep_drew | apply keep_alloc | refine keep_far ?_ GW106.out _) | exact HK.out)) hk (.inl rfl))
    have n2_ := Aside0.mk (hb)
    have n3_ := Aside0.mk (hi)
    clear BK106
    clear HK
    clear HB
    clear HI0
    have BK106 := n0_
    have HK := n1_
    have HB := n2_
    have HI0 := n3_
    clear n0_ n1_ n2_ n3_
    (try clear hb)
    (try clear hb2)
    (try clear hk)
    (try clear hi)
    refine hK.out _ _ ⟨(blk_cell BK106.out 0).trans rfl, (blk_cell BK106.out 1).trans rfl, (blk_cell BK106.out 2).trans rfl, (blk_cell BK106.out 3).trans rfl, (blk_cell BK106.out 4).trans rfl, (blk_cell BK106.out 5).trans rfl, (pw_cell_below HB.out hw115_0), (pw_cell_below HB.out hw115_1), (pw_cell_below HB.out hw115_2), (pw_cell_below HB.out hw115_3), (pw_cell_below HB.out hw115_4), (pw_cell_below HB.out hw115_5), (pw_cell_below HB.out hw116_0), (pw_cell_below HB.out hw116_1), (pw_cell_below HB.out hw116_2), (pw_cell_below HB.out hw116_3), (pw_cell_below HB.out hw116_4), (pw_cell_below HB.out hw116_5)⟩ (fun hHeld => ?_)
    clear hK K
    refine norm_ (a' := ?_) ?_ ?_
    rotate_left
    ·show Act.put _ (some 38) _ = _
     simp only [Act.put, List.setIfInBounds_toArray, List.set_cons_zero, List.set_cons_succ, i64_w, i32_w]
     rfl
    refine done_ (done_of HT_.out (by kernel_rfl)) ?_
    try go_wp2
    go_ret
    exact ⟨by first | rfl | (simp [errW_none, errW_some] <;> rfl) | (simp [*, errW_none, errW_some] <;> rfl), by repeat (first | (with_reducible first | exact HI0.out | apply IsS114.alloc | apply IsS114.drewN | apply IsS114.drew | apply IsS114.set_1 | apply IsS114.set_2 | refine IsS114.far ?_ NB0_106.out _) | exact HI0.out), by repeat (first | (with_reducible first | exact HB.out | apply below_alloc | apply pw_below_drewN | apply below_drew1 | refine below_set ?_ (IsS114.ge HI0.out) | refine below_set ?_ GE106.out) | exact HB.out), by repeat (first | (with_reducible first | exact HK.out | apply KeepBut.set_ | apply keep_drewN | apply keep_drew | apply keep_alloc | refine keep_far ?_ GW106.out _) | exact HK.out)⟩
   ·rw [if_neg c16] at H
    exact absurd H (by simp)
  ·rw [if_neg c15] at H
   have c15b0 : (a1_0 == 9) = false := beq_eq_false_iff_ne.mpr c15
   have c15b1 : (a1_0 != 9) = true := bne_iff_ne.mpr c15
   by_cases c23 : a1_0 = 10
   ·rw [if_pos c23] at H
    have c23b0 : (a1_0 == 10) = true := beq_iff_eq.mpr c23
    have c23b1 : (a1_0 != 10) = false := bne_eq_false_iff_eq.mpr c23
    clear c23
    by_cases c24 : 0 < (l1_5.length : Int)
    ·rw [if_pos c24] at H
     have c24b0 : decide (0 < (l1_5.length : Int)) = true := decide_eq_true c24
     have c24b1 : decide (0 < l1_5.length) = true := decide_eq_true (by omega)
     clear c24
     replace H := Option.bind_eq_some_iff.mp H
     obtain ⟨⟨t121, t122⟩, A250, H⟩ := H
     replace H : (some (true, t121, t122)) = some (r1, r2, r3) := H
     have A25 := Aside0.mk A250
     clear A250
     simp only [Option.some.injEq, Prod.mk.injEq] at H
     obtain ⟨rfl, rfl, rfl⟩ := H
     go_enter Tryd.func87, Tryd.ntmps87
     try go_wp2_with (first | ((with_reducible refine gate_dst (N := 3) rfl ?_); refine box_event ?hg (N := 3) ?hd (cs := #[.int .i64 a1_0, .int .i64 a1_1, .int .i64 a1_2, .string a1_3, .bool a1_4, .slice A1_5 l1_5.length c1_5]) (t := 43) ?hr ?_; (case hd => rfl); (case hg => rfl); (case hr => first | (go_simp; done) | (go_simp; rfl)); intro gb106 hg w26 hbox hb; have n0_ := Aside0.mk (IsS114.below (by repeat (first | (with_reducible first | exact HI0.out | apply IsS114.alloc | apply IsS114.drewN | apply IsS114.drew | apply IsS114.set_1 | apply IsS114.set_2) | exact HI0.out)) hb); have n1_ := Aside0.mk (KeepBut.trans (by repeat (first | (with_reducible first | exact HK.out | apply KeepBut.set_ | apply keep_drewN | apply keep_drew | apply keep_alloc) | exact HK.out)) (KeepBut.of_below hb g none) (.inl rfl)); have n2_ := Aside0.mk (below_step (by repeat (first | (with_reducible first | exact HB.out | apply below_alloc | apply pw_below_drewN | apply below_drew1 | refine below_set ?_ (IsS114.ge HI0.out)) | exact HB.out)) hb); have n3_ := Aside0.mk (hbox); have n4_ := Aside0.mk ((by rw [hg]; exact (keep_size (w := w) (g := g) (row := none) (by repeat (first | (with_reducible first | exact HK.out | apply KeepBut.set_ | apply keep_drewN | apply keep_drew | apply keep_alloc) | exact HK.out))) : w.heap.size ≤ gb106)); have n5_ := Aside0.mk ((Nat.le_trans HW0.out (by rw [hg]; exact (keep_size (w := w) (g := g) (row := none) (by repeat (first | (with_reducible first | exact HK.out | apply KeepBut.set_ | apply keep_drewN | apply keep_drew | apply keep_alloc) | exact HK.out))) : w.heap.size ≤ gb106) : w0.heap.size ≤ gb106)); have n6_ := Aside0.mk ((by rw [hg]; exact Nat.ne_of_lt (IsS114.lt (show IsS114 w0 _ g s0_0 s0_1 s0_2 from by repeat (first | (with_reducible first | exact HI0.out | apply IsS114.alloc | apply IsS114.drewN | apply IsS114.drew | apply IsS114.set_1 | apply IsS114.set_2) | exact HI0.out))) : g ≠ gb106)); have n7_ := Aside0.mk ((by rw [hg]; exact Nat.ne_of_gt (IsS114.lt (show IsS114 w0 _ g s0_0 s0_1 s0_2 from by repeat (first | (with_reducible first | exact HI0.out | apply IsS114.alloc | apply IsS114.drewN | apply IsS114.drew | apply IsS114.set_1 | apply IsS114.set_2) | exact HI0.out))) : gb106 ≠ g)); clear HI0; clear HK; clear HB; have HI0 := n0_; have HK := n1_; have HB := n2_; have BK106 := n3_; have GW106 := n4_; have GE106 := n5_; have NB0_106 := n6_; have NB106_0 := n7_; clear n0_ n1_ n2_ n3_ n4_ n5_ n6_ n7_; clear hb hbox hg; have hnb27 := NB106_0.out; have hnc27 := NB0_106.out; have hcz28_0 : w26.cell? ⟨gb106, 0, none⟩ = some (.int .i64 a1_0) := (blk_cell BK106.out 0).trans rfl; have hcz28_1 : w26.cell? ⟨gb106, 1, none⟩ = some (.int .i64 a1_1) := (blk_cell BK106.out 1).trans rfl; have hcz28_2 : w26.cell? ⟨gb106, 2, none⟩ = some (.int .i64 a1_2) := (blk_cell BK106.out 2).trans rfl; have hcz28_3 : w26.cell? ⟨gb106, 3, none⟩ = some (.string a1_3) := (blk_cell BK106.out 3).trans rfl; have hcz28_4 : w26.cell? ⟨gb106, 4, none⟩ = some (.bool a1_4) := (blk_cell BK106.out 4).trans rfl; have hcz28_5 : w26.cell? ⟨gb106, 5, none⟩ = some (.slice A1_5 l1_5.length c1_5) := (blk_cell BK106.out 5).trans rfl; have hfz28_0 := blk_frozen BK106.out 0; have hfz28_1 := blk_frozen BK106.out 1; have hfz28_2 := blk_frozen BK106.out 2; have hfz28_3 := blk_frozen BK106.out 3; have hfz28_4 := blk_frozen BK106.out 4; have hfz28_5 := blk_frozen BK106.out 5))
     have n0_ := Aside0.mk (blk_drew BK106.out)
     have n1_ := Aside0.mk (IsS114.drew HI0.out)
     have n2_ := Aside0.mk (keep_drew HK.out)
     have n3_ := Aside0.mk (below_drew1 HB.out)
     clear BK106
     clear HI0
     clear HK
     clear HB
     have BK106 := n0_
     have HI0 := n1_
     have HK := n2_
     have HB := n3_
     clear n0_ n1_ n2_ n3_
     have p119 : 0 ≤ (0 : Int) := (by omega)
     have q119 : 0 < (l1_5.length : Int) := of_decide_eq_true (by first | (with_reducible assumption) | assumption)
     obtain ⟨ad119, A119_5, c119_5, e119, hx119_0, hx119_1, hx119_2, hx119_3, hx119_4, hx119_5, hl119_5, hi119_5⟩ := at_T43 HR1_5.out 0 p119 q119
     have hw119_5 := hx119_5
     (try rw [show ((0 : Int)).toNat = 0 from rfl] at hw119_5)
     (try rw [show 0 * 6 = 0 from rfl] at hw119_5)
     (try rw [Addr.add_zero'] at hw119_5)
     have hw119_4 := hx119_4
     (try rw [show ((0 : Int)).toNat = 0 from rfl] at hw119_4)
     (try rw [show 0 * 6 = 0 from rfl] at hw119_4)
     (try rw [Addr.add_zero'] at hw119_4)
     have hw119_3 := hx119_3
     (try rw [show ((0 : Int)).toNat = 0 from rfl] at hw119_3)
     (try rw [show 0 * 6 = 0 from rfl] at hw119_3)
     (try rw [Addr.add_zero'] at hw119_3)
     have hw119_2 := hx119_2
     (try rw [show ((0 : Int)).toNat = 0 from rfl] at hw119_2)
     (try rw [show 0 * 6 = 0 from rfl] at hw119_2)
     (try rw [Addr.add_zero'] at hw119_2)
     have hw119_1 := hx119_1
     (try rw [show ((0 : Int)).toNat = 0 from rfl] at hw119_1)
     (try rw [show 0 * 6 = 0 from rfl] at hw119_1)
     (try rw [Addr.add_zero'] at hw119_1)
     have hw119_0 := hx119_0
     (try rw [show ((0 : Int)).toNat = 0 from rfl] at hw119_0)
     (try rw [show 0 * 6 = 0 from rfl] at hw119_0)
     (try rw [Addr.add_zero'] at hw119_0)
     cases e119
     have qi119 : (0 < l1_5.length) = True := eq_true (by omega)
     (try rw [show ((0 : Int)).toNat = 0 from rfl] at hx119_0)
     (try rw [show 0 * 6 = 0 from rfl] at hx119_0)
     (try rw [Addr.add_zero'] at hx119_0)
     (try rw [show ((0 : Int)).toNat = 0 from rfl] at hx119_1)
     (try rw [show 0 * 6 = 0 from rfl] at hx119_1)
     (try rw [Addr.add_zero'] at hx119_1)
     (try rw [show ((0 : Int)).toNat = 0 from rfl] at hx119_2)
     (try rw [show 0 * 6 = 0 from rfl] at hx119_2)
     (try rw [Addr.add_zero'] at hx119_2)
     (try rw [show ((0 : Int)).toNat = 0 from rfl] at hx119_3)
     (try rw [show 0 * 6 = 0 from rfl] at hx119_3)
     (try rw [Addr.add_zero'] at hx119_3)
     (try rw [show ((0 : Int)).toNat = 0 from rfl] at hx119_4)
     (try rw [show 0 * 6 = 0 from rfl] at hx119_4)
     (try rw [Addr.add_zero'] at hx119_4)
     (try rw [show ((0 : Int)).toNat = 0 from rfl] at hx119_5)
     (try rw [show 0 * 6 = 0 from rfl] at hx119_5)
     (try rw [Addr.add_zero'] at hx119_5)
     replace hx119_0 := pw_cell_below HB.out hx119_0
     replace hx119_1 := pw_cell_below HB.out hx119_1
     replace hx119_2 := pw_cell_below HB.out hx119_2
     replace hx119_3 := pw_cell_below HB.out hx119_3
     replace hx119_4 := pw_cell_below HB.out hx119_4
     replace hx119_5 := pw_cell_below HB.out hx119_5
     have HR119_5 := Aside0.mk hi119_5
     have HC119_5 := Aside0.mk hl119_5
     clear hi119_5 hl119_5
     replace p119 := eq_true p119
     replace q119 := eq_true q119
     have p120 : 0 ≤ (0 : Int) := (by omega)
     have q120 : 0 < (l1_5.length : Int) := of_decide_eq_true (by first | (with_reducible assumption) | assumption)
     obtain ⟨ad120, A120_5, c120_5, e120, hx120_0, hx120_1, hx120_2, hx120_3, hx120_4, hx120_5, hl120_5, hi120_5⟩ := at_T43 HR1_5.out 0 p120 q120
     have hw120_5 := hx120_5
     (try rw [show ((0 : Int)).toNat = 0 from rfl] at hw120_5)
     (try rw [show 0 * 6 = 0 from rfl] at hw120_5)
     (try rw [Addr.add_zero'] at hw120_5)
     have hw120_4 := hx120_4
     (try rw [show ((0 : Int)).toNat = 0 from rfl] at hw120_4)
     (try rw [show 0 * 6 = 0 from rfl] at hw120_4)
     (try rw [Addr.add_zero'] at hw120_4)
     have hw120_3 := hx120_3
     (try rw [show ((0 : Int)).toNat = 0 from rfl] at hw120_3)
     (try rw [show 0 * 6 = 0 from rfl] at hw120_3)
     (try rw [Addr.add_zero'] at hw120_3)
     have hw120_2 := hx120_2
     (try rw [show ((0 : Int)).toNat = 0 from rfl] at hw120_2)
     (try rw [show 0 * 6 = 0 from rfl] at hw120_2)
     (try rw [Addr.add_zero'] at hw120_2)
     have hw120_1 := hx120_1
     (try rw [show ((0 : Int)).toNat = 0 from rfl] at hw120_1)
     (try rw [show 0 * 6 = 0 from rfl] at hw120_1)
     (try rw [Addr.add_zero'] at hw120_1)
     have hw120_0 := hx120_0
     (try rw [show ((0 : Int)).toNat = 0 from rfl] at hw120_0)
     (try rw [show 0 * 6 = 0 from rfl] at hw120_0)
     (try rw [Addr.add_zero'] at hw120_0)
     obtain rfl : ad119 = ad120 := (by injection e120)
     have qi120 : (0 < l1_5.length) = True := eq_true (by omega)
     (try rw [show ((0 : Int)).toNat = 0 from rfl] at hx120_0)
     (try rw [show 0 * 6 = 0 from rfl] at hx120_0)
     (try rw [Addr.add_zero'] at hx120_0)
     (try rw [show ((0 : Int)).toNat = 0 from rfl] at hx120_1)
     (try rw [show 0 * 6 = 0 from rfl] at hx120_1)
     (try rw [Addr.add_zero'] at hx120_1)
     (try rw [show ((0 : Int)).toNat = 0 from rfl] at hx120_2)
     (try rw [show 0 * 6 = 0 from rfl] at hx120_2)
     (try rw [Addr.add_zero'] at hx120_2)
     (try rw [show ((0 : Int)).toNat = 0 from rfl] at hx120_3)
     (try rw [show 0 * 6 = 0 from rfl] at hx120_3)
     (try rw [Addr.add_zero'] at hx120_3)
     (try rw [show ((0 : Int)).toNat = 0 from rfl] at hx120_4)
     (try rw [show 0 * 6 = 0 from rfl] at hx120_4)
     (try rw [Addr.add_zero'] at hx120_4)
     (try rw [show ((0 : Int)).toNat = 0 from rfl] at hx120_5)
     (try rw [show 0 * 6 = 0 from rfl] at hx120_5)
     (try rw [Addr.add_zero'] at hx120_5)
     replace hx120_0 := pw_cell_below HB.out hx120_0
     replace hx120_1 := pw_cell_below HB.out hx120_1
     replace hx120_2 := pw_cell_below HB.out hx120_2
     replace hx120_3 := pw_cell_below HB.out hx120_3
     replace hx120_4 := pw_cell_below HB.out hx120_4
     replace hx120_5 := pw_cell_below HB.out hx120_5
     have HR120_5 := Aside0.mk hi120_5
     have HC120_5 := Aside0.mk hl120_5
     clear hi120_5 hl120_5
     replace p120 := eq_true p120
     replace q120 := eq_true q120
     have ea_ := Option.some.inj (hx119_5.symm.trans hx120_5)
     injection ea_ with ea_ en_ ec_
     subst ea_
     subst ec_
     clear en_
     refine start_ (n := 11) (S := fun w' => w'.cell? ⟨gb106, 0, none⟩ = some (.int .i64 a1_0) ∧ w'.cell? ⟨gb106, 1, none⟩ = some (.int .i64 a1_1) ∧ w'.cell? ⟨gb106, 2, none⟩ = some (.int .i64 a1_2) ∧ w'.cell? ⟨gb106, 3, none⟩ = some (.string a1_3) ∧ w'.cell? ⟨gb106, 4, none⟩ = some (.bool a1_4) ∧ w'.cell? ⟨gb106, 5, none⟩ = some (.slice (some ad119) l1_5.length c1_5) ∧ w'.cell? ad119 = some (.int .i64 ((rd_T43 l1_5 0).f0)) ∧ w'.cell? ⟨ad119.block, ad119.off + 1, none⟩ = some (.int .i64 ((rd_T43 l1_5 0).f1)) ∧ w'.cell? ⟨ad119.block, ad119.off + 2, none⟩ = some (.int .i64 ((rd_T43 l1_5 0).f2)) ∧ w'.cell? ⟨ad119.block, ad119.off + 3, none⟩ = some (.string ((rd_T43 l1_5 0).f3)) ∧ w'.cell? ⟨ad119.block, ad119.off + 4, none⟩ = some (.bool ((rd_T43 l1_5 0).f4)) ∧ w'.cell? ⟨ad119.block, ad119.off + 5, none⟩ = some (.slice A119_5 ((rd_T43 l1_5 0).f5).length c119_5) ∧ w'.cell? ad119 = some (.int .i64 ((rd_T43 l1_5 0).f0)) ∧ w'.cell? ⟨ad119.block, ad119.off + 1, none⟩ = some (.int .i64 ((rd_T43 l1_5 0).f1)) ∧ w'.cell? ⟨ad119.block, ad119.off + 2, none⟩ = some (.int .i64 ((rd_T43 l1_5 0).f2)) ∧ w'.cell? ⟨ad119.block, ad119.off + 3, none⟩ = some (.string ((rd_T43 l1_5 0).f3)) ∧ w'.cell? ⟨ad119.block, ad119.off + 4, none⟩ = some (.bool ((rd_T43 l1_5 0).f4)) ∧ w'.cell? ⟨ad119.block, ad119.off + 5, none⟩ = some (.slice A119_5 ((rd_T43 l1_5 0).f5).length c119_5)) (ds := []) #[false, false, false, false, false, false, false, false, false, false, false] (by kernel_rfl) rfl rfl ⟨(blk_cell BK106.out 0).trans rfl, (blk_cell BK106.out 1).trans rfl, (blk_cell BK106.out 2).trans rfl, (blk_cell BK106.out 3).trans rfl, (blk_cell BK106.out 4).trans rfl, (blk_cell BK106.out 5).trans rfl, (pw_cell_below HB.out hw119_0), (pw_cell_below HB.out hw119_1), (pw_cell_below HB.out hw119_2), (pw_cell_below HB.out hw119_3), (pw_cell_below HB.out hw119_4), (pw_cell_below HB.out hw119_5), (pw_cell_below HB.out hw120_0), (pw_cell_below HB.out hw120_1), (pw_cell_below HB.out hw120_2), (pw_cell_below HB.out hw120_3), (pw_cell_below HB.out hw120_4), (pw_cell_below HB.out hw120_5)⟩ (fun hHeld => ?_); refine with_tabW inits_checker_late.tab10 inits_checker_late.bits10 (fun HT_ HW_ => ?_)
     generalize w26.drew = w29 at BK106 HI0 HK HB HR119_5 HR120_5 hx119_0 hx119_1 hx119_2 hx119_3 hx119_4 hx119_5 hx120_0 hx120_1 hx120_2 hx120_3 hx120_4 hx120_5 hHeld ⊢
     refine pure_ (i := 0) (N := some 41) (v := ?_) (a' := ?_) #[true, false, false, false, false, false, false, false, false, false, false] rfl rfl (any_of HT_.out (by kernel_rfl)) (fun _ _ _ h => h) (Or.inl ⟨by rfl, ?_⟩) ?_ ?_
     rotate_left
     ·intro w'
      go_simp
      with_reducible rfl
     rotate_left
     ·simp only [Act.put, List.setIfInBounds_toArray, List.set_cons_zero, List.set_cons_succ, i64_w, i32_w]
      rfl
     refine pure_ (i := 1) (N := some 42) (v := ?_) (a' := ?_) #[true, true, false, false, false, false, false, false, false, false, false] rfl rfl (any_of HT_.out (by kernel_rfl)) (fun _ _ _ h => h) (Or.inl ⟨by rfl, ?_⟩) ?_ ?_
     rotate_left
     ·intro w'
      go_simp
      with_reducible rfl
     rotate_left
     ·simp only [Act.put, List.setIfInBounds_toArray, List.set_cons_zero, List.set_cons_succ, i64_w, i32_w]
      rfl
     refine pure_ (i := 5) (N := some 46) (v := ?_) (a' := ?_) #[true, true, false, false, false, true, false, false, false, false, false] rfl rfl (any_of HT_.out (by kernel_rfl)) (fun _ _ _ h => h) (Or.inl ⟨by rfl, ?_⟩) ?_ ?_
     rotate_left
     ·intro w'
      go_simp
      with_reducible rfl
     rotate_left
     ·simp only [Act.put, List.setIfInBounds_toArray, List.set_cons_zero, List.set_cons_succ, i64_w, i32_w]
      rfl
     refine take_ (i := 2) (N := some 43) (v := ?_) (a' := ?_) #[true, true, true, false, false, true, false, false, false, false, false] rfl rfl (take_ofW HT_.out HW_.out (by kernel_rfl)) (fun _ _ _ h => h) (Or.inl ⟨by rfl, ?_⟩) hHeld ?_ ?_
     rotate_left
     ·rintro w' ⟨s0, s1, s2, s3, s4, s5, s6, s7, s8, s9, s10, s11, s12, s13, s14, s15, s16, s17⟩
      go_simp
      with_reducible rfl
     rotate_left
     ·simp only [Act.put, List.setIfInBounds_toArray, List.set_cons_zero, List.set_cons_succ, i64_w, i32_w]
      rfl
     refine pure_ (i := 3) (N := some 44) (v := ?_) (a' := ?_) #[true, true, true, true, false, true, false, false, false, false, false] rfl rfl (any_of HT_.out (by kernel_rfl)) (fun _ _ _ h => h) (Or.inl ⟨by rfl, ?_⟩) ?_ ?_
     rotate_left
     ·intro w'
      go_simp
      with_reducible rfl
     rotate_left
     ·simp only [Act.put, List.setIfInBounds_toArray, List.set_cons_zero, List.set_cons_succ, i64_w, i32_w]
      rfl
     refine take_ (i := 4) (N := some 45) (v := ?_) (a' := ?_) #[true, true, true, true, true, true, false, false, false, false, false] rfl rfl (take_ofW HT_.out HW_.out (by kernel_rfl)) (fun _ _ _ h => h) (Or.inl ⟨by rfl, ?_⟩) hHeld ?_ ?_
     rotate_left
     ·rintro w' ⟨s0, s1, s2, s3, s4, s5, s6, s7, s8, s9, s10, s11, s12, s13, s14, s15, s16, s17⟩
      go_simp
      with_reducible rfl
     rotate_left
     ·simp only [Act.put, List.setIfInBounds_toArray, List.set_cons_zero, List.set_cons_succ, i64_w, i32_w]
      rfl
     refine take_ (i := 6) (N := some 47) (v := ?_) (a' := ?_) #[true, true, true, true, true, true, true, false, false, false, false] rfl rfl (take_ofW HT_.out HW_.out (by kernel_rfl)) (fun _ _ _ h => h) (Or.inl ⟨by rfl, ?_⟩) hHeld ?_ ?_
     rotate_left
     ·rintro w' ⟨s0, s1, s2, s3, s4, s5, s6, s7, s8, s9, s10, s11, s12, s13, s14, s15, s16, s17⟩
      go_simp
      with_reducible rfl
     rotate_left
     ·simp only [Act.put, List.setIfInBounds_toArray, List.set_cons_zero, List.set_cons_succ, i64_w, i32_w]
      rfl
     refine pure_ (i := 7) (N := some 48) (v := ?_) (a' := ?_) #[true, true, true, true, true, true, true, true, false, false, false] rfl rfl (any_of HT_.out (by kernel_rfl)) (fun _ _ _ h => h) (Or.inl ⟨by rfl, ?_⟩) ?_ ?_
     rotate_left
     ·intro w'
      go_simp
      with_reducible rfl
     rotate_left
     ·simp only [Act.put, List.setIfInBounds_toArray, List.set_cons_zero, List.set_cons_succ, i64_w, i32_w]
      rfl
     refine pure_ (i := 8) (N := some 49) (v := ?_) (a' := ?_) #[true, true, true, true, true, true, true, true, true, false, false] rfl rfl (any_of HT_.out (by kernel_rfl)) (fun _ _ _ h => h) (Or.inl ⟨by rfl, ?_⟩) ?_ ?_
     rotate_left
     ·intro w'
      go_simp
      with_reducible rfl
     rotate_left
     ·simp only [Act.put, List.setIfInBounds_toArray, List.set_cons_zero, List.set_cons_succ, i64_w, i32_w]
      rfl
     refine take_ (i := 9) (N := some 50) (v := ?_) (a' := ?_) #[true, true, true, true, true, true, true, true, true, true, false] rfl rfl (take_ofW HT_.out HW_.out (by kernel_rfl)) (fun _ _ _ h => h) (Or.inl ⟨by rfl, ?_⟩) hHeld ?_ ?_
     rotate_left
     ·rintro w' ⟨s0, s1, s2, s3, s4, s5, s6, s7, s8, s9, s10, s11, s12, s13, s14, s15, s16, s17⟩
      go_simp
      with_reducible rfl
     rotate_left
     ·simp only [Act.put, List.setIfInBounds_toArray, List.set_cons_zero, List.set_cons_succ, i64_w, i32_w]
      rfl
     refine one_ (i := 10) (N := some 51) #[true, true, true, true, true, true, true, true, true, true, true] rfl rfl (one_of HT_.out (by kernel_rfl)) (by decide) (fun K hK => ?_)
     refine goes_ Tryd.func53 (by kernel_rfl) rfl #[.pointer (some ⟨g, 0, none⟩), .agg #[.int .i64 ((rd_T43 l1_5 0).f0), .int .i64 ((rd_T43 l1_5 0).f1), .int .i64 ((rd_T43 l1_5 0).f2), .string ((rd_T43 l1_5 0).f3), .bool ((rd_T43 l1_5 0).f4), .slice A119_5 ((rd_T43 l1_5 0).f5).length c119_5], .int .i64 ((rd_T43 l1_5 0).f1)] (by rfl) rfl rfl (by (try simp only [List.map_toArray, List.map_cons, List.map_nil]); first | done | rfl | (simp only [List.length_drop, List.length_take]; rfl)) ?_
     with_reducible refine (ih_53 k (by omega) g s0_0 s0_1 s0_2 ((rd_T43 l1_5 0).f0) ((rd_T43 l1_5 0).f1) ((rd_T43 l1_5 0).f2) ((rd_T43 l1_5 0).f3) ((rd_T43 l1_5 0).f4) _ _ ((rd_T43 l1_5 0).f5) ((rd_T43 l1_5 0).f1) t121 t122 w0 _ ?side1 ?side2 ?side3 ?side4 A25.out).mono ?_
     (case side1 => repeat (first | (with_reducible first | exact HI0.out | apply IsS114.alloc | apply IsS114.drewN | apply IsS114.drew | apply IsS114.set_1 | apply IsS114.set_2 | refine IsS114.far ?_ NB0_106.out _) | exact HI0.out))
     (case side2 => repeat (first | (with_reducible first | exact HB.out | apply below_alloc | apply pw_below_drewN | apply below_drew1 | refine below_set ?_ (IsS114.ge HI0.out) | refine below_set ?_ GE106.out) | exact HB.out))
     (case side3 => exact HR119_5.out)
     (case side4 => exact HC119_5.out)
     rintro e w30 ⟨rfl, hi, hb, hk⟩
     refine ⟨_, rfl, ?_⟩
     have n0_ := Aside0.mk (KeepBut.blk hk (g' := gb106) (o := .cells #[.int .i64 a1_0, .int .i64 a1_1, .int .i64 a1_2, .string a1_3, .bool a1_4, .slice (some ad119) l1_5.length c1_5] 43 (0, 0)) (by (with_reducible repeat (first | refine blk_drewN ?_ _ | refine blk_drew ?_ | refine blk_alloc ?_ _)); exact BK106.out) NB106_0.out (by simp))
     have n1_ := Aside0.mk (KeepBut.trans (by repeat (first | (with_reducible first | exact HK.out | apply KeepBut.set_ | apply keep_drewN | apply keep_drew | apply keep_alloc | refine keep_far ?_ GW106.out _) | exact HK.out)) hk (.inl rfl))
     have n2_ := Aside0.mk (hb)
     have n3_ := Aside0.mk (hi)
     clear BK106
     clear HK
     clear HB
     clear HI0
     have BK106 := n0_
     have HK := n1_
     have HB := n2_
     have HI0 := n3_
     clear n0_ n1_ n2_ n3_
     (try clear hb)
     (try clear hb2)
     (try clear hk)
     (try clear hi)
     refine hK.out _ _ ⟨(blk_cell BK106.out 0).trans rfl, (blk_cell BK106.out 1).trans rfl, (blk_cell BK106.out 2).trans rfl, (blk_cell BK106.out 3).trans rfl, (blk_cell BK106.out 4).trans rfl, (blk_cell BK106.out 5).trans rfl, (pw_cell_below HB.out hw119_0), (pw_cell_below HB.out hw119_1), (pw_cell_below HB.out hw119_2), (pw_cell_below HB.out hw119_3), (pw_cell_below HB.out hw119_4), (pw_cell_below HB.out hw119_5), (pw_cell_below HB.out hw120_0), (pw_cell_below HB.out hw120_1), (pw_cell_below HB.out hw120_2), (pw_cell_below HB.out hw120_3), (pw_cell_below HB.out hw120_4), (pw_cell_below HB.out hw120_5)⟩ (fun hHeld => ?_)
     clear hK K
     refine norm_ (a' := ?_) ?_ ?_
     rotate_left
     ·show Act.put _ (some 51) _ = _
      simp only [Act.put, List.setIfInBounds_toArray, List.set_cons_zero, List.set_cons_succ, i64_w, i32_w]
      rfl
     refine done_ (done_of HT_.out (by kernel_rfl)) ?_
     try go_wp2
     go_ret
     exact ⟨by first | rfl | (simp [errW_none, errW_some] <;> rfl) | (simp [*, errW_none, errW_some] <;> rfl), by repeat (first | (with_reducible first | exact HI0.out | apply IsS114.alloc | apply IsS114.drewN | apply IsS114.drew | apply IsS114.set_1 | apply IsS114.set_2 | refine IsS114.far ?_ NB0_106.out _) | exact HI0.out), by repeat (first | (with_reducible first | exact HB.out | apply below_alloc | apply pw_below_drewN | apply below_drew1 | refine below_set ?_ (IsS114.ge HI0.out) | refine below_set ?_ GE106.out) | exact HB.out), by repeat (first | (with_reducible first | exact HK.out | apply KeepBut.set_ | apply keep_drewN | apply keep_drew | apply keep_alloc | refine keep_far ?_ GW106.out _) | exact HK.out)⟩
    ·rw [if_neg c24] at H
     exact absurd H (by simp)
   ·rw [if_neg c23] at H
    have c23b0 : (a1_0 == 10) = false := beq_eq_false_iff_ne.mpr c23
    have c23b1 : (a1_0 != 10) = true := bne_iff_ne.mpr c23
    by_cases c31 : a1_0 = 12
    ·rw [if_pos c31] at H
     have c31b0 : (a1_0 == 12) = true := beq_iff_eq.mpr c31
     have c31b1 : (a1_0 != 12) = false := bne_eq_false_iff_eq.mpr c31
     clear c31
     by_cases c32 : 0 < (l1_5.length : Int)
     ·rw [if_pos c32] at H
      have c32b0 : decide (0 < (l1_5.length : Int)) = true := decide_eq_true c32
      have c32b1 : decide (0 < l1_5.length) = true := decide_eq_true (by omega)
      clear c32
      replace H := Option.bind_eq_some_iff.mp H
      obtain ⟨⟨t125, t126⟩, A330, H⟩ := H
      replace H : (if 1 < (l1_5.length : Int) then ((inits_checker_now.f k s0_0 t125 t126 ((rd_T43 l1_5 1).f0) ((rd_T43 l1_5 1).f1) ((rd_T43 l1_5 1).f2) ((rd_T43 l1_5 1).f3) ((rd_T43 l1_5 1).f4) ((rd_T43 l1_5 1).f5) ((rd_T43 l1_5 1).f1)).bind fun bt129 => (some (false, bt129.1, bt129.2))) else (none)) = some (r1, r2, r3) := H
      have A33 := Aside0.mk A330
      clear A330
      by_cases c34 : 1 < (l1_5.length : Int)
      ·rw [if_pos c34] at H
       have c34b0 : decide (1 < (l1_5.length : Int)) = true := decide_eq_true c34
       have c34b1 : decide (1 < l1_5.length) = true := decide_eq_true (by omega)
       clear c34
       replace H := Option.bind_eq_some_iff.mp H
       obtain ⟨⟨t129, t130⟩, A350, H⟩ := H
       replace H : (some (false, t129, t130)) = some (r1, r2, r3) := H
       have A35 := Aside0.mk A350
       clear A350
       simp only [Option.some.injEq, Prod.mk.injEq] at H
       obtain ⟨rfl, rfl, rfl⟩ := H
       go_enter Tryd.func87, Tryd.ntmps87
       try go_wp2_with (first | ((with_reducible refine gate_dst (N := 3) rfl ?_); refine box_event ?hg (N := 3) ?hd (cs := #[.int .i64 a1_0, .int .i64 a1_1, .int .i64 a1_2, .string a1_3, .bool a1_4, .slice A1_5 l1_5.length c1_5]) (t := 43) ?hr ?_; (case hd => rfl); (case hg => rfl); (case hr => first | (go_simp; done) | (go_simp; rfl)); intro gb106 hg w36 hbox hb; have n0_ := Aside0.mk (IsS114.below (by repeat (first | (with_reducible first | exact HI0.out | apply IsS114.alloc | apply IsS114.drewN | apply IsS114.drew | apply IsS114.set_1 | apply IsS114.set_2) | exact HI0.out)) hb); have n1_ := Aside0.mk (KeepBut.trans (by repeat (first | (with_reducible first | exact HK.out | apply KeepBut.set_ | apply keep_drewN | apply keep_drew | apply keep_alloc) | exact HK.out)) (KeepBut.of_below hb g none) (.inl rfl)); have n2_ := Aside0.mk (below_step (by repeat (first | (with_reducible first | exact HB.out | apply below_alloc | apply pw_below_drewN | apply below_drew1 | refine below_set ?_ (IsS114.ge HI0.out)) | exact HB.out)) hb); have n3_ := Aside0.mk (hbox); have n4_ := Aside0.mk ((by rw [hg]; exact (keep_size (w := w) (g := g) (row := none) (by repeat (first | (with_reducible first | exact HK.out | apply KeepBut.set_ | apply keep_drewN | apply keep_drew | apply keep_alloc) | exact HK.out))) : w.heap.size ≤ gb106)); have n5_ := Aside0.mk ((Nat.le_trans HW0.out (by rw [hg]; exact (keep_size (w := w) (g := g) (row := none) (by repeat (first | (with_reducible first | exact HK.out | apply KeepBut.set_ | apply keep_drewN | apply keep_drew | apply keep_alloc) | exact HK.out))) : w.heap.size ≤ gb106) : w0.heap.size ≤ gb106)); have n6_ := Aside0.mk ((by rw [hg]; exact Nat.ne_of_lt (IsS114.lt (show IsS114 w0 _ g s0_0 s0_1 s0_2 from by repeat (first | (with_reducible first | exact HI0.out | apply IsS114.alloc | apply IsS114.drewN | apply IsS114.drew | apply IsS114.set_1 | apply IsS114.set_2) | exact HI0.out))) : g ≠ gb106)); have n7_ := Aside0.mk ((by rw [hg]; exact Nat.ne_of_gt (IsS114.lt (show IsS114 w0 _ g s0_0 s0_1 s0_2 from by repeat (first | (with_reducible first | exact HI0.out | apply IsS114.alloc | apply IsS114.drewN | apply IsS114.drew | apply IsS114.set_1 | apply IsS114.set_2) | exact HI0.out))) : gb106 ≠ g)); clear HI0; clear HK; clear HB; have HI0 := n0_; have HK := n1_; have HB := n2_; have BK106 := n3_; have GW106 := n4_; have GE106 := n5_; have NB0_106 := n6_; have NB106_0 := n7_; clear n0_ n1_ n2_ n3_ n4_ n5_ n6_ n7_; clear hb hbox hg; have hnb37 := NB106_0.out; have hnc37 := NB0_106.out; have hcz38_0 : w36.cell? ⟨gb106, 0, none⟩ = some (.int .i64 a1_0) := (blk_cell BK106.out 0).trans rfl; have hcz38_1 : w36.cell? ⟨gb106, 1, none⟩ = some (.int .i64 a1_1) := (blk_cell BK106.out 1).trans rfl; have hcz38_2 : w36.cell? ⟨gb106, 2, none⟩ = some (.int .i64 a1_2) := (blk_cell BK106.out 2).trans rfl; have hcz38_3 : w36.cell? ⟨gb106, 3, none⟩ = some (.string a1_3) := (blk_cell BK106.out 3).trans rfl; have hcz38_4 : w36.cell? ⟨gb106, 4, none⟩ = some (.bool a1_4) := (blk_cell BK106.out 4).trans rfl; have hcz38_5 : w36.cell? ⟨gb106, 5, none⟩ = some (.slice A1_5 l1_5.length c1_5) := (blk_cell BK106.out 5).trans rfl; have hfz38_0 := blk_frozen BK106.out 0; have hfz38_1 := blk_frozen BK106.out 1; have hfz38_2 := blk_frozen BK106.out 2; have hfz38_3 := blk_frozen BK106.out 3; have hfz38_4 := blk_frozen BK106.out 4; have hfz38_5 := blk_frozen BK106.out 5))
       have n0_ := Aside0.mk (blk_drew BK106.out)
       have n1_ := Aside0.mk (IsS114.drew HI0.out)
       have n2_ := Aside0.mk (keep_drew HK.out)
       have n3_ := Aside0.mk (below_drew1 HB.out)
       clear BK106
       clear HI0
       clear HK
       clear HB
       have BK106 := n0_
       have HI0 := n1_
       have HK := n2_
       have HB := n3_
       clear n0_ n1_ n2_ n3_
       have p123 : 0 ≤ (0 : Int) := (by omega)
       have q123 : 0 < (l1_5.length : Int) := of_decide_eq_true (by first | (with_reducible assumption) | assumption)
       obtain ⟨ad123, A123_5, c123_5, e123, hx123_0, hx123_1, hx123_2, hx123_3, hx123_4, hx123_5, hl123_5, hi123_5⟩ := at_T43 HR1_5.out 0 p123 q123
       have hw123_5 := hx123_5
       (try rw [show ((0 : Int)).toNat = 0 from rfl] at hw123_5)
       (try rw [show 0 * 6 = 0 from rfl] at hw123_5)
       (try rw [Addr.add_zero'] at hw123_5)
       have hw123_4 := hx123_4
       (try rw [show ((0 : Int)).toNat = 0 from rfl] at hw123_4)
       (try rw [show 0 * 6 = 0 from rfl] at hw123_4)
       (try rw [Addr.add_zero'] at hw123_4)
       have hw123_3 := hx123_3
       (try rw [show ((0 : Int)).toNat = 0 from rfl] at hw123_3)
       (try rw [show 0 * 6 = 0 from rfl] at hw123_3)
       (try rw [Addr.add_zero'] at hw123_3)
       have hw123_2 := hx123_2
       (try rw [show ((0 : Int)).toNat = 0 from rfl] at hw123_2)
       (try rw [show 0 * 6 = 0 from rfl] at hw123_2)
       (try rw [Addr.add_zero'] at hw123_2)
       have hw123_1 := hx123_1
       (try rw [show ((0 : Int)).toNat = 0 from rfl] at hw123_1)
       (try rw [show 0 * 6 = 0 from rfl] at hw123_1)
       (try rw [Addr.add_zero'] at hw123_1)
       have hw123_0 := hx123_0
       (try rw [show ((0 : Int)).toNat = 0 from rfl] at hw123_0)
       (try rw [show 0 * 6 = 0 from rfl] at hw123_0)
       (try rw [Addr.add_zero'] at hw123_0)
       cases e123
       have qi123 : (0 < l1_5.length) = True := eq_true (by omega)
       (try rw [show ((0 : Int)).toNat = 0 from rfl] at hx123_0)
       (try rw [show 0 * 6 = 0 from rfl] at hx123_0)
       (try rw [Addr.add_zero'] at hx123_0)
       (try rw [show ((0 : Int)).toNat = 0 from rfl] at hx123_1)
       (try rw [show 0 * 6 = 0 from rfl] at hx123_1)
       (try rw [Addr.add_zero'] at hx123_1)
       (try rw [show ((0 : Int)).toNat = 0 from rfl] at hx123_2)
       (try rw [show 0 * 6 = 0 from rfl] at hx123_2)
       (try rw [Addr.add_zero'] at hx123_2)
       (try rw [show ((0 : Int)).toNat = 0 from rfl] at hx123_3)
       (try rw [show 0 * 6 = 0 from rfl] at hx123_3)
       (try rw [Addr.add_zero'] at hx123_3)
       (try rw [show ((0 : Int)).toNat = 0 from rfl] at hx123_4)
       (try rw [show 0 * 6 = 0 from rfl] at hx123_4)
       (try rw [Addr.add_zero'] at hx123_4)
       (try rw [show ((0 : Int)).toNat = 0 from rfl] at hx123_5)
       (try rw [show 0 * 6 = 0 from rfl] at hx123_5)
       (try rw [Addr.add_zero'] at hx123_5)
       replace hx123_0 := pw_cell_below HB.out hx123_0
       replace hx123_1 := pw_cell_below HB.out hx123_1
       replace hx123_2 := pw_cell_below HB.out hx123_2
       replace hx123_3 := pw_cell_below HB.out hx123_3
       replace hx123_4 := pw_cell_below HB.out hx123_4
       replace hx123_5 := pw_cell_below HB.out hx123_5
       have HR123_5 := Aside0.mk hi123_5
       have HC123_5 := Aside0.mk hl123_5
       clear hi123_5 hl123_5
       replace p123 := eq_true p123
       replace q123 := eq_true q123
       have p124 : 0 ≤ (0 : Int) := (by omega)
       have q124 : 0 < (l1_5.length : Int) := of_decide_eq_true (by first | (with_reducible assumption) | assumption)
       obtain ⟨ad124, A124_5, c124_5, e124, hx124_0, hx124_1, hx124_2, hx124_3, hx124_4, hx124_5, hl124_5, hi124_5⟩ := at_T43 HR1_5.out 0 p124 q124
       have hw124_5 := hx124_5
       (try rw [show ((0 : Int)).toNat = 0 from rfl] at hw124_5)
       (try rw [show 0 * 6 = 0 from rfl] at hw124_5)
       (try rw [Addr.add_zero'] at hw124_5)
       have hw124_4 := hx124_4
       (try rw [show ((0 : Int)).toNat = 0 from rfl] at hw124_4)
       (try rw [show 0 * 6 = 0 from rfl] at hw124_4)
       (try rw [Addr.add_zero'] at hw124_4)
       have hw124_3 := hx124_3
       (try rw [show ((0 : Int)).toNat = 0 from rfl] at hw124_3)
       (try rw [show 0 * 6 = 0 from rfl] at hw124_3)
       (try rw [Addr.add_zero'] at hw124_3)
       have hw124_2 := hx124_2
       (try rw [show ((0 : Int)).toNat = 0 from rfl] at hw124_2)
       (try rw [show 0 * 6 = 0 from rfl] at hw124_2)
       (try rw [Addr.add_zero'] at hw124_2)
       have hw124_1 := hx124_1
       (try rw [show ((0 : Int)).toNat = 0 from rfl] at hw124_1)
       (try rw [show 0 * 6 = 0 from rfl] at hw124_1)
       (try rw [Addr.add_zero'] at hw124_1)
       have hw124_0 := hx124_0
       (try rw [show ((0 : Int)).toNat = 0 from rfl] at hw124_0)
       (try rw [show 0 * 6 = 0 from rfl] at hw124_0)
       (try rw [Addr.add_zero'] at hw124_0)
       obtain rfl : ad123 = ad124 := (by injection e124)
       have qi124 : (0 < l1_5.length) = True := eq_true (by omega)
       (try rw [show ((0 : Int)).toNat = 0 from rfl] at hx124_0)
       (try rw [show 0 * 6 = 0 from rfl] at hx124_0)
       (try rw [Addr.add_zero'] at hx124_0)
       (try rw [show ((0 : Int)).toNat = 0 from rfl] at hx124_1)
       (try rw [show 0 * 6 = 0 from rfl] at hx124_1)
       (try rw [Addr.add_zero'] at hx124_1)
       (try rw [show ((0 : Int)).toNat = 0 from rfl] at hx124_2)
       (try rw [show 0 * 6 = 0 from rfl] at hx124_2)
       (try rw [Addr.add_zero'] at hx124_2)
       (try rw [show ((0 : Int)).toNat = 0 from rfl] at hx124_3)
       (try rw [show 0 * 6 = 0 from rfl] at hx124_3)
       (try rw [Addr.add_zero'] at hx124_3)
       (try rw [show ((0 : Int)).toNat = 0 from rfl] at hx124_4)
       (try rw [show 0 * 6 = 0 from rfl] at hx124_4)
       (try rw [Addr.add_zero'] at hx124_4)
       (try rw [show ((0 : Int)).toNat = 0 from rfl] at hx124_5)
       (try rw [show 0 * 6 = 0 from rfl] at hx124_5)
       (try rw [Addr.add_zero'] at hx124_5)
       replace hx124_0 := pw_cell_below HB.out hx124_0
       replace hx124_1 := pw_cell_below HB.out hx124_1
       replace hx124_2 := pw_cell_below HB.out hx124_2
       replace hx124_3 := pw_cell_below HB.out hx124_3
       replace hx124_4 := pw_cell_below HB.out hx124_4
       replace hx124_5 := pw_cell_below HB.out hx124_5
       have HR124_5 := Aside0.mk hi124_5
       have HC124_5 := Aside0.mk hl124_5
       clear hi124_5 hl124_5
       replace p124 := eq_true p124
       replace q124 := eq_true q124
       have ea_ := Option.some.inj (hx123_5.symm.trans hx124_5)
       injection ea_ with ea_ en_ ec_
       subst ea_
       subst ec_
       clear en_
       refine start_ (n := 11) (S := fun w' => w'.cell? ⟨gb106, 0, none⟩ = some (.int .i64 a1_0) ∧ w'.cell? ⟨gb106, 1, none⟩ = some (.int .i64 a1_1) ∧ w'.cell? ⟨gb106, 2, none⟩ = some (.int .i64 a1_2) ∧ w'.cell? ⟨gb106, 3, none⟩ = some (.string a1_3) ∧ w'.cell? ⟨gb106, 4, none⟩ = some (.bool a1_4) ∧ w'.cell? ⟨gb106, 5, none⟩ = some (.slice (some ad123) l1_5.length c1_5) ∧ w'.cell? ad123 = some (.int .i64 ((rd_T43 l1_5 0).f0)) ∧ w'.cell? ⟨ad123.block, ad123.off + 1, none⟩ = some (.int .i64 ((rd_T43 l1_5 0).f1)) ∧ w'.cell? ⟨ad123.block, ad123.off + 2, none⟩ = some (.int .i64 ((rd_T43 l1_5 0).f2)) ∧ w'.cell? ⟨ad123.block, ad123.off + 3, none⟩ = some (.string ((rd_T43 l1_5 0).f3)) ∧ w'.cell? ⟨ad123.block, ad123.off + 4, none⟩ = some (.bool ((rd_T43 l1_5 0).f4)) ∧ w'.cell? ⟨ad123.block, ad123.off + 5, none⟩ = some (.slice A123_5 ((rd_T43 l1_5 0).f5).length c123_5) ∧ w'.cell? ad123 = some (.int .i64 ((rd_T43 l1_5 0).f0)) ∧ w'.cell? ⟨ad123.block, ad123.off + 1, none⟩ = some (.int .i64 ((rd_T43 l1_5 0).f1)) ∧ w'.cell? ⟨ad123.block, ad123.off + 2, none⟩ = some (.int .i64 ((rd_T43 l1_5 0).f2)) ∧ w'.cell? ⟨ad123.block, ad123.off + 3, none⟩ = some (.string ((rd_T43 l1_5 0).f3)) ∧ w'.cell? ⟨ad123.block, ad123.off + 4, none⟩ = some (.bool ((rd_T43 l1_5 0).f4)) ∧ w'.cell? ⟨ad123.block, ad123.off + 5, none⟩ = some (.slice A123_5 ((rd_T43 l1_5 0).f5).length c123_5)) (ds := []) #[false, false, false, false, false, false, false, false, false, false, false] (by kernel_rfl) rfl rfl ⟨(blk_cell BK106.out 0).trans rfl, (blk_cell BK106.out 1).trans rfl, (blk_cell BK106.out 2).trans rfl, (blk_cell BK106.out 3).trans rfl, (blk_cell BK106.out 4).trans rfl, (blk_cell BK106.out 5).trans rfl, (pw_cell_below HB.out hw123_0), (pw_cell_below HB.out hw123_1), (pw_cell_below HB.out hw123_2), (pw_cell_below HB.out hw123_3), (pw_cell_below HB.out hw123_4), (pw_cell_below HB.out hw123_5), (pw_cell_below HB.out hw124_0), (pw_cell_below HB.out hw124_1), (pw_cell_below HB.out hw124_2), (pw_cell_below HB.out hw124_3), (pw_cell_below HB.out hw124_4), (pw_cell_below HB.out hw124_5)⟩ (fun hHeld => ?_); refine with_tabW inits_checker_late.tab13 inits_checker_late.bits13 (fun HT_ HW_ => ?_)
       generalize w36.drew = w39 at BK106 HI0 HK HB HR123_5 HR124_5 hx123_0 hx123_1 hx123_2 hx123_3 hx123_4 hx123_5 hx124_0 hx124_1 hx124_2 hx124_3 hx124_4 hx124_5 hHeld ⊢
       refine pure_ (i := 0) (N := some 54) (v := ?_) (a' := ?_) #[true, false, false, false, false, false, false, false, false, false, false] rfl rfl (any_of HT_.out (by kernel_rfl)) (fun _ _ _ h => h) (Or.inl ⟨by rfl, ?_⟩) ?_ ?_
       rotate_left
       ·intro w'
        go_simp
        with_reducible rfl
       rotate_left
       ·simp only [Act.put, List.setIfInBounds_toArray, List.set_cons_zero, List.set_cons_succ, i64_w, i32_w]
        rfl
       refine pure_ (i := 1) (N := some 55) (v := ?_) (a' := ?_) #[true, true, false, false, false, false, false, false, false, false, false] rfl rfl (any_of HT_.out (by kernel_rfl)) (fun _ _ _ h => h) (Or.inl ⟨by rfl, ?_⟩) ?_ ?_
       rotate_left
       ·intro w'
        go_simp
        with_reducible rfl
       rotate_left
       ·simp only [Act.put, List.setIfInBounds_toArray, List.set_cons_zero, List.set_cons_succ, i64_w, i32_w]
        rfl
       refine pure_ (i := 5) (N := some 59) (v := ?_) (a' := ?_) #[true, true, false, false, false, true, false, false, false, false, false] rfl rfl (any_of HT_.out (by kernel_rfl)) (fun _ _ _ h => h) (Or.inl ⟨by rfl, ?_⟩) ?_ ?_
       rotate_left
       ·intro w'
        go_simp
        with_reducible rfl
       rotate_left
       ·simp only [Act.put, List.setIfInBounds_toArray, List.set_cons_zero, List.set_cons_succ, i64_w, i32_w]
        rfl
       refine take_ (i := 2) (N := some 56) (v := ?_) (a' := ?_) #[true, true, true, false, false, true, false, false, false, false, false] rfl rfl (take_ofW HT_.out HW_.out (by kernel_rfl)) (fun _ _ _ h => h) (Or.inl ⟨by rfl, ?_⟩) hHeld ?_ ?_
       rotate_left
       ·rintro w' ⟨s0, s1, s2, s3, s4, s5, s6, s7, s8, s9, s10, s11, s12, s13, s14, s15, s16, s17⟩
        go_simp
        with_reducible rfl
       rotate_left
       ·simp only [Act.put, List.setIfInBounds_toArray, List.set_cons_zero, List.set_cons_succ, i64_w, i32_w]
        rfl
       refine pure_ (i := 3) (N := some 57) (v := ?_) (a' := ?_) #[true, true, true, true, false, true, false, false, false, false, false] rfl rfl (any_of HT_.out (by kernel_rfl)) (fun _ _ _ h => h) (Or.inl ⟨by rfl, ?_⟩) ?_ ?_
       rotate_left
       ·intro w'
        go_simp
        with_reducible rfl
       rotate_left
       ·simp only [Act.put, List.setIfInBounds_toArray, List.set_cons_zero, List.set_cons_succ, i64_w, i32_w]
        rfl
       refine take_ (i := 4) (N := some 58) (v := ?_) (a' := ?_) #[true, true, true, true, true, true, false, false, false, false, false] rfl rfl (take_ofW HT_.out HW_.out (by kernel_rfl)) (fun _ _ _ h => h) (Or.inl ⟨by rfl, ?_⟩) hHeld ?_ ?_
       rotate_left
       ·rintro w' ⟨s0, s1, s2, s3, s4, s5, s6, s7, s8, s9, s10, s11, s12, s13, s14, s15, s16, s17⟩
        go_simp
        with_reducible rfl
       rotate_left
       ·simp only [Act.put, List.setIfInBounds_toArray, List.set_cons_zero, List.set_cons_succ, i64_w, i32_w]
        rfl
       refine take_ (i := 6) (N := some 60) (v := ?_) (a' := ?_) #[true, true, true, true, true, true, true, false, false, false, false] rfl rfl (take_ofW HT_.out HW_.out (by kernel_rfl)) (fun _ _ _ h => h) (Or.inl ⟨by rfl, ?_⟩) hHeld ?_ ?_
       rotate_left
       ·rintro w' ⟨s0, s1, s2, s3, s4, s5, s6, s7, s8, s9, s10, s11, s12, s13, s14, s15, s16, s17⟩
        go_simp
        with_reducible rfl
       rotate_left
       ·simp only [Act.put, List.setIfInBounds_toArray, List.set_cons_zero, List.set_cons_succ, i64_w, i32_w]
        rfl
       refine pure_ (i := 7) (N := some 61) (v := ?_) (a' := ?_) #[true, true, true, true, true, true, true, true, false, false, false] rfl rfl (any_of HT_.out (by kernel_rfl)) (fun _ _ _ h => h) (Or.inl ⟨by rfl, ?_⟩) ?_ ?_
       rotate_left
       ·intro w'
        go_simp
        with_reducible rfl
       rotate_left
       ·simp only [Act.put, List.setIfInBounds_toArray, List.set_cons_zero, List.set_cons_succ, i64_w, i32_w]
        rfl
       refine pure_ (i := 8) (N := some 62) (v := ?_) (a' := ?_) #[true, true, true, true, true, true, true, true, true, false, false] rfl rfl (any_of HT_.out (by kernel_rfl)) (fun _ _ _ h => h) (Or.inl ⟨by rfl, ?_⟩) ?_ ?_
       rotate_left
       ·intro w'
        go_simp
        with_reducible rfl
       rotate_left
       ·simp only [Act.put, List.setIfInBounds_toArray, List.set_cons_zero, List.set_cons_succ, i64_w, i32_w]
        rfl
       refine take_ (i := 9) (N := some 63) (v := ?_) (a' := ?_) #[true, true, true, true, true, true, true, true, true, true, false] rfl rfl (take_ofW HT_.out HW_.out (by kernel_rfl)) (fun _ _ _ h => h) (Or.inl ⟨by rfl, ?_⟩) hHeld ?_ ?_
       rotate_left
       ·rintro w' ⟨s0, s1, s2, s3, s4, s5, s6, s7, s8, s9, s10, s11, s12, s13, s14, s15, s16, s17⟩
        go_simp
        with_reducible rfl
       rotate_left
       ·simp only [Act.put, List.setIfInBounds_toArray, List.set_cons_zero, List.set_cons_succ, i64_w, i32_w]
        rfl
       refine one_ (i := 10) (N := some 64) #[true, true, true, true, true, true, true, true, true, true, true] rfl rfl (one_of HT_.out (by kernel_rfl)) (by decide) (fun K hK => ?_)
       refine goes_ Tryd.func53 (by kernel_rfl) rfl #[.pointer (some ⟨g, 0, none⟩), .agg #[.int .i64 ((rd_T43 l1_5 0).f0), .int .i64 ((rd_T43 l1_5 0).f1), .int .i64 ((rd_T43 l1_5 0).f2), .string ((rd_T43 l1_5 0).f3), .bool ((rd_T43 l1_5 0).f4), .slice A123_5 ((rd_T43 l1_5 0).f5).length c123_5], .int .i64 ((rd_T43 l1_5 0).f1)] (by rfl) rfl rfl (by (try simp only [List.map_toArray, List.map_cons, List.map_nil]); first | done | rfl | (simp only [List.length_drop, List.length_take]; rfl)) ?_
       with_reducible refine (ih_53 k (by omega) g s0_0 s0_1 s0_2 ((rd_T43 l1_5 0).f0) ((rd_T43 l1_5 0).f1) ((rd_T43 l1_5 0).f2) ((rd_T43 l1_5 0).f3) ((rd_T43 l1_5 0).f4) _ _ ((rd_T43 l1_5 0).f5) ((rd_T43 l1_5 0).f1) t125 t126 w0 _ ?side1 ?side2 ?side3 ?side4 A33.out).mono ?_
       (case side1 => repeat (first | (with_reducible first | exact HI0.out | apply IsS114.alloc | apply IsS114.drewN | apply IsS114.drew | apply IsS114.set_1 | apply IsS114.set_2 | refine IsS114.far ?_ NB0_106.out _) | exact HI0.out))
       (case side2 => repeat (first | (with_reducible first | exact HB.out | apply below_alloc | apply pw_below_drewN | apply below_drew1 | refine below_set ?_ (IsS114.ge HI0.out) | refine below_set ?_ GE106.out) | exact HB.out))
       (case side3 => exact HR123_5.out)
       (case side4 => exact HC123_5.out)
       rintro e w40 ⟨rfl, hi, hb, hk⟩
       refine ⟨_, rfl, ?_⟩
       have n0_ := Aside0.mk (KeepBut.blk hk (g' := gb106) (o := .cells #[.int .i64 a1_0, .int .i64 a1_1, .int .i64 a1_2, .string a1_3, .bool a1_4, .slice (some ad123) l1_5.length c1_5] 43 (0, 0)) (by (with_reducible repeat (first | refine blk_drewN ?_ _ | refine blk_drew ?_ | refine blk_alloc ?_ _)); exact BK106.out) NB106_0.out (by simp))
       have n1_ := Aside0.mk (KeepBut.trans (by repeat (first | (with_reducible first | exact HK.out | apply KeepBut.set_ | apply keep_drewN | apply keep_drew | apply keep_alloc | refine keep_far ?_ GW106.out _) | exact HK.out)) hk (.inl rfl))
       have n2_ := Aside0.mk (hb)
       have n3_ := Aside0.mk (hi)
       clear BK106
       clear HK
       clear HB
       clear HI0
       have BK106 := n0_
       have HK := n1_
       have HB := n2_
       have HI0 := n3_
       clear n0_ n1_ n2_ n3_
       (try clear hb)
       (try clear hb2)
       (try clear hk)
       (try clear hi)
       refine hK.out _ _ ⟨(blk_cell BK106.out 0).trans rfl, (blk_cell BK106.out 1).trans rfl, (blk_cell BK106.out 2).trans rfl, (blk_cell BK106.out 3).trans rfl, (blk_cell BK106.out 4).trans rfl, (blk_cell BK106.out 5).trans rfl, (pw_cell_below HB.out hw123_0), (pw_cell_below HB.out hw123_1), (pw_cell_below HB.out hw123_2), (pw_cell_below HB.out hw123_3), (pw_cell_below HB.out hw123_4), (pw_cell_below HB.out hw123_5), (pw_cell_below HB.out hw124_0), (pw_cell_below HB.out hw124_1), (pw_cell_below HB.out hw124_2), (pw_cell_below HB.out hw124_3), (pw_cell_below HB.out hw124_4), (pw_cell_below HB.out hw124_5)⟩ (fun hHeld => ?_)
       clear hK K
       refine norm_ (a' := ?_) ?_ ?_
       rotate_left
       ·show Act.put _ (some 64) _ = _
        simp only [Act.put, List.setIfInBounds_toArray, List.set_cons_zero, List.set_cons_succ, i64_w, i32_w]
        rfl
       refine done_ (done_of HT_.out (by kernel_rfl)) ?_
       try go_wp2
       have n0_ := Aside0.mk (blk_drew BK106.out)
       have n1_ := Aside0.mk (IsS114.drew HI0.out)
       have n2_ := Aside0.mk (keep_drew HK.out)
       have n3_ := Aside0.mk (below_drew1 HB.out)
       clear BK106
       clear HI0
       clear HK
       clear HB
       have BK106 := n0_
       have HI0 := n1_
       have HK := n2_
       have HB := n3_
       clear n0_ n1_ n2_ n3_
       have p127 : 0 ≤ (1 : Int) := (by omega)
       have q127 : 1 < (l1_5.length : Int) := of_decide_eq_true (by first | (with_reducible assumption) | assumption)
       obtain ⟨ad127, A127_5, c127_5, e127, hx127_0, hx127_1, hx127_2, hx127_3, hx127_4, hx127_5, hl127_5, hi127_5⟩ := at_T43 HR1_5.out 1 p127 q127
       have hw127_5 := hx127_5
       (try rw [show ((1 : Int)).toNat = 1 from rfl] at hw127_5)
       (try rw [show 1 * 6 = 6 from rfl] at hw127_5)
       (try simp only [Nat.reduceMul, Nat.reduceEqDiff, Go.Addr.add, ↓reduceIte] at hw127_5)
       have hw127_4 := hx127_4
       (try rw [show ((1 : Int)).toNat = 1 from rfl] at hw127_4)
       (try rw [show 1 * 6 = 6 from rfl] at hw127_4)
       (try simp only [Nat.reduceMul, Nat.reduceEqDiff, Go.Addr.add, ↓reduceIte] at hw127_4)
       have hw127_3 := hx127_3
       (try rw [show ((1 : Int)).toNat = 1 from rfl] at hw127_3)
       (try rw [show 1 * 6 = 6 from rfl] at hw127_3)
       (try simp only [Nat.reduceMul, Nat.reduceEqDiff, Go.Addr.add, ↓reduceIte] at hw127_3)
       have hw127_2 := hx127_2
       (try rw [show ((1 : Int)).toNat = 1 from rfl] at hw127_2)
       (try rw [show 1 * 6 = 6 from rfl] at hw127_2)
       (try simp only [Nat.reduceMul, Nat.reduceEqDiff, Go.Addr.add, ↓reduceIte] at hw127_2)
       have hw127_1 := hx127_1
       (try rw [show ((1 : Int)).toNat = 1 from rfl] at hw127_1)
       (try rw [show 1 * 6 = 6 from rfl] at hw127_1)
       (try simp only [Nat.reduceMul, Nat.reduceEqDiff, Go.Addr.add, ↓reduceIte] at hw127_1)
       have hw127_0 := hx127_0
       (try rw [show ((1 : Int)).toNat = 1 from rfl] at hw127_0)
       (try rw [show 1 * 6 = 6 from rfl] at hw127_0)
       (try simp only [Nat.reduceMul, Nat.reduceEqDiff, Go.Addr.add, ↓reduceIte] at hw127_0)
       obtain rfl : ad123 = ad127 := (by injection e127)
       (try simp only [show (1 : Int).toNat = 1 from rfl, Nat.reduceMul, Nat.reduceEqDiff, Go.Addr.add, ↓reduceIte] at hx127_0)
       (try simp only [show (1 : Int).toNat = 1 from rfl, Nat.reduceMul, Nat.reduceEqDiff, Go.Addr.add, ↓reduceIte] at hx127_1)
       (try simp only [show (1 : Int).toNat = 1 from rfl, Nat.reduceMul, Nat.reduceEqDiff, Go.Addr.add, ↓reduceIte] at hx127_2)
       (try simp only [show (1 : Int).toNat = 1 from rfl, Nat.reduceMul, Nat.reduceEqDiff, Go.Addr.add, ↓reduceIte] at hx127_3)
       (try simp only [show (1 : Int).toNat = 1 from rfl, Nat.reduceMul, Nat.reduceEqDiff, Go.Addr.add, ↓reduceIte] at hx127_4)
       (try simp only [show (1 : Int).toNat = 1 from rfl, Nat.reduceMul, Nat.reduceEqDiff, Go.Addr.add, ↓reduceIte] at hx127_5)
       have qi127 : (1 < l1_5.length) = True := eq_true (by omega)
       (try rw [show ((1 : Int)).toNat = 1 from rfl] at hx127_0)
       (try rw [show 1 * 6 = 6 from rfl] at hx127_0)
       (try rw [show ((1 : Int)).toNat = 1 from rfl] at hx127_1)
       (try rw [show 1 * 6 = 6 from rfl] at hx127_1)
       (try rw [show ((1 : Int)).toNat = 1 from rfl] at hx127_2)
       (try rw [show 1 * 6 = 6 from rfl] at hx127_2)
       (try rw [show ((1 : Int)).toNat = 1 from rfl] at hx127_3)
       (try rw [show 1 * 6 = 6 from rfl] at hx127_3)
       (try rw [show ((1 : Int)).toNat = 1 from rfl] at hx127_4)
       (try rw [show 1 * 6 = 6 from rfl] at hx127_4)
       (try rw [show ((1 : Int)).toNat = 1 from rfl] at hx127_5)
       (try rw [show 1 * 6 = 6 from rfl] at hx127_5)
       replace hx127_0 := pw_cell_below HB.out hx127_0
       replace hx127_1 := pw_cell_below HB.out hx127_1
       replace hx127_2 := pw_cell_below HB.out hx127_2
       replace hx127_3 := pw_cell_below HB.out hx127_3
       replace hx127_4 := pw_cell_below HB.out hx127_4
       replace hx127_5 := pw_cell_below HB.out hx127_5
       have HR127_5 := Aside0.mk hi127_5
       have HC127_5 := Aside0.mk hl127_5
       clear hi127_5 hl127_5
       replace p127 := eq_true p127
       replace q127 := eq_true q127
       have p128 : 0 ≤ (1 : Int) := (by omega)
       have q128 : 1 < (l1_5.length : Int) := of_decide_eq_true (by first | (with_reducible assumption) | assumption)
       obtain ⟨ad128, A128_5, c128_5, e128, hx128_0, hx128_1, hx128_2, hx128_3, hx128_4, hx128_5, hl128_5, hi128_5⟩ := at_T43 HR1_5.out 1 p128 q128
       have hw128_5 := hx128_5
       (try rw [show ((1 : Int)).toNat = 1 from rfl] at hw128_5)
       (try rw [show 1 * 6 = 6 from rfl] at hw128_5)
       (try simp only [Nat.reduceMul, Nat.reduceEqDiff, Go.Addr.add, ↓reduceIte] at hw128_5)
       have hw128_4 := hx128_4
       (try rw [show ((1 : Int)).toNat = 1 from rfl] at hw128_4)
       (try rw [show 1 * 6 = 6 from rfl] at hw128_4)
       (try simp only [Nat.reduceMul, Nat.reduceEqDiff, Go.Addr.add, ↓reduceIte] at hw128_4)
       have hw128_3 := hx128_3
       (try rw [show ((1 : Int)).toNat = 1 from rfl] at hw128_3)
       (try rw [show 1 * 6 = 6 from rfl] at hw128_3)
       (try simp only [Nat.reduceMul, Nat.reduceEqDiff, Go.Addr.add, ↓reduceIte] at hw128_3)
       have hw128_2 := hx128_2
       (try rw [show ((1 : Int)).toNat = 1 from rfl] at hw128_2)
       (try rw [show 1 * 6 = 6 from rfl] at hw128_2)
       (try simp only [Nat.reduceMul, Nat.reduceEqDiff, Go.Addr.add, ↓reduceIte] at hw128_2)
       have hw128_1 := hx128_1
       (try rw [show ((1 : Int)).toNat = 1 from rfl] at hw128_1)
       (try rw [show 1 * 6 = 6 from rfl] at hw128_1)
       (try simp only [Nat.reduceMul, Nat.reduceEqDiff, Go.Addr.add, ↓reduceIte] at hw128_1)
       have hw128_0 := hx128_0
       (try rw [show ((1 : Int)).toNat = 1 from rfl] at hw128_0)
       (try rw [show 1 * 6 = 6 from rfl] at hw128_0)
       (try simp only [Nat.reduceMul, Nat.reduceEqDiff, Go.Addr.add, ↓reduceIte] at hw128_0)
       obtain rfl : ad123 = ad128 := (by injection e128)
       (try simp only [show (1 : Int).toNat = 1 from rfl, Nat.reduceMul, Nat.reduceEqDiff, Go.Addr.add, ↓reduceIte] at hx128_0)
       (try simp only [show (1 : Int).toNat = 1 from rfl, Nat.reduceMul, Nat.reduceEqDiff, Go.Addr.add, ↓reduceIte] at hx128_1)
       (try simp only [show (1 : Int).toNat = 1 from rfl, Nat.reduceMul, Nat.reduceEqDiff, Go.Addr.add, ↓reduceIte] at hx128_2)
       (try simp only [show (1 : Int).toNat = 1 from rfl, Nat.reduceMul, Nat.reduceEqDiff, Go.Addr.add, ↓reduceIte] at hx128_3)
       (try simp only [show (1 : Int).toNat = 1 from rfl, Nat.reduceMul, Nat.reduceEqDiff, Go.Addr.add, ↓reduceIte] at hx128_4)
       (try simp only [show (1 : Int).toNat = 1 from rfl, Nat.reduceMul, Nat.reduceEqDiff, Go.Addr.add, ↓reduceIte] at hx128_5)
       have qi128 : (1 < l1_5.length) = True := eq_true (by omega)
       (try rw [show ((1 : Int)).toNat = 1 from rfl] at hx128_0)
       (try rw [show 1 * 6 = 6 from rfl] at hx128_0)
       (try rw [show ((1 : Int)).toNat = 1 from rfl] at hx128_1)
       (try rw [show 1 * 6 = 6 from rfl] at hx128_1)
       (try rw [show ((1 : Int)).toNat = 1 from rfl] at hx128_2)
       (try rw [show 1 * 6 = 6 from rfl] at hx128_2)
       (try rw [show ((1 : Int)).toNat = 1 from rfl] at hx128_3)
       (try rw [show 1 * 6 = 6 from rfl] at hx128_3)
       (try rw [show ((1 : Int)).toNat = 1 from rfl] at hx128_4)
       (try rw [show 1 * 6 = 6 from rfl] at hx128_4)
       (try rw [show ((1 : Int)).toNat = 1 from rfl] at hx128_5)
       (try rw [show 1 * 6 = 6 from rfl] at hx128_5)
       replace hx128_0 := pw_cell_below HB.out hx128_0
       replace hx128_1 := pw_cell_below HB.out hx128_1
       replace hx128_2 := pw_cell_below HB.out hx128_2
       replace hx128_3 := pw_cell_below HB.out hx128_3
       replace hx128_4 := pw_cell_below HB.out hx128_4
       replace hx128_5 := pw_cell_below HB.out hx128_5
       have HR128_5 := Aside0.mk hi128_5
       have HC128_5 := Aside0.mk hl128_5
       clear hi128_5 hl128_5
       replace p128 := eq_true p128
       replace q128 := eq_true q128
       have ea_ := Option.some.inj (hx127_5.symm.trans hx128_5)
       injection ea_ with ea_ en_ ec_
       subst ea_
       subst ec_
       clear en_
       refine start_ (n := 11) (S := fun w' => w'.cell? ⟨gb106, 0, none⟩ = some (.int .i64 a1_0) ∧ w'.cell? ⟨gb106, 1, none⟩ = some (.int .i64 a1_1) ∧ w'.cell? ⟨gb106, 2, none⟩ = some (.int .i64 a1_2) ∧ w'.cell? ⟨gb106, 3, none⟩ = some (.string a1_3) ∧ w'.cell? ⟨gb106, 4, none⟩ = some (.bool a1_4) ∧ w'.cell? ⟨gb106, 5, none⟩ = some (.slice (some ad123) l1_5.length c1_5) ∧ w'.cell? ⟨ad123.block, ad123.off + 6, none⟩ = some (.int .i64 ((rd_T43 l1_5 1).f0)) ∧ w'.cell? ⟨ad123.block, ad123.off + 6 + 1, none⟩ = some (.int .i64 ((rd_T43 l1_5 1).f1)) ∧ w'.cell? ⟨ad123.block, ad123.off + 6 + 2, none⟩ = some (.int .i64 ((rd_T43 l1_5 1).f2)) ∧ w'.cell? ⟨ad123.block, ad123.off + 6 + 3, none⟩ = some (.string ((rd_T43 l1_5 1).f3)) ∧ w'.cell? ⟨ad123.block, ad123.off + 6 + 4, none⟩ = some (.bool ((rd_T43 l1_5 1).f4)) ∧ w'.cell? ⟨ad123.block, ad123.off + 6 + 5, none⟩ = some (.slice A127_5 ((rd_T43 l1_5 1).f5).length c127_5) ∧ w'.cell? ⟨ad123.block, ad123.off + 6, none⟩ = some (.int .i64 ((rd_T43 l1_5 1).f0)) ∧ w'.cell? ⟨ad123.block, ad123.off + 6 + 1, none⟩ = some (.int .i64 ((rd_T43 l1_5 1).f1)) ∧ w'.cell? ⟨ad123.block, ad123.off + 6 + 2, none⟩ = some (.int .i64 ((rd_T43 l1_5 1).f2)) ∧ w'.cell? ⟨ad123.block, ad123.off + 6 + 3, none⟩ = some (.string ((rd_T43 l1_5 1).f3)) ∧ w'.cell? ⟨ad123.block, ad123.off + 6 + 4, none⟩ = some (.bool ((rd_T43 l1_5 1).f4)) ∧ w'.cell? ⟨ad123.block, ad123.off + 6 + 5, none⟩ = some (.slice A127_5 ((rd_T43 l1_5 1).f5).length c127_5)) (ds := []) #[false, false, false, false, false, false, false, false, false, false, false] (by kernel_rfl) rfl rfl ⟨(blk_cell BK106.out 0).trans rfl, (blk_cell BK106.out 1).trans rfl, (blk_cell BK106.out 2).trans rfl, (blk_cell BK106.out 3).trans rfl, (blk_cell BK106.out 4).trans rfl, (blk_cell BK106.out 5).trans rfl, (pw_cell_below HB.out hw127_0), (pw_cell_below HB.out hw127_1), (pw_cell_below HB.out hw127_2), (pw_cell_below HB.out hw127_3), (pw_cell_below HB.out hw127_4), (pw_cell_below HB.out hw127_5), (pw_cell_below HB.out hw128_0), (pw_cell_below HB.out hw128_1), (pw_cell_below HB.out hw128_2), (pw_cell_below HB.out hw128_3), (pw_cell_below HB.out hw128_4), (pw_cell_below HB.out hw128_5)⟩ (fun hHeld => ?_); refine with_tabW inits_checker_late.tab14 inits_checker_late.bits14 (fun HT_ HW_ => ?_)
       generalize w40.drew = w41 at BK106 HI0 HK HB HR127_5 HR128_5 hx127_0 hx127_1 hx127_2 hx127_3 hx127_4 hx127_5 hx128_0 hx128_1 hx128_2 hx128_3 hx128_4 hx128_5 hHeld ⊢
       refine pure_ (i := 0) (N := some 65) (v := ?_) (a' := ?_) #[true, false, false, false, false, false, false, false, false, false, false] rfl rfl (any_of HT_.out (by kernel_rfl)) (fun _ _ _ h => h) (Or.inl ⟨by rfl, ?_⟩) ?_ ?_
       rotate_left
       ·intro w'
        go_simp
        with_reducible rfl
       rotate_left
       ·simp only [Act.put, List.setIfInBounds_toArray, List.set_cons_zero, List.set_cons_succ, i64_w, i32_w]
        rfl
       refine pure_ (i := 1) (N := some 66) (v := ?_) (a' := ?_) #[true, true, false, false, false, false, false, false, false, false, false] rfl rfl (any_of HT_.out (by kernel_rfl)) (fun _ _ _ h => h) (Or.inl ⟨by rfl, ?_⟩) ?_ ?_
       rotate_left
       ·intro w'
        go_simp
        with_reducible rfl
       rotate_left
       ·simp only [Act.put, List.setIfInBounds_toArray, List.set_cons_zero, List.set_cons_succ, i64_w, i32_w]
        rfl
       refine pure_ (i := 5) (N := some 70) (v := ?_) (a' := ?_) #[true, true, false, false, false, true, false, false, false, false, false] rfl rfl (any_of HT_.out (by kernel_rfl)) (fun _ _ _ h => h) (Or.inl ⟨by rfl, ?_⟩) ?_ ?_
       rotate_left
       ·intro w'
        go_simp
        with_reducible rfl
       rotate_left
       ·simp only [Act.put, List.setIfInBounds_toArray, List.set_cons_zero, List.set_cons_succ, i64_w, i32_w]
        rfl
       refine take_ (i := 2) (N := some 67) (v := ?_) (a' := ?_) #[true, true, true, false, false, true, false, false, false, false, false] rfl rfl (take_ofW HT_.out HW_.out (by kernel_rfl)) (fun _ _ _ h => h) (Or.inl ⟨by rfl, ?_⟩) hHeld ?_ ?_
       rotate_left
       ·rintro w' ⟨s0, s1, s2, s3, s4, s5, s6, s7, s8, s9, s10, s11, s12, s13, s14, s15, s16, s17⟩
        go_simp
        with_reducible rfl
       rotate_left
       ·simp only [Act.put, List.setIfInBounds_toArray, List.set_cons_zero, List.set_cons_succ, i64_w, i32_w]
        rfl
       refine pure_ (i := 3) (N := some 68) (v := ?_) (a' := ?_) #[true, true, true, true, false, true, false, false, false, false, false] rfl rfl (any_of HT_.out (by kernel_rfl)) (fun _ _ _ h => h) (Or.inl ⟨by rfl, ?_⟩) ?_ ?_
       rotate_left
       ·intro w'
        go_simp
        with_reducible rfl
       rotate_left
       ·simp only [Act.put, List.setIfInBounds_toArray, List.set_cons_zero, List.set_cons_succ, i64_w, i32_w]
        rfl
       refine take_ (i := 4) (N := some 69) (v := ?_) (a' := ?_) #[true, true, true, true, true, true, false, false, false, false, false] rfl rfl (take_ofW HT_.out HW_.out (by kernel_rfl)) (fun _ _ _ h => h) (Or.inl ⟨by rfl, ?_⟩) hHeld ?_ ?_
       rotate_left
       ·rintro w' ⟨s0, s1, s2, s3, s4, s5, s6, s7, s8, s9, s10, s11, s12, s13, s14, s15, s16, s17⟩
        go_simp
        with_reducible rfl
       rotate_left
       ·simp only [Act.put, List.setIfInBounds_toArray, List.set_cons_zero, List.set_cons_succ, i64_w, i32_w]
        rfl
       refine take_ (i := 6) (N := some 71) (v := ?_) (a' := ?_) #[true, true, true, true, true, true, true, false, false, false, false] rfl rfl (take_ofW HT_.out HW_.out (by kernel_rfl)) (fun _ _ _ h => h) (Or.inl ⟨by rfl, ?_⟩) hHeld ?_ ?_
       rotate_left
       ·rintro w' ⟨s0, s1, s2, s3, s4, s5, s6, s7, s8, s9, s10, s11, s12, s13, s14, s15, s16, s17⟩
        go_simp
        with_reducible rfl
       rotate_left
       ·simp only [Act.put, List.setIfInBounds_toArray, List.set_cons_zero, List.set_cons_succ, i64_w, i32_w]
        rfl
       refine pure_ (i := 7) (N := some 72) (v := ?_) (a' := ?_) #[true, true, true, true, true, true, true, true, false, false, false] rfl rfl (any_of HT_.out (by kernel_rfl)) (fun _ _ _ h => h) (Or.inl ⟨by rfl, ?_⟩) ?_ ?_
       rotate_left
       ·intro w'
        go_simp
        with_reducible rfl
       rotate_left
       ·simp only [Act.put, List.setIfInBounds_toArray, List.set_cons_zero, List.set_cons_succ, i64_w, i32_w]
        rfl
       refine pure_ (i := 8) (N := some 73) (v := ?_) (a' := ?_) #[true, true, true, true, true, true, true, true, true, false, false] rfl rfl (any_of HT_.out (by kernel_rfl)) (fun _ _ _ h => h) (Or.inl ⟨by rfl, ?_⟩) ?_ ?_
       rotate_left
       ·intro w'
        go_simp
        with_reducible rfl
       rotate_left
       ·simp only [Act.put, List.setIfInBounds_toArray, List.set_cons_zero, List.set_cons_succ, i64_w, i32_w]
        rfl
       refine take_ (i := 9) (N := some 74) (v := ?_) (a' := ?_) #[true, true, true, true, true, true, true, true, true, true, false] rfl rfl (take_ofW HT_.out HW_.out (by kernel_rfl)) (fun _ _ _ h => h) (Or.inl ⟨by rfl, ?_⟩) hHeld ?_ ?_
       rotate_left
       ·rintro w' ⟨s0, s1, s2, s3, s4, s5, s6, s7, s8, s9, s10, s11, s12, s13, s14, s15, s16, s17⟩
        go_simp
        with_reducible rfl
       rotate_left
       ·simp only [Act.put, List.setIfInBounds_toArray, List.set_cons_zero, List.set_cons_succ, i64_w, i32_w]
        rfl
       refine one_ (i := 10) (N := some 75) #[true, true, true, true, true, true, true, true, true, true, true] rfl rfl (one_of HT_.out (by kernel_rfl)) (by decide) (fun K hK => ?_)
       refine goes_ Tryd.func53 (by kernel_rfl) rfl #[.pointer (some ⟨g, 0, none⟩), .agg #[.int .i64 ((rd_T43 l1_5 1).f0), .int .i64 ((rd_T43 l1_5 1).f1), .int .i64 ((rd_T43 l1_5 1).f2), .string ((rd_T43 l1_5 1).f3), .bool ((rd_T43 l1_5 1).f4), .slice A127_5 ((rd_T43 l1_5 1).f5).length c127_5], .int .i64 ((rd_T43 l1_5 1).f1)] (by rfl) rfl rfl (by (try simp only [List.map_toArray, List.map_cons, List.map_nil]); first | done | rfl | (simp only [List.length_drop, List.length_take]; rfl)) ?_
       with_reducible refine (ih_53 k (by omega) g s0_0 t125 t126 ((rd_T43 l1_5 1).f0) ((rd_T43 l1_5 1).f1) ((rd_T43 l1_5 1).f2) ((rd_T43 l1_5 1).f3) ((rd_T43 l1_5 1).f4) _ _ ((rd_T43 l1_5 1).f5) ((rd_T43 l1_5 1).f1) t129 t130 w0 _ ?side1 ?side2 ?side3 ?side4 A35.out).mono ?_
       (case side1 => repeat (first | (with_reducible first | exact HI0.out | apply IsS114.alloc | apply IsS114.drewN | apply IsS114.drew | apply IsS114.set_1 | apply IsS114.set_2 | refine IsS114.far ?_ NB0_106.out _) | exact HI0.out))
       (case side2 => repeat (first | (with_reducible first | exact HB.out | apply below_alloc | apply pw_below_drewN | apply below_drew1 | refine below_set ?_ (IsS114.ge HI0.out) | refine below_set ?_ GE106.out) | exact HB.out))
       (case side3 => exact HR127_5.out)
       (case side4 => exact HC127_5.out)
       rintro e w42 ⟨rfl, hi, hb, hk⟩
       refine ⟨_, rfl, ?_⟩
       have n0_ := Aside0.mk (KeepBut.blk hk (g' := gb106) (o := .cells #[.int .i64 a1_0, .int .i64 a1_1, .int .i64 a1_2, .string a1_3, .bool a1_4, .slice (some ad123) l1_5.length c1_5] 43 (0, 0)) (by (with_reducible repeat (first | refine blk_drewN ?_ _ | refine blk_drew ?_ | refine blk_alloc ?_ _)); exact BK106.out) NB106_0.out (by simp))
       have n1_ := Aside0.mk (KeepBut.trans (by repeat (first | (with_reducible first | exact HK.out | apply KeepBut.set_ | apply keep_drewN | apply keep_drew | apply keep_alloc | refine keep_far ?_ GW106.out _) | exact HK.out)) hk (.inl rfl))
       have n2_ := Aside0.mk (hb)
       have n3_ := Aside0.mk (hi)
       clear BK106
       clear HK
       clear HB
       clear HI0
       have BK106 := n0_
       have HK := n1_
       have HB := n2_
       have HI0 := n3_
       clear n0_ n1_ n2_ n3_
       (try clear hb)
       (try clear hb2)
       (try clear hk)
       (try clear hi)
       refine hK.out _ _ ⟨(blk_cell BK106.out 0).trans rfl, (blk_cell BK106.out 1).trans rfl, (blk_cell BK106.out 2).trans rfl, (blk_cell BK106.out 3).trans rfl, (blk_cell BK106.out 4).trans rfl, (blk_cell BK106.out 5).trans rfl, (pw_cell_below HB.out hw127_0), (pw_cell_below HB.out hw127_1), (pw_cell_below HB.out hw127_2), (pw_cell_below HB.out hw127_3), (pw_cell_below HB.out hw127_4), (pw_cell_below HB.out hw127_5), (pw_cell_below HB.out hw128_0), (pw_cell_below HB.out hw128_1), (pw_cell_below HB.out hw128_2), (pw_cell_below HB.out hw128_3), (pw_cell_below HB.out hw128_4), (pw_cell_below HB.out hw128_5)⟩ (fun hHeld => ?_)
       clear hK K
       refine norm_ (a' := ?_) ?_ ?_
       rotate_left
       ·show Act.put _ (some 75) _ = _
        simp only [Act.put, List.setIfInBounds_toArray, List.set_cons_zero, List.set_cons_succ, i64_w, i32_w]
        rfl
       refine done_ (done_of HT_.out (by kernel_rfl)) ?_
       try go_wp2
       go_ret
       exact ⟨by first | rfl | (simp [errW_none, errW_some] <;> rfl) | (simp [*, errW_none, errW_some] <;> rfl), by repeat (first | (with_reducible first | exact HI0.out | apply IsS114.alloc | apply IsS114.drewN | apply IsS114.drew | apply IsS114.set_1 | apply IsS114.set_2 | refine IsS114.far ?_ NB0_106.out _) | exact HI0.out), by repeat (first | (with_reducible first | exact HB.out | apply below_alloc | apply pw_below_drewN | apply below_drew1 | refine below_set ?_ (IsS114.ge HI0.out) | refine below_set ?_ GE106.out) | exact HB.out), by repeat (first | (with_reducible first | exact HK.out | apply KeepBut.set_ | apply keep_drewN | apply keep_drew | apply keep_alloc | refine keep_far ?_ GW106.out _) | exact HK.out)⟩
      ·rw [if_neg c34] at H
       exact absurd H (by simp)
     ·rw [if_neg c32] at H
      exact absurd H (by simp)
    ·rw [if_neg c31] at H
     have c31b0 : (a1_0 == 12) = false := beq_eq_false_iff_ne.mpr c31
     have c31b1 : (a1_0 != 12) = true := bne_iff_ne.mpr c31
     by_cases c43 : a1_0 = 13
     ·rw [if_pos c43] at H
      have c43b0 : (a1_0 == 13) = true := beq_iff_eq.mpr c43
      have c43b1 : (a1_0 != 13) = false := bne_eq_false_iff_eq.mpr c43
      clear c43
      replace H := Option.bind_eq_some_iff.mp H
      obtain ⟨⟨t131, t132⟩, A440, H⟩ := H
      replace H : (some (false, t131, t132)) = some (r1, r2, r3) := H
      have A44 := Aside0.mk A440
      clear A440
      simp only [Option.some.injEq, Prod.mk.injEq] at H
      obtain ⟨rfl, rfl, rfl⟩ := H
      go_enter Tryd.func87, Tryd.ntmps87
      go_wp2_with (first | ((with_reducible refine gate_dst (N := 3) rfl ?_); refine box_event ?hg (N := 3) ?hd (cs := #[.int .i64 a1_0, .int .i64 a1_1, .int .i64 a1_2, .string a1_3, .bool a1_4, .slice A1_5 l1_5.length c1_5]) (t := 43) ?hr ?_; (case hd => rfl); (case hg => rfl); (case hr => first | (go_simp; done) | (go_simp; rfl)); intro gb106 hg w45 hbox hb; have n0_ := Aside0.mk (IsS114.below (by repeat (first | (with_reducible first | exact HI0.out | apply IsS114.alloc | apply IsS114.drewN | apply IsS114.drew | apply IsS114.set_1 | apply IsS114.set_2) | exact HI0.out)) hb); have n1_ := Aside0.mk (KeepBut.trans (by repeat (first | (with_reducible first | exact HK.out | apply KeepBut.set_ | apply keep_drewN | apply keep_drew | apply keep_alloc) | exact HK.out)) (KeepBut.of_below hb g none) (.inl rfl)); have n2_ := Aside0.mk (below_step (by repeat (first | (with_reducible first | exact HB.out | apply below_alloc | apply pw_below_drewN | apply below_drew1 | refine below_set ?_ (IsS114.ge HI0.out)) | exact HB.out)) hb); have n3_ := Aside0.mk (hbox); have n4_ := Aside0.mk ((by rw [hg]; exact (keep_size (w := w) (g := g) (row := none) (by repeat (first | (with_reducible first | exact HK.out | apply KeepBut.set_ | apply keep_drewN | apply keep_drew | apply keep_alloc) | exact HK.out))) : w.heap.size ≤ gb106)); have n5_ := Aside0.mk ((Nat.le_trans HW0.out (by rw [hg]; exact (keep_size (w := w) (g := g) (row := none) (by repeat (first | (with_reducible first | exact HK.out | apply KeepBut.set_ | apply keep_drewN | apply keep_drew | apply keep_alloc) | exact HK.out))) : w.heap.size ≤ gb106) : w0.heap.size ≤ gb106)); have n6_ := Aside0.mk ((by rw [hg]; exact Nat.ne_of_lt (IsS114.lt (show IsS114 w0 _ g s0_0 s0_1 s0_2 from by repeat (first | (with_reducible first | exact HI0.out | apply IsS114.alloc | apply IsS114.drewN | apply IsS114.drew | apply IsS114.set_1 | apply IsS114.set_2) | exact HI0.out))) : g ≠ gb106)); have n7_ := Aside0.mk ((by rw [hg]; exact Nat.ne_of_gt (IsS114.lt (show IsS114 w0 _ g s0_0 s0_1 s0_2 from by repeat (first | (with_reducible first | exact HI0.out | apply IsS114.alloc | apply IsS114.drewN | apply IsS114.drew | apply IsS114.set_1 | apply IsS114.set_2) | exact HI0.out))) : gb106 ≠ g)); clear HI0; clear HK; clear HB; have HI0 := n0_; have HK := n1_; have HB := n2_; have BK106 := n3_; have GW106 := n4_; have GE106 := n5_; have NB0_106 := n6_; have NB106_0 := n7_; clear n0_ n1_ n2_ n3_ n4_ n5_ n6_ n7_; clear hb hbox hg; have hnb46 := NB106_0.out; have hnc46 := NB0_106.out; have hcz47_0 : w45.cell? ⟨gb106, 0, none⟩ = some (.int .i64 a1_0) := (blk_cell BK106.out 0).trans rfl; have hcz47_1 : w45.cell? ⟨gb106, 1, none⟩ = some (.int .i64 a1_1) := (blk_cell BK106.out 1).trans rfl; have hcz47_2 : w45.cell? ⟨gb106, 2, none⟩ = some (.int .i64 a1_2) := (blk_cell BK106.out 2).trans rfl; have hcz47_3 : w45.cell? ⟨gb106, 3, none⟩ = some (.string a1_3) := (blk_cell BK106.out 3).trans rfl; have hcz47_4 : w45.cell? ⟨gb106, 4, none⟩ = some (.bool a1_4) := (blk_cell BK106.out 4).trans rfl; have hcz47_5 : w45.cell? ⟨gb106, 5, none⟩ = some (.slice A1_5 l1_5.length c1_5) := (blk_cell BK106.out 5).trans rfl; have hfz47_0 := blk_frozen BK106.out 0; have hfz47_1 := blk_frozen BK106.out 1; have hfz47_2 := blk_frozen BK106.out 2; have hfz47_3 := blk_frozen BK106.out 3; have hfz47_4 := blk_frozen BK106.out 4; have hfz47_5 := blk_frozen BK106.out 5) | ((with_reducible refine gate_callee (f := 52) rfl ?_); refine goesL_ (some 80) rfl rfl Tryd.func52 (by kernel_rfl) rfl #[.pointer (some ⟨g, 0, none⟩), .agg #[.int .i64 a1_0, .int .i64 a1_1, .int .i64 a1_2, .string a1_3, .bool a1_4, .slice A1_5 l1_5.length c1_5]] rfl (by (try simp only [List.map_toArray, List.map_cons, List.map_nil]); first | done | rfl | (simp only [List.length_drop, List.length_take]; rfl)) ?_; (with_reducible refine (ih_52 k (by omega) g s0_0 s0_1 s0_2 a1_0 a1_1 a1_2 a1_3 a1_4 _ _ l1_5 t131 t132 w0 _ ?side1 ?side2 ?side3 ?side4 A44.out).mono ?_); (case side1 => repeat (first | (with_reducible first | exact HI0.out | apply IsS114.alloc | apply IsS114.drewN | apply IsS114.drew | apply IsS114.set_1 | apply IsS114.set_2 | refine IsS114.far ?_ NB0_106.out _) | exact HI0.out)); (case side2 => repeat (first | (with_reducible first | exact HB.out | apply below_alloc | apply pw_below_drewN | apply below_drew1 | refine below_set ?_ (IsS114.ge HI0.out) | refine below_set ?_ GE106.out) | exact HB.out)); (case side3 => exact HR1_5.out); (case side4 => exact HC1_5.out); rintro e w48 ⟨rfl, hi, hb, hk⟩; refine ⟨_, rfl, ?_⟩; have n0_ := Aside0.mk (KeepBut.blk hk (g' := gb106) (o := .cells #[.int .i64 a1_0, .int .i64 a1_1, .int .i64 a1_2, .string a1_3, .bool a1_4, .slice A1_5 l1_5.length c1_5] 43 (0, 0)) (by (with_reducible repeat (first | refine blk_drewN ?_ _ | refine blk_drew ?_ | refine blk_alloc ?_ _)); exact BK106.out) NB106_0.out (by simp)); have n1_ := Aside0.mk (KeepBut.trans (by repeat (first | (with_reducible first | exact HK.out | apply KeepBut.set_ | apply keep_drewN | apply keep_drew | apply keep_alloc | refine keep_far ?_ GW106.out _) | exact HK.out)) hk (.inl rfl)); have n2_ := Aside0.mk (hb); have n3_ := Aside0.mk (hi); clear BK106; clear HK; clear HB; clear HI0; have BK106 := n0_; have HK := n1_; have HB := n2_; have HI0 := n3_; clear n0_ n1_ n2_ n3_; (try clear hb); (try clear hb2); (try clear hk); (try clear hi)))
      go_ret
      exact ⟨by first | rfl | (simp [errW_none, errW_some] <;> rfl) | (simp [*, errW_none, errW_some] <;> rfl), by repeat (first | (with_reducible first | exact HI0.out | apply IsS114.alloc | apply IsS114.drewN | apply IsS114.drew | apply IsS114.set_1 | apply IsS114.set_2 | refine IsS114.far ?_ NB0_106.out _) | exact HI0.out), by repeat (first | (with_reducible first | exact HB.out | apply below_alloc | apply pw_below_drewN | apply below_drew1 | refine below_set ?_ (IsS114.ge HI0.out) | refine below_set ?_ GE106.out) | exact HB.out), by repeat (first | (with_reducible first | exact HK.out | apply KeepBut.set_ | apply keep_drewN | apply keep_drew | apply keep_alloc | refine keep_far ?_ GW106.out _) | exact HK.out)⟩
     ·rw [if_neg c43] at H
      have c43b0 : (a1_0 == 13) = false := beq_eq_false_iff_ne.mpr c43
      have c43b1 : (a1_0 != 13) = true := bne_iff_ne.mpr c43
      by_cases c49 : a1_0 = 14
      ·rw [if_pos c49] at H
       have c49b0 : (a1_0 == 14) = true := beq_iff_eq.mpr c49
       have c49b1 : (a1_0 != 14) = false := bne_eq_false_iff_eq.mpr c49
       clear c49
       simp only [Option.some.injEq, Prod.mk.injEq] at H
       obtain ⟨rfl, rfl, rfl⟩ := H
       go_enter Tryd.func87, Tryd.ntmps87
       go_wp2_with (first | ((with_reducible refine gate_dst (N := 3) rfl ?_); refine box_event ?hg (N := 3) ?hd (cs := #[.int .i64 a1_0, .int .i64 a1_1, .int .i64 a1_2, .string a1_3, .bool a1_4, .slice A1_5 l1_5.length c1_5]) (t := 43) ?hr ?_; (case hd => rfl); (case hg => rfl); (case hr => first | (go_simp; done) | (go_simp; rfl)); intro gb106 hg w50 hbox hb; have n0_ := Aside0.mk (IsS114.below (by repeat (first | (with_reducible first | exact HI0.out | apply IsS114.alloc | apply IsS114.drewN | apply IsS114.drew | apply IsS114.set_1 | apply IsS114.set_2) | exact HI0.out)) hb); have n1_ := Aside0.mk (KeepBut.trans (by repeat (first | (with_reducible first | exact HK.out | apply KeepBut.set_ | apply keep_drewN | apply keep_drew | apply keep_alloc) | exact HK.out)) (KeepBut.of_below hb g none) (.inl rfl)); have n2_ := Aside0.mk (below_step (by repeat (first | (with_reducible first | exact HB.out | apply below_alloc | apply pw_below_drewN | apply below_drew1 | refine below_set ?_ (IsS114.ge HI0.out)) | exact HB.out)) hb); have n3_ := Aside0.mk (hbox); have n4_ := Aside0.mk ((by rw [hg]; exact (keep_size (w := w) (g := g) (row := none) (by repeat (first | (with_reducible first | exact HK.out | apply KeepBut.set_ | apply keep_drewN | apply keep_drew | apply keep_alloc) | exact HK.out))) : w.heap.size ≤ gb106)); have n5_ := Aside0.mk ((Nat.le_trans HW0.out (by rw [hg]; exact (keep_size (w := w) (g := g) (row := none) (by repeat (first | (with_reducible first | exact HK.out | apply KeepBut.set_ | apply keep_drewN | apply keep_drew | apply keep_alloc) | exact HK.out))) : w.heap.size ≤ gb106) : w0.heap.size ≤ gb106)); have n6_ := Aside0.mk ((by rw [hg]; exact Nat.ne_of_lt (IsS114.lt (show IsS114 w0 _ g s0_0 s0_1 s0_2 from by repeat (first | (with_reducible first | exact HI0.out | apply IsS114.alloc | apply IsS114.drewN | apply IsS114.drew | apply IsS114.set_1 | apply IsS114.set_2) | exact HI0.out))) : g ≠ gb106)); have n7_ := Aside0.mk ((by rw [hg]; exact Nat.ne_of_gt (IsS114.lt (show IsS114 w0 _ g s0_0 s0_1 s0_2 from by repeat (first | (with_reducible first | exact HI0.out | apply IsS114.alloc | apply IsS114.drewN | apply IsS114.drew | apply IsS114.set_1 | apply IsS114.set_2) | exact HI0.out))) : gb106 ≠ g)); clear HI0; clear HK; clear HB; have HI0 := n0_; have HK := n1_; have HB := n2_; have BK106 := n3_; have GW106 := n4_; have GE106 := n5_; have NB0_106 := n6_; have NB106_0 := n7_; clear n0_ n1_ n2_ n3_ n4_ n5_ n6_ n7_; clear hb hbox hg; have hnb51 := NB106_0.out; have hnc51 := NB0_106.out; have hcz52_0 : w50.cell? ⟨gb106, 0, none⟩ = some (.int .i64 a1_0) := (blk_cell BK106.out 0).trans rfl; have hcz52_1 : w50.cell? ⟨gb106, 1, none⟩ = some (.int .i64 a1_1) := (blk_cell BK106.out 1).trans rfl; have hcz52_2 : w50.cell? ⟨gb106, 2, none⟩ = some (.int .i64 a1_2) := (blk_cell BK106.out 2).trans rfl; have hcz52_3 : w50.cell? ⟨gb106, 3, none⟩ = some (.string a1_3) := (blk_cell BK106.out 3).trans rfl; have hcz52_4 : w50.cell? ⟨gb106, 4, none⟩ = some (.bool a1_4) := (blk_cell BK106.out 4).trans rfl; have hcz52_5 : w50.cell? ⟨gb106, 5, none⟩ = some (.slice A1_5 l1_5.length c1_5) := (blk_cell BK106.out 5).trans rfl; have hfz52_0 := blk_frozen BK106.out 0; have hfz52_1 := blk_frozen BK106.out 1; have hfz52_2 := blk_frozen BK106.out 2; have hfz52_3 := blk_frozen BK106.out 3; have hfz52_4 := blk_frozen BK106.out 4; have hfz52_5 := blk_frozen BK106.out 5))
       go_ret
       exact ⟨by first | rfl | (simp [errW_none, errW_some] <;> rfl) | (simp [*, errW_none, errW_some] <;> rfl), by repeat (first | (with_reducible first | exact HI0.out | apply IsS114.alloc | apply IsS114.drewN | apply IsS114.drew | apply IsS114.set_1 | apply IsS114.set_2 | refine IsS114.far ?_ NB0_106.out _) | exact HI0.out), by repeat (first | (with_reducible first | exact HB.out | apply below_alloc | apply pw_below_drewN | apply below_drew1 | refine below_set ?_ (IsS114.ge HI0.out) | refine below_set ?_ GE106.out) | exact HB.out), by repeat (first | (with_reducible first | exact HK.out | apply KeepBut.set_ | apply keep_drewN | apply keep_drew | apply keep_alloc | refine keep_far ?_ GW106.out _) | exact HK.out)⟩
      ·rw [if_neg c49] at H
       have c49b0 : (a1_0 == 14) = false := beq_eq_false_iff_ne.mpr c49
       have c49b1 : (a1_0 != 14) = true := bne_iff_ne.mpr c49
       replace H := Option.bind_eq_some_iff.mp H
       obtain ⟨⟨t133, t134, t135⟩, A530, H⟩ := H
       replace H : (some (t133, t134, t135)) = some (r1, r2, r3) := H
       have A53 := Aside0.mk A530
       clear A530
       simp only [Option.some.injEq, Prod.mk.injEq] at H
       obtain ⟨rfl, rfl, rfl⟩ := H
       go_enter Tryd.func87, Tryd.ntmps87
       go_wp2_with (first | ((with_reducible refine gate_dst (N := 3) rfl ?_); refine box_event ?hg (N := 3) ?hd (cs := #[.int .i64 a1_0, .int .i64 a1_1, .int .i64 a1_2, .string a1_3, .bool a1_4, .slice A1_5 l1_5.length c1_5]) (t := 43) ?hr ?_; (case hd => rfl); (case hg => rfl); (case hr => first | (go_simp; done) | (go_simp; rfl)); intro gb106 hg w54 hbox hb; have n0_ := Aside0.mk (IsS114.below (by repeat (first | (with_reducible first | exact HI0.out | apply IsS114.alloc | apply IsS114.drewN | apply IsS114.drew | apply IsS114.set_1 | apply IsS114.set_2) | exact HI0.out)) hb); have n1_ := Aside0.mk (KeepBut.trans (by repeat (first | (with_reducible first | exact HK.out | apply KeepBut.set_ | apply keep_drewN | apply keep_drew | apply keep_alloc) | exact HK.out)) (KeepBut.of_below hb g none) (.inl rfl)); have n2_ := Aside0.mk (below_step (by repeat (first | (with_reducible first | exact HB.out | apply below_alloc | apply pw_below_drewN | apply below_drew1 | refine below_set ?_ (IsS114.ge HI0.out)) | exact HB.out)) hb); have n3_ := Aside0.mk (hbox); have n4_ := Aside0.mk ((by rw [hg]; exact (keep_size (w := w) (g := g) (row := none) (by repeat (first | (with_reducible first | exact HK.out | apply KeepBut.set_ | apply keep_drewN | apply keep_drew | apply keep_alloc) | exact HK.out))) : w.heap.size ≤ gb106)); have n5_ := Aside0.mk ((Nat.le_trans HW0.out (by rw [hg]; exact (keep_size (w := w) (g := g) (row := none) (by repeat (first | (with_reducible first | exact HK.out | apply KeepBut.set_ | apply keep_drewN | apply keep_drew | apply keep_alloc) | exact HK.out))) : w.heap.size ≤ gb106) : w0.heap.size ≤ gb106)); have n6_ := Aside0.mk ((by rw [hg]; exact Nat.ne_of_lt (IsS114.lt (show IsS114 w0 _ g s0_0 s0_1 s0_2 from by repeat (first | (with_reducible first | exact HI0.out | apply IsS114.alloc | apply IsS114.drewN | apply IsS114.drew | apply IsS114.set_1 | apply IsS114.set_2) | exact HI0.out))) : g ≠ gb106)); have n7_ := Aside0.mk ((by rw [hg]; exact Nat.ne_of_gt (IsS114.lt (show IsS114 w0 _ g s0_0 s0_1 s0_2 from by repeat (first | (with_reducible first | exact HI0.out | apply IsS114.alloc | apply IsS114.drewN | apply IsS114.drew | apply IsS114.set_1 | apply IsS114.set_2) | exact HI0.out))) : gb106 ≠ g)); clear HI0; clear HK; clear HB; have HI0 := n0_; have HK := n1_; have HB := n2_; have BK106 := n3_; have GW106 := n4_; have GE106 := n5_; have NB0_106 := n6_; have NB106_0 := n7_; clear n0_ n1_ n2_ n3_ n4_ n5_ n6_ n7_; clear hb hbox hg; have hnb55 := NB106_0.out; have hnc55 := NB0_106.out; have hcz56_0 : w54.cell? ⟨gb106, 0, none⟩ = some (.int .i64 a1_0) := (blk_cell BK106.out 0).trans rfl; have hcz56_1 : w54.cell? ⟨gb106, 1, none⟩ = some (.int .i64 a1_1) := (blk_cell BK106.out 1).trans rfl; have hcz56_2 : w54.cell? ⟨gb106, 2, none⟩ = some (.int .i64 a1_2) := (blk_cell BK106.out 2).trans rfl; have hcz56_3 : w54.cell? ⟨gb106, 3, none⟩ = some (.string a1_3) := (blk_cell BK106.out 3).trans rfl; have hcz56_4 : w54.cell? ⟨gb106, 4, none⟩ = some (.bool a1_4) := (blk_cell BK106.out 4).trans rfl; have hcz56_5 : w54.cell? ⟨gb106, 5, none⟩ = some (.slice A1_5 l1_5.length c1_5) := (blk_cell BK106.out 5).trans rfl; have hfz56_0 := blk_frozen BK106.out 0; have hfz56_1 := blk_frozen BK106.out 1; have hfz56_2 := blk_frozen BK106.out 2; have hfz56_3 := blk_frozen BK106.out 3; have hfz56_4 := blk_frozen BK106.out 4; have hfz56_5 := blk_frozen BK106.out 5) | ((with_reducible refine gate_callee (f := 108) rfl ?_); refine goesL_ (some 86) rfl rfl Tryd.func108 (by kernel_rfl) rfl #[.pointer (some ⟨g, 0, none⟩), .slice A1_5 l1_5.length c1_5] rfl (by (try simp only [List.map_toArray, List.map_cons, List.map_nil]); first | done | rfl | (simp only [List.length_drop, List.length_take]; rfl)) ?_; (with_reducible refine (ih_108 k (by omega) g s0_0 s0_1 s0_2 _ _ l1_5 t133 t134 t135 w0 _ ?side1 ?side2 ?side3 ?side4 A53.out).mono ?_); (case side1 => repeat (first | (with_reducible first | exact HI0.out | apply IsS114.alloc | apply IsS114.drewN | apply IsS114.drew | apply IsS114.set_1 | apply IsS114.set_2 | refine IsS114.far ?_ NB0_106.out _) | exact HI0.out)); (case side2 => repeat (first | (with_reducible first | exact HB.out | apply below_alloc | apply pw_below_drewN | apply below_drew1 | refine below_set ?_ (IsS114.ge HI0.out) | refine below_set ?_ GE106.out) | exact HB.out)); (case side3 => exact HR1_5.out); (case side4 => exact HC1_5.out); rintro e w57 ⟨rfl, hi, hb, hk⟩; refine ⟨_, rfl, ?_⟩; have n0_ := Aside0.mk (KeepBut.blk hk (g' := gb106) (o := .cells #[.int .i64 a1_0, .int .i64 a1_1, .int .i64 a1_2, .string a1_3, .bool a1_4, .slice A1_5 l1_5.length c1_5] 43 (0, 0)) (by (with_reducible repeat (first | refine blk_drewN ?_ _ | refine blk_drew ?_ | refine blk_alloc ?_ _)); exact BK106.out) NB106_0.out (by simp)); have n1_ := Aside0.mk (KeepBut.trans (by repeat (first | (with_reducible first | exact HK.out | apply KeepBut.set_ | apply keep_drewN | apply keep_drew | apply keep_alloc | refine keep_far ?_ GW106.out _) | exact HK.out)) hk (.inl rfl)); have n2_ := Aside0.mk (hb); have n3_ := Aside0.mk (hi); clear BK106; clear HK; clear HB; clear HI0; have BK106 := n0_; have HK := n1_; have HB := n2_; have HI0 := n3_; clear n0_ n1_ n2_ n3_; (try clear hb); (try clear hb2); (try clear hk); (try clear hi)))
       go_ret
       exact ⟨by first | rfl | (simp [errW_none, errW_some] <;> rfl) | (simp [*, errW_none, errW_some] <;> rfl), by repeat (first | (with_reducible first | exact HI0.out | apply IsS114.alloc | apply IsS114.drewN | apply IsS114.drew | apply IsS114.set_1 | apply IsS114.set_2 | refine IsS114.far ?_ NB0_106.out _) | exact HI0.out), by repeat (first | (with_reducible first | exact HB.out | apply below_alloc | apply pw_below_drewN | apply below_drew1 | refine below_set ?_ (IsS114.ge HI0.out) | refine below_set ?_ GE106.out) | exact HB.out), by repeat (first | (with_reducible first | exact HK.out | apply KeepBut.set_ | apply keep_drewN | apply keep_drew | apply keep_alloc | refine keep_far ?_ GW106.out _) | exact HK.out)⟩

end Go.Proofs.YtjafllnbgfcchaaDoor.XIA
