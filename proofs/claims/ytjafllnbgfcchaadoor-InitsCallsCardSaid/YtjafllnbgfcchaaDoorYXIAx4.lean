import Derived.Test.YtjafllnbgfcchaaDoorYGXIAx0
import Derived.Test.YtjafllnbgfcchaaDoorYXIAx3
-- Written by a program of this session (wip/xprint) out of the translation.
namespace Go.Proofs.YtjafllnbgfcchaaDoor.XIA
open Go.RowKit Go.Proofs.YtjafllnbgfcchaaDoorW.PrintWords Go.Proofs.YtjafllnbgfcchaaDoorW.PrintLast Go.Proofs.YtjafllnbgfcchaaDoorW.PrintMore Go.Proofs.YtjafllnbgfcchaaDoor.XK
attribute [local go_sem] max2_int min2_int max_two min_two max_three min_three max_four min_four   -- for this text's walks alone
set_option linter.unusedVariables false
set_option linter.unusedSimpArgs false

/-! ### inits_checker_now: function 53 -/
set_option maxHeartbeats 8000000 in
set_option maxRecDepth 100000 in
theorem inits_checker_now.step (k : Nat) (ih_108 : ∀ m, m < k → inits_checker_some.Stmt m) (ih_87 : ∀ m, m < k → inits_checker_late.Stmt m) (ih_53 : ∀ m, m < k → inits_checker_now.Stmt m) (ih_52 : ∀ m, m < k → inits_checker_call.Stmt m) : ∀ (g : Nat) (s0_0 : List (S34)) (s0_1 : Int) (s0_2 : Int) (a1_0 : Int) (a1_1 : Int) (a1_2 : Int) (a1_3 : ByteArray) (a1_4 : Bool) (A1_5 : Option Addr) (c1_5 : Nat) (l1_5 : List (S43)) (a2 : Int) (r1 : Int) (r2 : Int) (w0 w : World) (hI : IsS114 w0 w g s0_0 s0_1 s0_2) (hB : Below w0.heap.size w0 w) (hr1_5 : Kd.C k43 w0 A1_5 l1_5.length l1_5) (hc1_5 : l1_5.length ≤ c1_5) (h : inits_checker_now.f k s0_0 s0_1 s0_2 a1_0 a1_1 a1_2 a1_3 a1_4 l1_5 a2 = some (r1, r2)),
  Calls Tryd.prog 53 #[.pointer (some ⟨g, 0, none⟩), .agg #[.int .i64 a1_0, .int .i64 a1_1, .int .i64 a1_2, .string a1_3, .bool a1_4, .slice A1_5 l1_5.length c1_5], .int .i64 a2] w fun e w' => e = .returned (.tuple #[]) ∧ IsS114 w0 w' g s0_0 r1 r2 ∧ Below w0.heap.size w0 w' ∧ KeepBut w w' g none := by
 intro g s0_0 s0_1 s0_2 a1_0 a1_1 a1_2 a1_3 a1_4 A1_5 c1_5 l1_5 a2 r1 r2 w0 w hI hB hr1_5 hc1_5 h
 cases k with
 | zero => exact absurd h (by simp [inits_checker_now.f])
 | succ k =>
 simp only [inits_checker_now.f] at h
 have hu43 := Tryd.underlying43
 have hu27 := Tryd.underlying27
 have HR1_5 := Aside0.mk hr1_5
 have HC1_5 := Aside0.mk hc1_5
 clear hr1_5 hc1_5
 have HI0 := Aside0.mk hI
 have HK := Aside0.mk (KeepBut.refl w g none)
 have HL := Aside0.mk hB.size
 clear hI
 have HW0 := Aside0.mk hB.size
 have HB := Aside0.mk hB
 clear hB
 have H : ((inits_checker_late.f k s0_0 s0_1 s0_2 a1_0 a1_1 a1_2 a1_3 a1_4 l1_5).bind fun bt137 => (if bt137.1 = true then (if bt137.2.2 = 0 then (some (a2, 9)) else (some (bt137.2.1, bt137.2.2))) else (some (bt137.2.1, bt137.2.2)))) = some (r1, r2) := h
 clear h
 replace H := Option.bind_eq_some_iff.mp H
 obtain ⟨⟨t137, t138, t139⟩, A40, H⟩ := H
 replace H : (if t137 = true then (if t139 = 0 then (some (a2, 9)) else (some (t138, t139))) else (some (t138, t139))) = some (r1, r2) := H
 have A4 := Aside0.mk A40
 clear A40
 by_cases c5 : t137 = true
 ·subst c5
  have H1 : (if t139 = 0 then (some (a2, 9)) else (some (t138, t139))) = some (r1, r2) := by rw [if_pos rfl] at H; exact H
  clear H
  have H := H1
  clear H1
  by_cases c6 : t139 = 0
  ·rw [if_pos c6] at H
   have c6b0 : (t139 == 0) = true := beq_iff_eq.mpr c6
   have c6b1 : (t139 != 0) = false := bne_eq_false_iff_eq.mpr c6
   clear c6
   simp only [Option.some.injEq, Prod.mk.injEq] at H
   obtain ⟨rfl, rfl⟩ := H
   go_enter Tryd.func53, Tryd.ntmps53
   go_wp2_with (first | ((with_reducible refine gate_dst (N := 4) rfl ?_); refine box_event ?hg (N := 4) ?hd (cs := #[.int .i64 a1_0, .int .i64 a1_1, .int .i64 a1_2, .string a1_3, .bool a1_4, .slice A1_5 l1_5.length c1_5]) (t := 43) ?hr ?_; (case hd => rfl); (case hg => rfl); (case hr => first | (go_simp; done) | (go_simp; rfl)); intro gb136 hg w7 hbox hb; have n0_ := Aside0.mk (IsS114.below (by repeat (first | (with_reducible first | exact HI0.out | apply IsS114.alloc | apply IsS114.drewN | apply IsS114.drew | apply IsS114.set_1 | apply IsS114.set_2) | exact HI0.out)) hb); have n1_ := Aside0.mk (KeepBut.trans (by repeat (first | (with_reducible first | exact HK.out | apply KeepBut.set_ | apply keep_drewN | apply keep_drew | apply keep_alloc) | exact HK.out)) (KeepBut.of_below hb g none) (.inl rfl)); have n2_ := Aside0.mk (below_step (by repeat (first | (with_reducible first | exact HB.out | apply below_alloc | apply pw_below_drewN | apply below_drew1 | refine below_set ?_ (IsS114.ge HI0.out)) | exact HB.out)) hb); have n3_ := Aside0.mk (hbox); have n4_ := Aside0.mk ((by rw [hg]; exact (keep_size (w := w) (g := g) (row := none) (by repeat (first | (with_reducible first | exact HK.out | apply KeepBut.set_ | apply keep_drewN | apply keep_drew | apply keep_alloc) | exact HK.out))) : w.heap.size ≤ gb136)); have n5_ := Aside0.mk ((Nat.le_trans HW0.out (by rw [hg]; exact (keep_size (w := w) (g := g) (row := none) (by repeat (first | (with_reducible first | exact HK.out | apply KeepBut.set_ | apply keep_drewN | apply keep_drew | apply keep_alloc) | exact HK.out))) : w.heap.size ≤ gb136) : w0.heap.size ≤ gb136)); have n6_ := Aside0.mk ((by rw [hg]; exact Nat.ne_of_lt (IsS114.lt (show IsS114 w0 _ g s0_0 s0_1 s0_2 from by repeat (first | (with_reducible first | exact HI0.out | apply IsS114.alloc | apply IsS114.drewN | apply IsS114.drew | apply IsS114.set_1 | apply IsS114.set_2) | exact HI0.out))) : g ≠ gb136)); have n7_ := Aside0.mk ((by rw [hg]; exact Nat.ne_of_gt (IsS114.lt (show IsS114 w0 _ g s0_0 s0_1 s0_2 from by repeat (first | (with_reducible first | exact HI0.out | apply IsS114.alloc | apply IsS114.drewN | apply IsS114.drew | apply IsS114.set_1 | apply IsS114.set_2) | exact HI0.out))) : gb136 ≠ g)); clear HI0; clear HK; clear HB; have HI0 := n0_; have HK := n1_; have HB := n2_; have BK136 := n3_; have GW136 := n4_; have GE136 := n5_; have NB0_136 := n6_; have NB136_0 := n7_; clear n0_ n1_ n2_ n3_ n4_ n5_ n6_ n7_; clear hb hbox hg; have hnb8 := NB136_0.out; have hnc8 := NB0_136.out; have hcz9_0 : w7.cell? ⟨gb136, 0, none⟩ = some (.int .i64 a1_0) := (blk_cell BK136.out 0).trans rfl; have hcz9_1 : w7.cell? ⟨gb136, 1, none⟩ = some (.int .i64 a1_1) := (blk_cell BK136.out 1).trans rfl; have hcz9_2 : w7.cell? ⟨gb136, 2, none⟩ = some (.int .i64 a1_2) := (blk_cell BK136.out 2).trans rfl; have hcz9_3 : w7.cell? ⟨gb136, 3, none⟩ = some (.string a1_3) := (blk_cell BK136.out 3).trans rfl; have hcz9_4 : w7.cell? ⟨gb136, 4, none⟩ = some (.bool a1_4) := (blk_cell BK136.out 4).trans rfl; have hcz9_5 : w7.cell? ⟨gb136, 5, none⟩ = some (.slice A1_5 l1_5.length c1_5) := (blk_cell BK136.out 5).trans rfl; have hfz9_0 := blk_frozen BK136.out 0; have hfz9_1 := blk_frozen BK136.out 1; have hfz9_2 := blk_frozen BK136.out 2; have hfz9_3 := blk_frozen BK136.out 3; have hfz9_4 := blk_frozen BK136.out 4; have hfz9_5 := blk_frozen BK136.out 5) | ((with_reducible refine gate_callee (f := 87) rfl ?_); refine goesL_ (some 8) rfl rfl Tryd.func87 (by kernel_rfl) rfl #[.pointer (some ⟨g, 0, none⟩), .agg #[.int .i64 a1_0, .int .i64 a1_1, .int .i64 a1_2, .string a1_3, .bool a1_4, .slice A1_5 l1_5.length c1_5]] rfl (by (try simp only [List.map_toArray, List.map_cons, List.map_nil]); first | done | rfl | (simp only [List.length_drop, List.length_take]; rfl)) ?_; (with_reducible refine (ih_87 k (by omega) g s0_0 s0_1 s0_2 a1_0 a1_1 a1_2 a1_3 a1_4 _ _ l1_5 true t138 t139 w0 _ ?side1 ?side2 ?side3 ?side4 A4.out).mono ?_); (case side1 => repeat (first | (with_reducible first | exact HI0.out | apply IsS114.alloc | apply IsS114.drewN | apply IsS114.drew | apply IsS114.set_1 | apply IsS114.set_2 | refine IsS114.far ?_ NB0_136.out _) | exact HI0.out)); (case side2 => repeat (first | (with_reducible first | exact HB.out | apply below_alloc | apply pw_below_drewN | apply below_drew1 | refine below_set ?_ (IsS114.ge HI0.out) | refine below_set ?_ GE136.out) | exact HB.out)); (case side3 => exact HR1_5.out); (case side4 => exact HC1_5.out); rintro e w10 ⟨rfl, hi, hb, hk⟩; refine ⟨_, rfl, ?_⟩; have n0_ := Aside0.mk (KeepBut.blk hk (g' := gb136) (o := .cells #[.int .i64 a1_0, .int .i64 a1_1, .int .i64 a1_2, .string a1_3, .bool a1_4, .slice A1_5 l1_5.length c1_5] 43 (0, 0)) (by (with_reducible repeat (first | refine blk_drewN ?_ _ | refine blk_drew ?_ | refine blk_alloc ?_ _)); exact BK136.out) NB136_0.out (by simp)); have n1_ := Aside0.mk (KeepBut.trans (by repeat (first | (with_reducible first | exact HK.out | apply KeepBut.set_ | apply keep_drewN | apply keep_drew | apply keep_alloc | refine keep_far ?_ GW136.out _) | exact HK.out)) hk (.inl rfl)); have n2_ := Aside0.mk (hb); have n3_ := Aside0.mk (hi); clear BK136; clear HK; clear HB; clear HI0; have BK136 := n0_; have HK := n1_; have HB := n2_; have HI0 := n3_; clear n0_ n1_ n2_ n3_; (try clear hb); (try clear hb2); (try clear hk); (try clear hi); obtain ⟨ASz11_0, cSz11_0, HGz11, hgz11, ⟨HSz11_0, HScz11_0⟩⟩ := HI0.out; have hcz11_0 := cellS114_0 HGz11; have hcz11_1 := cellS114_1 HGz11; have hcz11_2 := cellS114_2 HGz11; have hfz11_1 := blk_frozen HGz11 1; have hfz11_2 := blk_frozen HGz11 2; clear HGz11 hgz11))
   first | go_end0 | ((try simp only [Exit.inBlock, Exit.then]); refine bodyPost_ret (results_none rfl _ _ _) rfl ?_)
   exact ⟨by first | rfl | (simp [errW_none, errW_some] <;> rfl) | (simp [*, errW_none, errW_some] <;> rfl), by repeat (first | (with_reducible first | exact HI0.out | apply IsS114.alloc | apply IsS114.drewN | apply IsS114.drew | apply IsS114.set_1 | apply IsS114.set_2 | refine IsS114.far ?_ NB0_136.out _) | exact HI0.out), by repeat (first | (with_reducible first | exact HB.out | apply below_alloc | apply pw_below_drewN | apply below_drew1 | refine below_set ?_ (IsS114.ge HI0.out) | refine below_set ?_ GE136.out) | exact HB.out), by repeat (first | (with_reducible first | exact HK.out | apply KeepBut.set_ | apply keep_drewN | apply keep_drew | apply keep_alloc | refine keep_far ?_ GW136.out _) | exact HK.out)⟩
  ·rw [if_neg c6] at H
   have c6b0 : (t139 == 0) = false := beq_eq_false_iff_ne.mpr c6
   have c6b1 : (t139 != 0) = true := bne_iff_ne.mpr c6
   simp only [Option.some.injEq, Prod.mk.injEq] at H
   obtain ⟨rfl, rfl⟩ := H
   go_enter Tryd.func53, Tryd.ntmps53
   go_wp2_with (first | ((with_reducible refine gate_dst (N := 4) rfl ?_); refine box_event ?hg (N := 4) ?hd (cs := #[.int .i64 a1_0, .int .i64 a1_1, .int .i64 a1_2, .string a1_3, .bool a1_4, .slice A1_5 l1_5.length c1_5]) (t := 43) ?hr ?_; (case hd => rfl); (case hg => rfl); (case hr => first | (go_simp; done) | (go_simp; rfl)); intro gb136 hg w12 hbox hb; have n0_ := Aside0.mk (IsS114.below (by repeat (first | (with_reducible first | exact HI0.out | apply IsS114.alloc | apply IsS114.drewN | apply IsS114.drew | apply IsS114.set_1 | apply IsS114.set_2) | exact HI0.out)) hb); have n1_ := Aside0.mk (KeepBut.trans (by repeat (first | (with_reducible first | exact HK.out | apply KeepBut.set_ | apply keep_drewN | apply keep_drew | apply keep_alloc) | exact HK.out)) (KeepBut.of_below hb g none) (.inl rfl)); have n2_ := Aside0.mk (below_step (by repeat (first | (with_reducible first | exact HB.out | apply below_alloc | apply pw_below_drewN | apply below_drew1 | refine below_set ?_ (IsS114.ge HI0.out)) | exact HB.out)) hb); have n3_ := Aside0.mk (hbox); have n4_ := Aside0.mk ((by rw [hg]; exact (keep_size (w := w) (g := g) (row := none) (by repeat (first | (with_reducible first | exact HK.out | apply KeepBut.set_ | apply keep_drewN | apply keep_drew | apply keep_alloc) | exact HK.out))) : w.heap.size ≤ gb136)); have n5_ := Aside0.mk ((Nat.le_trans HW0.out (by rw [hg]; exact (keep_size (w := w) (g := g) (row := none) (by repeat (first | (with_reducible first | exact HK.out | apply KeepBut.set_ | apply keep_drewN | apply keep_drew | apply keep_alloc) | exact HK.out))) : w.heap.size ≤ gb136) : w0.heap.size ≤ gb136)); have n6_ := Aside0.mk ((by rw [hg]; exact Nat.ne_of_lt (IsS114.lt (show IsS114 w0 _ g s0_0 s0_1 s0_2 from by repeat (first | (with_reducible first | exact HI0.out | apply IsS114.alloc | apply IsS114.drewN | apply IsS114.drew | apply IsS114.set_1 | apply IsS114.set_2) | exact HI0.out))) : g ≠ gb136)); have n7_ := Aside0.mk ((by rw [hg]; exact Nat.ne_of_gt (IsS114.lt (show IsS114 w0 _ g s0_0 s0_1 s0_2 from by repeat (first | (with_reducible first | exact HI0.out | apply IsS114.alloc | apply IsS114.drewN | apply IsS114.drew | apply IsS114.set_1 | apply IsS114.set_2) | exact HI0.out))) : gb136 ≠ g)); clear HI0; clear HK; clear HB; have HI0 := n0_; have HK := n1_; have HB := n2_; have BK136 := n3_; have GW136 := n4_; have GE136 := n5_; have NB0_136 := n6_; have NB136_0 := n7_; clear n0_ n1_ n2_ n3_ n4_ n5_ n6_ n7_; clear hb hbox hg; have hnb13 := NB136_0.out; have hnc13 := NB0_136.out; have hcz14_0 : w12.cell? ⟨gb136, 0, none⟩ = some (.int .i64 a1_0) := (blk_cell BK136.out 0).trans rfl; have hcz14_1 : w12.cell? ⟨gb136, 1, none⟩ = some (.int .i64 a1_1) := (blk_cell BK136.out 1).trans rfl; have hcz14_2 : w12.cell? ⟨gb136, 2, none⟩ = some (.int .i64 a1_2) := (blk_cell BK136.out 2).trans rfl; have hcz14_3 : w12.cell? ⟨gb136, 3, none⟩ = some (.string a1_3) := (blk_cell BK136.out 3).trans rfl; have hcz14_4 : w12.cell? ⟨gb136, 4, none⟩ = some (.bool a1_4) := (blk_cell BK136.out 4).trans rfl; have hcz14_5 : w12.cell? ⟨gb136, 5, none⟩ = some (.slice A1_5 l1_5.length c1_5) := (blk_cell BK136.out 5).trans rfl; have hfz14_0 := blk_frozen BK136.out 0; have hfz14_1 := blk_frozen BK136.out 1; have hfz14_2 := blk_frozen BK136.out 2; have hfz14_3 := blk_frozen BK136.out 3; have hfz14_4 := blk_frozen BK136.out 4; have hfz14_5 := blk_frozen BK136.out 5) | ((with_reducible refine gate_callee (f := 87) rfl ?_); refine goesL_ (some 8) rfl rfl Tryd.func87 (by kernel_rfl) rfl #[.pointer (some ⟨g, 0, none⟩), .agg #[.int .i64 a1_0, .int .i64 a1_1, .int .i64 a1_2, .string a1_3, .bool a1_4, .slice A1_5 l1_5.length c1_5]] rfl (by (try simp only [List.map_toArray, List.map_cons, List.map_nil]); first | done | rfl | (simp only [List.length_drop, List.length_take]; rfl)) ?_; (with_reducible refine (ih_87 k (by omega) g s0_0 s0_1 s0_2 a1_0 a1_1 a1_2 a1_3 a1_4 _ _ l1_5 true t138 t139 w0 _ ?side1 ?side2 ?side3 ?side4 A4.out).mono ?_); (case side1 => repeat (first | (with_reducible first | exact HI0.out | apply IsS114.alloc | apply IsS114.drewN | apply IsS114.drew | apply IsS114.set_1 | apply IsS114.set_2 | refine IsS114.far ?_ NB0_136.out _) | exact HI0.out)); (case side2 => repeat (first | (with_reducible first | exact HB.out | apply below_alloc | apply pw_below_drewN | apply below_drew1 | refine below_set ?_ (IsS114.ge HI0.out) | refine below_set ?_ GE136.out) | exact HB.out)); (case side3 => exact HR1_5.out); (case side4 => exact HC1_5.out); rintro e w15 ⟨rfl, hi, hb, hk⟩; refine ⟨_, rfl, ?_⟩; have n0_ := Aside0.mk (KeepBut.blk hk (g' := gb136) (o := .cells #[.int .i64 a1_0, .int .i64 a1_1, .int .i64 a1_2, .string a1_3, .bool a1_4, .slice A1_5 l1_5.length c1_5] 43 (0, 0)) (by (with_reducible repeat (first | refine blk_drewN ?_ _ | refine blk_drew ?_ | refine blk_alloc ?_ _)); exact BK136.out) NB136_0.out (by simp)); have n1_ := Aside0.mk (KeepBut.trans (by repeat (first | (with_reducible first | exact HK.out | apply KeepBut.set_ | apply keep_drewN | apply keep_drew | apply keep_alloc | refine keep_far ?_ GW136.out _) | exact HK.out)) hk (.inl rfl)); have n2_ := Aside0.mk (hb); have n3_ := Aside0.mk (hi); clear BK136; clear HK; clear HB; clear HI0; have BK136 := n0_; have HK := n1_; have HB := n2_; have HI0 := n3_; clear n0_ n1_ n2_ n3_; (try clear hb); (try clear hb2); (try clear hk); (try clear hi); obtain ⟨ASz16_0, cSz16_0, HGz16, hgz16, ⟨HSz16_0, HScz16_0⟩⟩ := HI0.out; have hcz16_0 := cellS114_0 HGz16; have hcz16_1 := cellS114_1 HGz16; have hcz16_2 := cellS114_2 HGz16; have hfz16_1 := blk_frozen HGz16 1; have hfz16_2 := blk_frozen HGz16 2; clear HGz16 hgz16))
   first | go_end0 | ((try simp only [Exit.inBlock, Exit.then]); refine bodyPost_ret (results_none rfl _ _ _) rfl ?_)
   exact ⟨by first | rfl | (simp [errW_none, errW_some] <;> rfl) | (simp [*, errW_none, errW_some] <;> rfl), by repeat (first | (with_reducible first | exact HI0.out | apply IsS114.alloc | apply IsS114.drewN | apply IsS114.drew | apply IsS114.set_1 | apply IsS114.set_2 | refine IsS114.far ?_ NB0_136.out _) | exact HI0.out), by repeat (first | (with_reducible first | exact HB.out | apply below_alloc | apply pw_below_drewN | apply below_drew1 | refine below_set ?_ (IsS114.ge HI0.out) | refine below_set ?_ GE136.out) | exact HB.out), by repeat (first | (with_reducible first | exact HK.out | apply KeepBut.set_ | apply keep_drewN | apply keep_drew | apply keep_alloc | refine keep_far ?_ GW136.out _) | exact HK.out)⟩
 ·replace c5 := Bool.eq_false_iff.mpr c5
  subst c5
  have H1 : (some (t138, t139)) = some (r1, r2) := by rw [if_neg (show ¬ (false = true) by decide)] at H; exact H
  clear H
  have H := H1
  clear H1
  simp only [Option.some.injEq, Prod.mk.injEq] at H
  obtain ⟨rfl, rfl⟩ := H
  go_enter Tryd.func53, Tryd.ntmps53
  go_wp2_with (first | ((with_reducible refine gate_dst (N := 4) rfl ?_); refine box_event ?hg (N := 4) ?hd (cs := #[.int .i64 a1_0, .int .i64 a1_1, .int .i64 a1_2, .string a1_3, .bool a1_4, .slice A1_5 l1_5.length c1_5]) (t := 43) ?hr ?_; (case hd => rfl); (case hg => rfl); (case hr => first | (go_simp; done) | (go_simp; rfl)); intro gb136 hg w17 hbox hb; have n0_ := Aside0.mk (IsS114.below (by repeat (first | (with_reducible first | exact HI0.out | apply IsS114.alloc | apply IsS114.drewN | apply IsS114.drew | apply IsS114.set_1 | apply IsS114.set_2) | exact HI0.out)) hb); have n1_ := Aside0.mk (KeepBut.trans (by repeat (first | (with_reducible first | exact HK.out | apply KeepBut.set_ | apply keep_drewN | apply keep_drew | apply keep_alloc) | exact HK.out)) (KeepBut.of_below hb g none) (.inl rfl)); have n2_ := Aside0.mk (below_step (by repeat (first | (with_reducible first | exact HB.out | apply below_alloc | apply pw_below_drewN | apply below_drew1 | refine below_set ?_ (IsS114.ge HI0.out)) | exact HB.out)) hb); have n3_ := Aside0.mk (hbox); have n4_ := Aside0.mk ((by rw [hg]; exact (keep_size (w := w) (g := g) (row := none) (by repeat (first | (with_reducible first | exact HK.out | apply KeepBut.set_ | apply keep_drewN | apply keep_drew | apply keep_alloc) | exact HK.out))) : w.heap.size ≤ gb136)); have n5_ := Aside0.mk ((Nat.le_trans HW0.out (by rw [hg]; exact (keep_size (w := w) (g := g) (row := none) (by repeat (first | (with_reducible first | exact HK.out | apply KeepBut.set_ | apply keep_drewN | apply keep_drew | apply keep_alloc) | exact HK.out))) : w.heap.size ≤ gb136) : w0.heap.size ≤ gb136)); have n6_ := Aside0.mk ((by rw [hg]; exact Nat.ne_of_lt (IsS114.lt (show IsS114 w0 _ g s0_0 s0_1 s0_2 from by repeat (first | (with_reducible first | exact HI0.out | apply IsS114.alloc | apply IsS114.drewN | apply IsS114.drew | apply IsS114.set_1 | apply IsS114.set_2) | exact HI0.out))) : g ≠ gb136)); have n7_ := Aside0.mk ((by rw [hg]; exact Nat.ne_of_gt (IsS114.lt (show IsS114 w0 _ g s0_0 s0_1 s0_2 from by repeat (first | (with_reducible first | exact HI0.out | apply IsS114.alloc | apply IsS114.drewN | apply IsS114.drew | apply IsS114.set_1 | apply IsS114.set_2) | exact HI0.out))) : gb136 ≠ g)); clear HI0; clear HK; clear HB; have HI0 := n0_; have HK := n1_; have HB := n2_; have BK136 := n3_; have GW136 := n4_; have GE136 := n5_; have NB0_136 := n6_; have NB136_0 := n7_; clear n0_ n1_ n2_ n3_ n4_ n5_ n6_ n7_; clear hb hbox hg; have hnb18 := NB136_0.out; have hnc18 := NB0_136.out; have hcz19_0 : w17.cell? ⟨gb136, 0, none⟩ = some (.int .i64 a1_0) := (blk_cell BK136.out 0).trans rfl; have hcz19_1 : w17.cell? ⟨gb136, 1, none⟩ = some (.int .i64 a1_1) := (blk_cell BK136.out 1).trans rfl; have hcz19_2 : w17.cell? ⟨gb136, 2, none⟩ = some (.int .i64 a1_2) := (blk_cell BK136.out 2).trans rfl; have hcz19_3 : w17.cell? ⟨gb136, 3, none⟩ = some (.string a1_3) := (blk_cell BK136.out 3).trans rfl; have hcz19_4 : w17.cell? ⟨gb136, 4, none⟩ = some (.bool a1_4) := (blk_cell BK136.out 4).trans rfl; have hcz19_5 : w17.cell? ⟨gb136, 5, none⟩ = some (.slice A1_5 l1_5.length c1_5) := (blk_cell BK136.out 5).trans rfl; have hfz19_0 := blk_frozen BK136.out 0; have hfz19_1 := blk_frozen BK136.out 1; have hfz19_2 := blk_frozen BK136.out 2; have hfz19_3 := blk_frozen BK136.out 3; have hfz19_4 := blk_frozen BK136.out 4; have hfz19_5 := blk_frozen BK136.out 5) | ((with_reducible refine gate_callee (f := 87) rfl ?_); refine goesL_ (some 8) rfl rfl Tryd.func87 (by kernel_rfl) rfl #[.pointer (some ⟨g, 0, none⟩), .agg #[.int .i64 a1_0, .int .i64 a1_1, .int .i64 a1_2, .string a1_3, .bool a1_4, .slice A1_5 l1_5.length c1_5]] rfl (by (try simp only [List.map_toArray, List.map_cons, List.map_nil]); first | done | rfl | (simp only [List.length_drop, List.length_take]; rfl)) ?_; (with_reducible refine (ih_87 k (by omega) g s0_0 s0_1 s0_2 a1_0 a1_1 a1_2 a1_3 a1_4 _ _ l1_5 false t138 t139 w0 _ ?side1 ?side2 ?side3 ?side4 A4.out).mono ?_); (case side1 => repeat (first | (with_reducible first | exact HI0.out | apply IsS114.alloc | apply IsS114.drewN | apply IsS114.drew | apply IsS114.set_1 | apply IsS114.set_2 | refine IsS114.far ?_ NB0_136.out _) | exact HI0.out)); (case side2 => repeat (first | (with_reducible first | exact HB.out | apply below_alloc | apply pw_below_drewN | apply below_drew1 | refine below_set ?_ (IsS114.ge HI0.out) | refine below_set ?_ GE136.out) | exact HB.out)); (case side3 => exact HR1_5.out); (case side4 => exact HC1_5.out); rintro e w20 ⟨rfl, hi, hb, hk⟩; refine ⟨_, rfl, ?_⟩; have n0_ := Aside0.mk (KeepBut.blk hk (g' := gb136) (o := .cells #[.int .i64 a1_0, .int .i64 a1_1, .int .i64 a1_2, .string a1_3, .bool a1_4, .slice A1_5 l1_5.length c1_5] 43 (0, 0)) (by (with_reducible repeat (first | refine blk_drewN ?_ _ | refine blk_drew ?_ | refine blk_alloc ?_ _)); exact BK136.out) NB136_0.out (by simp)); have n1_ := Aside0.mk (KeepBut.trans (by repeat (first | (with_reducible first | exact HK.out | apply KeepBut.set_ | apply keep_drewN | apply keep_drew | apply keep_alloc | refine keep_far ?_ GW136.out _) | exact HK.out)) hk (.inl rfl)); have n2_ := Aside0.mk (hb); have n3_ := Aside0.mk (hi); clear BK136; clear HK; clear HB; clear HI0; have BK136 := n0_; have HK := n1_; have HB := n2_; have HI0 := n3_; clear n0_ n1_ n2_ n3_; (try clear hb); (try clear hb2); (try clear hk); (try clear hi)))
  first | go_end0 | ((try simp only [Exit.inBlock, Exit.then]); refine bodyPost_ret (results_none rfl _ _ _) rfl ?_)
  exact ⟨by first | rfl | (simp [errW_none, errW_some] <;> rfl) | (simp [*, errW_none, errW_some] <;> rfl), by repeat (first | (with_reducible first | exact HI0.out | apply IsS114.alloc | apply IsS114.drewN | apply IsS114.drew | apply IsS114.set_1 | apply IsS114.set_2 | refine IsS114.far ?_ NB0_136.out _) | exact HI0.out), by repeat (first | (with_reducible first | exact HB.out | apply below_alloc | apply pw_below_drewN | apply below_drew1 | refine below_set ?_ (IsS114.ge HI0.out) | refine below_set ?_ GE136.out) | exact HB.out), by repeat (first | (with_reducible first | exact HK.out | apply KeepBut.set_ | apply keep_drewN | apply keep_drew | apply keep_alloc | refine keep_far ?_ GW136.out _) | exact HK.out)⟩

/-! ### inits_checker_call: function 52 -/
def inits_checker_call.T1 : Bool × List (List Nat × List Nat) := (true, [([], []), ([0], [0]), ([1], [1]), ([2], [2]), ([], []), ([4], [4]), ([3, 5], [3, 5]), ([6], [6]), ([7], [7]), ([7], [7]), ([], []), ([10, 8, 6, 0, 1, 2, 3, 4, 5, 6, 7, 8, 10], [8, 10]), ([9, 11, 0, 1, 2, 3, 4, 5, 6, 7, 8, 9, 10, 11], [9])])
def inits_checker_call.B1 : List Nat := [0, 1, 3, 7, 0, 16, 63, 127, 255, 255, 0, 1535, 4095]
theorem inits_checker_call.tab1 : rtab .any (opsOf Tryd.f52 1) = inits_checker_call.T1 := by kernel_rfl
theorem inits_checker_call.bits1 : waitsOk inits_checker_call.T1.2 inits_checker_call.B1 = true := by kernel_rfl
def inits_checker_call.T6 : Bool × List (List Nat × List Nat) := (true, [([], []), ([], []), ([1], [1]), ([], []), ([2, 3], [2, 3]), ([4], [4]), ([], []), ([6], [6]), ([], []), ([7, 8], [7, 8]), ([9], [9]), ([10], [10]), ([0, 5, 11], [0, 5, 11])])
def inits_checker_call.B6 : List Nat := [0, 0, 2, 0, 14, 30, 0, 64, 0, 448, 960, 1984, 4095]
theorem inits_checker_call.tab6 : rtab .any (opsOf Tryd.f52 6) = inits_checker_call.T6 := by kernel_rfl
theorem inits_checker_call.bits6 : waitsOk inits_checker_call.T6.2 inits_checker_call.B6 = true := by kernel_rfl
set_option maxHeartbeats 8000000 in
set_option maxRecDepth 100000 in
theorem inits_checker_call.step (k : Nat) (ih_108 : ∀ m, m < k → inits_checker_some.Stmt m) (ih_87 : ∀ m, m < k → inits_checker_late.Stmt m) (ih_53 : ∀ m, m < k → inits_checker_now.Stmt m) (ih_52 : ∀ m, m < k → inits_checker_call.Stmt m) : ∀ (g : Nat) (s0_0 : List (S34)) (s0_1 : Int) (s0_2 : Int) (a1_0 : Int) (a1_1 : Int) (a1_2 : Int) (a1_3 : ByteArray) (a1_4 : Bool) (A1_5 : Option Addr) (c1_5 : Nat) (l1_5 : List (S43)) (r1 : Int) (r2 : Int) (w0 w : World) (hI : IsS114 w0 w g s0_0 s0_1 s0_2) (hB : Below w0.heap.size w0 w) (hr1_5 : Kd.C k43 w0 A1_5 l1_5.length l1_5) (hc1_5 : l1_5.length ≤ c1_5) (h : inits_checker_call.f k s0_0 s0_1 s0_2 a1_0 a1_1 a1_2 a1_3 a1_4 l1_5 = some (r1, r2)),
  Calls Tryd.prog 52 #[.pointer (some ⟨g, 0, none⟩), .agg #[.int .i64 a1_0, .int .i64 a1_1, .int .i64 a1_2, .string a1_3, .bool a1_4, .slice A1_5 l1_5.length c1_5]] w fun e w' => e = .returned (.tuple #[]) ∧ IsS114 w0 w' g s0_0 r1 r2 ∧ Below w0.heap.size w0 w' ∧ KeepBut w w' g none := by
 intro g s0_0 s0_1 s0_2 a1_0 a1_1 a1_2 a1_3 a1_4 A1_5 c1_5 l1_5 r1 r2 w0 w hI hB hr1_5 hc1_5 h
 cases k with
 | zero => exact absurd h (by simp [inits_checker_call.f])
 | succ k =>
 simp only [inits_checker_call.f] at h
 have hu43 := Tryd.underlying43
 have hu34 := Tryd.underlying34
 have hu39 := Tryd.underlying39
 have HR1_5 := Aside0.mk hr1_5
 have HC1_5 := Aside0.mk hc1_5
 clear hr1_5 hc1_5
 have HI0 := Aside0.mk hI
 have HK := Aside0.mk (KeepBut.refl w g none)
 have HL := Aside0.mk hB.size
 clear hI
 have HW0 := Aside0.mk hB.size
 have HB := Aside0.mk hB
 clear hB
 have H : ((tree_Find.f s0_0 a1_3).bind fun bt141 => (inits_checker_call.l0 k bt141.2.2.1 (bt141.2.2.1.length : Int) 0 s0_0 s0_1 s0_2 a1_0 a1_1 a1_2 a1_3 a1_4 l1_5)) = some (r1, r2) := h
 clear h
 replace H := Option.bind_eq_some_iff.mp H
 obtain ⟨⟨t141, t142, t143, t146, t149, t152, t155⟩, A30, H⟩ := H
 replace H : (inits_checker_call.l0 k t143 (t143.length : Int) 0 s0_0 s0_1 s0_2 a1_0 a1_1 a1_2 a1_3 a1_4 l1_5) = some (r1, r2) := H
 have A3 := Aside0.mk A30
 clear A30
 have H' := Aside0.mk H
 clear H
 go_enter Tryd.func52, Tryd.ntmps52
 try go_wp2_with (first | ((with_reducible refine gate_dst (N := 3) rfl ?_); refine box_event ?hg (N := 3) ?hd (cs := #[.int .i64 a1_0, .int .i64 a1_1, .int .i64 a1_2, .string a1_3, .bool a1_4, .slice A1_5 l1_5.length c1_5]) (t := 43) ?hr ?_; (case hd => rfl); (case hg => rfl); (case hr => first | (go_simp; done) | (go_simp; rfl)); intro gb140 hg w4 hbox hb; have n0_ := Aside0.mk (IsS114.below (by repeat (first | (with_reducible first | exact HI0.out | apply IsS114.alloc | apply IsS114.drewN | apply IsS114.drew | apply IsS114.set_1 | apply IsS114.set_2) | exact HI0.out)) hb); have n1_ := Aside0.mk (KeepBut.trans (by repeat (first | (with_reducible first | exact HK.out | apply KeepBut.set_ | apply keep_drewN | apply keep_drew | apply keep_alloc) | exact HK.out)) (KeepBut.of_below hb g none) (.inl rfl)); have n2_ := Aside0.mk (below_step (by repeat (first | (with_reducible first | exact HB.out | apply below_alloc | apply pw_below_drewN | apply below_drew1 | refine below_set ?_ (IsS114.ge HI0.out)) | exact HB.out)) hb); have n3_ := Aside0.mk (hbox); have n4_ := Aside0.mk ((by rw [hg]; exact (keep_size (w := w) (g := g) (row := none) (by repeat (first | (with_reducible first | exact HK.out | apply KeepBut.set_ | apply keep_drewN | apply keep_drew | apply keep_alloc) | exact HK.out))) : w.heap.size ≤ gb140)); have n5_ := Aside0.mk ((Nat.le_trans HW0.out (by rw [hg]; exact (keep_size (w := w) (g := g) (row := none) (by repeat (first | (with_reducible first | exact HK.out | apply KeepBut.set_ | apply keep_drewN | apply keep_drew | apply keep_alloc) | exact HK.out))) : w.heap.size ≤ gb140) : w0.heap.size ≤ gb140)); have n6_ := Aside0.mk ((by rw [hg]; exact Nat.ne_of_lt (IsS114.lt (show IsS114 w0 _ g s0_0 s0_1 s0_2 from by repeat (first | (with_reducible first | exact HI0.out | apply IsS114.alloc | apply IsS114.drewN | apply IsS114.drew | apply IsS114.set_1 | apply IsS114.set_2) | exact HI0.out))) : g ≠ gb140)); have n7_ := Aside0.mk ((by rw [hg]; exact Nat.ne_of_gt (IsS114.lt (show IsS114 w0 _ g s0_0 s0_1 s0_2 from by repeat (first | (with_reducible first | exact HI0.out | apply IsS114.alloc | apply IsS114.drewN | apply IsS114.drew | apply IsS114.set_1 | apply IsS114.set_2) | exact HI0.out))) : gb140 ≠ g)); clear HI0; clear HK; clear HB; have HI0 := n0_; have HK := n1_; have HB := n2_; have BK140 := n3_; have GW140 := n4_; have GE140 := n5_; have NB0_140 := n6_; have NB140_0 := n7_; clear n0_ n1_ n2_ n3_ n4_ n5_ n6_ n7_; clear hb hbox hg))
 have n0_ := Aside0.mk (blk_drew BK140.out)
 have n1_ := Aside0.mk (IsS114.drew HI0.out)
 have n2_ := Aside0.mk (keep_drew HK.out)
 have n3_ := Aside0.mk (below_drew1 HB.out)
 clear BK140
 clear HI0
 clear HK
 clear HB
 have BK140 := n0_
 have HI0 := n1_
 have HK := n2_
 have HB := n3_
 clear n0_ n1_ n2_ n3_
 obtain ⟨ASz6_0, cSz6_0, HGz6, hgz6, ⟨HSz6_0, HScz6_0⟩⟩ := HI0.out
 have hcz6_0 := cellS114_0 HGz6
 have hcz6_1 := cellS114_1 HGz6
 have hcz6_2 := cellS114_2 HGz6
 have hfz6_1 := blk_frozen HGz6 1
 have hfz6_2 := blk_frozen HGz6 2
 clear HGz6 hgz6
 refine start_ (n := 13) (S := fun w' => w'.cell? ⟨g, 0, none⟩ = some (.slice ASz6_0 s0_0.length cSz6_0) ∧ w'.cell? ⟨g, 1, none⟩ = some (.int .i64 s0_1) ∧ w'.cell? ⟨g, 2, none⟩ = some (.int .i64 s0_2) ∧ w'.cell? ⟨gb140, 0, none⟩ = some (.int .i64 a1_0) ∧ w'.cell? ⟨gb140, 1, none⟩ = some (.int .i64 a1_1) ∧ w'.cell? ⟨gb140, 2, none⟩ = some (.int .i64 a1_2) ∧ w'.cell? ⟨gb140, 3, none⟩ = some (.string a1_3) ∧ w'.cell? ⟨gb140, 4, none⟩ = some (.bool a1_4) ∧ w'.cell? ⟨gb140, 5, none⟩ = some (.slice A1_5 l1_5.length c1_5)) (ds := []) #[false, false, false, false, false, false, false, false, false, false, false, false, false] (by kernel_rfl) rfl rfl ⟨hcz6_0, hcz6_1, hcz6_2, (blk_cell BK140.out 0).trans rfl, (blk_cell BK140.out 1).trans rfl, (blk_cell BK140.out 2).trans rfl, (blk_cell BK140.out 3).trans rfl, (blk_cell BK140.out 4).trans rfl, (blk_cell BK140.out 5).trans rfl⟩ (fun hHeld => ?_); refine with_tabW inits_checker_call.tab1 inits_checker_call.bits1 (fun HT_ HW_ => ?_)
 generalize w4.drew = w5 at BK140 HI0 HK HB hHeld ⊢
 refine pure_ (i := 0) (N := some 9) (v := ?_) (a' := ?_) #[true, false, false, false, false, false, false, false, false, false, false, false, false] rfl rfl (any_of HT_.out (by kernel_rfl)) (fun _ _ _ h => h) (Or.inl ⟨by rfl, ?_⟩) ?_ ?_
 rotate_left
 ·intro w'
  go_simp
  with_reducible rfl
 rotate_left
 ·simp only [Act.put, List.setIfInBounds_toArray, List.set_cons_zero, List.set_cons_succ, i64_w, i32_w]
  rfl
 refine pure_ (i := 1) (N := some 10) (v := ?_) (a' := ?_) #[true, true, false, false, false, false, false, false, false, false, false, false, false] rfl rfl (any_of HT_.out (by kernel_rfl)) (fun _ _ _ h => h) (Or.inl ⟨by rfl, ?_⟩) ?_ ?_
 rotate_left
 ·intro w'
  go_simp
  with_reducible rfl
 rotate_left
 ·simp only [Act.put, List.setIfInBounds_toArray, List.set_cons_zero, List.set_cons_succ, i64_w, i32_w]
  rfl
 refine pure_ (i := 2) (N := some 11) (v := ?_) (a' := ?_) #[true, true, true, false, false, false, false, false, false, false, false, false, false] rfl rfl (any_of HT_.out (by kernel_rfl)) (fun _ _ _ h => h) (Or.inl ⟨by rfl, ?_⟩) ?_ ?_
 rotate_left
 ·intro w'
  go_simp
  with_reducible rfl
 rotate_left
 ·simp only [Act.put, List.setIfInBounds_toArray, List.set_cons_zero, List.set_cons_succ, i64_w, i32_w]
  rfl
 refine pure_ (i := 4) (N := some 13) (v := ?_) (a' := ?_) #[true, true, true, false, true, false, false, false, false, false, false, false, false] rfl rfl (any_of HT_.out (by kernel_rfl)) (fun _ _ _ h => h) (Or.inl ⟨by rfl, ?_⟩) ?_ ?_
 rotate_left
 ·intro w'
  go_simp
  with_reducible rfl
 rotate_left
 ·simp only [Act.put, List.setIfInBounds_toArray, List.set_cons_zero, List.set_cons_succ, i64_w, i32_w]
  rfl
 refine take_ (i := 3) (N := some 12) (v := ?_) (a' := ?_) #[true, true, true, true, true, false, false, false, false, false, false, false, false] rfl rfl (take_ofW HT_.out HW_.out (by kernel_rfl)) (fun _ _ _ h => h) (Or.inl ⟨by rfl, ?_⟩) hHeld ?_ ?_
 rotate_left
 ·rintro w' ⟨s0, s1, s2, s3, s4, s5, s6, s7, s8⟩
  go_simp
  with_reducible rfl
 rotate_left
 ·simp only [Act.put, List.setIfInBounds_toArray, List.set_cons_zero, List.set_cons_succ, i64_w, i32_w]
  rfl
 refine take_ (i := 5) (N := some 14) (v := ?_) (a' := ?_) #[true, true, true, true, true, true, false, false, false, false, false, false, false] rfl rfl (take_ofW HT_.out HW_.out (by kernel_rfl)) (fun _ _ _ h => h) (Or.inl ⟨by rfl, ?_⟩) hHeld ?_ ?_
 rotate_left
 ·rintro w' ⟨s0, s1, s2, s3, s4, s5, s6, s7, s8⟩
  go_simp
  with_reducible rfl
 rotate_left
 ·simp only [Act.put, List.setIfInBounds_toArray, List.set_cons_zero, List.set_cons_succ, i64_w, i32_w]
  rfl
 refine join_ (σ := Option Addr × Nat × Option Addr × Nat × Option Addr × Nat × Option Addr × Nat × Nat) 2 #[true, true, true, true, true, true, true, true, true, true, true, false, false] (fun s_ => [(15, .tuple #[.agg #[.string t141, .int .i64 t142, .slice s_.1 t143.length s_.2.1, .slice s_.2.2.1 t146.length s_.2.2.2.1, .slice s_.2.2.2.2.1 t149.length s_.2.2.2.2.2.1, .slice s_.2.2.2.2.2.2.1 t152.length s_.2.2.2.2.2.2.2.1], .bool t155]), (4, .pointer (some ⟨s_.2.2.2.2.2.2.2.2, 0, none⟩)), (8, .tuple #[.agg #[.string t141, .int .i64 t142, .slice s_.1 t143.length s_.2.1, .slice s_.2.2.1 t146.length s_.2.2.2.1, .slice s_.2.2.2.2.1 t149.length s_.2.2.2.2.2.1, .slice s_.2.2.2.2.2.2.1 t152.length s_.2.2.2.2.2.2.2.1], .bool t155]), (16, .agg #[.string t141, .int .i64 t142, .slice s_.1 t143.length s_.2.1, .slice s_.2.2.1 t146.length s_.2.2.2.1, .slice s_.2.2.2.2.1 t149.length s_.2.2.2.2.2.1, .slice s_.2.2.2.2.2.2.1 t152.length s_.2.2.2.2.2.2.2.1]), (17, .bool t155)]) (fun s_ w' => (w'.cell? ⟨g, 0, none⟩ = some (.slice ASz6_0 s0_0.length cSz6_0) ∧ w'.cell? ⟨g, 1, none⟩ = some (.int .i64 s0_1) ∧ w'.cell? ⟨g, 2, none⟩ = some (.int .i64 s0_2) ∧ w'.cell? ⟨gb140, 0, none⟩ = some (.int .i64 a1_0) ∧ w'.cell? ⟨gb140, 1, none⟩ = some (.int .i64 a1_1) ∧ w'.cell? ⟨gb140, 2, none⟩ = some (.int .i64 a1_2) ∧ w'.cell? ⟨gb140, 3, none⟩ = some (.string a1_3) ∧ w'.cell? ⟨gb140, 4, none⟩ = some (.bool a1_4) ∧ w'.cell? ⟨gb140, 5, none⟩ = some (.slice A1_5 l1_5.length c1_5)) ∧ (w'.heap[gb140]? = some (.cells #[.int .i64 a1_0, .int .i64 a1_1, .int .i64 a1_2, .string a1_3, .bool a1_4, .slice A1_5 l1_5.length c1_5] 43 (0, 0))) ∧ (w'.heap[s_.2.2.2.2.2.2.2.2]? = some (.cells #[.string (⟨#[]⟩ : ByteArray), .int .i64 0, .slice none 0 0, .slice none 0 0, .slice none 0 0, .slice none 0 0] 34 (0, 0))) ∧ (w.heap.size ≤ s_.2.2.2.2.2.2.2.2) ∧ (w0.heap.size ≤ s_.2.2.2.2.2.2.2.2) ∧ (g ≠ s_.2.2.2.2.2.2.2.2) ∧ (s_.2.2.2.2.2.2.2.2 ≠ g) ∧ (gb140 ≠ s_.2.2.2.2.2.2.2.2) ∧ (s_.2.2.2.2.2.2.2.2 ≠ gb140) ∧ (IsS114 w0 w' g s0_0 s0_1 s0_2) ∧ (Kd.C k39 w0 s_.1 t143.length t143) ∧ (t143.length ≤ s_.2.1) ∧ (Kd.C k39 w0 s_.2.2.1 t146.length t146) ∧ (t146.length ≤ s_.2.2.2.1) ∧ (Kd.C k39 w0 s_.2.2.2.2.1 t149.length t149) ∧ (t149.length ≤ s_.2.2.2.2.2.1) ∧ (Kd.C k45 w0 s_.2.2.2.2.2.2.1 t152.length t152) ∧ (t152.length ≤ s_.2.2.2.2.2.2.2.1) ∧ (KeepBut w w' g none) ∧ (Below w0.heap.size w0 w')) ?_ ?_
 rotate_left
 ·intro hCont
  refine two_ (i := 6) (j := 10) (Ni := some 15) (Nj := some 4) #[true, true, true, true, true, true, true, false, false, false, false, false, false] #[true, true, true, true, true, true, false, false, false, false, true, false, false] rfl rfl rfl rfl (two_of HT_.out (by kernel_rfl)) (by decide) (by decide) (fun K hK => ?_) (fun K hK => ?_)
  ·skip
   refine goes_ Tryd.func86 (by kernel_rfl) rfl #[.slice ASz6_0 s0_0.length cSz6_0, .string a1_3] (by rfl) rfl rfl (by (try simp only [List.map_toArray, List.map_cons, List.map_nil]); first | done | rfl | (simp only [List.length_drop, List.length_take]; rfl)) ?_
   with_reducible refine (tree_Find.calls _ _ s0_0 a1_3 t141 t142 t143 t146 t149 t152 t155 w0 _ ?side3 ?side1 ?side2 A3.out).mono ?_
   (case side1 => exact HSz6_0)
   (case side2 => exact HScz6_0)
   (case side3 => repeat (first | (with_reducible first | exact HB.out | apply below_alloc | apply pw_below_drewN | apply below_drew1 | refine below_set ?_ (IsS114.ge HI0.out) | refine below_set ?_ GE140.out) | exact HB.out))
   rintro e w7 ⟨An156, cn156, An157, cn157, An158, cn158, An159, cn159, rfl, hrn156, hcn156, hrn157, hcn157, hrn158, hcn158, hrn159, hcn159, hb⟩
   have HS0_ := (hb.cell (World.block_lt_of_cell? _ _ (hHeld.1))).trans (hHeld.1)
   have HS1_ := (hb.cell (World.block_lt_of_cell? _ _ (hHeld.2.1))).trans (hHeld.2.1)
   have HS2_ := (hb.cell (World.block_lt_of_cell? _ _ (hHeld.2.2.1))).trans (hHeld.2.2.1)
   refine ⟨_, rfl, ?_⟩
   have HRn156 := Aside0.mk hrn156
   have HCn156 := Aside0.mk hcn156
   clear hrn156 hcn156
   have HRn157 := Aside0.mk hrn157
   have HCn157 := Aside0.mk hcn157
   clear hrn157 hcn157
   have HRn158 := Aside0.mk hrn158
   have HCn158 := Aside0.mk hcn158
   clear hrn158 hcn158
   have HRn159 := Aside0.mk hrn159
   have HCn159 := Aside0.mk hcn159
   clear hrn159 hcn159
   have n0_ := Aside0.mk (IsS114.below (by repeat (first | (with_reducible first | exact HI0.out | apply IsS114.alloc | apply IsS114.drewN | apply IsS114.drew | apply IsS114.set_1 | apply IsS114.set_2 | refine IsS114.far ?_ NB0_140.out _) | exact HI0.out)) hb)
   have n1_ := Aside0.mk (blk_below (g := gb140) (o := .cells #[.int .i64 a1_0, .int .i64 a1_1, .int .i64 a1_2, .string a1_3, .bool a1_4, .slice A1_5 l1_5.length c1_5] 43 (0, 0)) (by (with_reducible repeat (first | refine blk_drewN ?_ _ | refine blk_drew ?_ | refine blk_alloc ?_ _)); exact BK140.out) hb)
   have n2_ := Aside0.mk (KeepBut.trans (by repeat (first | (with_reducible first | exact HK.out | apply KeepBut.set_ | apply keep_drewN | apply keep_drew | apply keep_alloc | refine keep_far ?_ GW140.out _) | exact HK.out)) (KeepBut.of_below hb g none) (.inl rfl))
   have n3_ := Aside0.mk (below_step (by repeat (first | (with_reducible first | exact HB.out | apply below_alloc | apply pw_below_drewN | apply below_drew1 | refine below_set ?_ (IsS114.ge HI0.out) | refine below_set ?_ GE140.out) | exact HB.out)) hb)
   clear HI0
   clear BK140
   clear HK
   clear HB
   have HI0 := n0_
   have BK140 := n1_
   have HK := n2_
   have HB := n3_
   clear n0_ n1_ n2_ n3_
   (try clear hb)
   (try clear hb2)
   (try clear hk)
   (try clear hi)
   refine hK.out _ _ ⟨HS0_, HS1_, HS2_, (blk_cell BK140.out 0).trans rfl, (blk_cell BK140.out 1).trans rfl, (blk_cell BK140.out 2).trans rfl, (blk_cell BK140.out 3).trans rfl, (blk_cell BK140.out 4).trans rfl, (blk_cell BK140.out 5).trans rfl⟩ (fun hHeld => ?_)
   clear hK K
   refine norm_ (a' := ?_) ?_ ?_
   rotate_left
   ·show Act.put _ (some 15) _ = _
    simp only [Act.put, List.setIfInBounds_toArray, List.set_cons_zero, List.set_cons_succ, i64_w, i32_w]
    rfl
   refine pure_ (i := 7) (N := some 8) (v := ?_) (a' := ?_) #[true, true, true, true, true, true, true, true, false, false, false, false, false] rfl rfl (any_of HT_.out (by kernel_rfl)) (fun _ _ _ h => h) (Or.inl ⟨by rfl, ?_⟩) ?_ ?_
   rotate_left
   ·intro w'
    go_simp
    with_reducible rfl
   rotate_left
   ·simp only [Act.put, List.setIfInBounds_toArray, List.set_cons_zero, List.set_cons_succ, i64_w, i32_w]
    rfl
   refine pure_ (i := 8) (N := some 16) (v := ?_) (a' := ?_) #[true, true, true, true, true, true, true, true, true, false, false, false, false] rfl rfl (any_of HT_.out (by kernel_rfl)) (fun _ _ _ h => h) (Or.inl ⟨by rfl, ?_⟩) ?_ ?_
   rotate_left
   ·intro w'
    go_simp
    with_reducible rfl
   rotate_left
   ·simp only [Act.put, List.setIfInBounds_toArray, List.set_cons_zero, List.set_cons_succ, i64_w, i32_w]
    rfl
   refine pure_ (i := 9) (N := some 17) (v := ?_) (a' := ?_) #[true, true, true, true, true, true, true, true, true, true, false, false, false] rfl rfl (any_of HT_.out (by kernel_rfl)) (fun _ _ _ h => h) (Or.inl ⟨by rfl, ?_⟩) ?_ ?_
   rotate_left
   ·intro w'
    go_simp
    with_reducible rfl
   rotate_left
   ·simp only [Act.put, List.setIfInBounds_toArray, List.set_cons_zero, List.set_cons_succ, i64_w, i32_w]
    rfl
   refine one_ (i := 10) (N := some 4) #[true, true, true, true, true, true, true, true, true, true, true, false, false] rfl rfl (one_of HT_.out (by kernel_rfl)) (by decide) (fun K hK => ?_)
   refine box_step ?hg (N := 4) ?hd (cs := #[.string (⟨#[]⟩ : ByteArray), .int .i64 0, .slice none 0 0, .slice none 0 0, .slice none 0 0, .slice none 0 0]) (t := 34) ?hr ?_; (case hd => rfl); (case hg => rfl); (case hr => first | (go_simp; done) | (go_simp; rfl))
   intro gb160 hg w8 hbox hb
   have HS0_ := (hb.cell (World.block_lt_of_cell? _ _ (hHeld.1))).trans (hHeld.1)
   have HS1_ := (hb.cell (World.block_lt_of_cell? _ _ (hHeld.2.1))).trans (hHeld.2.1)
   have HS2_ := (hb.cell (World.block_lt_of_cell? _ _ (hHeld.2.2.1))).trans (hHeld.2.2.1)
   have n0_ := Aside0.mk (IsS114.below (by repeat (first | (with_reducible first | exact HI0.out | apply IsS114.alloc | apply IsS114.drewN | apply IsS114.drew | apply IsS114.set_1 | apply IsS114.set_2 | refine IsS114.far ?_ NB0_140.out _) | exact HI0.out)) hb)
   have n1_ := Aside0.mk (blk_below (g := gb140) (o := .cells #[.int .i64 a1_0, .int .i64 a1_1, .int .i64 a1_2, .string a1_3, .bool a1_4, .slice A1_5 l1_5.length c1_5] 43 (0, 0)) (by (with_reducible repeat (first | refine blk_drewN ?_ _ | refine blk_drew ?_ | refine blk_alloc ?_ _)); exact BK140.out) hb)
   have n2_ := Aside0.mk (KeepBut.trans (by repeat (first | (with_reducible first | exact HK.out | apply KeepBut.set_ | apply keep_drewN | apply keep_drew | apply keep_alloc | refine keep_far ?_ GW140.out _) | exact HK.out)) (KeepBut.of_below hb g none) (.inl rfl))
   have n3_ := Aside0.mk (below_step (by repeat (first | (with_reducible first | exact HB.out | apply below_alloc | apply pw_below_drewN | apply below_drew1 | refine below_set ?_ (IsS114.ge HI0.out) | refine below_set ?_ GE140.out) | exact HB.out)) hb)
   have n4_ := Aside0.mk (hbox)
   have n5_ := Aside0.mk ((by rw [hg]; exact (keep_size (w := w) (g := g) (row := none) (by repeat (first | (with_reducible first | exact HK.out | apply KeepBut.set_ | apply keep_drewN | apply keep_drew | apply keep_alloc | refine keep_far ?_ GW140.out _) | exact HK.out))) : w.heap.size ≤ gb160))
   have n6_ := Aside0.mk ((Nat.le_trans HW0.out (by rw [hg]; exact (keep_size (w := w) (g := g) (row := none) (by repeat (first | (with_reducible first | exact HK.out | apply KeepBut.set_ | apply keep_drewN | apply keep_drew | apply keep_alloc | refine keep_far ?_ GW140.out _) | exact HK.out))) : w.heap.size ≤ gb160) : w0.heap.size ≤ gb160))
   have n7_ := Aside0.mk ((by rw [hg]; exact Nat.ne_of_lt (blk_lt (g := gb140) (o := .cells #[.int .i64 a1_0, .int .i64 a1_1, .int .i64 a1_2, .string a1_3, .bool a1_4, .slice A1_5 l1_5.length c1_5] 43 (0, 0)) (by (with_reducible repeat (first | refine blk_drewN ?_ _ | refine blk_drew ?_ | refine blk_alloc ?_ _)); exact BK140.out)) : gb140 ≠ gb160))
   have n8_ := Aside0.mk ((by rw [hg]; exact Nat.ne_of_gt (blk_lt (g := gb140) (o := .cells #[.int .i64 a1_0, .int .i64 a1_1, .int .i64 a1_2, .string a1_3, .bool a1_4, .slice A1_5 l1_5.length c1_5] 43 (0, 0)) (by (with_reducible repeat (first | refine blk_drewN ?_ _ | refine blk_drew ?_ | refine blk_alloc ?_ _)); exact BK140.out)) : gb160 ≠ gb140))
   have n9_ := Aside0.mk ((by rw [hg]; exact Nat.ne_of_lt (IsS114.lt (show IsS114 w0 _ g s0_0 s0_1 s0_2 from by repeat (first | (with_reducible first | exact HI0.out | apply IsS114.alloc | apply IsS114.drewN | apply IsS114.drew | apply IsS114.set_1 | apply IsS114.set_2 | refine IsS114.far ?_ NB0_140.out _) | exact HI0.out))) : g ≠ gb160))
   have n10_ := Aside0.mk ((by rw [hg]; exact Nat.ne_of_gt (IsS114.lt (show IsS114 w0 _ g s0_0 s0_1 s0_2 from by repeat (first | (with_reducible first | exact HI0.out | apply IsS114.alloc | apply IsS114.drewN | apply IsS114.drew | apply IsS114.set_1 | apply IsS114.set_2 | refine IsS114.far ?_ NB0_140.out _) | exact HI0.out))) : gb160 ≠ g))
   clear HI0
   clear BK140
   clear HK
   clear HB
   have HI0 := n0_
   have BK140 := n1_
   have HK := n2_
   have HB := n3_
   have BK160 := n4_
   have GW160 := n5_
   have GE160 := n6_
   have NB140_160 := n7_
   have NB160_140 := n8_
   have NB0_160 := n9_
   have NB160_0 := n10_
   clear n0_ n1_ n2_ n3_ n4_ n5_ n6_ n7_ n8_ n9_ n10_
   clear hb hbox hg
   refine hK.out _ _ ⟨HS0_, HS1_, HS2_, (blk_cell BK140.out 0).trans rfl, (blk_cell BK140.out 1).trans rfl, (blk_cell BK140.out 2).trans rfl, (blk_cell BK140.out 3).trans rfl, (blk_cell BK140.out 4).trans rfl, (blk_cell BK140.out 5).trans rfl⟩ (fun hHeld => ?_)
   clear hK K
   refine norm_ (a' := ?_) ?_ ?_
   rotate_left
   ·show Act.put _ (some 4) _ = _
    simp only [Act.put, List.setIfInBounds_toArray, List.set_cons_zero, List.set_cons_succ, i64_w, i32_w]
    rfl
   exact norm_ (by simp only [putAll, Act.put, List.setIfInBounds_toArray, List.set_cons_zero, List.set_cons_succ]) (hCont (An156, cn156, An157, cn157, An158, cn158, An159, cn159, gb160) _ ⟨hHeld, (by (with_reducible repeat (first | refine blk_drewN ?_ _ | refine blk_drew ?_ | refine blk_alloc ?_ _)); exact BK140.out), (by (with_reducible repeat (first | refine blk_drewN ?_ _ | refine blk_drew ?_ | refine blk_alloc ?_ _)); exact BK160.out), GW160.out, GE160.out, NB0_160.out, NB160_0.out, NB140_160.out, NB160_140.out, (by repeat (first | (with_reducible first | exact HI0.out | apply IsS114.alloc | apply IsS114.drewN | apply IsS114.drew | apply IsS114.set_1 | apply IsS114.set_2 | refine IsS114.far ?_ NB0_140.out _ | refine IsS114.far ?_ NB0_160.out _) | exact HI0.out)), HRn156.out, HCn156.out, HRn157.out, HCn157.out, HRn158.out, HCn158.out, HRn159.out, HCn159.out, (by repeat (first | (with_reducible first | exact HK.out | apply KeepBut.set_ | apply keep_drewN | apply keep_drew | apply keep_alloc | refine keep_far ?_ GW140.out _ | refine keep_far ?_ GW160.out _) | exact HK.out)), (by repeat (first | (with_reducible first | exact HB.out | apply below_alloc | apply pw_below_drewN | apply below_drew1 | refine below_set ?_ (IsS114.ge HI0.out) | refine below_set ?_ GE140.out | refine below_set ?_ GE160.out) | exact HB.out))⟩)
  ·skip
   refine box_step ?hg (N := 4) ?hd (cs := #[.string (⟨#[]⟩ : ByteArray), .int .i64 0, .slice none 0 0, .slice none 0 0, .slice none 0 0, .slice none 0 0]) (t := 34) ?hr ?_; (case hd => rfl); (case hg => rfl); (case hr => first | (go_simp; done) | (go_simp; rfl))
   intro gb160 hg w7 hbox hb
   have HS0_ := (hb.cell (World.block_lt_of_cell? _ _ (hHeld.1))).trans (hHeld.1)
   have HS1_ := (hb.cell (World.block_lt_of_cell? _ _ (hHeld.2.1))).trans (hHeld.2.1)
   have HS2_ := (hb.cell (World.block_lt_of_cell? _ _ (hHeld.2.2.1))).trans (hHeld.2.2.1)
   have n0_ := Aside0.mk (IsS114.below (by repeat (first | (with_reducible first | exact HI0.out | apply IsS114.alloc | apply IsS114.drewN | apply IsS114.drew | apply IsS114.set_1 | apply IsS114.set_2 | refine IsS114.far ?_ NB0_140.out _) | exact HI0.out)) hb)
   have n1_ := Aside0.mk (blk_below (g := gb140) (o := .cells #[.int .i64 a1_0, .int .i64 a1_1, .int .i64 a1_2, .string a1_3, .bool a1_4, .slice A1_5 l1_5.length c1_5] 43 (0, 0)) (by (with_reducible repeat (first | refine blk_drewN ?_ _ | refine blk_drew ?_ | refine blk_alloc ?_ _)); exact BK140.out) hb)
   have n2_ := Aside0.mk (KeepBut.trans (by repeat (first | (with_reducible first | exact HK.out | apply KeepBut.set_ | apply keep_drewN | apply keep_drew | apply keep_alloc | refine keep_far ?_ GW140.out _) | exact HK.out)) (KeepBut.of_below hb g none) (.inl rfl))
   have n3_ := Aside0.mk (below_step (by repeat (first | (with_reducible first | exact HB.out | apply below_alloc | apply pw_below_drewN | apply below_drew1 | refine below_set ?_ (IsS114.ge HI0.out) | refine below_set ?_ GE140.out) | exact HB.out)) hb)
   have n4_ := Aside0.mk (hbox)
   have n5_ := Aside0.mk ((by rw [hg]; exact (keep_size (w := w) (g := g) (row := none) (by repeat (first | (with_reducible first | exact HK.out | apply KeepBut.set_ | apply keep_drewN | apply keep_drew | apply keep_alloc | refine keep_far ?_ GW140.out _) | exact HK.out))) : w.heap.size ≤ gb160))
   have n6_ := Aside0.mk ((Nat.le_trans HW0.out (by rw [hg]; exact (keep_size (w := w) (g := g) (row := none) (by repeat (first | (with_reducible first | exact HK.out | apply KeepBut.set_ | apply keep_drewN | apply keep_drew | apply keep_alloc | refine keep_far ?_ GW140.out _) | exact HK.out))) : w.heap.size ≤ gb160) : w0.heap.size ≤ gb160))
   have n7_ := Aside0.mk ((by rw [hg]; exact Nat.ne_of_lt (blk_lt (g := gb140) (o := .cells #[.int .i64 a1_0, .int .i64 a1_1, .int .i64 a1_2, .string a1_3, .bool a1_4, .slice A1_5 l1_5.length c1_5] 43 (0, 0)) (by (with_reducible repeat (first | refine blk_drewN ?_ _ | refine blk_drew ?_ | refine blk_alloc ?_ _)); exact BK140.out)) : gb140 ≠ gb160))
   have n8_ := Aside0.mk ((by rw [hg]; exact Nat.ne_of_gt (blk_lt (g := gb140) (o := .cells #[.int .i64 a1_0, .int .i64 a1_1, .int .i64 a1_2, .string a1_3, .bool a1_4, .slice A1_5 l1_5.length c1_5] 43 (0, 0)) (by (with_reducible repeat (first | refine blk_drewN ?_ _ | refine blk_drew ?_ | refine blk_alloc ?_ _)); exact BK140.out)) : gb160 ≠ gb140))
   have n9_ := Aside0.mk ((by rw [hg]; exact Nat.ne_of_lt (IsS114.lt (show IsS114 w0 _ g s0_0 s0_1 s0_2 from by repeat (first | (with_reducible first | exact HI0.out | apply IsS114.alloc | apply IsS114.drewN | apply IsS114.drew | apply IsS114.set_1 | apply IsS114.set_2 | refine IsS114.far ?_ NB0_140.out _) | exact HI0.out))) : g ≠ gb160))
   have n10_ := Aside0.mk ((by rw [hg]; exact Nat.ne_of_gt (IsS114.lt (show IsS114 w0 _ g s0_0 s0_1 s0_2 from by repeat (first | (with_reducible first | exact HI0.out | apply IsS114.alloc | apply IsS114.drewN | apply IsS114.drew | apply IsS114.set_1 | apply IsS114.set_2 | refine IsS114.far ?_ NB0_140.out _) | exact HI0.out))) : gb160 ≠ g))
   clear HI0
   clear BK140
   clear HK
   clear HB
   have HI0 := n0_
   have BK140 := n1_
   have HK := n2_
   have HB := n3_
   have BK160 := n4_
   have GW160 := n5_
   have GE160 := n6_
   have NB140_160 := n7_
   have NB160_140 := n8_
   have NB0_160 := n9_
   have NB160_0 := n10_
   clear n0_ n1_ n2_ n3_ n4_ n5_ n6_ n7_ n8_ n9_ n10_
   clear hb hbox hg
   refine hK.out _ _ ⟨HS0_, HS1_, HS2_, (blk_cell BK140.out 0).trans rfl, (blk_cell BK140.out 1).trans rfl, (blk_cell BK140.out 2).trans rfl, (blk_cell BK140.out 3).trans rfl, (blk_cell BK140.out 4).trans rfl, (blk_cell BK140.out 5).trans rfl⟩ (fun hHeld => ?_)
   clear hK K
   refine norm_ (a' := ?_) ?_ ?_
   rotate_left
   ·show Act.put _ (some 4) _ = _
    simp only [Act.put, List.setIfInBounds_toArray, List.set_cons_zero, List.set_cons_succ, i64_w, i32_w]
    rfl
   refine one_ (i := 6) (N := some 15) #[true, true, true, true, true, true, true, false, false, false, true, false, false] rfl rfl (one_of HT_.out (by kernel_rfl)) (by decide) (fun K hK => ?_)
   refine goes_ Tryd.func86 (by kernel_rfl) rfl #[.slice ASz6_0 s0_0.length cSz6_0, .string a1_3] (by rfl) rfl rfl (by (try simp only [List.map_toArray, List.map_cons, List.map_nil]); first | done | rfl | (simp only [List.length_drop, List.length_take]; rfl)) ?_
   with_reducible refine (tree_Find.calls _ _ s0_0 a1_3 t141 t142 t143 t146 t149 t152 t155 w0 _ ?side3 ?side1 ?side2 A3.out).mono ?_
   (case side1 => exact HSz6_0)
   (case side2 => exact HScz6_0)
   (case side3 => repeat (first | (with_reducible first | exact HB.out | apply below_alloc | apply pw_below_drewN | apply below_drew1 | refine below_set ?_ (IsS114.ge HI0.out) | refine below_set ?_ GE140.out | refine below_set ?_ GE160.out) | exact HB.out))
   rintro e w8 ⟨An156, cn156, An157, cn157, An158, cn158, An159, cn159, rfl, hrn156, hcn156, hrn157, hcn157, hrn158, hcn158, hrn159, hcn159, hb⟩
   have HS0_ := (hb.cell (World.block_lt_of_cell? _ _ (hHeld.1))).trans (hHeld.1)
   have HS1_ := (hb.cell (World.block_lt_of_cell? _ _ (hHeld.2.1))).trans (hHeld.2.1)
   have HS2_ := (hb.cell (World.block_lt_of_cell? _ _ (hHeld.2.2.1))).trans (hHeld.2.2.1)
   refine ⟨_, rfl, ?_⟩
   have HRn156 := Aside0.mk hrn156
   have HCn156 := Aside0.mk hcn156
   clear hrn156 hcn156
   have HRn157 := Aside0.mk hrn157
   have HCn157 := Aside0.mk hcn157
   clear hrn157 hcn157
   have HRn158 := Aside0.mk hrn158
   have HCn158 := Aside0.mk hcn158
   clear hrn158 hcn158
   have HRn159 := Aside0.mk hrn159
   have HCn159 := Aside0.mk hcn159
   clear hrn159 hcn159
   have n0_ := Aside0.mk (IsS114.below (by repeat (first | (with_reducible first | exact HI0.out | apply IsS114.alloc | apply IsS114.drewN | apply IsS114.drew | apply IsS114.set_1 | apply IsS114.set_2 | refine IsS114.far ?_ NB0_140.out _ | refine IsS114.far ?_ NB0_160.out _) | exact HI0.out)) hb)
   have n1_ := Aside0.mk (blk_below (g := gb140) (o := .cells #[.int .i64 a1_0, .int .i64 a1_1, .int .i64 a1_2, .string a1_3, .bool a1_4, .slice A1_5 l1_5.length c1_5] 43 (0, 0)) (by (with_reducible repeat (first | refine blk_drewN ?_ _ | refine blk_drew ?_ | refine blk_alloc ?_ _)); exact BK140.out) hb)
   have n2_ := Aside0.mk (blk_below (g := gb160) (o := .cells #[.string (⟨#[]⟩ : ByteArray), .int .i64 0, .slice none 0 0, .slice none 0 0, .slice none 0 0, .slice none 0 0] 34 (0, 0)) (by (with_reducible repeat (first | refine blk_drewN ?_ _ | refine blk_drew ?_ | refine blk_alloc ?_ _)); exact BK160.out) hb)
   have n3_ := Aside0.mk (KeepBut.trans (by repeat (first | (with_reducible first | exact HK.out | apply KeepBut.set_ | apply keep_drewN | apply keep_drew | apply keep_alloc | refine keep_far ?_ GW140.out _ | refine keep_far ?_ GW160.out _) | exact HK.out)) (KeepBut.of_below hb g none) (.inl rfl))
   have n4_ := Aside0.mk (below_step (by repeat (first | (with_reducible first | exact HB.out | apply below_alloc | apply pw_below_drewN | apply below_drew1 | refine below_set ?_ (IsS114.ge HI0.out) | refine below_set ?_ GE140.out | refine below_set ?_ GE160.out) | exact HB.out)) hb)
   clear HI0
   clear BK140
   clear BK160
   clear HK
   clear HB
   have HI0 := n0_
   have BK140 := n1_
   have BK160 := n2_
   have HK := n3_
   have HB := n4_
   clear n0_ n1_ n2_ n3_ n4_
   (try clear hb)
   (try clear hb2)
   (try clear hk)
   (try clear hi)
   refine hK.out _ _ ⟨HS0_, HS1_, HS2_, (blk_cell BK140.out 0).trans rfl, (blk_cell BK140.out 1).trans rfl, (blk_cell BK140.out 2).trans rfl, (blk_cell BK140.out 3).trans rfl, (blk_cell BK140.out 4).trans rfl, (blk_cell BK140.out 5).trans rfl⟩ (fun hHeld => ?_)
   clear hK K
   refine norm_ (a' := ?_) ?_ ?_
   rotate_left
   ·show Act.put _ (some 15) _ = _
    simp only [Act.put, List.setIfInBounds_toArray, List.set_cons_zero, List.set_cons_succ, i64_w, i32_w]
    rfl
   refine pure_ (i := 7) (N := some 8) (v := ?_) (a' := ?_) #[true, true, true, true, true, true, true, true, false, false, true, false, false] rfl rfl (any_of HT_.out (by kernel_rfl)) (fun _ _ _ h => h) (Or.inl ⟨by rfl, ?_⟩) ?_ ?_
   rotate_left
   ·intro w'
    go_simp
    with_reducible rfl
   rotate_left
   ·simp only [Act.put, List.setIfInBounds_toArray, List.set_cons_zero, List.set_cons_succ, i64_w, i32_w]
    rfl
   refine pure_ (i := 8) (N := some 16) (v := ?_) (a' := ?_) #[true, true, true, true, true, true, true, true, true, false, true, false, false] rfl rfl (any_of HT_.out (by kernel_rfl)) (fun _ _ _ h => h) (Or.inl ⟨by rfl, ?_⟩) ?_ ?_
   rotate_left
   ·intro w'
    go_simp
    with_reducible rfl
   rotate_left
   ·simp only [Act.put, List.setIfInBounds_toArray, List.set_cons_zero, List.set_cons_succ, i64_w, i32_w]
    rfl
   refine pure_ (i := 9) (N := some 17) (v := ?_) (a' := ?_) #[true, true, true, true, true, true, true, true, true, true, true, false, false] rfl rfl (any_of HT_.out (by kernel_rfl)) (fun _ _ _ h => h) (Or.inl ⟨by rfl, ?_⟩) ?_ ?_
   rotate_left
   ·intro w'
    go_simp
    with_reducible rfl
   rotate_left
   ·simp only [Act.put, List.setIfInBounds_toArray, List.set_cons_zero, List.set_cons_succ, i64_w, i32_w]
    rfl
   exact norm_ (by simp only [putAll, Act.put, List.setIfInBounds_toArray, List.set_cons_zero, List.set_cons_succ]) (hCont (An156, cn156, An157, cn157, An158, cn158, An159, cn159, gb160) _ ⟨hHeld, (by (with_reducible repeat (first | refine blk_drewN ?_ _ | refine blk_drew ?_ | refine blk_alloc ?_ _)); exact BK140.out), (by (with_reducible repeat (first | refine blk_drewN ?_ _ | refine blk_drew ?_ | refine blk_alloc ?_ _)); exact BK160.out), GW160.out, GE160.out, NB0_160.out, NB160_0.out, NB140_160.out, NB160_140.out, (by repeat (first | (with_reducible first | exact HI0.out | apply IsS114.alloc | apply IsS114.drewN | apply IsS114.drew | apply IsS114.set_1 | apply IsS114.set_2 | refine IsS114.far ?_ NB0_140.out _ | refine IsS114.far ?_ NB0_160.out _) | exact HI0.out)), HRn156.out, HCn156.out, HRn157.out, HCn157.out, HRn158.out, HCn158.out, HRn159.out, HCn159.out, (by repeat (first | (with_reducible first | exact HK.out | apply KeepBut.set_ | apply keep_drewN | apply keep_drew | apply keep_alloc | refine keep_far ?_ GW140.out _ | refine keep_far ?_ GW160.out _) | exact HK.out)), (by repeat (first | (with_reducible first | exact HB.out | apply below_alloc | apply pw_below_drewN | apply below_drew1 | refine below_set ?_ (IsS114.ge HI0.out) | refine below_set ?_ GE140.out | refine below_set ?_ GE160.out) | exact HB.out))⟩)
 rintro ⟨An156, cn156, An157, cn157, An158, cn158, An159, cn159, gb160⟩ w9 ⟨hS_, h0_, h1_, h2_, h3_, h4_, h5_, h6_, h7_, h8_, h9_, h10_, h11_, h12_, h13_, h14_, h15_, h16_, h17_, h18_⟩
 have n0_ : Aside0 (w9.heap[gb140]? = some (.cells #[.int .i64 a1_0, .int .i64 a1_1, .int .i64 a1_2, .string a1_3, .bool a1_4, .slice A1_5 l1_5.length c1_5] 43 (0, 0))) := ⟨h0_⟩
 have n1_ : Aside0 (w9.heap[gb160]? = some (.cells #[.string (⟨#[]⟩ : ByteArray), .int .i64 0, .slice none 0 0, .slice none 0 0, .slice none 0 0, .slice none 0 0] 34 (0, 0))) := ⟨h1_⟩
 have n2_ : Aside0 (w.heap.size ≤ gb160) := ⟨h2_⟩
 have n3_ : Aside0 (w0.heap.size ≤ gb160) := ⟨h3_⟩
 have n4_ : Aside0 (g ≠ gb160) := ⟨h4_⟩
 have n5_ : Aside0 (gb160 ≠ g) := ⟨h5_⟩
 have n6_ : Aside0 (gb140 ≠ gb160) := ⟨h6_⟩
 have n7_ : Aside0 (gb160 ≠ gb140) := ⟨h7_⟩
 have n8_ : Aside0 (IsS114 w0 w9 g s0_0 s0_1 s0_2) := ⟨h8_⟩
 have n9_ : Aside0 (Kd.C k39 w0 An156 t143.length t143) := ⟨h9_⟩
 have n10_ : Aside0 (t143.length ≤ cn156) := ⟨h10_⟩
 have n11_ : Aside0 (Kd.C k39 w0 An157 t146.length t146) := ⟨h11_⟩
 have n12_ : Aside0 (t146.length ≤ cn157) := ⟨h12_⟩
 have n13_ : Aside0 (Kd.C k39 w0 An158 t149.length t149) := ⟨h13_⟩
 have n14_ : Aside0 (t149.length ≤ cn158) := ⟨h14_⟩
 have n15_ : Aside0 (Kd.C k45 w0 An159 t152.length t152) := ⟨h15_⟩
 have n16_ : Aside0 (t152.length ≤ cn159) := ⟨h16_⟩
 have n17_ : Aside0 (KeepBut w w9 g none) := ⟨h17_⟩
 have n18_ : Aside0 (Below w0.heap.size w0 w9) := ⟨h18_⟩
 clear BK140
 clear HI0
 clear HK
 clear HB
 clear h0_ h1_ h2_ h3_ h4_ h5_ h6_ h7_ h8_ h9_ h10_ h11_ h12_ h13_ h14_ h15_ h16_ h17_ h18_
 have BK140 := n0_
 have BK160 := n1_
 have GW160 := n2_
 have GE160 := n3_
 have NB0_160 := n4_
 have NB160_0 := n5_
 have NB140_160 := n6_
 have NB160_140 := n7_
 have HI0 := n8_
 have HRn156 := n9_
 have HCn156 := n10_
 have HRn157 := n11_
 have HCn157 := n12_
 have HRn158 := n13_
 have HCn158 := n14_
 have HRn159 := n15_
 have HCn159 := n16_
 have HK := n17_
 have HB := n18_
 clear n0_ n1_ n2_ n3_ n4_ n5_ n6_ n7_ n8_ n9_ n10_ n11_ n12_ n13_ n14_ n15_ n16_ n17_ n18_
 have hHeld : w9.cell? ⟨g, 0, none⟩ = some (.slice ASz6_0 s0_0.length cSz6_0) ∧ w9.cell? ⟨g, 1, none⟩ = some (.int .i64 s0_1) ∧ w9.cell? ⟨g, 2, none⟩ = some (.int .i64 s0_2) ∧ w9.cell? ⟨gb140, 0, none⟩ = some (.int .i64 a1_0) ∧ w9.cell? ⟨gb140, 1, none⟩ = some (.int .i64 a1_1) ∧ w9.cell? ⟨gb140, 2, none⟩ = some (.int .i64 a1_2) ∧ w9.cell? ⟨gb140, 3, none⟩ = some (.string a1_3) ∧ w9.cell? ⟨gb140, 4, none⟩ = some (.bool a1_4) ∧ w9.cell? ⟨gb140, 5, none⟩ = some (.slice A1_5 l1_5.length c1_5) := hS_
 refine norm_ (a' := ?_) ?_ ?_
 rotate_left
 ·simp only [putAll, Act.put, List.setIfInBounds_toArray, List.set_cons_zero, List.set_cons_succ]
  rfl
 refine one_ (i := 11) (N := none) #[true, true, true, true, true, true, true, true, true, true, true, true, false] rfl rfl (one_of HT_.out (by kernel_rfl)) (by decide) (fun K hK => ?_)
 have hs10 : w9.cell? ⟨gb160, 0, none⟩ = some (.string (⟨#[]⟩ : ByteArray)) := (blk_cell BK160.out 0).trans rfl
 have hfs10 := blk_frozen BK160.out 0
 have hns10_0 := NB140_160.out
 have hms10_0 := NB160_140.out
 have hs11 : w9.cell? ⟨gb160, 1, none⟩ = some (.int .i64 0) := (blk_cell BK160.out 1).trans rfl
 have hfs11 := blk_frozen BK160.out 1
 have hns11_0 := NB140_160.out
 have hms11_0 := NB160_140.out
 have hs12 : w9.cell? ⟨gb160, 2, none⟩ = some (.slice none 0 0) := (blk_cell BK160.out 2).trans rfl
 have hfs12 := blk_frozen BK160.out 2
 have hns12_0 := NB140_160.out
 have hms12_0 := NB160_140.out
 have hs13 : w9.cell? ⟨gb160, 3, none⟩ = some (.slice none 0 0) := (blk_cell BK160.out 3).trans rfl
 have hfs13 := blk_frozen BK160.out 3
 have hns13_0 := NB140_160.out
 have hms13_0 := NB160_140.out
 have hs14 : w9.cell? ⟨gb160, 4, none⟩ = some (.slice none 0 0) := (blk_cell BK160.out 4).trans rfl
 have hfs14 := blk_frozen BK160.out 4
 have hns14_0 := NB140_160.out
 have hms14_0 := NB160_140.out
 have hs15 : w9.cell? ⟨gb160, 5, none⟩ = some (.slice none 0 0) := (blk_cell BK160.out 5).trans rfl
 have hfs15 := blk_frozen BK160.out 5
 have hns15_0 := NB140_160.out
 have hms15_0 := NB160_140.out
 refine skip_ (w1 := ?_) (by rfl) rfl ?_ ?_
 rotate_left
 ·go_simp
  rfl
 refine hK.out _ _ ⟨((cell_far (p := ⟨gb160, _, none⟩) (by first | exact NB0_160.out | (rw [add_block]; exact NB0_160.out) | (show (Addr.add _ _).block ≠ _; rw [add_block]; exact NB0_160.out) | (dsimp only; exact NB0_160.out)) _).trans (((cell_far (p := ⟨gb160, _, none⟩) (by first | exact NB0_160.out | (rw [add_block]; exact NB0_160.out) | (show (Addr.add _ _).block ≠ _; rw [add_block]; exact NB0_160.out) | (dsimp only; exact NB0_160.out)) _).trans (((cell_far (p := ⟨gb160, _, none⟩) (by first | exact NB0_160.out | (rw [add_block]; exact NB0_160.out) | (show (Addr.add _ _).block ≠ _; rw [add_block]; exact NB0_160.out) | (dsimp only; exact NB0_160.out)) _).trans (((cell_far (p := ⟨gb160, _, none⟩) (by first | exact NB0_160.out | (rw [add_block]; exact NB0_160.out) | (show (Addr.add _ _).block ≠ _; rw [add_block]; exact NB0_160.out) | (dsimp only; exact NB0_160.out)) _).trans (((cell_far (p := ⟨gb160, _, none⟩) (by first | exact NB0_160.out | (rw [add_block]; exact NB0_160.out) | (show (Addr.add _ _).block ≠ _; rw [add_block]; exact NB0_160.out) | (dsimp only; exact NB0_160.out)) _).trans (((cell_far (p := ⟨gb160, _, none⟩) (by first | exact NB0_160.out | (rw [add_block]; exact NB0_160.out) | (show (Addr.add _ _).block ≠ _; rw [add_block]; exact NB0_160.out) | (dsimp only; exact NB0_160.out)) _).trans (hHeld.1)))))))))))), ((cell_far (p := ⟨gb160, _, none⟩) (by first | exact NB0_160.out | (rw [add_block]; exact NB0_160.out) | (show (Addr.add _ _).block ≠ _; rw [add_block]; exact NB0_160.out) | (dsimp only; exact NB0_160.out)) _).trans (((cell_far (p := ⟨gb160, _, none⟩) (by first | exact NB0_160.out | (rw [add_block]; exact NB0_160.out) | (show (Addr.add _ _).block ≠ _; rw [add_block]; exact NB0_160.out) | (dsimp only; exact NB0_160.out)) _).trans (((cell_far (p := ⟨gb160, _, none⟩) (by first | exact NB0_160.out | (rw [add_block]; exact NB0_160.out) | (show (Addr.add _ _).block ≠ _; rw [add_block]; exact NB0_160.out) | (dsimp only; exact NB0_160.out)) _).trans (((cell_far (p := ⟨gb160, _, none⟩) (by first | exact NB0_160.out | (rw [add_block]; exact NB0_160.out) | (show (Addr.add _ _).block ≠ _; rw [add_block]; exact NB0_160.out) | (dsimp only; exact NB0_160.out)) _).trans (((cell_far (p := ⟨gb160, _, none⟩) (by first | exact NB0_160.out | (rw [add_block]; exact NB0_160.out) | (show (Addr.add _ _).block ≠ _; rw [add_block]; exact NB0_160.out) | (dsimp only; exact NB0_160.out)) _).trans (((cell_far (p := ⟨gb160, _, none⟩) (by first | exact NB0_160.out | (rw [add_block]; exact NB0_160.out) | (show (Addr.add _ _).block ≠ _; rw [add_block]; exact NB0_160.out) | (dsimp only; exact NB0_160.out)) _).trans (hHeld.2.1)))))))))))), ((cell_far (p := ⟨gb160, _, none⟩) (by first | exact NB0_160.out | (rw [add_block]; exact NB0_160.out) | (show (Addr.add _ _).block ≠ _; rw [add_block]; exact NB0_160.out) | (dsimp only; exact NB0_160.out)) _).trans (((cell_far (p := ⟨gb160, _, none⟩) (by first | exact NB0_160.out | (rw [add_block]; exact NB0_160.out) | (show (Addr.add _ _).block ≠ _; rw [add_block]; exact NB0_160.out) | (dsimp only; exact NB0_160.out)) _).trans (((cell_far (p := ⟨gb160, _, none⟩) (by first | exact NB0_160.out | (rw [add_block]; exact NB0_160.out) | (show (Addr.add _ _).block ≠ _; rw [add_block]; exact NB0_160.out) | (dsimp only; exact NB0_160.out)) _).trans (((cell_far (p := ⟨gb160, _, none⟩) (by first | exact NB0_160.out | (rw [add_block]; exact NB0_160.out) | (show (Addr.add _ _).block ≠ _; rw [add_block]; exact NB0_160.out) | (dsimp only; exact NB0_160.out)) _).trans (((cell_far (p := ⟨gb160, _, none⟩) (by first | exact NB0_160.out | (rw [add_block]; exact NB0_160.out) | (show (Addr.add _ _).block ≠ _; rw [add_block]; exact NB0_160.out) | (dsimp only; exact NB0_160.out)) _).trans (((cell_far (p := ⟨gb160, _, none⟩) (by first | exact NB0_160.out | (rw [add_block]; exact NB0_160.out) | (show (Addr.add _ _).block ≠ _; rw [add_block]; exact NB0_160.out) | (dsimp only; exact NB0_160.out)) _).trans (hHeld.2.2.1)))))))))))), ((cell_far (p := ⟨gb160, _, none⟩) NB140_160.out _).trans (((cell_far (p := ⟨gb160, _, none⟩) NB140_160.out _).trans (((cell_far (p := ⟨gb160, _, none⟩) NB140_160.out _).trans (((cell_far (p := ⟨gb160, _, none⟩) NB140_160.out _).trans (((cell_far (p := ⟨gb160, _, none⟩) NB140_160.out _).trans (((cell_far (p := ⟨gb160, _, none⟩) NB140_160.out _).trans (hHeld.2.2.2.1)))))))))))), ((cell_far (p := ⟨gb160, _, none⟩) NB140_160.out _).trans (((cell_far (p := ⟨gb160, _, none⟩) NB140_160.out _).trans (((cell_far (p := ⟨gb160, _, none⟩) NB140_160.out _).trans (((cell_far (p := ⟨gb160, _, none⟩) NB140_160.out _).trans (((cell_far (p := ⟨gb160, _, none⟩) NB140_160.out _).trans (((cell_far (p := ⟨gb160, _, none⟩) NB140_160.out _).trans (hHeld.2.2.2.2.1)))))))))))), ((cell_far (p := ⟨gb160, _, none⟩) NB140_160.out _).trans (((cell_far (p := ⟨gb160, _, none⟩) NB140_160.out _).trans (((cell_far (p := ⟨gb160, _, none⟩) NB140_160.out _).trans (((cell_far (p := ⟨gb160, _, none⟩) NB140_160.out _).trans (((cell_far (p := ⟨gb160, _, none⟩) NB140_160.out _).trans (((cell_far (p := ⟨gb160, _, none⟩) NB140_160.out _).trans (hHeld.2.2.2.2.2.1)))))))))))), ((cell_far (p := ⟨gb160, _, none⟩) NB140_160.out _).trans (((cell_far (p := ⟨gb160, _, none⟩) NB140_160.out _).trans (((cell_far (p := ⟨gb160, _, none⟩) NB140_160.out _).trans (((cell_far (p := ⟨gb160, _, none⟩) NB140_160.out _).trans (((cell_far (p := ⟨gb160, _, none⟩) NB140_160.out _).trans (((cell_far (p := ⟨gb160, _, none⟩) NB140_160.out _).trans (hHeld.2.2.2.2.2.2.1)))))))))))), ((cell_far (p := ⟨gb160, _, none⟩) NB140_160.out _).trans (((cell_far (p := ⟨gb160, _, none⟩) NB140_160.out _).trans (((cell_far (p := ⟨gb160, _, none⟩) NB140_160.out _).trans (((cell_far (p := ⟨gb160, _, none⟩) NB140_160.out _).trans (((cell_far (p := ⟨gb160, _, none⟩) NB140_160.out _).trans (((cell_far (p := ⟨gb160, _, none⟩) NB140_160.out _).trans (hHeld.2.2.2.2.2.2.2.1)))))))))))), ((cell_far (p := ⟨gb160, _, none⟩) NB140_160.out _).trans (((cell_far (p := ⟨gb160, _, none⟩) NB140_160.out _).trans (((cell_far (p := ⟨gb160, _, none⟩) NB140_160.out _).trans (((cell_far (p := ⟨gb160, _, none⟩) NB140_160.out _).trans (((cell_far (p := ⟨gb160, _, none⟩) NB140_160.out _).trans (((cell_far (p := ⟨gb160, _, none⟩) NB140_160.out _).trans (hHeld.2.2.2.2.2.2.2.2))))))))))))⟩ (fun hHeld => ?_)
 clear hK K
 refine pure_ (i := 12) (N := some 5) (v := ?_) (a' := ?_) #[true, true, true, true, true, true, true, true, true, true, true, true, true] rfl rfl (any_of HT_.out (by kernel_rfl)) (fun _ _ _ h => h) (Or.inl ⟨by rfl, ?_⟩) ?_ ?_
 rotate_left
 ·intro w'
  go_simp
  with_reducible rfl
 rotate_left
 ·simp only [Act.put, List.setIfInBounds_toArray, List.set_cons_zero, List.set_cons_succ, i64_w, i32_w]
  rfl
 refine done_ (done_of HT_.out (by kernel_rfl)) ?_
 have hnb16 := NB160_140.out
 have hnc16 := NB140_160.out
 have hnb17 := NB160_0.out
 have hnc17 := NB0_160.out
 have hcz18_0 : w9.cell? ⟨gb160, 0, none⟩ = some (.string (⟨#[]⟩ : ByteArray)) := (blk_cell BK160.out 0).trans rfl
 have hcz18_1 : w9.cell? ⟨gb160, 1, none⟩ = some (.int .i64 0) := (blk_cell BK160.out 1).trans rfl
 have hcz18_2 : w9.cell? ⟨gb160, 2, none⟩ = some (.slice none 0 0) := (blk_cell BK160.out 2).trans rfl
 have hcz18_3 : w9.cell? ⟨gb160, 3, none⟩ = some (.slice none 0 0) := (blk_cell BK160.out 3).trans rfl
 have hcz18_4 : w9.cell? ⟨gb160, 4, none⟩ = some (.slice none 0 0) := (blk_cell BK160.out 4).trans rfl
 have hcz18_5 : w9.cell? ⟨gb160, 5, none⟩ = some (.slice none 0 0) := (blk_cell BK160.out 5).trans rfl
 have hfz18_0 := blk_frozen BK160.out 0
 have hfz18_1 := blk_frozen BK160.out 1
 have hfz18_2 := blk_frozen BK160.out 2
 have hfz18_3 := blk_frozen BK160.out 3
 have hfz18_4 := blk_frozen BK160.out 4
 have hfz18_5 := blk_frozen BK160.out 5
 try go_wp2
 go_loopg [21] k (fun kq v21 w' => ∃ (x21_1 : Int) (x1001_1 : Int) (x1002_1 : Int), v21 = .int .i64 x21_1 ∧ Aside0 (inits_checker_call.l0 kq t143 (t143.length : Int) x21_1 s0_0 x1001_1 x1002_1 a1_0 a1_1 a1_2 a1_3 a1_4 l1_5 = some (r1, r2)) ∧ Aside0 (kq ≤ k) ∧ Aside0 (w'.heap[gb140]? = some (.cells #[.int .i64 a1_0, .int .i64 a1_1, .int .i64 a1_2, .string a1_3, .bool a1_4, (.slice A1_5 l1_5.length c1_5)] 43 (0, 0))) ∧ Aside0 (w'.heap[gb160]? = some (.cells #[.string t141, .int .i64 t142, (.slice An156 t143.length cn156), (.slice An157 t146.length cn157), (.slice An158 t149.length cn158), (.slice An159 t152.length cn159)] 34 (0, 0))) ∧ Aside0 (IsS114 w0 w' g s0_0 x1001_1 x1002_1) ∧ Aside0 (KeepBut w w' g none) ∧ Aside0 (Below w0.heap.size w0 w'))
 case atStart => exact ⟨(0), (s0_1), (s0_2), (by first | rfl | (simp; done) | (simp [*]; done)), H', ⟨Nat.le_refl _⟩, ⟨by (with_reducible repeat (first | refine blk_drewN ?_ _ | refine blk_drew ?_ | refine blk_alloc ?_ _)); refine blk_far ?_ NB140_160.out _; (with_reducible repeat (first | refine blk_drewN ?_ _ | refine blk_drew ?_ | refine blk_alloc ?_ _)); refine blk_far ?_ NB140_160.out _; (with_reducible repeat (first | refine blk_drewN ?_ _ | refine blk_drew ?_ | refine blk_alloc ?_ _)); refine blk_far ?_ NB140_160.out _; (with_reducible repeat (first | refine blk_drewN ?_ _ | refine blk_drew ?_ | refine blk_alloc ?_ _)); refine blk_far ?_ NB140_160.out _; (with_reducible repeat (first | refine blk_drewN ?_ _ | refine blk_drew ?_ | refine blk_alloc ?_ _)); refine blk_far ?_ NB140_160.out _; (with_reducible repeat (first | refine blk_drewN ?_ _ | refine blk_drew ?_ | refine blk_alloc ?_ _)); refine blk_far ?_ NB140_160.out _; (with_reducible repeat (first | refine blk_drewN ?_ _ | refine blk_drew ?_ | refine blk_alloc ?_ _)); exact BK140.out⟩, ⟨by (with_reducible repeat (first | refine blk_drewN ?_ _ | refine blk_drew ?_ | refine blk_alloc ?_ _)); refine blk_put (cs := #[.string t141, .int .i64 t142, .slice An156 t143.length cn156, .slice An157 t146.length cn157, .slice An158 t149.length cn158, .slice none 0 0]) ?_ 5 _ rfl; (with_reducible repeat (first | refine blk_drewN ?_ _ | refine blk_drew ?_ | refine blk_alloc ?_ _)); refine blk_put (cs := #[.string t141, .int .i64 t142, .slice An156 t143.length cn156, .slice An157 t146.length cn157, .slice none 0 0, .slice none 0 0]) ?_ 4 _ rfl; (with_reducible repeat (first | refine blk_drewN ?_ _ | refine blk_drew ?_ | refine blk_alloc ?_ _)); refine blk_put (cs := #[.string t141, .int .i64 t142, .slice An156 t143.length cn156, .slice none 0 0, .slice none 0 0, .slice none 0 0]) ?_ 3 _ rfl; (with_reducible repeat (first | refine blk_drewN ?_ _ | refine blk_drew ?_ | refine blk_alloc ?_ _)); refine blk_put (cs := #[.string t141, .int .i64 t142, .slice none 0 0, .slice none 0 0, .slice none 0 0, .slice none 0 0]) ?_ 2 _ rfl; (with_reducible repeat (first | refine blk_drewN ?_ _ | refine blk_drew ?_ | refine blk_alloc ?_ _)); refine blk_put (cs := #[.string t141, .int .i64 0, .slice none 0 0, .slice none 0 0, .slice none 0 0, .slice none 0 0]) ?_ 1 _ rfl; (with_reducible repeat (first | refine blk_drewN ?_ _ | refine blk_drew ?_ | refine blk_alloc ?_ _)); refine blk_put (cs := #[.string (⟨#[]⟩ : ByteArray), .int .i64 0, .slice none 0 0, .slice none 0 0, .slice none 0 0, .slice none 0 0]) ?_ 0 _ rfl; (with_reducible repeat (first | refine blk_drewN ?_ _ | refine blk_drew ?_ | refine blk_alloc ?_ _)); exact BK160.out⟩, ⟨by repeat (first | (with_reducible first | exact HI0.out | apply IsS114.alloc | apply IsS114.drewN | apply IsS114.drew | apply IsS114.set_1 | apply IsS114.set_2 | refine IsS114.far ?_ NB0_140.out _ | refine IsS114.far ?_ NB0_160.out _) | exact HI0.out)⟩, ⟨by repeat (first | (with_reducible first | exact HK.out | apply KeepBut.set_ | apply keep_drewN | apply keep_drew | apply keep_alloc | refine keep_far ?_ GW140.out _ | refine keep_far ?_ GW160.out _) | exact HK.out)⟩, ⟨by repeat (first | (with_reducible first | exact HB.out | apply below_alloc | apply pw_below_drewN | apply below_drew1 | refine below_set ?_ (IsS114.ge HI0.out) | refine below_set ?_ GE140.out | refine below_set ?_ GE160.out) | exact HB.out)⟩⟩
 case round =>
  clear H'
  try clear c1
  try clear p2
  try clear c5
  try clear c8
  try clear c16
  try clear c17
  try clear hcz18_0
  try clear hcz18_1
  try clear hcz18_2
  try clear hcz18_3
  try clear hcz18_4
  try clear hcz18_5
  try clear hcz6_0
  try clear hcz6_1
  try clear hcz6_2
  try clear hfz18_0
  try clear hfz18_1
  try clear hfz18_2
  try clear hfz18_3
  try clear hfz18_4
  try clear hfz18_5
  try clear hfz6_1
  try clear hfz6_2
  obtain ⟨x21_1, x1001_1, x1002_1, rfl, HA, HK1, BK140, BK160, HI0, HK, HB⟩ := hrel
  cases gk with
  | zero => exact absurd HA.out (by simp [inits_checker_call.l0])
  | succ k1 =>
   have H := HA.out
   clear HA
   simp only [inits_checker_call.l0] at H
   by_cases c19 : x21_1 < (t143.length : Int)
   ·rw [if_pos c19] at H
    have c19b0 : decide (x21_1 < (t143.length : Int)) = true := decide_eq_true c19
    clear c19
    by_cases c20 : 0 ≤ x21_1
    ·rw [if_pos c20] at H
     have c20b0 : decide (0 ≤ x21_1) = true := decide_eq_true c20
     clear c20
     by_cases c21 : x21_1 < (t143.length : Int)
     ·rw [if_pos c21] at H
      have c21b0 : decide (x21_1 < (t143.length : Int)) = true := decide_eq_true c21
      clear c21
      obtain ⟨bq22, hbq22⟩ : ∃ b_ : Bool, b_ = ((rd_T39 t143 x21_1).f2.f1) := ⟨_, rfl⟩
      replace H : (if (bq22 = true) then (inits_checker_call.l0 k1 t143 (t143.length : Int) (wrap64 (x21_1 + 1)) s0_0 x1001_1 x1002_1 a1_0 a1_1 a1_2 a1_3 a1_4 l1_5) else (if x21_1 < (l1_5.length : Int) then ((inits_checker_now.f k1 s0_0 x1001_1 x1002_1 ((rd_T43 l1_5 x21_1).f0) ((rd_T43 l1_5 x21_1).f1) ((rd_T43 l1_5 x21_1).f2) ((rd_T43 l1_5 x21_1).f3) ((rd_T43 l1_5 x21_1).f4) ((rd_T43 l1_5 x21_1).f5) ((rd_T43 l1_5 x21_1).f1)).bind fun bt165 => (inits_checker_call.l0 k1 t143 (t143.length : Int) (wrap64 (x21_1 + 1)) s0_0 bt165.1 bt165.2 a1_0 a1_1 a1_2 a1_3 a1_4 l1_5)) else (none))) = some (r1, r2) := by rw [← hbq22] at H; exact H
      have Nbq22 := Aside0.mk hbq22
      clear hbq22
      by_cases c23 : (bq22 = true)
      ·subst c23
       have H1 : (inits_checker_call.l0 k1 t143 (t143.length : Int) (wrap64 (x21_1 + 1)) s0_0 x1001_1 x1002_1 a1_0 a1_1 a1_2 a1_3 a1_4 l1_5) = some (r1, r2) := by rw [if_pos rfl] at H; exact H
       clear H
       have H := H1
       clear H1
       have H' := Aside0.mk H
       clear H
       have p161 : 0 ≤ (x21_1 : Int) := of_decide_eq_true (by first | (with_reducible assumption) | assumption)
       have q161 : x21_1 < (t143.length : Int) := of_decide_eq_true (by first | (with_reducible assumption) | assumption)
       obtain ⟨ad161, e161, hx161_0, hx161_1, hx161_2, hx161_3, hx161_4, hx161_5⟩ := at_T39 HRn156.out x21_1 p161 q161
       (try rw [← Nbq22.out] at hx161_2)
       (try rw [← Nbq22.out] at hx161_3)
       (try rw [← Nbq22.out] at hx161_5)
       cases e161
       replace hx161_0 := pw_cell_below HB.out hx161_0
       replace hx161_1 := pw_cell_below HB.out hx161_1
       replace hx161_2 := pw_cell_below HB.out hx161_2
       replace hx161_3 := pw_cell_below HB.out hx161_3
       replace hx161_4 := pw_cell_below HB.out hx161_4
       replace hx161_5 := pw_cell_below HB.out hx161_5
       replace p161 := eq_true p161
       replace q161 := eq_true q161
       go_wp2_with (first | ((with_reducible refine gate_dst (N := 7) rfl ?_); refine box_event ?hg (N := 7) ?hd (cs := #[.string (⟨#[]⟩ : ByteArray), .int .i64 0, .bool false, .bool false, .string (⟨#[]⟩ : ByteArray), .bool false]) (t := 39) ?hr ?_; (case hd => rfl); (case hg => rfl); (case hr => first | (go_simp; done) | (go_simp; rfl)); intro gb162 hg w24 hbox hb; have n0_ := Aside0.mk (blk_below (g := gb140) (o := .cells #[.int .i64 a1_0, .int .i64 a1_1, .int .i64 a1_2, .string a1_3, .bool a1_4, .slice A1_5 l1_5.length c1_5] 43 (0, 0)) (by (with_reducible repeat (first | refine blk_drewN ?_ _ | refine blk_drew ?_ | refine blk_alloc ?_ _)); exact BK140.out) hb); have n1_ := Aside0.mk (blk_below (g := gb160) (o := .cells #[.string t141, .int .i64 t142, .slice (some ad161) t143.length cn156, .slice An157 t146.length cn157, .slice An158 t149.length cn158, .slice An159 t152.length cn159] 34 (0, 0)) (by (with_reducible repeat (first | refine blk_drewN ?_ _ | refine blk_drew ?_ | refine blk_alloc ?_ _)); exact BK160.out) hb); have n2_ := Aside0.mk (IsS114.below (by repeat (first | (with_reducible first | exact HI0.out | apply IsS114.alloc | apply IsS114.drewN | apply IsS114.drew | apply IsS114.set_1 | apply IsS114.set_2 | refine IsS114.far ?_ NB0_140.out _ | refine IsS114.far ?_ NB0_160.out _) | exact HI0.out)) hb); have n3_ := Aside0.mk (KeepBut.trans (by repeat (first | (with_reducible first | exact HK.out | apply KeepBut.set_ | apply keep_drewN | apply keep_drew | apply keep_alloc | refine keep_far ?_ GW140.out _ | refine keep_far ?_ GW160.out _) | exact HK.out)) (KeepBut.of_below hb g none) (.inl rfl)); have n4_ := Aside0.mk (below_step (by repeat (first | (with_reducible first | exact HB.out | apply below_alloc | apply pw_below_drewN | apply below_drew1 | refine below_set ?_ (IsS114.ge HI0.out) | refine below_set ?_ GE140.out | refine below_set ?_ GE160.out) | exact HB.out)) hb); have n5_ := Aside0.mk (hbox); have n6_ := Aside0.mk ((by rw [hg]; exact (keep_size (w := w) (g := g) (row := none) (by repeat (first | (with_reducible first | exact HK.out | apply KeepBut.set_ | apply keep_drewN | apply keep_drew | apply keep_alloc | refine keep_far ?_ GW140.out _ | refine keep_far ?_ GW160.out _) | exact HK.out))) : w.heap.size ≤ gb162)); have n7_ := Aside0.mk ((Nat.le_trans HW0.out (by rw [hg]; exact (keep_size (w := w) (g := g) (row := none) (by repeat (first | (with_reducible first | exact HK.out | apply KeepBut.set_ | apply keep_drewN | apply keep_drew | apply keep_alloc | refine keep_far ?_ GW140.out _ | refine keep_far ?_ GW160.out _) | exact HK.out))) : w.heap.size ≤ gb162) : w0.heap.size ≤ gb162)); have n8_ := Aside0.mk ((by rw [hg]; exact Nat.ne_of_lt (blk_lt (g := gb140) (o := .cells #[.int .i64 a1_0, .int .i64 a1_1, .int .i64 a1_2, .string a1_3, .bool a1_4, .slice A1_5 l1_5.length c1_5] 43 (0, 0)) (by (with_reducible repeat (first | refine blk_drewN ?_ _ | refine blk_drew ?_ | refine blk_alloc ?_ _)); exact BK140.out)) : gb140 ≠ gb162)); have n9_ := Aside0.mk ((by rw [hg]; exact Nat.ne_of_gt (blk_lt (g := gb140) (o := .cells #[.int .i64 a1_0, .int .i64 a1_1, .int .i64 a1_2, .string a1_3, .bool a1_4, .slice A1_5 l1_5.length c1_5] 43 (0, 0)) (by (with_reducible repeat (first | refine blk_drewN ?_ _ | refine blk_drew ?_ | refine blk_alloc ?_ _)); exact BK140.out)) : gb162 ≠ gb140)); have n10_ := Aside0.mk ((by rw [hg]; exact Nat.ne_of_lt (blk_lt (g := gb160) (o := .cells #[.string t141, .int .i64 t142, .slice (some ad161) t143.length cn156, .slice An157 t146.length cn157, .slice An158 t149.length cn158, .slice An159 t152.length cn159] 34 (0, 0)) (by (with_reducible repeat (first | refine blk_drewN ?_ _ | refine blk_drew ?_ | refine blk_alloc ?_ _)); exact BK160.out)) : gb160 ≠ gb162)); have n11_ := Aside0.mk ((by rw [hg]; exact Nat.ne_of_gt (blk_lt (g := gb160) (o := .cells #[.string t141, .int .i64 t142, .slice (some ad161) t143.length cn156, .slice An157 t146.length cn157, .slice An158 t149.length cn158, .slice An159 t152.length cn159] 34 (0, 0)) (by (with_reducible repeat (first | refine blk_drewN ?_ _ | refine blk_drew ?_ | refine blk_alloc ?_ _)); exact BK160.out)) : gb162 ≠ gb160)); have n12_ := Aside0.mk ((by rw [hg]; exact Nat.ne_of_lt (IsS114.lt (show IsS114 w0 _ g s0_0 x1001_1 x1002_1 from by repeat (first | (with_reducible first | exact HI0.out | apply IsS114.alloc | apply IsS114.drewN | apply IsS114.drew | apply IsS114.set_1 | apply IsS114.set_2 | refine IsS114.far ?_ NB0_140.out _ | refine IsS114.far ?_ NB0_160.out _) | exact HI0.out))) : g ≠ gb162)); have n13_ := Aside0.mk ((by rw [hg]; exact Nat.ne_of_gt (IsS114.lt (show IsS114 w0 _ g s0_0 x1001_1 x1002_1 from by repeat (first | (with_reducible first | exact HI0.out | apply IsS114.alloc | apply IsS114.drewN | apply IsS114.drew | apply IsS114.set_1 | apply IsS114.set_2 | refine IsS114.far ?_ NB0_140.out _ | refine IsS114.far ?_ NB0_160.out _) | exact HI0.out))) : gb162 ≠ g)); clear BK140; clear BK160; clear HI0; clear HK; clear HB; have BK140 := n0_; have BK160 := n1_; have HI0 := n2_; have HK := n3_; have HB := n4_; have BK162 := n5_; have GW162 := n6_; have GE162 := n7_; have NB140_162 := n8_; have NB162_140 := n9_; have NB160_162 := n10_; have NB162_160 := n11_; have NB0_162 := n12_; have NB162_0 := n13_; clear n0_ n1_ n2_ n3_ n4_ n5_ n6_ n7_ n8_ n9_ n10_ n11_ n12_ n13_; clear hb hbox hg; have hnb25 := NB162_140.out; have hnc25 := NB140_162.out; have hnb26 := NB162_160.out; have hnc26 := NB160_162.out; have hnb27 := NB162_0.out; have hnc27 := NB0_162.out; have hcz28_0 : w24.cell? ⟨gb162, 0, none⟩ = some (.string (⟨#[]⟩ : ByteArray)) := (blk_cell BK162.out 0).trans rfl; have hcz28_1 : w24.cell? ⟨gb162, 1, none⟩ = some (.int .i64 0) := (blk_cell BK162.out 1).trans rfl; have hcz28_2 : w24.cell? ⟨gb162, 2, none⟩ = some (.bool false) := (blk_cell BK162.out 2).trans rfl; have hcz28_3 : w24.cell? ⟨gb162, 3, none⟩ = some (.bool false) := (blk_cell BK162.out 3).trans rfl; have hcz28_4 : w24.cell? ⟨gb162, 4, none⟩ = some (.string (⟨#[]⟩ : ByteArray)) := (blk_cell BK162.out 4).trans rfl; have hcz28_5 : w24.cell? ⟨gb162, 5, none⟩ = some (.bool false) := (blk_cell BK162.out 5).trans rfl; have hfz28_0 := blk_frozen BK162.out 0; have hfz28_1 := blk_frozen BK162.out 1; have hfz28_2 := blk_frozen BK162.out 2; have hfz28_3 := blk_frozen BK162.out 3; have hfz28_4 := blk_frozen BK162.out 4; have hfz28_5 := blk_frozen BK162.out 5))
       go_roundg k1
       case measure => have := HK1.out; omega
       case rel => exact ⟨(wrap64 (x21_1 + 1)), (x1001_1), (x1002_1), (by first | rfl | (simp; done) | (simp [*]; done)), H', ⟨by have := HK1.out; omega⟩, ⟨by (with_reducible repeat (first | refine blk_drewN ?_ _ | refine blk_drew ?_ | refine blk_alloc ?_ _)); refine blk_far ?_ NB140_162.out _; (with_reducible repeat (first | refine blk_drewN ?_ _ | refine blk_drew ?_ | refine blk_alloc ?_ _)); refine blk_far ?_ NB140_162.out _; (with_reducible repeat (first | refine blk_drewN ?_ _ | refine blk_drew ?_ | refine blk_alloc ?_ _)); refine blk_far ?_ NB140_162.out _; (with_reducible repeat (first | refine blk_drewN ?_ _ | refine blk_drew ?_ | refine blk_alloc ?_ _)); refine blk_far ?_ NB140_162.out _; (with_reducible repeat (first | refine blk_drewN ?_ _ | refine blk_drew ?_ | refine blk_alloc ?_ _)); refine blk_far ?_ NB140_162.out _; (with_reducible repeat (first | refine blk_drewN ?_ _ | refine blk_drew ?_ | refine blk_alloc ?_ _)); refine blk_far ?_ NB140_162.out _; (with_reducible repeat (first | refine blk_drewN ?_ _ | refine blk_drew ?_ | refine blk_alloc ?_ _)); exact BK140.out⟩, ⟨by (with_reducible repeat (first | refine blk_drewN ?_ _ | refine blk_drew ?_ | refine blk_alloc ?_ _)); refine blk_far ?_ NB160_162.out _; (with_reducible repeat (first | refine blk_drewN ?_ _ | refine blk_drew ?_ | refine blk_alloc ?_ _)); refine blk_far ?_ NB160_162.out _; (with_reducible repeat (first | refine blk_drewN ?_ _ | refine blk_drew ?_ | refine blk_alloc ?_ _)); refine blk_far ?_ NB160_162.out _; (with_reducible repeat (first | refine blk_drewN ?_ _ | refine blk_drew ?_ | refine blk_alloc ?_ _)); refine blk_far ?_ NB160_162.out _; (with_reducible repeat (first | refine blk_drewN ?_ _ | refine blk_drew ?_ | refine blk_alloc ?_ _)); refine blk_far ?_ NB160_162.out _; (with_reducible repeat (first | refine blk_drewN ?_ _ | refine blk_drew ?_ | refine blk_alloc ?_ _)); refine blk_far ?_ NB160_162.out _; (with_reducible repeat (first | refine blk_drewN ?_ _ | refine blk_drew ?_ | refine blk_alloc ?_ _)); exact BK160.out⟩, ⟨by repeat (first | (with_reducible first | exact HI0.out | apply IsS114.alloc | apply IsS114.drewN | apply IsS114.drew | apply IsS114.set_1 | apply IsS114.set_2 | refine IsS114.far ?_ NB0_140.out _ | refine IsS114.far ?_ NB0_160.out _ | refine IsS114.far ?_ NB0_162.out _) | exact HI0.out)⟩, ⟨by repeat (first | (with_reducible first | exact HK.out | apply KeepBut.set_ | apply keep_drewN | apply keep_drew | apply keep_alloc | refine keep_far ?_ GW140.out _ | refine keep_far ?_ GW160.out _ | refine keep_far ?_ GW162.out _) | exact HK.out)⟩, ⟨by repeat (first | (with_reducible first | exact HB.out | apply below_alloc | apply pw_below_drewN | apply below_drew1 | refine below_set ?_ (IsS114.ge HI0.out) | refine below_set ?_ GE140.out | refine below_set ?_ GE160.out | refine below_set ?_ GE162.out) | exact HB.out)⟩⟩
      ·replace c23 := Bool.eq_false_iff.mpr c23
       subst c23
       have H1 : (if x21_1 < (l1_5.length : Int) then ((inits_checker_now.f k1 s0_0 x1001_1 x1002_1 ((rd_T43 l1_5 x21_1).f0) ((rd_T43 l1_5 x21_1).f1) ((rd_T43 l1_5 x21_1).f2) ((rd_T43 l1_5 x21_1).f3) ((rd_T43 l1_5 x21_1).f4) ((rd_T43 l1_5 x21_1).f5) ((rd_T43 l1_5 x21_1).f1)).bind fun bt165 => (inits_checker_call.l0 k1 t143 (t143.length : Int) (wrap64 (x21_1 + 1)) s0_0 bt165.1 bt165.2 a1_0 a1_1 a1_2 a1_3 a1_4 l1_5)) else (none)) = some (r1, r2) := by rw [if_neg (show ¬ (false = true) by decide)] at H; exact H
       clear H
       have H := H1
       clear H1
       by_cases c29 : x21_1 < (l1_5.length : Int)
       ·rw [if_pos c29] at H
        have c29b0 : decide (x21_1 < (l1_5.length : Int)) = true := decide_eq_true c29
        clear c29
        replace H := Option.bind_eq_some_iff.mp H
        obtain ⟨⟨t165, t166⟩, A300, H⟩ := H
        replace H : (inits_checker_call.l0 k1 t143 (t143.length : Int) (wrap64 (x21_1 + 1)) s0_0 t165 t166 a1_0 a1_1 a1_2 a1_3 a1_4 l1_5) = some (r1, r2) := H
        have A30 := Aside0.mk A300
        clear A300
        have H' := Aside0.mk H
        clear H
        have p161 : 0 ≤ (x21_1 : Int) := of_decide_eq_true (by first | (with_reducible assumption) | assumption)
        have q161 : x21_1 < (t143.length : Int) := of_decide_eq_true (by first | (with_reducible assumption) | assumption)
        obtain ⟨ad161, e161, hx161_0, hx161_1, hx161_2, hx161_3, hx161_4, hx161_5⟩ := at_T39 HRn156.out x21_1 p161 q161
        (try rw [← Nbq22.out] at hx161_2)
        (try rw [← Nbq22.out] at hx161_3)
        (try rw [← Nbq22.out] at hx161_5)
        cases e161
        replace hx161_0 := pw_cell_below HB.out hx161_0
        replace hx161_1 := pw_cell_below HB.out hx161_1
        replace hx161_2 := pw_cell_below HB.out hx161_2
        replace hx161_3 := pw_cell_below HB.out hx161_3
        replace hx161_4 := pw_cell_below HB.out hx161_4
        replace hx161_5 := pw_cell_below HB.out hx161_5
        replace p161 := eq_true p161
        replace q161 := eq_true q161
        try go_wp2_with (first | ((with_reducible refine gate_dst (N := 7) rfl ?_); refine box_event ?hg (N := 7) ?hd (cs := #[.string (⟨#[]⟩ : ByteArray), .int .i64 0, .bool false, .bool false, .string (⟨#[]⟩ : ByteArray), .bool false]) (t := 39) ?hr ?_; (case hd => rfl); (case hg => rfl); (case hr => first | (go_simp; done) | (go_simp; rfl)); intro gb162 hg w31 hbox hb; have n0_ := Aside0.mk (blk_below (g := gb140) (o := .cells #[.int .i64 a1_0, .int .i64 a1_1, .int .i64 a1_2, .string a1_3, .bool a1_4, .slice A1_5 l1_5.length c1_5] 43 (0, 0)) (by (with_reducible repeat (first | refine blk_drewN ?_ _ | refine blk_drew ?_ | refine blk_alloc ?_ _)); exact BK140.out) hb); have n1_ := Aside0.mk (blk_below (g := gb160) (o := .cells #[.string t141, .int .i64 t142, .slice (some ad161) t143.length cn156, .slice An157 t146.length cn157, .slice An158 t149.length cn158, .slice An159 t152.length cn159] 34 (0, 0)) (by (with_reducible repeat (first | refine blk_drewN ?_ _ | refine blk_drew ?_ | refine blk_alloc ?_ _)); exact BK160.out) hb); have n2_ := Aside0.mk (IsS114.below (by repeat (first | (with_reducible first | exact HI0.out | apply IsS114.alloc | apply IsS114.drewN | apply IsS114.drew | apply IsS114.set_1 | apply IsS114.set_2 | refine IsS114.far ?_ NB0_140.out _ | refine IsS114.far ?_ NB0_160.out _) | exact HI0.out)) hb); have n3_ := Aside0.mk (KeepBut.trans (by repeat (first | (with_reducible first | exact HK.out | apply KeepBut.set_ | apply keep_drewN | apply keep_drew | apply keep_alloc | refine keep_far ?_ GW140.out _ | refine keep_far ?_ GW160.out _) | exact HK.out)) (KeepBut.of_below hb g none) (.inl rfl)); have n4_ := Aside0.mk (below_step (by repeat (first | (with_reducible first | exact HB.out | apply below_alloc | apply pw_below_drewN | apply below_drew1 | refine below_set ?_ (IsS114.ge HI0.out) | refine below_set ?_ GE140.out | refine below_set ?_ GE160.out) | exact HB.out)) hb); have n5_ := Aside0.mk (hbox); have n6_ := Aside0.mk ((by rw [hg]; exact (keep_size (w := w) (g := g) (row := none) (by repeat (first | (with_reducible first | exact HK.out | apply KeepBut.set_ | apply keep_drewN | apply keep_drew | apply keep_alloc | refine keep_far ?_ GW140.out _ | refine keep_far ?_ GW160.out _) | exact HK.out))) : w.heap.size ≤ gb162)); have n7_ := Aside0.mk ((Nat.le_trans HW0.out (by rw [hg]; exact (keep_size (w := w) (g := g) (row := none) (by repeat (first | (with_reducible first | exact HK.out | apply KeepBut.set_ | apply keep_drewN | apply keep_drew | apply keep_alloc | refine keep_far ?_ GW140.out _ | refine keep_far ?_ GW160.out _) | exact HK.out))) : w.heap.size ≤ gb162) : w0.heap.size ≤ gb162)); have n8_ := Aside0.mk ((by rw [hg]; exact Nat.ne_of_lt (blk_lt (g := gb140) (o := .cells #[.int .i64 a1_0, .int .i64 a1_1, .int .i64 a1_2, .string a1_3, .bool a1_4, .slice A1_5 l1_5.length c1_5] 43 (0, 0)) (by (with_reducible repeat (first | refine blk_drewN ?_ _ | refine blk_drew ?_ | refine blk_alloc ?_ _)); exact BK140.out)) : gb140 ≠ gb162)); have n9_ := Aside0.mk ((by rw [hg]; exact Nat.ne_of_gt (blk_lt (g := gb140) (o := .cells #[.int .i64 a1_0, .int .i64 a1_1, .int .i64 a1_2, .string a1_3, .bool a1_4, .slice A1_5 l1_5.length c1_5] 43 (0, 0)) (by (with_reducible repeat (first | refine blk_drewN ?_ _ | refine blk_drew ?_ | refine blk_alloc ?_ _)); exact BK140.out)) : gb162 ≠ gb140)); have n10_ := Aside0.mk ((by rw [hg]; exact Nat.ne_of_lt (blk_lt (g := gb160) (o := .cells #[.string t141, .int .i64 t142, .slice (some ad161) t143.length cn156, .slice An157 t146.length cn157, .slice An158 t149.length cn158, .slice An159 t152.length cn159] 34 (0, 0)) (by (with_reducible repeat (first | refine blk_drewN ?_ _ | refine blk_drew ?_ | refine blk_alloc ?_ _)); exact BK160.out)) : gb160 ≠ gb162)); have n11_ := Aside0.mk ((by rw [hg]; exact Nat.ne_of_gt (blk_lt (g := gb160) (o := .cells #[.string t141, .int .i64 t142, .slice (some ad161) t143.length cn156, .slice An157 t146.length cn157, .slice An158 t149.length cn158, .slice An159 t152.length cn159] 34 (0, 0)) (by (with_reducible repeat (first | refine blk_drewN ?_ _ | refine blk_drew ?_ | refine blk_alloc ?_ _)); exact BK160.out)) : gb162 ≠ gb160)); have n12_ := Aside0.mk ((by rw [hg]; exact Nat.ne_of_lt (IsS114.lt (show IsS114 w0 _ g s0_0 x1001_1 x1002_1 from by repeat (first | (with_reducible first | exact HI0.out | apply IsS114.alloc | apply IsS114.drewN | apply IsS114.drew | apply IsS114.set_1 | apply IsS114.set_2 | refine IsS114.far ?_ NB0_140.out _ | refine IsS114.far ?_ NB0_160.out _) | exact HI0.out))) : g ≠ gb162)); have n13_ := Aside0.mk ((by rw [hg]; exact Nat.ne_of_gt (IsS114.lt (show IsS114 w0 _ g s0_0 x1001_1 x1002_1 from by repeat (first | (with_reducible first | exact HI0.out | apply IsS114.alloc | apply IsS114.drewN | apply IsS114.drew | apply IsS114.set_1 | apply IsS114.set_2 | refine IsS114.far ?_ NB0_140.out _ | refine IsS114.far ?_ NB0_160.out _) | exact HI0.out))) : gb162 ≠ g)); clear BK140; clear BK160; clear HI0; clear HK; clear HB; have BK140 := n0_; have BK160 := n1_; have HI0 := n2_; have HK := n3_; have HB := n4_; have BK162 := n5_; have GW162 := n6_; have GE162 := n7_; have NB140_162 := n8_; have NB162_140 := n9_; have NB160_162 := n10_; have NB162_160 := n11_; have NB0_162 := n12_; have NB162_0 := n13_; clear n0_ n1_ n2_ n3_ n4_ n5_ n6_ n7_ n8_ n9_ n10_ n11_ n12_ n13_; clear hb hbox hg; have hnb32 := NB162_140.out; have hnc32 := NB140_162.out; have hnb33 := NB162_160.out; have hnc33 := NB160_162.out; have hnb34 := NB162_0.out; have hnc34 := NB0_162.out; have hcz35_0 : w31.cell? ⟨gb162, 0, none⟩ = some (.string (⟨#[]⟩ : ByteArray)) := (blk_cell BK162.out 0).trans rfl; have hcz35_1 : w31.cell? ⟨gb162, 1, none⟩ = some (.int .i64 0) := (blk_cell BK162.out 1).trans rfl; have hcz35_2 : w31.cell? ⟨gb162, 2, none⟩ = some (.bool false) := (blk_cell BK162.out 2).trans rfl; have hcz35_3 : w31.cell? ⟨gb162, 3, none⟩ = some (.bool false) := (blk_cell BK162.out 3).trans rfl; have hcz35_4 : w31.cell? ⟨gb162, 4, none⟩ = some (.string (⟨#[]⟩ : ByteArray)) := (blk_cell BK162.out 4).trans rfl; have hcz35_5 : w31.cell? ⟨gb162, 5, none⟩ = some (.bool false) := (blk_cell BK162.out 5).trans rfl; have hfz35_0 := blk_frozen BK162.out 0; have hfz35_1 := blk_frozen BK162.out 1; have hfz35_2 := blk_frozen BK162.out 2; have hfz35_3 := blk_frozen BK162.out 3; have hfz35_4 := blk_frozen BK162.out 4; have hfz35_5 := blk_frozen BK162.out 5))
        have n0_ : Aside0 (((((((w31.setCell ⟨gb162, 0, none⟩ (.string ((rd_T39 t143 x21_1).f0))).setCell ⟨gb162, 1, none⟩ (.int .i64 ((rd_T39 t143 x21_1).f1))).setCell ⟨gb162, 2, none⟩ (.bool ((rd_T39 t143 x21_1).f2.f0))).setCell ⟨gb162, 3, none⟩ (.bool false)).setCell ⟨gb162, 4, none⟩ (.string ((rd_T39 t143 x21_1).f3))).setCell ⟨gb162, 5, none⟩ (.bool ((rd_T39 t143 x21_1).f4))).heap[gb140]? = some (.cells #[.int .i64 a1_0, .int .i64 a1_1, .int .i64 a1_2, .string a1_3, .bool a1_4, .slice A1_5 l1_5.length c1_5] 43 (0, 0))) := ⟨by (with_reducible repeat (first | refine blk_drewN ?_ _ | refine blk_drew ?_ | refine blk_alloc ?_ _)); refine blk_far ?_ NB140_162.out _; (with_reducible repeat (first | refine blk_drewN ?_ _ | refine blk_drew ?_ | refine blk_alloc ?_ _)); refine blk_far ?_ NB140_162.out _; (with_reducible repeat (first | refine blk_drewN ?_ _ | refine blk_drew ?_ | refine blk_alloc ?_ _)); refine blk_far ?_ NB140_162.out _; (with_reducible repeat (first | refine blk_drewN ?_ _ | refine blk_drew ?_ | refine blk_alloc ?_ _)); refine blk_far ?_ NB140_162.out _; (with_reducible repeat (first | refine blk_drewN ?_ _ | refine blk_drew ?_ | refine blk_alloc ?_ _)); refine blk_far ?_ NB140_162.out _; (with_reducible repeat (first | refine blk_drewN ?_ _ | refine blk_drew ?_ | refine blk_alloc ?_ _)); refine blk_far ?_ NB140_162.out _; (with_reducible repeat (first | refine blk_drewN ?_ _ | refine blk_drew ?_ | refine blk_alloc ?_ _)); exact BK140.out⟩
        have n1_ : Aside0 (((((((w31.setCell ⟨gb162, 0, none⟩ (.string ((rd_T39 t143 x21_1).f0))).setCell ⟨gb162, 1, none⟩ (.int .i64 ((rd_T39 t143 x21_1).f1))).setCell ⟨gb162, 2, none⟩ (.bool ((rd_T39 t143 x21_1).f2.f0))).setCell ⟨gb162, 3, none⟩ (.bool false)).setCell ⟨gb162, 4, none⟩ (.string ((rd_T39 t143 x21_1).f3))).setCell ⟨gb162, 5, none⟩ (.bool ((rd_T39 t143 x21_1).f4))).heap[gb160]? = some (.cells #[.string t141, .int .i64 t142, .slice (some ad161) t143.length cn156, .slice An157 t146.length cn157, .slice An158 t149.length cn158, .slice An159 t152.length cn159] 34 (0, 0))) := ⟨by (with_reducible repeat (first | refine blk_drewN ?_ _ | refine blk_drew ?_ | refine blk_alloc ?_ _)); refine blk_far ?_ NB160_162.out _; (with_reducible repeat (first | refine blk_drewN ?_ _ | refine blk_drew ?_ | refine blk_alloc ?_ _)); refine blk_far ?_ NB160_162.out _; (with_reducible repeat (first | refine blk_drewN ?_ _ | refine blk_drew ?_ | refine blk_alloc ?_ _)); refine blk_far ?_ NB160_162.out _; (with_reducible repeat (first | refine blk_drewN ?_ _ | refine blk_drew ?_ | refine blk_alloc ?_ _)); refine blk_far ?_ NB160_162.out _; (with_reducible repeat (first | refine blk_drewN ?_ _ | refine blk_drew ?_ | refine blk_alloc ?_ _)); refine blk_far ?_ NB160_162.out _; (with_reducible repeat (first | refine blk_drewN ?_ _ | refine blk_drew ?_ | refine blk_alloc ?_ _)); refine blk_far ?_ NB160_162.out _; (with_reducible repeat (first | refine blk_drewN ?_ _ | refine blk_drew ?_ | refine blk_alloc ?_ _)); exact BK160.out⟩
        have n2_ : Aside0 (((((((w31.setCell ⟨gb162, 0, none⟩ (.string ((rd_T39 t143 x21_1).f0))).setCell ⟨gb162, 1, none⟩ (.int .i64 ((rd_T39 t143 x21_1).f1))).setCell ⟨gb162, 2, none⟩ (.bool ((rd_T39 t143 x21_1).f2.f0))).setCell ⟨gb162, 3, none⟩ (.bool false)).setCell ⟨gb162, 4, none⟩ (.string ((rd_T39 t143 x21_1).f3))).setCell ⟨gb162, 5, none⟩ (.bool ((rd_T39 t143 x21_1).f4))).heap[gb162]? = some (.cells #[.string ((rd_T39 t143 x21_1).f0), .int .i64 ((rd_T39 t143 x21_1).f1), .bool ((rd_T39 t143 x21_1).f2.f0), .bool false, .string ((rd_T39 t143 x21_1).f3), .bool ((rd_T39 t143 x21_1).f4)] 39 (0, 0))) := ⟨by (with_reducible repeat (first | refine blk_drewN ?_ _ | refine blk_drew ?_ | refine blk_alloc ?_ _)); refine blk_put (cs := #[.string ((rd_T39 t143 x21_1).f0), .int .i64 ((rd_T39 t143 x21_1).f1), .bool ((rd_T39 t143 x21_1).f2.f0), .bool false, .string ((rd_T39 t143 x21_1).f3), .bool false]) ?_ 5 _ rfl; (with_reducible repeat (first | refine blk_drewN ?_ _ | refine blk_drew ?_ | refine blk_alloc ?_ _)); refine blk_put (cs := #[.string ((rd_T39 t143 x21_1).f0), .int .i64 ((rd_T39 t143 x21_1).f1), .bool ((rd_T39 t143 x21_1).f2.f0), .bool false, .string (⟨#[]⟩ : ByteArray), .bool false]) ?_ 4 _ rfl; (with_reducible repeat (first | refine blk_drewN ?_ _ | refine blk_drew ?_ | refine blk_alloc ?_ _)); refine blk_put (cs := #[.string ((rd_T39 t143 x21_1).f0), .int .i64 ((rd_T39 t143 x21_1).f1), .bool ((rd_T39 t143 x21_1).f2.f0), .bool false, .string (⟨#[]⟩ : ByteArray), .bool false]) ?_ 3 _ rfl; (with_reducible repeat (first | refine blk_drewN ?_ _ | refine blk_drew ?_ | refine blk_alloc ?_ _)); refine blk_put (cs := #[.string ((rd_T39 t143 x21_1).f0), .int .i64 ((rd_T39 t143 x21_1).f1), .bool false, .bool false, .string (⟨#[]⟩ : ByteArray), .bool false]) ?_ 2 _ rfl; (with_reducible repeat (first | refine blk_drewN ?_ _ | refine blk_drew ?_ | refine blk_alloc ?_ _)); refine blk_put (cs := #[.string ((rd_T39 t143 x21_1).f0), .int .i64 0, .bool false, .bool false, .string (⟨#[]⟩ : ByteArray), .bool false]) ?_ 1 _ rfl; (with_reducible repeat (first | refine blk_drewN ?_ _ | refine blk_drew ?_ | refine blk_alloc ?_ _)); refine blk_put (cs := #[.string (⟨#[]⟩ : ByteArray), .int .i64 0, .bool false, .bool false, .string (⟨#[]⟩ : ByteArray), .bool false]) ?_ 0 _ rfl; (with_reducible repeat (first | refine blk_drewN ?_ _ | refine blk_drew ?_ | refine blk_alloc ?_ _)); exact BK162.out⟩
        have n3_ : Aside0 (IsS114 w0 ((((((w31.setCell ⟨gb162, 0, none⟩ (.string ((rd_T39 t143 x21_1).f0))).setCell ⟨gb162, 1, none⟩ (.int .i64 ((rd_T39 t143 x21_1).f1))).setCell ⟨gb162, 2, none⟩ (.bool ((rd_T39 t143 x21_1).f2.f0))).setCell ⟨gb162, 3, none⟩ (.bool false)).setCell ⟨gb162, 4, none⟩ (.string ((rd_T39 t143 x21_1).f3))).setCell ⟨gb162, 5, none⟩ (.bool ((rd_T39 t143 x21_1).f4))) g s0_0 x1001_1 x1002_1) := ⟨by repeat (first | (with_reducible first | exact HI0.out | apply IsS114.alloc | apply IsS114.drewN | apply IsS114.drew | apply IsS114.set_1 | apply IsS114.set_2 | refine IsS114.far ?_ NB0_140.out _ | refine IsS114.far ?_ NB0_160.out _ | refine IsS114.far ?_ NB0_162.out _) | exact HI0.out)⟩
        have n4_ : Aside0 (KeepBut w ((((((w31.setCell ⟨gb162, 0, none⟩ (.string ((rd_T39 t143 x21_1).f0))).setCell ⟨gb162, 1, none⟩ (.int .i64 ((rd_T39 t143 x21_1).f1))).setCell ⟨gb162, 2, none⟩ (.bool ((rd_T39 t143 x21_1).f2.f0))).setCell ⟨gb162, 3, none⟩ (.bool false)).setCell ⟨gb162, 4, none⟩ (.string ((rd_T39 t143 x21_1).f3))).setCell ⟨gb162, 5, none⟩ (.bool ((rd_T39 t143 x21_1).f4))) g none) := ⟨by repeat (first | (with_reducible first | exact HK.out | apply KeepBut.set_ | apply keep_drewN | apply keep_drew | apply keep_alloc | refine keep_far ?_ GW140.out _ | refine keep_far ?_ GW160.out _ | refine keep_far ?_ GW162.out _) | exact HK.out)⟩
        have n5_ : Aside0 (Below w0.heap.size w0 ((((((w31.setCell ⟨gb162, 0, none⟩ (.string ((rd_T39 t143 x21_1).f0))).setCell ⟨gb162, 1, none⟩ (.int .i64 ((rd_T39 t143 x21_1).f1))).setCell ⟨gb162, 2, none⟩ (.bool ((rd_T39 t143 x21_1).f2.f0))).setCell ⟨gb162, 3, none⟩ (.bool false)).setCell ⟨gb162, 4, none⟩ (.string ((rd_T39 t143 x21_1).f3))).setCell ⟨gb162, 5, none⟩ (.bool ((rd_T39 t143 x21_1).f4)))) := ⟨by repeat (first | (with_reducible first | exact HB.out | apply below_alloc | apply pw_below_drewN | apply below_drew1 | refine below_set ?_ (IsS114.ge HI0.out) | refine below_set ?_ GE140.out | refine below_set ?_ GE160.out | refine below_set ?_ GE162.out) | exact HB.out)⟩
        (try clear BK140)
        (try clear BK160)
        (try clear BK162)
        (try clear HI0)
        (try clear HK)
        (try clear HB)
        generalize ((((((w31.setCell ⟨gb162, 0, none⟩ (.string ((rd_T39 t143 x21_1).f0))).setCell ⟨gb162, 1, none⟩ (.int .i64 ((rd_T39 t143 x21_1).f1))).setCell ⟨gb162, 2, none⟩ (.bool ((rd_T39 t143 x21_1).f2.f0))).setCell ⟨gb162, 3, none⟩ (.bool false)).setCell ⟨gb162, 4, none⟩ (.string ((rd_T39 t143 x21_1).f3))).setCell ⟨gb162, 5, none⟩ (.bool ((rd_T39 t143 x21_1).f4))) = w36 at n0_ n1_ n2_ n3_ n4_ n5_ ⊢
        have BK140 := n0_
        have BK160 := n1_
        have BK162 := n2_
        have HI0 := n3_
        have HK := n4_
        have HB := n5_
        clear n0_ n1_ n2_ n3_ n4_ n5_
        have n0_ := Aside0.mk (blk_drew BK140.out)
        have n1_ := Aside0.mk (blk_drew BK160.out)
        have n2_ := Aside0.mk (blk_drew BK162.out)
        have n3_ := Aside0.mk (IsS114.drew HI0.out)
        have n4_ := Aside0.mk (keep_drew HK.out)
        have n5_ := Aside0.mk (below_drew1 HB.out)
        clear BK140
        clear BK160
        clear BK162
        clear HI0
        clear HK
        clear HB
        have BK140 := n0_
        have BK160 := n1_
        have BK162 := n2_
        have HI0 := n3_
        have HK := n4_
        have HB := n5_
        clear n0_ n1_ n2_ n3_ n4_ n5_
        have p163 : 0 ≤ (x21_1 : Int) := of_decide_eq_true (by first | (with_reducible assumption) | assumption)
        have q163 : x21_1 < (l1_5.length : Int) := of_decide_eq_true (by first | (with_reducible assumption) | assumption)
        obtain ⟨ad163, A163_5, c163_5, e163, hx163_0, hx163_1, hx163_2, hx163_3, hx163_4, hx163_5, hl163_5, hi163_5⟩ := at_T43 HR1_5.out x21_1 p163 q163
        have hw163_5 := hx163_5
        have hw163_4 := hx163_4
        have hw163_3 := hx163_3
        have hw163_2 := hx163_2
        have hw163_1 := hx163_1
        have hw163_0 := hx163_0
        (try rw [← Nbq22.out] at hx163_4)
        cases e163
        replace hx163_0 := pw_cell_below HB.out hx163_0
        replace hx163_1 := pw_cell_below HB.out hx163_1
        replace hx163_2 := pw_cell_below HB.out hx163_2
        replace hx163_3 := pw_cell_below HB.out hx163_3
        replace hx163_4 := pw_cell_below HB.out hx163_4
        replace hx163_5 := pw_cell_below HB.out hx163_5
        have HR163_5 := Aside0.mk hi163_5
        have HC163_5 := Aside0.mk hl163_5
        clear hi163_5 hl163_5
        replace p163 := eq_true p163
        replace q163 := eq_true q163
        have p164 : 0 ≤ (x21_1 : Int) := of_decide_eq_true (by first | (with_reducible assumption) | assumption)
        have q164 : x21_1 < (l1_5.length : Int) := of_decide_eq_true (by first | (with_reducible assumption) | assumption)
        obtain ⟨ad164, A164_5, c164_5, e164, hx164_0, hx164_1, hx164_2, hx164_3, hx164_4, hx164_5, hl164_5, hi164_5⟩ := at_T43 HR1_5.out x21_1 p164 q164
        have hw164_5 := hx164_5
        have hw164_4 := hx164_4
        have hw164_3 := hx164_3
        have hw164_2 := hx164_2
        have hw164_1 := hx164_1
        have hw164_0 := hx164_0
        (try rw [← Nbq22.out] at hx164_4)
        obtain rfl : ad163 = ad164 := (by injection e164)
        replace hx164_0 := pw_cell_below HB.out hx164_0
        replace hx164_1 := pw_cell_below HB.out hx164_1
        replace hx164_2 := pw_cell_below HB.out hx164_2
        replace hx164_3 := pw_cell_below HB.out hx164_3
        replace hx164_4 := pw_cell_below HB.out hx164_4
        replace hx164_5 := pw_cell_below HB.out hx164_5
        have HR164_5 := Aside0.mk hi164_5
        have HC164_5 := Aside0.mk hl164_5
        clear hi164_5 hl164_5
        replace p164 := eq_true p164
        replace q164 := eq_true q164
        have ea_ := Option.some.inj (hx163_5.symm.trans hx164_5)
        injection ea_ with ea_ en_ ec_
        subst ea_
        subst ec_
        clear en_
        refine start_ (n := 13) (S := fun w' => w'.cell? ⟨gb140, 0, none⟩ = some (.int .i64 a1_0) ∧ w'.cell? ⟨gb140, 1, none⟩ = some (.int .i64 a1_1) ∧ w'.cell? ⟨gb140, 2, none⟩ = some (.int .i64 a1_2) ∧ w'.cell? ⟨gb140, 3, none⟩ = some (.string a1_3) ∧ w'.cell? ⟨gb140, 4, none⟩ = some (.bool a1_4) ∧ w'.cell? ⟨gb140, 5, none⟩ = some (.slice (some ad163) l1_5.length c1_5) ∧ w'.cell? (ad163.add ((x21_1).toNat * 6)) = some (.int .i64 ((rd_T43 l1_5 x21_1).f0)) ∧ w'.cell? ⟨(ad163.add ((x21_1).toNat * 6)).block, (ad163.add ((x21_1).toNat * 6)).off + 1, none⟩ = some (.int .i64 ((rd_T43 l1_5 x21_1).f1)) ∧ w'.cell? ⟨(ad163.add ((x21_1).toNat * 6)).block, (ad163.add ((x21_1).toNat * 6)).off + 2, none⟩ = some (.int .i64 ((rd_T43 l1_5 x21_1).f2)) ∧ w'.cell? ⟨(ad163.add ((x21_1).toNat * 6)).block, (ad163.add ((x21_1).toNat * 6)).off + 3, none⟩ = some (.string ((rd_T43 l1_5 x21_1).f3)) ∧ w'.cell? ⟨(ad163.add ((x21_1).toNat * 6)).block, (ad163.add ((x21_1).toNat * 6)).off + 4, none⟩ = some (.bool ((rd_T43 l1_5 x21_1).f4)) ∧ w'.cell? ⟨(ad163.add ((x21_1).toNat * 6)).block, (ad163.add ((x21_1).toNat * 6)).off + 5, none⟩ = some (.slice A163_5 ((rd_T43 l1_5 x21_1).f5).length c163_5) ∧ w'.cell? (ad163.add ((x21_1).toNat * 6)) = some (.int .i64 ((rd_T43 l1_5 x21_1).f0)) ∧ w'.cell? ⟨(ad163.add ((x21_1).toNat * 6)).block, (ad163.add ((x21_1).toNat * 6)).off + 1, none⟩ = some (.int .i64 ((rd_T43 l1_5 x21_1).f1)) ∧ w'.cell? ⟨(ad163.add ((x21_1).toNat * 6)).block, (ad163.add ((x21_1).toNat * 6)).off + 2, none⟩ = some (.int .i64 ((rd_T43 l1_5 x21_1).f2)) ∧ w'.cell? ⟨(ad163.add ((x21_1).toNat * 6)).block, (ad163.add ((x21_1).toNat * 6)).off + 3, none⟩ = some (.string ((rd_T43 l1_5 x21_1).f3)) ∧ w'.cell? ⟨(ad163.add ((x21_1).toNat * 6)).block, (ad163.add ((x21_1).toNat * 6)).off + 4, none⟩ = some (.bool ((rd_T43 l1_5 x21_1).f4)) ∧ w'.cell? ⟨(ad163.add ((x21_1).toNat * 6)).block, (ad163.add ((x21_1).toNat * 6)).off + 5, none⟩ = some (.slice A163_5 ((rd_T43 l1_5 x21_1).f5).length c163_5)) (ds := []) #[false, false, false, false, false, false, false, false, false, false, false, false, false] (by kernel_rfl) rfl rfl ⟨(blk_cell BK140.out 0).trans rfl, (blk_cell BK140.out 1).trans rfl, (blk_cell BK140.out 2).trans rfl, (blk_cell BK140.out 3).trans rfl, (blk_cell BK140.out 4).trans rfl, (blk_cell BK140.out 5).trans rfl, (pw_cell_below HB.out hw163_0), (pw_cell_below HB.out hw163_1), (pw_cell_below HB.out hw163_2), (pw_cell_below HB.out hw163_3), (pw_cell_below HB.out hw163_4), (pw_cell_below HB.out hw163_5), (pw_cell_below HB.out hw164_0), (pw_cell_below HB.out hw164_1), (pw_cell_below HB.out hw164_2), (pw_cell_below HB.out hw164_3), (pw_cell_below HB.out hw164_4), (pw_cell_below HB.out hw164_5)⟩ (fun hHeld => ?_); refine with_tabW inits_checker_call.tab6 inits_checker_call.bits6 (fun HT_ HW_ => ?_)
        generalize w36.drew = w37 at BK140 BK160 BK162 HI0 HK HB HR163_5 HR164_5 hx163_0 hx163_1 hx163_2 hx163_3 hx163_4 hx163_5 hx164_0 hx164_1 hx164_2 hx164_3 hx164_4 hx164_5 hHeld ⊢
        refine pure_ (i := 0) (N := some 30) (v := ?_) (a' := ?_) #[true, false, false, false, false, false, false, false, false, false, false, false, false] rfl rfl (any_of HT_.out (by kernel_rfl)) (fun _ _ _ h => h) (Or.inl ⟨by rfl, ?_⟩) ?_ ?_
        rotate_left
        ·intro w'
         go_simp
         with_reducible rfl
        rotate_left
        ·simp only [Act.put, List.setIfInBounds_toArray, List.set_cons_zero, List.set_cons_succ, i64_w, i32_w]
         rfl
        refine pure_ (i := 1) (N := some 31) (v := ?_) (a' := ?_) #[true, true, false, false, false, false, false, false, false, false, false, false, false] rfl rfl (any_of HT_.out (by kernel_rfl)) (fun _ _ _ h => h) (Or.inl ⟨by rfl, ?_⟩) ?_ ?_
        rotate_left
        ·intro w'
         go_simp
         with_reducible rfl
        rotate_left
        ·simp only [Act.put, List.setIfInBounds_toArray, List.set_cons_zero, List.set_cons_succ, i64_w, i32_w]
         rfl
        refine pure_ (i := 3) (N := some 33) (v := ?_) (a' := ?_) #[true, true, false, true, false, false, false, false, false, false, false, false, false] rfl rfl (any_of HT_.out (by kernel_rfl)) (fun _ _ _ h => h) (Or.inl ⟨by rfl, ?_⟩) ?_ ?_
        rotate_left
        ·intro w'
         go_simp
         with_reducible rfl
        rotate_left
        ·simp only [Act.put, List.setIfInBounds_toArray, List.set_cons_zero, List.set_cons_succ, i64_w, i32_w]
         rfl
        refine pure_ (i := 6) (N := some 36) (v := ?_) (a' := ?_) #[true, true, false, true, false, false, true, false, false, false, false, false, false] rfl rfl (any_of HT_.out (by kernel_rfl)) (fun _ _ _ h => h) (Or.inl ⟨by rfl, ?_⟩) ?_ ?_
        rotate_left
        ·intro w'
         go_simp
         with_reducible rfl
        rotate_left
        ·simp only [Act.put, List.setIfInBounds_toArray, List.set_cons_zero, List.set_cons_succ, i64_w, i32_w]
         rfl
        refine pure_ (i := 8) (N := some 38) (v := ?_) (a' := ?_) #[true, true, false, true, false, false, true, false, true, false, false, false, false] rfl rfl (any_of HT_.out (by kernel_rfl)) (fun _ _ _ h => h) (Or.inl ⟨by rfl, ?_⟩) ?_ ?_
        rotate_left
        ·intro w'
         go_simp
         with_reducible rfl
        rotate_left
        ·simp only [Act.put, List.setIfInBounds_toArray, List.set_cons_zero, List.set_cons_succ, i64_w, i32_w]
         rfl
        refine take_ (i := 2) (N := some 32) (v := ?_) (a' := ?_) #[true, true, true, true, false, false, true, false, true, false, false, false, false] rfl rfl (take_ofW HT_.out HW_.out (by kernel_rfl)) (fun _ _ _ h => h) (Or.inl ⟨by rfl, ?_⟩) hHeld ?_ ?_
        rotate_left
        ·rintro w' ⟨s0, s1, s2, s3, s4, s5, s6, s7, s8, s9, s10, s11, s12, s13, s14, s15, s16, s17⟩
         go_simp
         with_reducible rfl
        rotate_left
        ·simp only [Act.put, List.setIfInBounds_toArray, List.set_cons_zero, List.set_cons_succ, i64_w, i32_w]
         rfl
        refine pure_ (i := 4) (N := some 34) (v := ?_) (a' := ?_) #[true, true, true, true, true, false, true, false, true, false, false, false, false] rfl rfl (any_of HT_.out (by kernel_rfl)) (fun _ _ _ h => h) (Or.inl ⟨by rfl, ?_⟩) ?_ ?_
        rotate_left
        ·intro w'
         go_simp
         with_reducible rfl
        rotate_left
        ·simp only [Act.put, List.setIfInBounds_toArray, List.set_cons_zero, List.set_cons_succ, i64_w, i32_w]
         rfl
        refine take_ (i := 5) (N := some 35) (v := ?_) (a' := ?_) #[true, true, true, true, true, true, true, false, true, false, false, false, false] rfl rfl (take_ofW HT_.out HW_.out (by kernel_rfl)) (fun _ _ _ h => h) (Or.inl ⟨by rfl, ?_⟩) hHeld ?_ ?_
        rotate_left
        ·rintro w' ⟨s0, s1, s2, s3, s4, s5, s6, s7, s8, s9, s10, s11, s12, s13, s14, s15, s16, s17⟩
         go_simp
         with_reducible rfl
        rotate_left
        ·simp only [Act.put, List.setIfInBounds_toArray, List.set_cons_zero, List.set_cons_succ, i64_w, i32_w]
         rfl
        refine take_ (i := 7) (N := some 37) (v := ?_) (a' := ?_) #[true, true, true, true, true, true, true, true, true, false, false, false, false] rfl rfl (take_ofW HT_.out HW_.out (by kernel_rfl)) (fun _ _ _ h => h) (Or.inl ⟨by rfl, ?_⟩) hHeld ?_ ?_
        rotate_left
        ·rintro w' ⟨s0, s1, s2, s3, s4, s5, s6, s7, s8, s9, s10, s11, s12, s13, s14, s15, s16, s17⟩
         go_simp
         with_reducible rfl
        rotate_left
        ·simp only [Act.put, List.setIfInBounds_toArray, List.set_cons_zero, List.set_cons_succ, i64_w, i32_w]
         rfl
        refine pure_ (i := 9) (N := some 39) (v := ?_) (a' := ?_) #[true, true, true, true, true, true, true, true, true, true, false, false, false] rfl rfl (any_of HT_.out (by kernel_rfl)) (fun _ _ _ h => h) (Or.inl ⟨by rfl, ?_⟩) ?_ ?_
        rotate_left
        ·intro w'
         go_simp
         with_reducible rfl
        rotate_left
        ·simp only [Act.put, List.setIfInBounds_toArray, List.set_cons_zero, List.set_cons_succ, i64_w, i32_w]
         rfl
        refine pure_ (i := 10) (N := some 40) (v := ?_) (a' := ?_) #[true, true, true, true, true, true, true, true, true, true, true, false, false] rfl rfl (any_of HT_.out (by kernel_rfl)) (fun _ _ _ h => h) (Or.inl ⟨by rfl, ?_⟩) ?_ ?_
        rotate_left
        ·intro w'
         go_simp
         with_reducible rfl
        rotate_left
        ·simp only [Act.put, List.setIfInBounds_toArray, List.set_cons_zero, List.set_cons_succ, i64_w, i32_w]
         rfl
        refine take_ (i := 11) (N := some 41) (v := ?_) (a' := ?_) #[true, true, true, true, true, true, true, true, true, true, true, true, false] rfl rfl (take_ofW HT_.out HW_.out (by kernel_rfl)) (fun _ _ _ h => h) (Or.inl ⟨by rfl, ?_⟩) hHeld ?_ ?_
        rotate_left
        ·rintro w' ⟨s0, s1, s2, s3, s4, s5, s6, s7, s8, s9, s10, s11, s12, s13, s14, s15, s16, s17⟩
         go_simp
         with_reducible rfl
        rotate_left
        ·simp only [Act.put, List.setIfInBounds_toArray, List.set_cons_zero, List.set_cons_succ, i64_w, i32_w]
         rfl
        refine one_ (i := 12) (N := some 42) #[true, true, true, true, true, true, true, true, true, true, true, true, true] rfl rfl (one_of HT_.out (by kernel_rfl)) (by decide) (fun K hK => ?_)
        refine goes_ Tryd.func53 (by kernel_rfl) rfl #[.pointer (some ⟨g, 0, none⟩), .agg #[.int .i64 ((rd_T43 l1_5 x21_1).f0), .int .i64 ((rd_T43 l1_5 x21_1).f1), .int .i64 ((rd_T43 l1_5 x21_1).f2), .string ((rd_T43 l1_5 x21_1).f3), .bool ((rd_T43 l1_5 x21_1).f4), .slice A163_5 ((rd_T43 l1_5 x21_1).f5).length c163_5], .int .i64 ((rd_T43 l1_5 x21_1).f1)] (by rfl) rfl rfl (by (try simp only [List.map_toArray, List.map_cons, List.map_nil]); first | done | rfl | (simp only [List.length_drop, List.length_take]; rfl)) ?_
        with_reducible refine (ih_53 k1 (by have := HK1.out; omega) g s0_0 x1001_1 x1002_1 ((rd_T43 l1_5 x21_1).f0) ((rd_T43 l1_5 x21_1).f1) ((rd_T43 l1_5 x21_1).f2) ((rd_T43 l1_5 x21_1).f3) ((rd_T43 l1_5 x21_1).f4) _ _ ((rd_T43 l1_5 x21_1).f5) ((rd_T43 l1_5 x21_1).f1) t165 t166 w0 _ ?side1 ?side2 ?side3 ?side4 A30.out).mono ?_
        (case side1 => repeat (first | (with_reducible first | exact HI0.out | apply IsS114.alloc | apply IsS114.drewN | apply IsS114.drew | apply IsS114.set_1 | apply IsS114.set_2 | refine IsS114.far ?_ NB0_140.out _ | refine IsS114.far ?_ NB0_160.out _ | refine IsS114.far ?_ NB0_162.out _) | exact HI0.out))
        (case side2 => repeat (first | (with_reducible first | exact HB.out | apply below_alloc | apply pw_below_drewN | apply below_drew1 | refine below_set ?_ (IsS114.ge HI0.out) | refine below_set ?_ GE140.out | refine below_set ?_ GE160.out | refine below_set ?_ GE162.out) | exact HB.out))
        (case side3 => exact HR163_5.out)
        (case side4 => exact HC163_5.out)
        rintro e w38 ⟨rfl, hi, hb, hk⟩
        refine ⟨_, rfl, ?_⟩
        have n0_ := Aside0.mk (KeepBut.blk hk (g' := gb140) (o := .cells #[.int .i64 a1_0, .int .i64 a1_1, .int .i64 a1_2, .string a1_3, .bool a1_4, .slice (some ad163) l1_5.length c1_5] 43 (0, 0)) (by (with_reducible repeat (first | refine blk_drewN ?_ _ | refine blk_drew ?_ | refine blk_alloc ?_ _)); exact BK140.out) NB140_0.out (by simp))
        have n1_ := Aside0.mk (KeepBut.blk hk (g' := gb160) (o := .cells #[.string t141, .int .i64 t142, .slice (some ad161) t143.length cn156, .slice An157 t146.length cn157, .slice An158 t149.length cn158, .slice An159 t152.length cn159] 34 (0, 0)) (by (with_reducible repeat (first | refine blk_drewN ?_ _ | refine blk_drew ?_ | refine blk_alloc ?_ _)); exact BK160.out) NB160_0.out (by simp))
        have n2_ := Aside0.mk (KeepBut.blk hk (g' := gb162) (o := .cells #[.string ((rd_T39 t143 x21_1).f0), .int .i64 ((rd_T39 t143 x21_1).f1), .bool ((rd_T39 t143 x21_1).f2.f0), .bool false, .string ((rd_T39 t143 x21_1).f3), .bool ((rd_T39 t143 x21_1).f4)] 39 (0, 0)) (by (with_reducible repeat (first | refine blk_drewN ?_ _ | refine blk_drew ?_ | refine blk_alloc ?_ _)); exact BK162.out) NB162_0.out (by simp))
        have n3_ := Aside0.mk (KeepBut.trans (by repeat (first | (with_reducible first | exact HK.out | apply KeepBut.set_ | apply keep_drewN | apply keep_drew | apply keep_alloc | refine keep_far ?_ GW140.out _ | refine keep_far ?_ GW160.out _ | refine keep_far ?_ GW162.out _) | exact HK.out)) hk (.inl rfl))
        have n4_ := Aside0.mk (hb)
        have n5_ := Aside0.mk (hi)
        clear BK140
        clear BK160
        clear BK162
        clear HK
        clear HB
        clear HI0
        have BK140 := n0_
        have BK160 := n1_
        have BK162 := n2_
        have HK := n3_
        have HB := n4_
        have HI0 := n5_
        clear n0_ n1_ n2_ n3_ n4_ n5_
        (try clear hb)
        (try clear hb2)
        (try clear hk)
        (try clear hi)
        refine hK.out _ _ ⟨(blk_cell BK140.out 0).trans rfl, (blk_cell BK140.out 1).trans rfl, (blk_cell BK140.out 2).trans rfl, (blk_cell BK140.out 3).trans rfl, (blk_cell BK140.out 4).trans rfl, (blk_cell BK140.out 5).trans rfl, (pw_cell_below HB.out hw163_0), (pw_cell_below HB.out hw163_1), (pw_cell_below HB.out hw163_2), (pw_cell_below HB.out hw163_3), (pw_cell_below HB.out hw163_4), (pw_cell_below HB.out hw163_5), (pw_cell_below HB.out hw164_0), (pw_cell_below HB.out hw164_1), (pw_cell_below HB.out hw164_2), (pw_cell_below HB.out hw164_3), (pw_cell_below HB.out hw164_4), (pw_cell_below HB.out hw164_5)⟩ (fun hHeld => ?_)
        clear hK K
        refine norm_ (a' := ?_) ?_ ?_
        rotate_left
        ·show Act.put _ (some 42) _ = _
         simp only [Act.put, List.setIfInBounds_toArray, List.set_cons_zero, List.set_cons_succ, i64_w, i32_w]
         rfl
        refine done_ (done_of HT_.out (by kernel_rfl)) ?_
        try go_wp2
        go_roundg k1
        case measure => have := HK1.out; omega
        case rel => exact ⟨(wrap64 (x21_1 + 1)), (t165), (t166), (by first | rfl | (simp; done) | (simp [*]; done)), H', ⟨by have := HK1.out; omega⟩, ⟨by (with_reducible repeat (first | refine blk_drewN ?_ _ | refine blk_drew ?_ | refine blk_alloc ?_ _)); exact BK140.out⟩, ⟨by (with_reducible repeat (first | refine blk_drewN ?_ _ | refine blk_drew ?_ | refine blk_alloc ?_ _)); exact BK160.out⟩, ⟨by repeat (first | (with_reducible first | exact HI0.out | apply IsS114.alloc | apply IsS114.drewN | apply IsS114.drew | apply IsS114.set_1 | apply IsS114.set_2 | refine IsS114.far ?_ NB0_140.out _ | refine IsS114.far ?_ NB0_160.out _ | refine IsS114.far ?_ NB0_162.out _) | exact HI0.out)⟩, ⟨by repeat (first | (with_reducible first | exact HK.out | apply KeepBut.set_ | apply keep_drewN | apply keep_drew | apply keep_alloc | refine keep_far ?_ GW140.out _ | refine keep_far ?_ GW160.out _ | refine keep_far ?_ GW162.out _) | exact HK.out)⟩, ⟨by repeat (first | (with_reducible first | exact HB.out | apply below_alloc | apply pw_below_drewN | apply below_drew1 | refine below_set ?_ (IsS114.ge HI0.out) | refine below_set ?_ GE140.out | refine below_set ?_ GE160.out | refine below_set ?_ GE162.out) | exact HB.out)⟩⟩
       ·rw [if_neg c29] at H
        exact absurd H (by simp)
     ·rw [if_neg c21] at H
      exact absurd H (by simp)
    ·rw [if_neg c20] at H
     exact absurd H (by simp)
   ·rw [if_neg c19] at H
    have c19b0 : decide (x21_1 < (t143.length : Int)) = false := decide_eq_false c19
    clear c19
    simp only [Option.some.injEq, Prod.mk.injEq] at H
    obtain ⟨rfl, rfl⟩ := H
    go_wp2
    first | go_end0 | ((try simp only [Exit.inBlock, Exit.then]); refine bodyPost_ret (results_none rfl _ _ _) rfl ?_)
    exact ⟨by first | rfl | (simp [errW_none, errW_some] <;> rfl) | (simp [*, errW_none, errW_some] <;> rfl), by repeat (first | (with_reducible first | exact HI0.out | apply IsS114.alloc | apply IsS114.drewN | apply IsS114.drew | apply IsS114.set_1 | apply IsS114.set_2 | refine IsS114.far ?_ NB0_140.out _ | refine IsS114.far ?_ NB0_160.out _) | exact HI0.out), by repeat (first | (with_reducible first | exact HB.out | apply below_alloc | apply pw_below_drewN | apply below_drew1 | refine below_set ?_ (IsS114.ge HI0.out) | refine below_set ?_ GE140.out | refine below_set ?_ GE160.out) | exact HB.out), by repeat (first | (with_reducible first | exact HK.out | apply KeepBut.set_ | apply keep_drewN | apply keep_drew | apply keep_alloc | refine keep_far ?_ GW140.out _ | refine keep_far ?_ GW160.out _) | exact HK.out)⟩

theorem inits_checker_some.all_g (k : Nat) : inits_checker_some.Stmt k ∧ inits_checker_late.Stmt k ∧ inits_checker_now.Stmt k ∧ inits_checker_call.Stmt k := by
  induction k using Nat.strongRecOn with
  | _ k ih =>
  exact ⟨inits_checker_some.step k (fun m_ h_ => (ih m_ h_).1) (fun m_ h_ => (ih m_ h_).2.1) (fun m_ h_ => (ih m_ h_).2.2.1) (fun m_ h_ => (ih m_ h_).2.2.2), inits_checker_late.step k (fun m_ h_ => (ih m_ h_).1) (fun m_ h_ => (ih m_ h_).2.1) (fun m_ h_ => (ih m_ h_).2.2.1) (fun m_ h_ => (ih m_ h_).2.2.2), inits_checker_now.step k (fun m_ h_ => (ih m_ h_).1) (fun m_ h_ => (ih m_ h_).2.1) (fun m_ h_ => (ih m_ h_).2.2.1) (fun m_ h_ => (ih m_ h_).2.2.2), inits_checker_call.step k (fun m_ h_ => (ih m_ h_).1) (fun m_ h_ => (ih m_ h_).2.1) (fun m_ h_ => (ih m_ h_).2.2.1) (fun m_ h_ => (ih m_ h_).2.2.2)⟩
theorem inits_checker_now.calls (k : Nat) : inits_checker_now.Stmt k := (inits_checker_some.all_g k).2.2.1
theorem inits_checker_call.calls (k : Nat) : inits_checker_call.Stmt k := (inits_checker_some.all_g k).2.2.2

end Go.Proofs.YtjafllnbgfcchaaDoor.XIA
