-- Written by a program of this session (wip/xprint) out of the translation.
import Derived.Test.YtnlkjimpefebbaaDoorXTx0
import Derived.Test.YtnlkjimpefebbaaDoorXTx1
import Derived.Test.YtnlkjimpefebbaaDoorXTx2
import Derived.Test.YtnlkjimpefebbaaDoorXTx6
namespace Go.Proofs.YtnlkjimpefebbaaDoor.XT
open Go.RowKit Go.Proofs.YtnlkjimpefebbaaDoorW.PrintWords Go.Proofs.YtnlkjimpefebbaaDoorW.PrintLast Go.Proofs.YtnlkjimpefebbaaDoorW.PrintMore
attribute [local go_sem] max2_int min2_int max_two min_two max_three min_three max_four min_four   -- for this text's walks alone
set_option linter.unusedVariables false
set_option linter.unusedSimpArgs false

/-! ### girandolelaw02_awake: function 23, by a contract that is proved elsewhere -/
theorem awake_two {W : World} {b t : Nat} {x y : S51} {cx cy : List Value} (hb : W.heap[b]? = some (.cells (cx ++ cy).toArray t)) (hx : k51.K W x cx) (hy : k51.K W y cy) : k51.C W (some ⟨b, 0, none⟩) 2 [x, y] := by
  have lx : cx.length = 6 := k51.K_len hx
  have ly : cy.length = 6 := k51.K_len hy
  have hc : ∀ i u, (cx ++ cy)[i]? = some u → W.cell? ⟨b, i, none⟩ = some u := by
    intro i u hu
    unfold World.cell?
    simp only [hb]
    simpa using hu
  have ha : ∀ i, (⟨b, 0, none⟩ : Addr).add i = ⟨b, i, none⟩ := by
    intro i
    unfold Addr.add
    by_cases h0 : i = 0 <;> simp [h0]
  refine ⟨rfl, by decide, fun _ => ⟨_, rfl, fun j p hj => ?_⟩⟩
  match j, hj with
  | 0, hj =>
    obtain rfl := Option.some.inj hj
    refine ⟨cx, lx, hx, fun i u hu => ?_⟩
    rw [ha]
    have hi := (List.getElem?_eq_some_iff.1 hu).1
    refine hc _ u ?_
    have e : 0 * k51.sz + i = i := by rw [Nat.zero_mul, Nat.zero_add]
    rw [e, List.getElem?_append_left hi]
    exact hu
  | 1, hj =>
    obtain rfl := Option.some.inj hj
    refine ⟨cy, ly, hy, fun i u hu => ?_⟩
    rw [ha]
    refine hc _ u ?_
    have e : 1 * k51.sz + i = cx.length + i := by rw [Nat.one_mul, lx]; rfl
    rw [e, List.getElem?_append_right (by omega), Nat.add_sub_cancel_left]
    exact hu
  | j + 2, hj => simp at hj
theorem awake_last (w : World) (o1 o2 o3 : Obj) : (((w.alloc o1).alloc o2).alloc o3).heap[w.heap.size + 1 + 1]? = some o3 := by simp only [World.alloc, Array.getElem?_push, Array.size_push, if_true]
theorem awake_first (w : World) (o1 o2 o3 : Obj) : (((w.alloc o1).alloc o2).alloc o3).heap[w.heap.size]? = some o1 := by
  simp only [World.alloc, Array.getElem?_push, Array.size_push]
  rw [if_neg (by omega), if_neg (by omega), if_pos trivial]
def awake_i (k n : Int) (s : ByteArray) : S51 := ⟨k, 0, n, s, false, []⟩
def awake_x : S51 := ⟨6, 0, 0, ⟨#[43]⟩, false, [awake_i 3 0 ⟨#[120]⟩, awake_i 1 1 ⟨#[]⟩]⟩
theorem awake_leaf (W : World) (k n : Int) (s : ByteArray) : k51.K W (awake_i k n s) [.int .i64 k, .int .i64 0, .int .i64 n, .string s, .bool false, .slice none 0 0] :=
  k51_mk W (awake_i k n s) (A5 := none) (c5 := 0) (Nat.le_refl 0) ⟨rfl, Nat.zero_le _, fun h => absurd h (Nat.lt_irrefl 0)⟩
theorem awake_text : tree_Text.f 30 6 0 0 ⟨#[42]⟩ false [awake_x, awake_i 1 (-2) ⟨#[]⟩] = some ⟨#[40, 120, 32, 43, 32, 49, 41, 32, 42, 32, 45, 50]⟩ := by decide +kernel
def girandolelaw02_awake.f : Option Bool := some true
set_option maxHeartbeats 4000000 in
set_option maxRecDepth 100000 in
theorem girandolelaw02_awake.calls (r : Bool) (w : World) (h : girandolelaw02_awake.f = some r) (hT : Tabs w) :
    Calls Tryd.prog 23 #[] w fun e w' => e = .returned (.bool r) ∧ Below w.heap.size w w' := by
  obtain rfl := Option.some.inj h
  have HT := Aside0.mk hT
  clear hT h
  have hu51 := Tryd.underlying51
  go_enter Tryd.func23, Tryd.ntmps23
  go_wp2_with (fail)
  have hbel : ∀ o1 o2 o3, Below w.heap.size w (((w.alloc o1).alloc o2).alloc o3) := fun o1 o2 o3 => below_alloc (below_alloc (below_alloc (Below.refl _ _) _) _) _
  have HB := Aside0.mk hbel
  clear hbel
  refine (tree_Text.calls 30 6 0 0 ⟨#[42]⟩ false (some ⟨w.heap.size + 1 + 1, 0, none⟩) 2 [awake_x, awake_i 1 (-2) ⟨#[]⟩] _ _ ?_ (Nat.le_refl 2) awake_text (Tabs.below HT.out (HB.out _ _ _))).mono ?_
  · refine awake_two (b := w.heap.size + 1 + 1) (t := 51) (cx := [.int .i64 6, .int .i64 0, .int .i64 0, .string ⟨#[43]⟩, .bool false, .slice (some ⟨w.heap.size, 0, none⟩) 2 2]) (cy := [.int .i64 1, .int .i64 0, .int .i64 (-2), .string ⟨#[]⟩, .bool false, .slice none 0 0]) (awake_last _ _ _ _) ?_ (awake_leaf _ 1 (-2) ⟨#[]⟩)
    refine k51_mk _ awake_x (A5 := some ⟨w.heap.size, 0, none⟩) (c5 := 2) (Nat.le_refl 2) ?_
    exact awake_two (b := w.heap.size) (t := 51) (cx := [.int .i64 3, .int .i64 0, .int .i64 0, .string ⟨#[120]⟩, .bool false, .slice none 0 0]) (cy := [.int .i64 1, .int .i64 0, .int .i64 1, .string ⟨#[]⟩, .bool false, .slice none 0 0]) (awake_first _ _ _ _) (awake_leaf _ 3 0 ⟨#[120]⟩) (awake_leaf _ 1 1 ⟨#[]⟩)
  · rintro e w1 ⟨rfl, hb⟩
    have hb' := below_step (HB.out _ _ _) hb
    clear hb
    have HB' := Aside0.mk hb'
    clear hb'
    go_wp2_with (fail)
    go_ret
    exact ⟨by first | rfl | decide, HB'.out⟩

/-! ### tree_TypeText: function 31 -/
def tree_TypeText.f (a0_0 : Bool) (a0_1 : Bool) : Option (ByteArray) := if a0_0 = true then (if a0_1 = true then (if 7 + 4 ≤ 9223372036854775807 then (some ((⟨#[102, 117, 116, 117, 114, 101, 32]⟩ : ByteArray) ++ (⟨#[98, 111, 111, 108]⟩ : ByteArray))) else (none)) else (some (⟨#[98, 111, 111, 108]⟩ : ByteArray))) else (if a0_1 = true then (if 7 + 3 ≤ 9223372036854775807 then (some ((⟨#[102, 117, 116, 117, 114, 101, 32]⟩ : ByteArray) ++ (⟨#[105, 110, 116]⟩ : ByteArray))) else (none)) else (some (⟨#[105, 110, 116]⟩ : ByteArray)))
set_option maxHeartbeats 8000000 in
set_option maxRecDepth 100000 in
theorem tree_TypeText.calls (a0_0 : Bool) (a0_1 : Bool) (r : ByteArray) (w : World) (h : tree_TypeText.f a0_0 a0_1 = some r) :
  Calls Tryd.prog 31 #[.agg #[.bool a0_0, .bool a0_1]] w fun e w' => e = .returned (.string r) ∧ Below w.heap.size w w' := by
 have hu59 := Tryd.underlying59
 have HB := Aside0.mk (Below.refl w.heap.size w)
 have H : (if a0_0 = true then (if a0_1 = true then (if 7 + 4 ≤ 9223372036854775807 then (some ((⟨#[102, 117, 116, 117, 114, 101, 32]⟩ : ByteArray) ++ (⟨#[98, 111, 111, 108]⟩ : ByteArray))) else (none)) else (some (⟨#[98, 111, 111, 108]⟩ : ByteArray))) else (if a0_1 = true then (if 7 + 3 ≤ 9223372036854775807 then (some ((⟨#[102, 117, 116, 117, 114, 101, 32]⟩ : ByteArray) ++ (⟨#[105, 110, 116]⟩ : ByteArray))) else (none)) else (some (⟨#[105, 110, 116]⟩ : ByteArray)))) = some r := h
 clear h
 by_cases c2 : a0_0 = true
 ·subst c2
  have H1 : (if a0_1 = true then (if 7 + 4 ≤ 9223372036854775807 then (some ((⟨#[102, 117, 116, 117, 114, 101, 32]⟩ : ByteArray) ++ (⟨#[98, 111, 111, 108]⟩ : ByteArray))) else (none)) else (some (⟨#[98, 111, 111, 108]⟩ : ByteArray))) = some r := by rw [if_pos rfl] at H; exact H
  clear H
  have H := H1
  clear H1
  by_cases c3 : a0_1 = true
  ·subst c3
   have H1 : (if 7 + 4 ≤ 9223372036854775807 then (some ((⟨#[102, 117, 116, 117, 114, 101, 32]⟩ : ByteArray) ++ (⟨#[98, 111, 111, 108]⟩ : ByteArray))) else (none)) = some r := by rw [if_pos rfl] at H; exact H
   clear H
   have H := H1
   clear H1
   by_cases c4 : 7 + 4 ≤ 9223372036854775807
   ·rw [if_pos c4] at H
    have c4b0 := eq_true c4
    have c4b1 : decide (7 + 4 ≤ 9223372036854775807) = true := decide_eq_true c4
    try have c4b2 : (9223372036854775807 < 7 + 4) = False := eq_false (Nat.not_lt.2 c4)
    obtain rfl := Option.some.inj H
    go_enter Tryd.func31, Tryd.ntmps31
    go_wp2_with (first | ((with_reducible refine gate_dst (N := 1) rfl ?_); refine box_event ?hg (N := 1) ?hd (cs := #[.bool true, .bool true]) (t := 59) ?hr ?_; (case hd => rfl); (case hg => rfl); (case hr => first | (go_simp; done) | (go_simp; rfl)); intro gb161 hg w5 hbox hb; have n0_ := Aside0.mk (below_step (by repeat (first | (with_reducible first | exact HB.out | apply below_alloc | apply pw_below_drewN | apply below_drew1) | exact HB.out)) hb); have n1_ := Aside0.mk (hbox); have n2_ := Aside0.mk ((by rw [hg]; exact (below_size (by repeat (first | (with_reducible first | exact HB.out | apply below_alloc | apply pw_below_drewN | apply below_drew1) | exact HB.out))) : w.heap.size ≤ gb161)); have n3_ := Aside0.mk ((by rw [hg]; exact (below_size (by repeat (first | (with_reducible first | exact HB.out | apply below_alloc | apply pw_below_drewN | apply below_drew1) | exact HB.out))) : w.heap.size ≤ gb161)); clear HB; have HB := n0_; have BK161 := n1_; have GW161 := n2_; have GE161 := n3_; clear n0_ n1_ n2_ n3_; clear hb hbox hg; have hcz6_0 : w5.cell? ⟨gb161, 0, none⟩ = some (.bool true) := (blk_cell BK161.out 0).trans rfl; have hcz6_1 : w5.cell? ⟨gb161, 1, none⟩ = some (.bool true) := (blk_cell BK161.out 1).trans rfl; have hfz6_0 := blk_frozen BK161.out 0; have hfz6_1 := blk_frozen BK161.out 1))
    go_ret
    exact ⟨by first | rfl | (simp [errW_none, errW_some] <;> rfl) | (simp [*, errW_none, errW_some] <;> rfl), by repeat (first | (with_reducible first | exact HB.out | apply below_alloc | apply pw_below_drewN | apply below_drew1 | refine below_set ?_ GE161.out) | exact HB.out)⟩
   ·rw [if_neg c4] at H
    exact absurd H (by simp)
  ·replace c3 := Bool.eq_false_iff.mpr c3
   subst c3
   have H1 : (some (⟨#[98, 111, 111, 108]⟩ : ByteArray)) = some r := by rw [if_neg (show ¬ (false = true) by decide)] at H; exact H
   clear H
   have H := H1
   clear H1
   obtain rfl := Option.some.inj H
   go_enter Tryd.func31, Tryd.ntmps31
   go_wp2_with (first | ((with_reducible refine gate_dst (N := 1) rfl ?_); refine box_event ?hg (N := 1) ?hd (cs := #[.bool true, .bool false]) (t := 59) ?hr ?_; (case hd => rfl); (case hg => rfl); (case hr => first | (go_simp; done) | (go_simp; rfl)); intro gb161 hg w7 hbox hb; have n0_ := Aside0.mk (below_step (by repeat (first | (with_reducible first | exact HB.out | apply below_alloc | apply pw_below_drewN | apply below_drew1) | exact HB.out)) hb); have n1_ := Aside0.mk (hbox); have n2_ := Aside0.mk ((by rw [hg]; exact (below_size (by repeat (first | (with_reducible first | exact HB.out | apply below_alloc | apply pw_below_drewN | apply below_drew1) | exact HB.out))) : w.heap.size ≤ gb161)); have n3_ := Aside0.mk ((by rw [hg]; exact (below_size (by repeat (first | (with_reducible first | exact HB.out | apply below_alloc | apply pw_below_drewN | apply below_drew1) | exact HB.out))) : w.heap.size ≤ gb161)); clear HB; have HB := n0_; have BK161 := n1_; have GW161 := n2_; have GE161 := n3_; clear n0_ n1_ n2_ n3_; clear hb hbox hg; have hcz8_0 : w7.cell? ⟨gb161, 0, none⟩ = some (.bool true) := (blk_cell BK161.out 0).trans rfl; have hcz8_1 : w7.cell? ⟨gb161, 1, none⟩ = some (.bool false) := (blk_cell BK161.out 1).trans rfl; have hfz8_0 := blk_frozen BK161.out 0; have hfz8_1 := blk_frozen BK161.out 1))
   go_ret
   exact ⟨by first | rfl | (simp [errW_none, errW_some] <;> rfl) | (simp [*, errW_none, errW_some] <;> rfl), by repeat (first | (with_reducible first | exact HB.out | apply below_alloc | apply pw_below_drewN | apply below_drew1 | refine below_set ?_ GE161.out) | exact HB.out)⟩
 ·replace c2 := Bool.eq_false_iff.mpr c2
  subst c2
  have H1 : (if a0_1 = true then (if 7 + 3 ≤ 9223372036854775807 then (some ((⟨#[102, 117, 116, 117, 114, 101, 32]⟩ : ByteArray) ++ (⟨#[105, 110, 116]⟩ : ByteArray))) else (none)) else (some (⟨#[105, 110, 116]⟩ : ByteArray))) = some r := by rw [if_neg (show ¬ (false = true) by decide)] at H; exact H
  clear H
  have H := H1
  clear H1
  by_cases c9 : a0_1 = true
  ·subst c9
   have H1 : (if 7 + 3 ≤ 9223372036854775807 then (some ((⟨#[102, 117, 116, 117, 114, 101, 32]⟩ : ByteArray) ++ (⟨#[105, 110, 116]⟩ : ByteArray))) else (none)) = some r := by rw [if_pos rfl] at H; exact H
   clear H
   have H := H1
   clear H1
   by_cases c10 : 7 + 3 ≤ 9223372036854775807
   ·rw [if_pos c10] at H
    have c10b0 := eq_true c10
    have c10b1 : decide (7 + 3 ≤ 9223372036854775807) = true := decide_eq_true c10
    try have c10b2 : (9223372036854775807 < 7 + 3) = False := eq_false (Nat.not_lt.2 c10)
    obtain rfl := Option.some.inj H
    go_enter Tryd.func31, Tryd.ntmps31
    go_wp2_with (first | ((with_reducible refine gate_dst (N := 1) rfl ?_); refine box_event ?hg (N := 1) ?hd (cs := #[.bool false, .bool true]) (t := 59) ?hr ?_; (case hd => rfl); (case hg => rfl); (case hr => first | (go_simp; done) | (go_simp; rfl)); intro gb161 hg w11 hbox hb; have n0_ := Aside0.mk (below_step (by repeat (first | (with_reducible first | exact HB.out | apply below_alloc | apply pw_below_drewN | apply below_drew1) | exact HB.out)) hb); have n1_ := Aside0.mk (hbox); have n2_ := Aside0.mk ((by rw [hg]; exact (below_size (by repeat (first | (with_reducible first | exact HB.out | apply below_alloc | apply pw_below_drewN | apply below_drew1) | exact HB.out))) : w.heap.size ≤ gb161)); have n3_ := Aside0.mk ((by rw [hg]; exact (below_size (by repeat (first | (with_reducible first | exact HB.out | apply below_alloc | apply pw_below_drewN | apply below_drew1) | exact HB.out))) : w.heap.size ≤ gb161)); clear HB; have HB := n0_; have BK161 := n1_; have GW161 := n2_; have GE161 := n3_; clear n0_ n1_ n2_ n3_; clear hb hbox hg; have hcz12_0 : w11.cell? ⟨gb161, 0, none⟩ = some (.bool false) := (blk_cell BK161.out 0).trans rfl; have hcz12_1 : w11.cell? ⟨gb161, 1, none⟩ = some (.bool true) := (blk_cell BK161.out 1).trans rfl; have hfz12_0 := blk_frozen BK161.out 0; have hfz12_1 := blk_frozen BK161.out 1))
    go_ret
    exact ⟨by first | rfl | (simp [errW_none, errW_some] <;> rfl) | (simp [*, errW_none, errW_some] <;> rfl), by repeat (first | (with_reducible first | exact HB.out | apply below_alloc | apply pw_below_drewN | apply below_drew1 | refine below_set ?_ GE161.out) | exact HB.out)⟩
   ·rw [if_neg c10] at H
    exact absurd H (by simp)
  ·replace c9 := Bool.eq_false_iff.mpr c9
   subst c9
   have H1 : (some (⟨#[105, 110, 116]⟩ : ByteArray)) = some r := by rw [if_neg (show ¬ (false = true) by decide)] at H; exact H
   clear H
   have H := H1
   clear H1
   obtain rfl := Option.some.inj H
   go_enter Tryd.func31, Tryd.ntmps31
   go_wp2_with (first | ((with_reducible refine gate_dst (N := 1) rfl ?_); refine box_event ?hg (N := 1) ?hd (cs := #[.bool false, .bool false]) (t := 59) ?hr ?_; (case hd => rfl); (case hg => rfl); (case hr => first | (go_simp; done) | (go_simp; rfl)); intro gb161 hg w13 hbox hb; have n0_ := Aside0.mk (below_step (by repeat (first | (with_reducible first | exact HB.out | apply below_alloc | apply pw_below_drewN | apply below_drew1) | exact HB.out)) hb); have n1_ := Aside0.mk (hbox); have n2_ := Aside0.mk ((by rw [hg]; exact (below_size (by repeat (first | (with_reducible first | exact HB.out | apply below_alloc | apply pw_below_drewN | apply below_drew1) | exact HB.out))) : w.heap.size ≤ gb161)); have n3_ := Aside0.mk ((by rw [hg]; exact (below_size (by repeat (first | (with_reducible first | exact HB.out | apply below_alloc | apply pw_below_drewN | apply below_drew1) | exact HB.out))) : w.heap.size ≤ gb161)); clear HB; have HB := n0_; have BK161 := n1_; have GW161 := n2_; have GE161 := n3_; clear n0_ n1_ n2_ n3_; clear hb hbox hg; have hcz14_0 : w13.cell? ⟨gb161, 0, none⟩ = some (.bool false) := (blk_cell BK161.out 0).trans rfl; have hcz14_1 : w13.cell? ⟨gb161, 1, none⟩ = some (.bool false) := (blk_cell BK161.out 1).trans rfl; have hfz14_0 := blk_frozen BK161.out 0; have hfz14_1 := blk_frozen BK161.out 1))
   go_ret
   exact ⟨by first | rfl | (simp [errW_none, errW_some] <;> rfl) | (simp [*, errW_none, errW_some] <;> rfl), by repeat (first | (with_reducible first | exact HB.out | apply below_alloc | apply pw_below_drewN | apply below_drew1 | refine below_set ?_ GE161.out) | exact HB.out)⟩

/-! ### girandoleref02_TypeText: function 32 -/
def girandoleref02_TypeText.f (a0 : Bool) (a1 : Bool) : Option (ByteArray) := if a1 = true then (if a0 = true then (if 7 + 4 ≤ 9223372036854775807 then (some ((⟨#[102, 117, 116, 117, 114, 101, 32]⟩ : ByteArray) ++ (⟨#[98, 111, 111, 108]⟩ : ByteArray))) else (none)) else (if 7 + 3 ≤ 9223372036854775807 then (some ((⟨#[102, 117, 116, 117, 114, 101, 32]⟩ : ByteArray) ++ (⟨#[105, 110, 116]⟩ : ByteArray))) else (none))) else (if a0 = true then (if 0 + 4 ≤ 9223372036854775807 then (some ((⟨#[]⟩ : ByteArray) ++ (⟨#[98, 111, 111, 108]⟩ : ByteArray))) else (none)) else (if 0 + 3 ≤ 9223372036854775807 then (some ((⟨#[]⟩ : ByteArray) ++ (⟨#[105, 110, 116]⟩ : ByteArray))) else (none)))
set_option maxHeartbeats 8000000 in
set_option maxRecDepth 100000 in
theorem girandoleref02_TypeText.calls (a0 : Bool) (a1 : Bool) (r : ByteArray) (w : World) (h : girandoleref02_TypeText.f a0 a1 = some r) :
  Calls Tryd.prog 32 #[.bool a0, .bool a1] w fun e w' => e = .returned (.string r) ∧ Drawn0 w w' := by
 have H : (if a1 = true then (if a0 = true then (if 7 + 4 ≤ 9223372036854775807 then (some ((⟨#[102, 117, 116, 117, 114, 101, 32]⟩ : ByteArray) ++ (⟨#[98, 111, 111, 108]⟩ : ByteArray))) else (none)) else (if 7 + 3 ≤ 9223372036854775807 then (some ((⟨#[102, 117, 116, 117, 114, 101, 32]⟩ : ByteArray) ++ (⟨#[105, 110, 116]⟩ : ByteArray))) else (none))) else (if a0 = true then (if 0 + 4 ≤ 9223372036854775807 then (some ((⟨#[]⟩ : ByteArray) ++ (⟨#[98, 111, 111, 108]⟩ : ByteArray))) else (none)) else (if 0 + 3 ≤ 9223372036854775807 then (some ((⟨#[]⟩ : ByteArray) ++ (⟨#[105, 110, 116]⟩ : ByteArray))) else (none)))) = some r := h
 clear h
 by_cases c3 : a1 = true
 ·subst c3
  have H1 : (if a0 = true then (if 7 + 4 ≤ 9223372036854775807 then (some ((⟨#[102, 117, 116, 117, 114, 101, 32]⟩ : ByteArray) ++ (⟨#[98, 111, 111, 108]⟩ : ByteArray))) else (none)) else (if 7 + 3 ≤ 9223372036854775807 then (some ((⟨#[102, 117, 116, 117, 114, 101, 32]⟩ : ByteArray) ++ (⟨#[105, 110, 116]⟩ : ByteArray))) else (none))) = some r := by rw [if_pos rfl] at H; exact H
  clear H
  have H := H1
  clear H1
  by_cases c4 : a0 = true
  ·subst c4
   have H1 : (if 7 + 4 ≤ 9223372036854775807 then (some ((⟨#[102, 117, 116, 117, 114, 101, 32]⟩ : ByteArray) ++ (⟨#[98, 111, 111, 108]⟩ : ByteArray))) else (none)) = some r := by rw [if_pos rfl] at H; exact H
   clear H
   have H := H1
   clear H1
   by_cases c5 : 7 + 4 ≤ 9223372036854775807
   ·rw [if_pos c5] at H
    have c5b0 := eq_true c5
    have c5b1 : decide (7 + 4 ≤ 9223372036854775807) = true := decide_eq_true c5
    try have c5b2 : (9223372036854775807 < 7 + 4) = False := eq_false (Nat.not_lt.2 c5)
    obtain rfl := Option.some.inj H
    go_enter Tryd.func32, Tryd.ntmps32
    go_wp2
    go_ret
    exact ⟨by first | rfl | (simp; done) | (simp [*]; done), by repeat (first | exact Drawn0.refl _ | apply Drawn0.step)⟩
   ·rw [if_neg c5] at H
    exact absurd H (by simp)
  ·replace c4 := Bool.eq_false_iff.mpr c4
   subst c4
   have H1 : (if 7 + 3 ≤ 9223372036854775807 then (some ((⟨#[102, 117, 116, 117, 114, 101, 32]⟩ : ByteArray) ++ (⟨#[105, 110, 116]⟩ : ByteArray))) else (none)) = some r := by rw [if_neg (show ¬ (false = true) by decide)] at H; exact H
   clear H
   have H := H1
   clear H1
   by_cases c6 : 7 + 3 ≤ 9223372036854775807
   ·rw [if_pos c6] at H
    have c6b0 := eq_true c6
    have c6b1 : decide (7 + 3 ≤ 9223372036854775807) = true := decide_eq_true c6
    try have c6b2 : (9223372036854775807 < 7 + 3) = False := eq_false (Nat.not_lt.2 c6)
    obtain rfl := Option.some.inj H
    go_enter Tryd.func32, Tryd.ntmps32
    go_wp2
    go_ret
    exact ⟨by first | rfl | (simp; done) | (simp [*]; done), by repeat (first | exact Drawn0.refl _ | apply Drawn0.step)⟩
   ·rw [if_neg c6] at H
    exact absurd H (by simp)
 ·replace c3 := Bool.eq_false_iff.mpr c3
  subst c3
  have H1 : (if a0 = true then (if 0 + 4 ≤ 9223372036854775807 then (some ((⟨#[]⟩ : ByteArray) ++ (⟨#[98, 111, 111, 108]⟩ : ByteArray))) else (none)) else (if 0 + 3 ≤ 9223372036854775807 then (some ((⟨#[]⟩ : ByteArray) ++ (⟨#[105, 110, 116]⟩ : ByteArray))) else (none))) = some r := by rw [if_neg (show ¬ (false = true) by decide)] at H; exact H
  clear H
  have H := H1
  clear H1
  by_cases c7 : a0 = true
  ·subst c7
   have H1 : (if 0 + 4 ≤ 9223372036854775807 then (some ((⟨#[]⟩ : ByteArray) ++ (⟨#[98, 111, 111, 108]⟩ : ByteArray))) else (none)) = some r := by rw [if_pos rfl] at H; exact H
   clear H
   have H := H1
   clear H1
   by_cases c8 : 0 + 4 ≤ 9223372036854775807
   ·rw [if_pos c8] at H
    have c8b0 := eq_true c8
    have c8b1 : decide (0 + 4 ≤ 9223372036854775807) = true := decide_eq_true c8
    try have c8b2 : (9223372036854775807 < 0 + 4) = False := eq_false (Nat.not_lt.2 c8)
    obtain rfl := Option.some.inj H
    go_enter Tryd.func32, Tryd.ntmps32
    go_wp2
    go_ret
    exact ⟨by first | rfl | (simp; done) | (simp [*]; done), by repeat (first | exact Drawn0.refl _ | apply Drawn0.step)⟩
   ·rw [if_neg c8] at H
    exact absurd H (by simp)
  ·replace c7 := Bool.eq_false_iff.mpr c7
   subst c7
   have H1 : (if 0 + 3 ≤ 9223372036854775807 then (some ((⟨#[]⟩ : ByteArray) ++ (⟨#[105, 110, 116]⟩ : ByteArray))) else (none)) = some r := by rw [if_neg (show ¬ (false = true) by decide)] at H; exact H
   clear H
   have H := H1
   clear H1
   by_cases c9 : 0 + 3 ≤ 9223372036854775807
   ·rw [if_pos c9] at H
    have c9b0 := eq_true c9
    have c9b1 : decide (0 + 3 ≤ 9223372036854775807) = true := decide_eq_true c9
    try have c9b2 : (9223372036854775807 < 0 + 3) = False := eq_false (Nat.not_lt.2 c9)
    obtain rfl := Option.some.inj H
    go_enter Tryd.func32, Tryd.ntmps32
    go_wp2
    go_ret
    exact ⟨by first | rfl | (simp; done) | (simp [*]; done), by repeat (first | exact Drawn0.refl _ | apply Drawn0.step)⟩
   ·rw [if_neg c9] at H
    exact absurd H (by simp)

/-! ### girandolelaw02_TreeTypes: function 8 -/
def girandolelaw02_TreeTypes.f (a0 : Bool) (a1 : Bool) : Option (Bool) := (girandolelaw02_awake.f).bind fun t162 => (if t162 = true then ((tree_TypeText.f a0 a1).bind fun t163 => ((girandoleref02_TypeText.f a0 a1).bind fun t164 => (some (t163.toList == t164.toList)))) else (some false))
set_option maxHeartbeats 8000000 in
set_option maxRecDepth 100000 in
theorem girandolelaw02_TreeTypes.calls (a0 : Bool) (a1 : Bool) (r : Bool) (w : World) (h : girandolelaw02_TreeTypes.f a0 a1 = some r) (hT : Tabs w) :
  Calls Tryd.prog 8 #[.bool a0, .bool a1] w fun e w' => e = .returned (.bool r) ∧ Below w.heap.size w w' := by
 have HT := Aside0.mk hT
 clear hT
 have hu59 := Tryd.underlying59
 have HB := Aside0.mk (Below.refl w.heap.size w)
 have H : ((girandolelaw02_awake.f).bind fun t162 => (if t162 = true then ((tree_TypeText.f a0 a1).bind fun t163 => ((girandoleref02_TypeText.f a0 a1).bind fun t164 => (some (t163.toList == t164.toList)))) else (some false))) = some r := h
 clear h
 replace H := Option.bind_eq_some_iff.mp H
 obtain ⟨t162, A30, H⟩ := H
 replace H : (if t162 = true then ((tree_TypeText.f a0 a1).bind fun t163 => ((girandoleref02_TypeText.f a0 a1).bind fun t164 => (some (t163.toList == t164.toList)))) else (some false)) = some r := H
 have A3 := Aside0.mk A30
 clear A30
 by_cases c4 : t162 = true
 ·subst c4
  have H1 : ((tree_TypeText.f a0 a1).bind fun t163 => ((girandoleref02_TypeText.f a0 a1).bind fun t164 => (some (t163.toList == t164.toList)))) = some r := by rw [if_pos rfl] at H; exact H
  clear H
  have H := H1
  clear H1
  replace H := Option.bind_eq_some_iff.mp H
  obtain ⟨t163, A50, H⟩ := H
  replace H : ((girandoleref02_TypeText.f a0 a1).bind fun t164 => (some (t163.toList == t164.toList))) = some r := H
  have A5 := Aside0.mk A50
  clear A50
  replace H := Option.bind_eq_some_iff.mp H
  obtain ⟨t164, A60, H⟩ := H
  replace H : (some (t163.toList == t164.toList)) = some r := H
  have A6 := Aside0.mk A60
  clear A60
  obtain rfl := Option.some.inj H
  go_enter Tryd.func8, Tryd.ntmps8
  go_wp2_with (first | ((with_reducible refine gate_callee (f := 23) rfl ?_); refine goesL_ (some 5) rfl rfl Tryd.func23 (by kernel_rfl) rfl #[] rfl (by (try simp only [List.map_toArray, List.map_cons, List.map_nil]); first | done | rfl | (simp only [List.length_drop, List.length_take]; rfl)) ?_; (with_reducible refine (girandolelaw02_awake.calls  true _ A3.out ?side1).mono ?_); (case side1 => exact Tabs.below HT.out (by repeat (first | (with_reducible first | exact HB.out | apply below_alloc | apply pw_below_drewN | apply below_drew1) | exact HB.out))); rintro e w7 ⟨rfl, hb⟩; refine ⟨_, rfl, ?_⟩; have n0_ := Aside0.mk (below_step (by repeat (first | (with_reducible first | exact HB.out | apply below_alloc | apply pw_below_drewN | apply below_drew1) | exact HB.out)) hb); clear HB; have HB := n0_; clear n0_; (try clear hb); (try clear hb2); (try clear hk); (try clear hi)) | (go_at_call 31; (with_reducible refine (tree_TypeText.calls a0 a1 t163 _ A5.out).mono ?_); rintro e w8 ⟨rfl, hb⟩; have n0_ := Aside0.mk (below_step (by repeat (first | (with_reducible first | exact HB.out | apply below_alloc | apply pw_below_drewN | apply below_drew1) | exact HB.out)) hb); clear HB; have HB := n0_; clear n0_; (try clear hb); (try clear hb2); (try clear hk); (try clear hi)) | (go_at_call 32; (with_reducible refine (girandoleref02_TypeText.calls a0 a1 t164 _ A6.out).mono ?_); rintro e w' ⟨rfl, ⟨nd, rfl⟩⟩))
  go_ret
  exact ⟨by first | rfl | (simp [errW_none, errW_some] <;> rfl) | (simp [*, errW_none, errW_some] <;> rfl), by repeat (first | (with_reducible first | exact HB.out | apply below_alloc | apply pw_below_drewN | apply below_drew1) | exact HB.out)⟩
 ·replace c4 := Bool.eq_false_iff.mpr c4
  subst c4
  have H1 : (some false) = some r := by rw [if_neg (show ¬ (false = true) by decide)] at H; exact H
  clear H
  have H := H1
  clear H1
  obtain rfl := Option.some.inj H
  go_enter Tryd.func8, Tryd.ntmps8
  go_wp2_with (first | ((with_reducible refine gate_callee (f := 23) rfl ?_); refine goesL_ (some 5) rfl rfl Tryd.func23 (by kernel_rfl) rfl #[] rfl (by (try simp only [List.map_toArray, List.map_cons, List.map_nil]); first | done | rfl | (simp only [List.length_drop, List.length_take]; rfl)) ?_; (with_reducible refine (girandolelaw02_awake.calls  false _ A3.out ?side1).mono ?_); (case side1 => exact Tabs.below HT.out (by repeat (first | (with_reducible first | exact HB.out | apply below_alloc | apply pw_below_drewN | apply below_drew1) | exact HB.out))); rintro e w9 ⟨rfl, hb⟩; refine ⟨_, rfl, ?_⟩; have n0_ := Aside0.mk (below_step (by repeat (first | (with_reducible first | exact HB.out | apply below_alloc | apply pw_below_drewN | apply below_drew1) | exact HB.out)) hb); clear HB; have HB := n0_; clear n0_; (try clear hb); (try clear hb2); (try clear hk); (try clear hi)))
  go_ret
  exact ⟨by first | rfl | (simp [errW_none, errW_some] <;> rfl) | (simp [*, errW_none, errW_some] <;> rfl), by repeat (first | (with_reducible first | exact HB.out | apply below_alloc | apply pw_below_drewN | apply below_drew1) | exact HB.out)⟩

/-- THE ONE PURE STATEMENT of girandolelaw02_TreeTypes: yours. -/
def girandolelaw02_TreeTypes.Pure : Prop := ∀ (a0 : Bool) (a1 : Bool), girandolelaw02_TreeTypes.f a0 a1 = some true
theorem girandolelaw02_TreeTypes.walk (P : girandolelaw02_TreeTypes.Pure) (a0 : Bool) (a1 : Bool) (w : World)  (hT : Tabs w) :
  Calls Tryd.prog 8 #[.bool a0, .bool a1] w fun e w' => e = .returned (.bool true) ∧ Below w.heap.size w w' := by
 have h := P a0 a1 
 refine (girandolelaw02_TreeTypes.calls a0 a1 true w h hT).mono ?_
 rintro e w' ⟨rfl, hd⟩
 exact ⟨rfl, hd⟩

end Go.Proofs.YtnlkjimpefebbaaDoor.XT
