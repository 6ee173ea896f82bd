-- Written by a program of this session (wip/xprint) out of the translation.
import Derived.Test.YtnlkjimpefebbaaDoorXTx0
import Derived.Test.YtnlkjimpefebbaaDoorXTx1
import Derived.Test.YtnlkjimpefebbaaDoorXTx2
namespace Go.Proofs.YtnlkjimpefebbaaDoor.XT
open Go.RowKit Go.Proofs.YtnlkjimpefebbaaDoorW.PrintWords Go.Proofs.YtnlkjimpefebbaaDoorW.PrintLast Go.Proofs.YtnlkjimpefebbaaDoorW.PrintMore
attribute [local go_sem] max2_int min2_int max_two min_two max_three min_three max_four min_four   -- for this text's walks alone
set_option linter.unusedVariables false
set_option linter.unusedSimpArgs false

/-! ### tree_Text: function 29 -/
def tree_Text.T15 : Bool × List (List Nat × List Nat) := (true, [([], []), ([0], [0]), ([1], [1]), ([2], [2]), ([3], [3]), ([4], [4]), ([5], [5]), ([], []), ([7], [7]), ([8], [8]), ([9], [9]), ([10, 4], [10]), ([6, 11], [6, 11]), ([12], [12]), ([], []), ([14], [14]), ([15], [15]), ([16], [16]), ([17, 11], [17]), ([13, 18], [13, 18]), ([19, 18, 0, 1, 2, 3, 4, 5, 6, 7, 8, 9, 10, 11, 12, 13, 14, 15, 16, 17, 18, 19], [19])])
def tree_Text.B15 : List Nat := [0, 1, 3, 7, 15, 31, 63, 0, 128, 384, 896, 1951, 4095, 8191, 0, 16384, 49152, 114688, 249759, 524287, 1048575]
theorem tree_Text.tab15 : rtab .any (opsOf Tryd.f29 15) = tree_Text.T15 := by kernel_rfl
theorem tree_Text.bits15 : waitsOk tree_Text.T15.2 tree_Text.B15 = true := by kernel_rfl
def tree_Text.T17 : Bool × List (List Nat × List Nat) := (true, [([], []), ([0], [0]), ([1], [1]), ([2], [2]), ([3], [3]), ([4], [4]), ([], []), ([6], [6]), ([7], [7]), ([8], [8]), ([9, 4], [9]), ([5, 10], [5, 10]), ([11, 10, 0, 1, 2, 3, 4, 5, 6, 7, 8, 9, 10, 11], [11])])
def tree_Text.B17 : List Nat := [0, 1, 3, 7, 15, 31, 0, 64, 192, 448, 991, 2047, 4095]
theorem tree_Text.tab17 : rtab .any (opsOf Tryd.f29 17) = tree_Text.T17 := by kernel_rfl
theorem tree_Text.bits17 : waitsOk tree_Text.T17.2 tree_Text.B17 = true := by kernel_rfl
def tree_Text.T19 : Bool × List (List Nat × List Nat) := (true, [([], []), ([0], [0]), ([1], [1]), ([2], [2]), ([3], [3]), ([4], [4]), ([], []), ([6], [6]), ([7], [7]), ([8], [8]), ([9, 4], [9]), ([5, 10], [5, 10]), ([11, 10, 0, 1, 2, 3, 4, 5, 6, 7, 8, 9, 10, 11], [11])])
def tree_Text.B19 : List Nat := [0, 1, 3, 7, 15, 31, 0, 64, 192, 448, 991, 2047, 4095]
theorem tree_Text.tab19 : rtab .any (opsOf Tryd.f29 19) = tree_Text.T19 := by kernel_rfl
theorem tree_Text.bits19 : waitsOk tree_Text.T19.2 tree_Text.B19 = true := by kernel_rfl
def tree_Text.T23 : Bool × List (List Nat × List Nat) := (true, [([], []), ([0], [0]), ([1], [1]), ([2], [2]), ([3], [3]), ([], []), ([5], [5]), ([], []), ([7], [7]), ([6, 8, 4], [6, 8]), ([4, 9], [4, 9]), ([10, 9, 0, 1, 2, 3, 4, 5, 6, 7, 8, 9, 10], [10])])
def tree_Text.B23 : List Nat := [0, 1, 3, 7, 15, 0, 32, 0, 128, 511, 1023, 2047]
theorem tree_Text.tab23 : rtab .any (opsOf Tryd.f29 23) = tree_Text.T23 := by kernel_rfl
theorem tree_Text.bits23 : waitsOk tree_Text.T23.2 tree_Text.B23 = true := by kernel_rfl
def tree_Text.T25 : Bool × List (List Nat × List Nat) := (true, [([], []), ([0], [0]), ([1], [1]), ([2], [2]), ([], []), ([4], [4]), ([5], [5]), ([6], [6]), ([7], [7]), ([3, 8], [3, 8]), ([9], [9]), ([], []), ([11], [11]), ([12], [12]), ([13], [13]), ([14, 8], [14]), ([10, 15], [10, 15]), ([16], [16]), ([17, 15, 0, 1, 2, 3, 4, 5, 6, 7, 8, 9, 10, 11, 12, 13, 14, 15, 16, 17], [17])])
def tree_Text.B25 : List Nat := [0, 1, 3, 7, 0, 16, 48, 112, 240, 511, 1023, 0, 2048, 6144, 14336, 31216, 65535, 131071, 262143]
theorem tree_Text.tab25 : rtab .any (opsOf Tryd.f29 25) = tree_Text.T25 := by kernel_rfl
theorem tree_Text.bits25 : waitsOk tree_Text.T25.2 tree_Text.B25 = true := by kernel_rfl
def tree_Text.T27 : Bool × List (List Nat × List Nat) := (true, [([], []), ([0], [0]), ([1], [1]), ([], []), ([3], [3]), ([4], [4]), ([2, 5], [2, 5]), ([6], [6]), ([7, 5, 0, 1, 2, 3, 4, 5, 6, 7], [7])])
def tree_Text.B27 : List Nat := [0, 1, 3, 0, 8, 24, 63, 127, 255]
theorem tree_Text.tab27 : rtab .any (opsOf Tryd.f29 27) = tree_Text.T27 := by kernel_rfl
theorem tree_Text.bits27 : waitsOk tree_Text.T27.2 tree_Text.B27 = true := by kernel_rfl
def tree_Text.T30 : Bool × List (List Nat × List Nat) := (true, [([], []), ([0], [0]), ([1], [1]), ([2], [2]), ([], []), ([4], [4]), ([5], [5]), ([3, 6], [3, 6]), ([7], [7]), ([8, 6, 0, 1, 2, 3, 4, 5, 6, 7, 8], [8])])
def tree_Text.B30 : List Nat := [0, 1, 3, 7, 0, 16, 48, 127, 255, 511]
theorem tree_Text.tab30 : rtab .any (opsOf Tryd.f29 30) = tree_Text.T30 := by kernel_rfl
theorem tree_Text.bits30 : waitsOk tree_Text.T30.2 tree_Text.B30 = true := by kernel_rfl
set_option maxHeartbeats 8000000 in
set_option maxRecDepth 100000 in
theorem tree_Text.step (k : Nat) (ih_70 : ∀ m, m < k → tree_at.Stmt m) (ih_69 : ∀ m, m < k → tree_neg.Stmt m) (ih_71 : ∀ m, m < k → tree_binary.Stmt m) (ih_73 : ∀ m, m < k → tree_list.Stmt m) (ih_29 : ∀ m, m < k → tree_Text.Stmt m) : ∀ (a0_0 : Int) (a0_1 : Int) (a0_2 : Int) (a0_3 : ByteArray) (a0_4 : Bool) (A0_5 : Option Addr) (c0_5 : Nat) (l0_5 : List (S51)) (r : ByteArray) (w : World) (hr0_5 : Kd.C k51 w A0_5 l0_5.length l0_5) (hc0_5 : l0_5.length ≤ c0_5) (h : tree_Text.f k a0_0 a0_1 a0_2 a0_3 a0_4 l0_5 = some r) (hT : Tabs w),
  Calls Tryd.prog 29 #[.agg #[.int .i64 a0_0, .int .i64 a0_1, .int .i64 a0_2, .string a0_3, .bool a0_4, .slice A0_5 l0_5.length c0_5]] w fun e w' => e = .returned (.string r) ∧ Below w.heap.size w w' := by
 intro a0_0 a0_1 a0_2 a0_3 a0_4 A0_5 c0_5 l0_5 r w hr0_5 hc0_5 h hT
 cases k with
 | zero => exact absurd h (by simp [tree_Text.f])
 | succ k =>
 simp only [tree_Text.f] at h
 have HT := Aside0.mk hT
 clear hT
 have hu51 := Tryd.underlying51
 have HR0_5 := Aside0.mk hr0_5
 have HC0_5 := Aside0.mk hc0_5
 clear hr0_5 hc0_5
 have HB := Aside0.mk (Below.refl w.heap.size w)
 have H : (if a0_0 = 1 then ((strconv_FormatInt.f a0_2 10).bind fun t129 => (some t129)) else (if a0_0 = 2 then ((strconv_FormatBool.f (a0_2 == 1)).bind fun t130 => (some t130)) else (if a0_0 = 3 then (some a0_3) else (if a0_0 = 4 then (if 0 < (l0_5.length : Int) then ((tree_neg.f k ((rd_T51 l0_5 0).f0) ((rd_T51 l0_5 0).f1) ((rd_T51 l0_5 0).f2) ((rd_T51 l0_5 0).f3) ((rd_T51 l0_5 0).f4) ((rd_T51 l0_5 0).f5)).bind fun t132 => (some t132)) else (none)) else (if a0_0 = 5 then (if 0 < (l0_5.length : Int) then ((tree_at.f k ((rd_T51 l0_5 0).f0) ((rd_T51 l0_5 0).f1) ((rd_T51 l0_5 0).f2) ((rd_T51 l0_5 0).f3) ((rd_T51 l0_5 0).f4) ((rd_T51 l0_5 0).f5) 4).bind fun t134 => (if 4 + t134.size ≤ 9223372036854775807 then (some ((⟨#[110, 111, 116, 32]⟩ : ByteArray) ++ t134)) else (none))) else (none)) else (if a0_0 = 6 then ((tree_binary.f k a0_0 a0_1 a0_2 a0_3 a0_4 l0_5).bind fun t135 => (some t135)) else (if a0_0 = 7 then (if 0 < (l0_5.length : Int) then ((tree_Text.f k ((rd_T51 l0_5 0).f0) ((rd_T51 l0_5 0).f1) ((rd_T51 l0_5 0).f2) ((rd_T51 l0_5 0).f3) ((rd_T51 l0_5 0).f4) ((rd_T51 l0_5 0).f5)).bind fun t137 => (if 3 + t137.size ≤ 9223372036854775807 then (if ((⟨#[105, 102, 32]⟩ : ByteArray) ++ t137).size + 6 ≤ 9223372036854775807 then (if 1 < (l0_5.length : Int) then ((tree_Text.f k ((rd_T51 l0_5 1).f0) ((rd_T51 l0_5 1).f1) ((rd_T51 l0_5 1).f2) ((rd_T51 l0_5 1).f3) ((rd_T51 l0_5 1).f4) ((rd_T51 l0_5 1).f5)).bind fun t139 => (if (((⟨#[105, 102, 32]⟩ : ByteArray) ++ t137) ++ (⟨#[32, 116, 104, 101, 110, 32]⟩ : ByteArray)).size + t139.size ≤ 9223372036854775807 then (if ((((⟨#[105, 102, 32]⟩ : ByteArray) ++ t137) ++ (⟨#[32, 116, 104, 101, 110, 32]⟩ : ByteArray)) ++ t139).size + 6 ≤ 9223372036854775807 then (if 2 < (l0_5.length : Int) then ((tree_Text.f k ((rd_T51 l0_5 2).f0) ((rd_T51 l0_5 2).f1) ((rd_T51 l0_5 2).f2) ((rd_T51 l0_5 2).f3) ((rd_T51 l0_5 2).f4) ((rd_T51 l0_5 2).f5)).bind fun t141 => (if (((((⟨#[105, 102, 32]⟩ : ByteArray) ++ t137) ++ (⟨#[32, 116, 104, 101, 110, 32]⟩ : ByteArray)) ++ t139) ++ (⟨#[32, 101, 108, 115, 101, 32]⟩ : ByteArray)).size + t141.size ≤ 9223372036854775807 then (some ((((((⟨#[105, 102, 32]⟩ : ByteArray) ++ t137) ++ (⟨#[32, 116, 104, 101, 110, 32]⟩ : ByteArray)) ++ t139) ++ (⟨#[32, 101, 108, 115, 101, 32]⟩ : ByteArray)) ++ t141)) else (none))) else (none)) else (none)) else (none))) else (none)) else (none)) else (none))) else (none)) else (if a0_0 = 8 then (if 0 < (l0_5.length : Int) then ((tree_at.f k ((rd_T51 l0_5 0).f0) ((rd_T51 l0_5 0).f1) ((rd_T51 l0_5 0).f2) ((rd_T51 l0_5 0).f3) ((rd_T51 l0_5 0).f4) ((rd_T51 l0_5 0).f5) 2).bind fun t143 => (if t143.size + 4 ≤ 9223372036854775807 then (if 1 < (l0_5.length : Int) then ((tree_at.f k ((rd_T51 l0_5 1).f0) ((rd_T51 l0_5 1).f1) ((rd_T51 l0_5 1).f2) ((rd_T51 l0_5 1).f3) ((rd_T51 l0_5 1).f4) ((rd_T51 l0_5 1).f5) 1).bind fun t145 => (if (t143 ++ (⟨#[32, 45, 62, 32]⟩ : ByteArray)).size + t145.size ≤ 9223372036854775807 then (some ((t143 ++ (⟨#[32, 45, 62, 32]⟩ : ByteArray)) ++ t145)) else (none))) else (none)) else (none))) else (none)) else (if a0_0 = 9 then (if 0 < (l0_5.length : Int) then ((tree_Text.f k ((rd_T51 l0_5 0).f0) ((rd_T51 l0_5 0).f1) ((rd_T51 l0_5 0).f2) ((rd_T51 l0_5 0).f3) ((rd_T51 l0_5 0).f4) ((rd_T51 l0_5 0).f5)).bind fun t147 => (if t147.size + 5 ≤ 9223372036854775807 then (if 1 < (l0_5.length : Int) then ((tree_at.f k ((rd_T51 l0_5 1).f0) ((rd_T51 l0_5 1).f1) ((rd_T51 l0_5 1).f2) ((rd_T51 l0_5 1).f3) ((rd_T51 l0_5 1).f4) ((rd_T51 l0_5 1).f5) 1).bind fun t149 => (if (t147 ++ (⟨#[32, 102, 98, 121, 32]⟩ : ByteArray)).size + t149.size ≤ 9223372036854775807 then (some ((t147 ++ (⟨#[32, 102, 98, 121, 32]⟩ : ByteArray)) ++ t149)) else (none))) else (none)) else (none))) else (none)) else (if a0_0 = 10 then (if 0 < (l0_5.length : Int) then ((tree_at.f k ((rd_T51 l0_5 0).f0) ((rd_T51 l0_5 0).f1) ((rd_T51 l0_5 0).f2) ((rd_T51 l0_5 0).f3) ((rd_T51 l0_5 0).f4) ((rd_T51 l0_5 0).f5) 8).bind fun t151 => (if 4 + t151.size ≤ 9223372036854775807 then (some ((⟨#[112, 114, 101, 32]⟩ : ByteArray) ++ t151)) else (none))) else (none)) else (if a0_0 = 11 then (if 0 < (l0_5.length : Int) then ((tree_at.f k ((rd_T51 l0_5 0).f0) ((rd_T51 l0_5 0).f1) ((rd_T51 l0_5 0).f2) ((rd_T51 l0_5 0).f3) ((rd_T51 l0_5 0).f4) ((rd_T51 l0_5 0).f5) 9).bind fun t153 => ((tree_clock.f a0_3 a0_4).bind fun t154 => (if t153.size + t154.size ≤ 9223372036854775807 then (some (t153 ++ t154)) else (none)))) else (none)) else (if a0_0 = 12 then (if 6 + a0_3.size ≤ 9223372036854775807 then (if ((⟨#[109, 101, 114, 103, 101, 32]⟩ : ByteArray) ++ a0_3).size + 2 ≤ 9223372036854775807 then (if 0 < (l0_5.length : Int) then ((tree_Text.f k ((rd_T51 l0_5 0).f0) ((rd_T51 l0_5 0).f1) ((rd_T51 l0_5 0).f2) ((rd_T51 l0_5 0).f3) ((rd_T51 l0_5 0).f4) ((rd_T51 l0_5 0).f5)).bind fun t156 => (if (((⟨#[109, 101, 114, 103, 101, 32]⟩ : ByteArray) ++ a0_3) ++ (⟨#[32, 40]⟩ : ByteArray)).size + t156.size ≤ 9223372036854775807 then (if ((((⟨#[109, 101, 114, 103, 101, 32]⟩ : ByteArray) ++ a0_3) ++ (⟨#[32, 40]⟩ : ByteArray)) ++ t156).size + 3 ≤ 9223372036854775807 then (if 1 < (l0_5.length : Int) then ((tree_Text.f k ((rd_T51 l0_5 1).f0) ((rd_T51 l0_5 1).f1) ((rd_T51 l0_5 1).f2) ((rd_T51 l0_5 1).f3) ((rd_T51 l0_5 1).f4) ((rd_T51 l0_5 1).f5)).bind fun t158 => (if (((((⟨#[109, 101, 114, 103, 101, 32]⟩ : ByteArray) ++ a0_3) ++ (⟨#[32, 40]⟩ : ByteArray)) ++ t156) ++ (⟨#[41, 32, 40]⟩ : ByteArray)).size + t158.size ≤ 9223372036854775807 then (if ((((((⟨#[109, 101, 114, 103, 101, 32]⟩ : ByteArray) ++ a0_3) ++ (⟨#[32, 40]⟩ : ByteArray)) ++ t156) ++ (⟨#[41, 32, 40]⟩ : ByteArray)) ++ t158).size + 1 ≤ 9223372036854775807 then (some (((((((⟨#[109, 101, 114, 103, 101, 32]⟩ : ByteArray) ++ a0_3) ++ (⟨#[32, 40]⟩ : ByteArray)) ++ t156) ++ (⟨#[41, 32, 40]⟩ : ByteArray)) ++ t158) ++ (⟨#[41]⟩ : ByteArray))) else (none)) else (none))) else (none)) else (none)) else (none))) else (none)) else (none)) else (none)) else (if a0_0 = 13 then (if a0_3.size + 1 ≤ 9223372036854775807 then ((tree_list.f k l0_5).bind fun t159 => (if (a0_3 ++ (⟨#[40]⟩ : ByteArray)).size + t159.size ≤ 9223372036854775807 then (if ((a0_3 ++ (⟨#[40]⟩ : ByteArray)) ++ t159).size + 1 ≤ 9223372036854775807 then (some (((a0_3 ++ (⟨#[40]⟩ : ByteArray)) ++ t159) ++ (⟨#[41]⟩ : ByteArray))) else (none)) else (none))) else (none)) else (if (l0_5.length : Int) = 0 then (if 6 + a0_3.size ≤ 9223372036854775807 then (some ((⟨#[97, 119, 97, 105, 116, 32]⟩ : ByteArray) ++ a0_3)) else (none)) else (if 6 + a0_3.size ≤ 9223372036854775807 then (if ((⟨#[97, 119, 97, 105, 116, 32]⟩ : ByteArray) ++ a0_3).size + 8 ≤ 9223372036854775807 then ((tree_list.f k l0_5).bind fun t160 => (if (((⟨#[97, 119, 97, 105, 116, 32]⟩ : ByteArray) ++ a0_3) ++ (⟨#[32, 97, 102, 116, 101, 114, 32, 40]⟩ : ByteArray)).size + t160.size ≤ 9223372036854775807 then (if ((((⟨#[97, 119, 97, 105, 116, 32]⟩ : ByteArray) ++ a0_3) ++ (⟨#[32, 97, 102, 116, 101, 114, 32, 40]⟩ : ByteArray)) ++ t160).size + 1 ≤ 9223372036854775807 then (some (((((⟨#[97, 119, 97, 105, 116, 32]⟩ : ByteArray) ++ a0_3) ++ (⟨#[32, 97, 102, 116, 101, 114, 32, 40]⟩ : ByteArray)) ++ t160) ++ (⟨#[41]⟩ : ByteArray))) else (none)) else (none))) else (none)) else (none)))))))))))))))) = some r := h
 clear h
 by_cases c2 : a0_0 = 1
 ·rw [if_pos c2] at H
  have c2b0 : (a0_0 == 1) = true := beq_iff_eq.mpr c2
  have c2b1 : (a0_0 != 1) = false := bne_eq_false_iff_eq.mpr c2
  clear c2
  replace H := Option.bind_eq_some_iff.mp H
  obtain ⟨t129, A30, H⟩ := H
  replace H : (some t129) = some r := H
  have A3 := Aside0.mk A30
  clear A30
  obtain rfl := Option.some.inj H
  go_enter Tryd.func29, Tryd.ntmps29
  go_wp2_with (first | ((with_reducible refine gate_dst (N := 1) rfl ?_); refine box_event ?hg (N := 1) ?hd (cs := #[.int .i64 a0_0, .int .i64 a0_1, .int .i64 a0_2, .string a0_3, .bool a0_4, .slice A0_5 l0_5.length c0_5]) (t := 51) ?hr ?_; (case hd => rfl); (case hg => rfl); (case hr => first | (go_simp; done) | (go_simp; rfl)); intro gb128 hg w4 hbox hb; have n0_ := Aside0.mk (below_step (by repeat (first | (with_reducible first | exact HB.out | apply below_alloc | apply pw_below_drewN | apply below_drew1) | exact HB.out)) hb); have n1_ := Aside0.mk (hbox); have n2_ := Aside0.mk ((by rw [hg]; exact (below_size (by repeat (first | (with_reducible first | exact HB.out | apply below_alloc | apply pw_below_drewN | apply below_drew1) | exact HB.out))) : w.heap.size ≤ gb128)); have n3_ := Aside0.mk ((by rw [hg]; exact (below_size (by repeat (first | (with_reducible first | exact HB.out | apply below_alloc | apply pw_below_drewN | apply below_drew1) | exact HB.out))) : w.heap.size ≤ gb128)); clear HB; have HB := n0_; have BK128 := n1_; have GW128 := n2_; have GE128 := n3_; clear n0_ n1_ n2_ n3_; clear hb hbox hg; have hcz5_0 : w4.cell? ⟨gb128, 0, none⟩ = some (.int .i64 a0_0) := (blk_cell BK128.out 0).trans rfl; have hcz5_1 : w4.cell? ⟨gb128, 1, none⟩ = some (.int .i64 a0_1) := (blk_cell BK128.out 1).trans rfl; have hcz5_2 : w4.cell? ⟨gb128, 2, none⟩ = some (.int .i64 a0_2) := (blk_cell BK128.out 2).trans rfl; have hcz5_3 : w4.cell? ⟨gb128, 3, none⟩ = some (.string a0_3) := (blk_cell BK128.out 3).trans rfl; have hcz5_4 : w4.cell? ⟨gb128, 4, none⟩ = some (.bool a0_4) := (blk_cell BK128.out 4).trans rfl; have hcz5_5 : w4.cell? ⟨gb128, 5, none⟩ = some (.slice A0_5 l0_5.length c0_5) := (blk_cell BK128.out 5).trans rfl; have hfz5_0 := blk_frozen BK128.out 0; have hfz5_1 := blk_frozen BK128.out 1; have hfz5_2 := blk_frozen BK128.out 2; have hfz5_3 := blk_frozen BK128.out 3; have hfz5_4 := blk_frozen BK128.out 4; have hfz5_5 := blk_frozen BK128.out 5) | ((with_reducible refine gate_callee (f := 67) rfl ?_); refine goesL_ (some 9) rfl rfl Tryd.func67 (by kernel_rfl) rfl #[.int .i64 a0_2, .int .i64 10] rfl (by (try simp only [List.map_toArray, List.map_cons, List.map_nil]); first | done | rfl | (simp only [List.length_drop, List.length_take]; rfl)) ?_; (with_reducible refine (strconv_FormatInt.calls a0_2 10 t129 _ A3.out ?side1).mono ?_); (case side1 => exact Tabs.below HT.out (by repeat (first | (with_reducible first | exact HB.out | apply below_alloc | apply pw_below_drewN | apply below_drew1 | refine below_set ?_ GE128.out) | exact HB.out))); rintro e w6 ⟨rfl, hb⟩; refine ⟨_, rfl, ?_⟩; have n0_ := Aside0.mk (blk_below (g := gb128) (o := .cells #[.int .i64 a0_0, .int .i64 a0_1, .int .i64 a0_2, .string a0_3, .bool a0_4, .slice A0_5 l0_5.length c0_5] 51 (0, 0)) (by (with_reducible repeat (first | refine blk_drewN ?_ _ | refine blk_drew ?_ | refine blk_alloc ?_ _)); exact BK128.out) hb); have n1_ := Aside0.mk (below_step (by repeat (first | (with_reducible first | exact HB.out | apply below_alloc | apply pw_below_drewN | apply below_drew1 | refine below_set ?_ GE128.out) | exact HB.out)) hb); clear BK128; clear HB; have BK128 := n0_; have HB := n1_; clear n0_ n1_; (try clear hb); (try clear hb2); (try clear hk); (try clear hi)))
  go_ret
  exact ⟨by first | rfl | (simp [errW_none, errW_some] <;> rfl) | (simp [*, errW_none, errW_some] <;> rfl), by repeat (first | (with_reducible first | exact HB.out | apply below_alloc | apply pw_below_drewN | apply below_drew1 | refine below_set ?_ GE128.out) | exact HB.out)⟩
 ·rw [if_neg c2] at H
  have c2b0 : (a0_0 == 1) = false := beq_eq_false_iff_ne.mpr c2
  have c2b1 : (a0_0 != 1) = true := bne_iff_ne.mpr c2
  by_cases c7 : a0_0 = 2
  ·rw [if_pos c7] at H
   have c7b0 : (a0_0 == 2) = true := beq_iff_eq.mpr c7
   have c7b1 : (a0_0 != 2) = false := bne_eq_false_iff_eq.mpr c7
   clear c7
   replace H := Option.bind_eq_some_iff.mp H
   obtain ⟨t130, A80, H⟩ := H
   replace H : (some t130) = some r := H
   have A8 := Aside0.mk A80
   clear A80
   obtain rfl := Option.some.inj H
   go_enter Tryd.func29, Tryd.ntmps29
   go_wp2_with (first | ((with_reducible refine gate_dst (N := 1) rfl ?_); refine box_event ?hg (N := 1) ?hd (cs := #[.int .i64 a0_0, .int .i64 a0_1, .int .i64 a0_2, .string a0_3, .bool a0_4, .slice A0_5 l0_5.length c0_5]) (t := 51) ?hr ?_; (case hd => rfl); (case hg => rfl); (case hr => first | (go_simp; done) | (go_simp; rfl)); intro gb128 hg w9 hbox hb; have n0_ := Aside0.mk (below_step (by repeat (first | (with_reducible first | exact HB.out | apply below_alloc | apply pw_below_drewN | apply below_drew1) | exact HB.out)) hb); have n1_ := Aside0.mk (hbox); have n2_ := Aside0.mk ((by rw [hg]; exact (below_size (by repeat (first | (with_reducible first | exact HB.out | apply below_alloc | apply pw_below_drewN | apply below_drew1) | exact HB.out))) : w.heap.size ≤ gb128)); have n3_ := Aside0.mk ((by rw [hg]; exact (below_size (by repeat (first | (with_reducible first | exact HB.out | apply below_alloc | apply pw_below_drewN | apply below_drew1) | exact HB.out))) : w.heap.size ≤ gb128)); clear HB; have HB := n0_; have BK128 := n1_; have GW128 := n2_; have GE128 := n3_; clear n0_ n1_ n2_ n3_; clear hb hbox hg; have hcz10_0 : w9.cell? ⟨gb128, 0, none⟩ = some (.int .i64 a0_0) := (blk_cell BK128.out 0).trans rfl; have hcz10_1 : w9.cell? ⟨gb128, 1, none⟩ = some (.int .i64 a0_1) := (blk_cell BK128.out 1).trans rfl; have hcz10_2 : w9.cell? ⟨gb128, 2, none⟩ = some (.int .i64 a0_2) := (blk_cell BK128.out 2).trans rfl; have hcz10_3 : w9.cell? ⟨gb128, 3, none⟩ = some (.string a0_3) := (blk_cell BK128.out 3).trans rfl; have hcz10_4 : w9.cell? ⟨gb128, 4, none⟩ = some (.bool a0_4) := (blk_cell BK128.out 4).trans rfl; have hcz10_5 : w9.cell? ⟨gb128, 5, none⟩ = some (.slice A0_5 l0_5.length c0_5) := (blk_cell BK128.out 5).trans rfl; have hfz10_0 := blk_frozen BK128.out 0; have hfz10_1 := blk_frozen BK128.out 1; have hfz10_2 := blk_frozen BK128.out 2; have hfz10_3 := blk_frozen BK128.out 3; have hfz10_4 := blk_frozen BK128.out 4; have hfz10_5 := blk_frozen BK128.out 5) | ((with_reducible refine gate_callee (f := 68) rfl ?_); refine goesL_ (some 15) rfl rfl Tryd.func68 (by kernel_rfl) rfl #[.bool (a0_2 == 1)] rfl (by (try simp only [List.map_toArray, List.map_cons, List.map_nil]); first | done | rfl | (simp only [List.length_drop, List.length_take]; rfl)) ?_; (with_reducible refine (strconv_FormatBool.calls (a0_2 == 1) t130 _ A8.out).mono ?_); rintro e w' ⟨rfl, ⟨nd, rfl⟩⟩; refine ⟨_, rfl, ?_⟩))
   go_ret
   exact ⟨by first | rfl | (simp [errW_none, errW_some] <;> rfl) | (simp [*, errW_none, errW_some] <;> rfl), by repeat (first | (with_reducible first | exact HB.out | apply below_alloc | apply pw_below_drewN | apply below_drew1 | refine below_set ?_ GE128.out) | exact HB.out)⟩
  ·rw [if_neg c7] at H
   have c7b0 : (a0_0 == 2) = false := beq_eq_false_iff_ne.mpr c7
   have c7b1 : (a0_0 != 2) = true := bne_iff_ne.mpr c7
   by_cases c11 : a0_0 = 3
   ·rw [if_pos c11] at H
    have c11b0 : (a0_0 == 3) = true := beq_iff_eq.mpr c11
    have c11b1 : (a0_0 != 3) = false := bne_eq_false_iff_eq.mpr c11
    clear c11
    obtain rfl := Option.some.inj H
    go_enter Tryd.func29, Tryd.ntmps29
    go_wp2_with (first | ((with_reducible refine gate_dst (N := 1) rfl ?_); refine box_event ?hg (N := 1) ?hd (cs := #[.int .i64 a0_0, .int .i64 a0_1, .int .i64 a0_2, .string a0_3, .bool a0_4, .slice A0_5 l0_5.length c0_5]) (t := 51) ?hr ?_; (case hd => rfl); (case hg => rfl); (case hr => first | (go_simp; done) | (go_simp; rfl)); intro gb128 hg w12 hbox hb; have n0_ := Aside0.mk (below_step (by repeat (first | (with_reducible first | exact HB.out | apply below_alloc | apply pw_below_drewN | apply below_drew1) | exact HB.out)) hb); have n1_ := Aside0.mk (hbox); have n2_ := Aside0.mk ((by rw [hg]; exact (below_size (by repeat (first | (with_reducible first | exact HB.out | apply below_alloc | apply pw_below_drewN | apply below_drew1) | exact HB.out))) : w.heap.size ≤ gb128)); have n3_ := Aside0.mk ((by rw [hg]; exact (below_size (by repeat (first | (with_reducible first | exact HB.out | apply below_alloc | apply pw_below_drewN | apply below_drew1) | exact HB.out))) : w.heap.size ≤ gb128)); clear HB; have HB := n0_; have BK128 := n1_; have GW128 := n2_; have GE128 := n3_; clear n0_ n1_ n2_ n3_; clear hb hbox hg; have hcz13_0 : w12.cell? ⟨gb128, 0, none⟩ = some (.int .i64 a0_0) := (blk_cell BK128.out 0).trans rfl; have hcz13_1 : w12.cell? ⟨gb128, 1, none⟩ = some (.int .i64 a0_1) := (blk_cell BK128.out 1).trans rfl; have hcz13_2 : w12.cell? ⟨gb128, 2, none⟩ = some (.int .i64 a0_2) := (blk_cell BK128.out 2).trans rfl; have hcz13_3 : w12.cell? ⟨gb128, 3, none⟩ = some (.string a0_3) := (blk_cell BK128.out 3).trans rfl; have hcz13_4 : w12.cell? ⟨gb128, 4, none⟩ = some (.bool a0_4) := (blk_cell BK128.out 4).trans rfl; have hcz13_5 : w12.cell? ⟨gb128, 5, none⟩ = some (.slice A0_5 l0_5.length c0_5) := (blk_cell BK128.out 5).trans rfl; have hfz13_0 := blk_frozen BK128.out 0; have hfz13_1 := blk_frozen BK128.out 1; have hfz13_2 := blk_frozen BK128.out 2; have hfz13_3 := blk_frozen BK128.out 3; have hfz13_4 := blk_frozen BK128.out 4; have hfz13_5 := blk_frozen BK128.out 5))
    go_ret
    exact ⟨by first | rfl | (simp [errW_none, errW_some] <;> rfl) | (simp [*, errW_none, errW_some] <;> rfl), by repeat (first | (with_reducible first | exact HB.out | apply below_alloc | apply pw_below_drewN | apply below_drew1 | refine below_set ?_ GE128.out) | exact HB.out)⟩
   ·rw [if_neg c11] at H
    have c11b0 : (a0_0 == 3) = false := beq_eq_false_iff_ne.mpr c11
    have c11b1 : (a0_0 != 3) = true := bne_iff_ne.mpr c11
    by_cases c14 : a0_0 = 4
    ·rw [if_pos c14] at H
     have c14b0 : (a0_0 == 4) = true := beq_iff_eq.mpr c14
     have c14b1 : (a0_0 != 4) = false := bne_eq_false_iff_eq.mpr c14
     clear c14
     by_cases c15 : 0 < (l0_5.length : Int)
     ·rw [if_pos c15] at H
      have c15b0 : decide (0 < (l0_5.length : Int)) = true := decide_eq_true c15
      have c15b1 : decide (0 < l0_5.length) = true := decide_eq_true (by omega)
      clear c15
      replace H := Option.bind_eq_some_iff.mp H
      obtain ⟨t132, A160, H⟩ := H
      replace H : (some t132) = some r := H
      have A16 := Aside0.mk A160
      clear A160
      obtain rfl := Option.some.inj H
      go_enter Tryd.func29, Tryd.ntmps29
      go_wp2_with (first | ((with_reducible refine gate_dst (N := 1) rfl ?_); refine box_event ?hg (N := 1) ?hd (cs := #[.int .i64 a0_0, .int .i64 a0_1, .int .i64 a0_2, .string a0_3, .bool a0_4, .slice A0_5 l0_5.length c0_5]) (t := 51) ?hr ?_; (case hd => rfl); (case hg => rfl); (case hr => first | (go_simp; done) | (go_simp; rfl)); intro gb128 hg w17 hbox hb; have n0_ := Aside0.mk (below_step (by repeat (first | (with_reducible first | exact HB.out | apply below_alloc | apply pw_below_drewN | apply below_drew1) | exact HB.out)) hb); have n1_ := Aside0.mk (hbox); have n2_ := Aside0.mk ((by rw [hg]; exact (below_size (by repeat (first | (with_reducible first | exact HB.out | apply below_alloc | apply pw_below_drewN | apply below_drew1) | exact HB.out))) : w.heap.size ≤ gb128)); have n3_ := Aside0.mk ((by rw [hg]; exact (below_size (by repeat (first | (with_reducible first | exact HB.out | apply below_alloc | apply pw_below_drewN | apply below_drew1) | exact HB.out))) : w.heap.size ≤ gb128)); clear HB; have HB := n0_; have BK128 := n1_; have GW128 := n2_; have GE128 := n3_; clear n0_ n1_ n2_ n3_; clear hb hbox hg; have hcz18_0 : w17.cell? ⟨gb128, 0, none⟩ = some (.int .i64 a0_0) := (blk_cell BK128.out 0).trans rfl; have hcz18_1 : w17.cell? ⟨gb128, 1, none⟩ = some (.int .i64 a0_1) := (blk_cell BK128.out 1).trans rfl; have hcz18_2 : w17.cell? ⟨gb128, 2, none⟩ = some (.int .i64 a0_2) := (blk_cell BK128.out 2).trans rfl; have hcz18_3 : w17.cell? ⟨gb128, 3, none⟩ = some (.string a0_3) := (blk_cell BK128.out 3).trans rfl; have hcz18_4 : w17.cell? ⟨gb128, 4, none⟩ = some (.bool a0_4) := (blk_cell BK128.out 4).trans rfl; have hcz18_5 : w17.cell? ⟨gb128, 5, none⟩ = some (.slice A0_5 l0_5.length c0_5) := (blk_cell BK128.out 5).trans rfl; have hfz18_0 := blk_frozen BK128.out 0; have hfz18_1 := blk_frozen BK128.out 1; have hfz18_2 := blk_frozen BK128.out 2; have hfz18_3 := blk_frozen BK128.out 3; have hfz18_4 := blk_frozen BK128.out 4; have hfz18_5 := blk_frozen BK128.out 5; have p131 : 0 ≤ (0 : Int) := (by omega); have q131 : 0 < (l0_5.length : Int) := of_decide_eq_true (by first | (with_reducible assumption) | assumption); obtain ⟨ad131, A131_5, c131_5, e131, hx131_0, hx131_1, hx131_2, hx131_3, hx131_4, hx131_5, hl131_5, hi131_5⟩ := at_T51 HR0_5.out 0 p131 q131; cases e131; have qi131 : (0 < l0_5.length) = True := eq_true (by omega); (try rw [show ((0 : Int)).toNat = 0 from rfl] at hx131_0); (try rw [show 0 * 6 = 0 from rfl] at hx131_0); (try rw [Addr.add_zero'] at hx131_0); (try rw [show ((0 : Int)).toNat = 0 from rfl] at hx131_1); (try rw [show 0 * 6 = 0 from rfl] at hx131_1); (try rw [Addr.add_zero'] at hx131_1); (try rw [show ((0 : Int)).toNat = 0 from rfl] at hx131_2); (try rw [show 0 * 6 = 0 from rfl] at hx131_2); (try rw [Addr.add_zero'] at hx131_2); (try rw [show ((0 : Int)).toNat = 0 from rfl] at hx131_3); (try rw [show 0 * 6 = 0 from rfl] at hx131_3); (try rw [Addr.add_zero'] at hx131_3); (try rw [show ((0 : Int)).toNat = 0 from rfl] at hx131_4); (try rw [show 0 * 6 = 0 from rfl] at hx131_4); (try rw [Addr.add_zero'] at hx131_4); (try rw [show ((0 : Int)).toNat = 0 from rfl] at hx131_5); (try rw [show 0 * 6 = 0 from rfl] at hx131_5); (try rw [Addr.add_zero'] at hx131_5); replace hx131_0 := (HB.out.cell (World.block_lt_of_cell? w _ hx131_0)).trans hx131_0; replace hx131_1 := (HB.out.cell (World.block_lt_of_cell? w _ hx131_1)).trans hx131_1; replace hx131_2 := (HB.out.cell (World.block_lt_of_cell? w _ hx131_2)).trans hx131_2; replace hx131_3 := (HB.out.cell (World.block_lt_of_cell? w _ hx131_3)).trans hx131_3; replace hx131_4 := (HB.out.cell (World.block_lt_of_cell? w _ hx131_4)).trans hx131_4; replace hx131_5 := (HB.out.cell (World.block_lt_of_cell? w _ hx131_5)).trans hx131_5; have HR131_5 := Aside0.mk hi131_5; have HC131_5 := Aside0.mk hl131_5; clear hi131_5 hl131_5; replace p131 := eq_true p131; replace q131 := eq_true q131) | ((with_reducible refine gate_callee (f := 69) rfl ?_); refine goesL_ (some 26) rfl rfl Tryd.func69 (by kernel_rfl) rfl #[.agg #[.int .i64 ((rd_T51 l0_5 0).f0), .int .i64 ((rd_T51 l0_5 0).f1), .int .i64 ((rd_T51 l0_5 0).f2), .string ((rd_T51 l0_5 0).f3), .bool ((rd_T51 l0_5 0).f4), .slice A131_5 ((rd_T51 l0_5 0).f5).length c131_5]] rfl (by (try simp only [List.map_toArray, List.map_cons, List.map_nil]); first | done | rfl | (simp only [List.length_drop, List.length_take]; rfl)) ?_; (with_reducible refine (ih_69 k (by omega) ((rd_T51 l0_5 0).f0) ((rd_T51 l0_5 0).f1) ((rd_T51 l0_5 0).f2) ((rd_T51 l0_5 0).f3) ((rd_T51 l0_5 0).f4) _ _ ((rd_T51 l0_5 0).f5) t132 _ ?side1 ?side2 A16.out ?side3).mono ?_); (case side1 => repeat (first | exact (Kd.C_below HR131_5.out HB.out) | (with_reducible refine Kd.C_alloc ?_ _) | (with_reducible refine Kd.C_drewN ?_ _) | (with_reducible refine Kd.C_drew ?_))); (case side2 => exact HC131_5.out); (case side3 => exact Tabs.below HT.out (by repeat (first | (with_reducible first | exact HB.out | apply below_alloc | apply pw_below_drewN | apply below_drew1 | refine below_set ?_ GE128.out) | exact HB.out))); rintro e w19 ⟨rfl, hb⟩; refine ⟨_, rfl, ?_⟩; have n0_ := Aside0.mk (blk_below (g := gb128) (o := .cells #[.int .i64 a0_0, .int .i64 a0_1, .int .i64 a0_2, .string a0_3, .bool a0_4, .slice (some ad131) l0_5.length c0_5] 51 (0, 0)) (by (with_reducible repeat (first | refine blk_drewN ?_ _ | refine blk_drew ?_ | refine blk_alloc ?_ _)); exact BK128.out) hb); have n1_ := Aside0.mk (below_step (by repeat (first | (with_reducible first | exact HB.out | apply below_alloc | apply pw_below_drewN | apply below_drew1 | refine below_set ?_ GE128.out) | exact HB.out)) hb); clear BK128; clear HB; have BK128 := n0_; have HB := n1_; clear n0_ n1_; (try clear hb); (try clear hb2); (try clear hk); (try clear hi)))
      go_ret
      exact ⟨by first | rfl | (simp [errW_none, errW_some] <;> rfl) | (simp [*, errW_none, errW_some] <;> rfl), by repeat (first | (with_reducible first | exact HB.out | apply below_alloc | apply pw_below_drewN | apply below_drew1 | refine below_set ?_ GE128.out) | exact HB.out)⟩
     ·rw [if_neg c15] at H
      exact absurd H (by simp)
    ·rw [if_neg c14] at H
     have c14b0 : (a0_0 == 4) = false := beq_eq_false_iff_ne.mpr c14
     have c14b1 : (a0_0 != 4) = true := bne_iff_ne.mpr c14
     by_cases c20 : a0_0 = 5
     ·rw [if_pos c20] at H
      have c20b0 : (a0_0 == 5) = true := beq_iff_eq.mpr c20
      have c20b1 : (a0_0 != 5) = false := bne_eq_false_iff_eq.mpr c20
      clear c20
      by_cases c21 : 0 < (l0_5.length : Int)
      ·rw [if_pos c21] at H
       have c21b0 : decide (0 < (l0_5.length : Int)) = true := decide_eq_true c21
       have c21b1 : decide (0 < l0_5.length) = true := decide_eq_true (by omega)
       clear c21
       replace H := Option.bind_eq_some_iff.mp H
       obtain ⟨t134, A220, H⟩ := H
       replace H : (if 4 + t134.size ≤ 9223372036854775807 then (some ((⟨#[110, 111, 116, 32]⟩ : ByteArray) ++ t134)) else (none)) = some r := H
       have A22 := Aside0.mk A220
       clear A220
       by_cases c23 : 4 + t134.size ≤ 9223372036854775807
       ·rw [if_pos c23] at H
        have c23b0 := eq_true c23
        have c23b1 : decide (4 + t134.size ≤ 9223372036854775807) = true := decide_eq_true c23
        try have c23b2 : (9223372036854775807 < 4 + t134.size) = False := eq_false (Nat.not_lt.2 c23)
        obtain rfl := Option.some.inj H
        go_enter Tryd.func29, Tryd.ntmps29
        go_wp2_with (first | ((with_reducible refine gate_dst (N := 1) rfl ?_); refine box_event ?hg (N := 1) ?hd (cs := #[.int .i64 a0_0, .int .i64 a0_1, .int .i64 a0_2, .string a0_3, .bool a0_4, .slice A0_5 l0_5.length c0_5]) (t := 51) ?hr ?_; (case hd => rfl); (case hg => rfl); (case hr => first | (go_simp; done) | (go_simp; rfl)); intro gb128 hg w24 hbox hb; have n0_ := Aside0.mk (below_step (by repeat (first | (with_reducible first | exact HB.out | apply below_alloc | apply pw_below_drewN | apply below_drew1) | exact HB.out)) hb); have n1_ := Aside0.mk (hbox); have n2_ := Aside0.mk ((by rw [hg]; exact (below_size (by repeat (first | (with_reducible first | exact HB.out | apply below_alloc | apply pw_below_drewN | apply below_drew1) | exact HB.out))) : w.heap.size ≤ gb128)); have n3_ := Aside0.mk ((by rw [hg]; exact (below_size (by repeat (first | (with_reducible first | exact HB.out | apply below_alloc | apply pw_below_drewN | apply below_drew1) | exact HB.out))) : w.heap.size ≤ gb128)); clear HB; have HB := n0_; have BK128 := n1_; have GW128 := n2_; have GE128 := n3_; clear n0_ n1_ n2_ n3_; clear hb hbox hg; have hcz25_0 : w24.cell? ⟨gb128, 0, none⟩ = some (.int .i64 a0_0) := (blk_cell BK128.out 0).trans rfl; have hcz25_1 : w24.cell? ⟨gb128, 1, none⟩ = some (.int .i64 a0_1) := (blk_cell BK128.out 1).trans rfl; have hcz25_2 : w24.cell? ⟨gb128, 2, none⟩ = some (.int .i64 a0_2) := (blk_cell BK128.out 2).trans rfl; have hcz25_3 : w24.cell? ⟨gb128, 3, none⟩ = some (.string a0_3) := (blk_cell BK128.out 3).trans rfl; have hcz25_4 : w24.cell? ⟨gb128, 4, none⟩ = some (.bool a0_4) := (blk_cell BK128.out 4).trans rfl; have hcz25_5 : w24.cell? ⟨gb128, 5, none⟩ = some (.slice A0_5 l0_5.length c0_5) := (blk_cell BK128.out 5).trans rfl; have hfz25_0 := blk_frozen BK128.out 0; have hfz25_1 := blk_frozen BK128.out 1; have hfz25_2 := blk_frozen BK128.out 2; have hfz25_3 := blk_frozen BK128.out 3; have hfz25_4 := blk_frozen BK128.out 4; have hfz25_5 := blk_frozen BK128.out 5; have p133 : 0 ≤ (0 : Int) := (by omega); have q133 : 0 < (l0_5.length : Int) := of_decide_eq_true (by first | (with_reducible assumption) | assumption); obtain ⟨ad133, A133_5, c133_5, e133, hx133_0, hx133_1, hx133_2, hx133_3, hx133_4, hx133_5, hl133_5, hi133_5⟩ := at_T51 HR0_5.out 0 p133 q133; cases e133; have qi133 : (0 < l0_5.length) = True := eq_true (by omega); (try rw [show ((0 : Int)).toNat = 0 from rfl] at hx133_0); (try rw [show 0 * 6 = 0 from rfl] at hx133_0); (try rw [Addr.add_zero'] at hx133_0); (try rw [show ((0 : Int)).toNat = 0 from rfl] at hx133_1); (try rw [show 0 * 6 = 0 from rfl] at hx133_1); (try rw [Addr.add_zero'] at hx133_1); (try rw [show ((0 : Int)).toNat = 0 from rfl] at hx133_2); (try rw [show 0 * 6 = 0 from rfl] at hx133_2); (try rw [Addr.add_zero'] at hx133_2); (try rw [show ((0 : Int)).toNat = 0 from rfl] at hx133_3); (try rw [show 0 * 6 = 0 from rfl] at hx133_3); (try rw [Addr.add_zero'] at hx133_3); (try rw [show ((0 : Int)).toNat = 0 from rfl] at hx133_4); (try rw [show 0 * 6 = 0 from rfl] at hx133_4); (try rw [Addr.add_zero'] at hx133_4); (try rw [show ((0 : Int)).toNat = 0 from rfl] at hx133_5); (try rw [show 0 * 6 = 0 from rfl] at hx133_5); (try rw [Addr.add_zero'] at hx133_5); replace hx133_0 := (HB.out.cell (World.block_lt_of_cell? w _ hx133_0)).trans hx133_0; replace hx133_1 := (HB.out.cell (World.block_lt_of_cell? w _ hx133_1)).trans hx133_1; replace hx133_2 := (HB.out.cell (World.block_lt_of_cell? w _ hx133_2)).trans hx133_2; replace hx133_3 := (HB.out.cell (World.block_lt_of_cell? w _ hx133_3)).trans hx133_3; replace hx133_4 := (HB.out.cell (World.block_lt_of_cell? w _ hx133_4)).trans hx133_4; replace hx133_5 := (HB.out.cell (World.block_lt_of_cell? w _ hx133_5)).trans hx133_5; have HR133_5 := Aside0.mk hi133_5; have HC133_5 := Aside0.mk hl133_5; clear hi133_5 hl133_5; replace p133 := eq_true p133; replace q133 := eq_true q133) | ((with_reducible refine gate_callee (f := 70) rfl ?_); refine goesL_ (some 33) rfl rfl Tryd.func70 (by kernel_rfl) rfl #[.agg #[.int .i64 ((rd_T51 l0_5 0).f0), .int .i64 ((rd_T51 l0_5 0).f1), .int .i64 ((rd_T51 l0_5 0).f2), .string ((rd_T51 l0_5 0).f3), .bool ((rd_T51 l0_5 0).f4), .slice A133_5 ((rd_T51 l0_5 0).f5).length c133_5], .int .i64 4] rfl (by (try simp only [List.map_toArray, List.map_cons, List.map_nil]); first | done | rfl | (simp only [List.length_drop, List.length_take]; rfl)) ?_; (with_reducible refine (ih_70 k (by omega) ((rd_T51 l0_5 0).f0) ((rd_T51 l0_5 0).f1) ((rd_T51 l0_5 0).f2) ((rd_T51 l0_5 0).f3) ((rd_T51 l0_5 0).f4) _ _ ((rd_T51 l0_5 0).f5) 4 t134 _ ?side1 ?side2 A22.out ?side3).mono ?_); (case side1 => repeat (first | exact (Kd.C_below HR133_5.out HB.out) | (with_reducible refine Kd.C_alloc ?_ _) | (with_reducible refine Kd.C_drewN ?_ _) | (with_reducible refine Kd.C_drew ?_))); (case side2 => exact HC133_5.out); (case side3 => exact Tabs.below HT.out (by repeat (first | (with_reducible first | exact HB.out | apply below_alloc | apply pw_below_drewN | apply below_drew1 | refine below_set ?_ GE128.out) | exact HB.out))); rintro e w26 ⟨rfl, hb⟩; refine ⟨_, rfl, ?_⟩; have n0_ := Aside0.mk (blk_below (g := gb128) (o := .cells #[.int .i64 a0_0, .int .i64 a0_1, .int .i64 a0_2, .string a0_3, .bool a0_4, .slice (some ad133) l0_5.length c0_5] 51 (0, 0)) (by (with_reducible repeat (first | refine blk_drewN ?_ _ | refine blk_drew ?_ | refine blk_alloc ?_ _)); exact BK128.out) hb); have n1_ := Aside0.mk (below_step (by repeat (first | (with_reducible first | exact HB.out | apply below_alloc | apply pw_below_drewN | apply below_drew1 | refine below_set ?_ GE128.out) | exact HB.out)) hb); clear BK128; clear HB; have BK128 := n0_; have HB := n1_; clear n0_ n1_; (try clear hb); (try clear hb2); (try clear hk); (try clear hi)))
        go_ret
        exact ⟨by first | rfl | (simp [errW_none, errW_some] <;> rfl) | (simp [*, errW_none, errW_some] <;> rfl), by repeat (first | (with_reducible first | exact HB.out | apply below_alloc | apply pw_below_drewN | apply below_drew1 | refine below_set ?_ GE128.out) | exact HB.out)⟩
       ·rw [if_neg c23] at H
        exact absurd H (by simp)
      ·rw [if_neg c21] at H
       exact absurd H (by simp)
     ·rw [if_neg c20] at H
      have c20b0 : (a0_0 == 5) = false := beq_eq_false_iff_ne.mpr c20
      have c20b1 : (a0_0 != 5) = true := bne_iff_ne.mpr c20
      by_cases c27 : a0_0 = 6
      ·rw [if_pos c27] at H
       have c27b0 : (a0_0 == 6) = true := beq_iff_eq.mpr c27
       have c27b1 : (a0_0 != 6) = false := bne_eq_false_iff_eq.mpr c27
       clear c27
       replace H := Option.bind_eq_some_iff.mp H
       obtain ⟨t135, A280, H⟩ := H
       replace H : (some t135) = some r := H
       have A28 := Aside0.mk A280
       clear A280
       obtain rfl := Option.some.inj H
       go_enter Tryd.func29, Tryd.ntmps29
       go_wp2_with (first | ((with_reducible refine gate_dst (N := 1) rfl ?_); refine box_event ?hg (N := 1) ?hd (cs := #[.int .i64 a0_0, .int .i64 a0_1, .int .i64 a0_2, .string a0_3, .bool a0_4, .slice A0_5 l0_5.length c0_5]) (t := 51) ?hr ?_; (case hd => rfl); (case hg => rfl); (case hr => first | (go_simp; done) | (go_simp; rfl)); intro gb128 hg w29 hbox hb; have n0_ := Aside0.mk (below_step (by repeat (first | (with_reducible first | exact HB.out | apply below_alloc | apply pw_below_drewN | apply below_drew1) | exact HB.out)) hb); have n1_ := Aside0.mk (hbox); have n2_ := Aside0.mk ((by rw [hg]; exact (below_size (by repeat (first | (with_reducible first | exact HB.out | apply below_alloc | apply pw_below_drewN | apply below_drew1) | exact HB.out))) : w.heap.size ≤ gb128)); have n3_ := Aside0.mk ((by rw [hg]; exact (below_size (by repeat (first | (with_reducible first | exact HB.out | apply below_alloc | apply pw_below_drewN | apply below_drew1) | exact HB.out))) : w.heap.size ≤ gb128)); clear HB; have HB := n0_; have BK128 := n1_; have GW128 := n2_; have GE128 := n3_; clear n0_ n1_ n2_ n3_; clear hb hbox hg; have hcz30_0 : w29.cell? ⟨gb128, 0, none⟩ = some (.int .i64 a0_0) := (blk_cell BK128.out 0).trans rfl; have hcz30_1 : w29.cell? ⟨gb128, 1, none⟩ = some (.int .i64 a0_1) := (blk_cell BK128.out 1).trans rfl; have hcz30_2 : w29.cell? ⟨gb128, 2, none⟩ = some (.int .i64 a0_2) := (blk_cell BK128.out 2).trans rfl; have hcz30_3 : w29.cell? ⟨gb128, 3, none⟩ = some (.string a0_3) := (blk_cell BK128.out 3).trans rfl; have hcz30_4 : w29.cell? ⟨gb128, 4, none⟩ = some (.bool a0_4) := (blk_cell BK128.out 4).trans rfl; have hcz30_5 : w29.cell? ⟨gb128, 5, none⟩ = some (.slice A0_5 l0_5.length c0_5) := (blk_cell BK128.out 5).trans rfl; have hfz30_0 := blk_frozen BK128.out 0; have hfz30_1 := blk_frozen BK128.out 1; have hfz30_2 := blk_frozen BK128.out 2; have hfz30_3 := blk_frozen BK128.out 3; have hfz30_4 := blk_frozen BK128.out 4; have hfz30_5 := blk_frozen BK128.out 5) | ((with_reducible refine gate_callee (f := 71) rfl ?_); refine goesL_ (some 38) rfl rfl Tryd.func71 (by kernel_rfl) rfl #[.agg #[.int .i64 a0_0, .int .i64 a0_1, .int .i64 a0_2, .string a0_3, .bool a0_4, .slice A0_5 l0_5.length c0_5]] rfl (by (try simp only [List.map_toArray, List.map_cons, List.map_nil]); first | done | rfl | (simp only [List.length_drop, List.length_take]; rfl)) ?_; (with_reducible refine (ih_71 k (by omega) a0_0 a0_1 a0_2 a0_3 a0_4 _ _ l0_5 t135 _ ?side1 ?side2 A28.out ?side3).mono ?_); (case side1 => repeat (first | exact (Kd.C_below HR0_5.out HB.out) | (with_reducible refine Kd.C_alloc ?_ _) | (with_reducible refine Kd.C_drewN ?_ _) | (with_reducible refine Kd.C_drew ?_))); (case side2 => exact HC0_5.out); (case side3 => exact Tabs.below HT.out (by repeat (first | (with_reducible first | exact HB.out | apply below_alloc | apply pw_below_drewN | apply below_drew1 | refine below_set ?_ GE128.out) | exact HB.out))); rintro e w31 ⟨rfl, hb⟩; refine ⟨_, rfl, ?_⟩; have n0_ := Aside0.mk (blk_below (g := gb128) (o := .cells #[.int .i64 a0_0, .int .i64 a0_1, .int .i64 a0_2, .string a0_3, .bool a0_4, .slice A0_5 l0_5.length c0_5] 51 (0, 0)) (by (with_reducible repeat (first | refine blk_drewN ?_ _ | refine blk_drew ?_ | refine blk_alloc ?_ _)); exact BK128.out) hb); have n1_ := Aside0.mk (below_step (by repeat (first | (with_reducible first | exact HB.out | apply below_alloc | apply pw_below_drewN | apply below_drew1 | refine below_set ?_ GE128.out) | exact HB.out)) hb); clear BK128; clear HB; have BK128 := n0_; have HB := n1_; clear n0_ n1_; (try clear hb); (try clear hb2); (try clear hk); (try clear hi)))
       go_ret
       exact ⟨by first | rfl | (simp [errW_none, errW_some] <;> rfl) | (simp [*, errW_none, errW_some] <;> rfl), by repeat (first | (with_reducible first | exact HB.out | apply below_alloc | apply pw_below_drewN | apply below_drew1 | refine below_set ?_ GE128.out) | exact HB.out)⟩
      ·rw [if_neg c27] at H
       have c27b0 : (a0_0 == 6) = false := beq_eq_false_iff_ne.mpr c27
       have c27b1 : (a0_0 != 6) = true := bne_iff_ne.mpr c27
       by_cases c32 : a0_0 = 7
       ·rw [if_pos c32] at H
        have c32b0 : (a0_0 == 7) = true := beq_iff_eq.mpr c32
        have c32b1 : (a0_0 != 7) = false := bne_eq_false_iff_eq.mpr c32
        clear c32
        by_cases c33 : 0 < (l0_5.length : Int)
        ·rw [if_pos c33] at H
         have c33b0 : decide (0 < (l0_5.length : Int)) = true := decide_eq_true c33
         have c33b1 : decide (0 < l0_5.length) = true := decide_eq_true (by omega)
         clear c33
         replace H := Option.bind_eq_some_iff.mp H
         obtain ⟨t137, A340, H⟩ := H
         replace H : (if 3 + t137.size ≤ 9223372036854775807 then (if ((⟨#[105, 102, 32]⟩ : ByteArray) ++ t137).size + 6 ≤ 9223372036854775807 then (if 1 < (l0_5.length : Int) then ((tree_Text.f k ((rd_T51 l0_5 1).f0) ((rd_T51 l0_5 1).f1) ((rd_T51 l0_5 1).f2) ((rd_T51 l0_5 1).f3) ((rd_T51 l0_5 1).f4) ((rd_T51 l0_5 1).f5)).bind fun t139 => (if (((⟨#[105, 102, 32]⟩ : ByteArray) ++ t137) ++ (⟨#[32, 116, 104, 101, 110, 32]⟩ : ByteArray)).size + t139.size ≤ 9223372036854775807 then (if ((((⟨#[105, 102, 32]⟩ : ByteArray) ++ t137) ++ (⟨#[32, 116, 104, 101, 110, 32]⟩ : ByteArray)) ++ t139).size + 6 ≤ 9223372036854775807 then (if 2 < (l0_5.length : Int) then ((tree_Text.f k ((rd_T51 l0_5 2).f0) ((rd_T51 l0_5 2).f1) ((rd_T51 l0_5 2).f2) ((rd_T51 l0_5 2).f3) ((rd_T51 l0_5 2).f4) ((rd_T51 l0_5 2).f5)).bind fun t141 => (if (((((⟨#[105, 102, 32]⟩ : ByteArray) ++ t137) ++ (⟨#[32, 116, 104, 101, 110, 32]⟩ : ByteArray)) ++ t139) ++ (⟨#[32, 101, 108, 115, 101, 32]⟩ : ByteArray)).size + t141.size ≤ 9223372036854775807 then (some ((((((⟨#[105, 102, 32]⟩ : ByteArray) ++ t137) ++ (⟨#[32, 116, 104, 101, 110, 32]⟩ : ByteArray)) ++ t139) ++ (⟨#[32, 101, 108, 115, 101, 32]⟩ : ByteArray)) ++ t141)) else (none))) else (none)) else (none)) else (none))) else (none)) else (none)) else (none)) = some r := H
         have A34 := Aside0.mk A340
         clear A340
         by_cases c35 : 3 + t137.size ≤ 9223372036854775807
         ·rw [if_pos c35] at H
          have c35b0 := eq_true c35
          have c35b1 : decide (3 + t137.size ≤ 9223372036854775807) = true := decide_eq_true c35
          try have c35b2 : (9223372036854775807 < 3 + t137.size) = False := eq_false (Nat.not_lt.2 c35)
          by_cases c36 : ((⟨#[105, 102, 32]⟩ : ByteArray) ++ t137).size + 6 ≤ 9223372036854775807
          ·rw [if_pos c36] at H
           have c36b0 := eq_true c36
           have c36b1 : decide (((⟨#[105, 102, 32]⟩ : ByteArray) ++ t137).size + 6 ≤ 9223372036854775807) = true := decide_eq_true c36
           try have c36b2 : (9223372036854775807 < ((⟨#[105, 102, 32]⟩ : ByteArray) ++ t137).size + 6) = False := eq_false (Nat.not_lt.2 c36)
           try have c36b9 : (9223372036854775807 < 3 + t137.size + 6) = False := eq_false (by have h_ := c36; simp only [ByteArray.size_append] at h_; exact Nat.not_lt.2 h_)
           by_cases c37 : 1 < (l0_5.length : Int)
           ·rw [if_pos c37] at H
            have c37b0 : decide (1 < (l0_5.length : Int)) = true := decide_eq_true c37
            have c37b1 : decide (1 < l0_5.length) = true := decide_eq_true (by omega)
            clear c37
            replace H := Option.bind_eq_some_iff.mp H
            obtain ⟨t139, A380, H⟩ := H
            replace H : (if (((⟨#[105, 102, 32]⟩ : ByteArray) ++ t137) ++ (⟨#[32, 116, 104, 101, 110, 32]⟩ : ByteArray)).size + t139.size ≤ 9223372036854775807 then (if ((((⟨#[105, 102, 32]⟩ : ByteArray) ++ t137) ++ (⟨#[32, 116, 104, 101, 110, 32]⟩ : ByteArray)) ++ t139).size + 6 ≤ 9223372036854775807 then (if 2 < (l0_5.length : Int) then ((tree_Text.f k ((rd_T51 l0_5 2).f0) ((rd_T51 l0_5 2).f1) ((rd_T51 l0_5 2).f2) ((rd_T51 l0_5 2).f3) ((rd_T51 l0_5 2).f4) ((rd_T51 l0_5 2).f5)).bind fun t141 => (if (((((⟨#[105, 102, 32]⟩ : ByteArray) ++ t137) ++ (⟨#[32, 116, 104, 101, 110, 32]⟩ : ByteArray)) ++ t139) ++ (⟨#[32, 101, 108, 115, 101, 32]⟩ : ByteArray)).size + t141.size ≤ 9223372036854775807 then (some ((((((⟨#[105, 102, 32]⟩ : ByteArray) ++ t137) ++ (⟨#[32, 116, 104, 101, 110, 32]⟩ : ByteArray)) ++ t139) ++ (⟨#[32, 101, 108, 115, 101, 32]⟩ : ByteArray)) ++ t141)) else (none))) else (none)) else (none)) else (none)) = some r := H
            have A38 := Aside0.mk A380
            clear A380
            by_cases c39 : (((⟨#[105, 102, 32]⟩ : ByteArray) ++ t137) ++ (⟨#[32, 116, 104, 101, 110, 32]⟩ : ByteArray)).size + t139.size ≤ 9223372036854775807
            ·rw [if_pos c39] at H
             have c39b0 := eq_true c39
             have c39b1 : decide ((((⟨#[105, 102, 32]⟩ : ByteArray) ++ t137) ++ (⟨#[32, 116, 104, 101, 110, 32]⟩ : ByteArray)).size + t139.size ≤ 9223372036854775807) = true := decide_eq_true c39
             try have c39b2 : (9223372036854775807 < (((⟨#[105, 102, 32]⟩ : ByteArray) ++ t137) ++ (⟨#[32, 116, 104, 101, 110, 32]⟩ : ByteArray)).size + t139.size) = False := eq_false (Nat.not_lt.2 c39)
             try have c39b9 : (9223372036854775807 < 3 + t137.size + 6 + t139.size) = False := eq_false (by have h_ := c39; simp only [ByteArray.size_append] at h_; exact Nat.not_lt.2 h_)
             by_cases c40 : ((((⟨#[105, 102, 32]⟩ : ByteArray) ++ t137) ++ (⟨#[32, 116, 104, 101, 110, 32]⟩ : ByteArray)) ++ t139).size + 6 ≤ 9223372036854775807
             ·rw [if_pos c40] at H
              have c40b0 := eq_true c40
              have c40b1 : decide (((((⟨#[105, 102, 32]⟩ : ByteArray) ++ t137) ++ (⟨#[32, 116, 104, 101, 110, 32]⟩ : ByteArray)) ++ t139).size + 6 ≤ 9223372036854775807) = true := decide_eq_true c40
              try have c40b2 : (9223372036854775807 < ((((⟨#[105, 102, 32]⟩ : ByteArray) ++ t137) ++ (⟨#[32, 116, 104, 101, 110, 32]⟩ : ByteArray)) ++ t139).size + 6) = False := eq_false (Nat.not_lt.2 c40)
              try have c40b9 : (9223372036854775807 < 3 + t137.size + 6 + t139.size + 6) = False := eq_false (by have h_ := c40; simp only [ByteArray.size_append] at h_; exact Nat.not_lt.2 h_)
              by_cases c41 : 2 < (l0_5.length : Int)
              ·rw [if_pos c41] at H
               have c41b0 : decide (2 < (l0_5.length : Int)) = true := decide_eq_true c41
               have c41b1 : decide (2 < l0_5.length) = true := decide_eq_true (by omega)
               clear c41
               replace H := Option.bind_eq_some_iff.mp H
               obtain ⟨t141, A420, H⟩ := H
               replace H : (if (((((⟨#[105, 102, 32]⟩ : ByteArray) ++ t137) ++ (⟨#[32, 116, 104, 101, 110, 32]⟩ : ByteArray)) ++ t139) ++ (⟨#[32, 101, 108, 115, 101, 32]⟩ : ByteArray)).size + t141.size ≤ 9223372036854775807 then (some ((((((⟨#[105, 102, 32]⟩ : ByteArray) ++ t137) ++ (⟨#[32, 116, 104, 101, 110, 32]⟩ : ByteArray)) ++ t139) ++ (⟨#[32, 101, 108, 115, 101, 32]⟩ : ByteArray)) ++ t141)) else (none)) = some r := H
               have A42 := Aside0.mk A420
               clear A420
               by_cases c43 : (((((⟨#[105, 102, 32]⟩ : ByteArray) ++ t137) ++ (⟨#[32, 116, 104, 101, 110, 32]⟩ : ByteArray)) ++ t139) ++ (⟨#[32, 101, 108, 115, 101, 32]⟩ : ByteArray)).size + t141.size ≤ 9223372036854775807
               ·rw [if_pos c43] at H
                have c43b0 := eq_true c43
                have c43b1 : decide ((((((⟨#[105, 102, 32]⟩ : ByteArray) ++ t137) ++ (⟨#[32, 116, 104, 101, 110, 32]⟩ : ByteArray)) ++ t139) ++ (⟨#[32, 101, 108, 115, 101, 32]⟩ : ByteArray)).size + t141.size ≤ 9223372036854775807) = true := decide_eq_true c43
                try have c43b2 : (9223372036854775807 < (((((⟨#[105, 102, 32]⟩ : ByteArray) ++ t137) ++ (⟨#[32, 116, 104, 101, 110, 32]⟩ : ByteArray)) ++ t139) ++ (⟨#[32, 101, 108, 115, 101, 32]⟩ : ByteArray)).size + t141.size) = False := eq_false (Nat.not_lt.2 c43)
                try have c43b9 : (9223372036854775807 < 3 + t137.size + 6 + t139.size + 6 + t141.size) = False := eq_false (by have h_ := c43; simp only [ByteArray.size_append] at h_; exact Nat.not_lt.2 h_)
                obtain rfl := Option.some.inj H
                go_enter Tryd.func29, Tryd.ntmps29
                try go_wp2_with (first | ((with_reducible refine gate_dst (N := 1) rfl ?_); refine box_event ?hg (N := 1) ?hd (cs := #[.int .i64 a0_0, .int .i64 a0_1, .int .i64 a0_2, .string a0_3, .bool a0_4, .slice A0_5 l0_5.length c0_5]) (t := 51) ?hr ?_; (case hd => rfl); (case hg => rfl); (case hr => first | (go_simp; done) | (go_simp; rfl)); intro gb128 hg w44 hbox hb; have n0_ := Aside0.mk (below_step (by repeat (first | (with_reducible first | exact HB.out | apply below_alloc | apply pw_below_drewN | apply below_drew1) | exact HB.out)) hb); have n1_ := Aside0.mk (hbox); have n2_ := Aside0.mk ((by rw [hg]; exact (below_size (by repeat (first | (with_reducible first | exact HB.out | apply below_alloc | apply pw_below_drewN | apply below_drew1) | exact HB.out))) : w.heap.size ≤ gb128)); have n3_ := Aside0.mk ((by rw [hg]; exact (below_size (by repeat (first | (with_reducible first | exact HB.out | apply below_alloc | apply pw_below_drewN | apply below_drew1) | exact HB.out))) : w.heap.size ≤ gb128)); clear HB; have HB := n0_; have BK128 := n1_; have GW128 := n2_; have GE128 := n3_; clear n0_ n1_ n2_ n3_; clear hb hbox hg; have hcz45_0 : w44.cell? ⟨gb128, 0, none⟩ = some (.int .i64 a0_0) := (blk_cell BK128.out 0).trans rfl; have hcz45_1 : w44.cell? ⟨gb128, 1, none⟩ = some (.int .i64 a0_1) := (blk_cell BK128.out 1).trans rfl; have hcz45_2 : w44.cell? ⟨gb128, 2, none⟩ = some (.int .i64 a0_2) := (blk_cell BK128.out 2).trans rfl; have hcz45_3 : w44.cell? ⟨gb128, 3, none⟩ = some (.string a0_3) := (blk_cell BK128.out 3).trans rfl; have hcz45_4 : w44.cell? ⟨gb128, 4, none⟩ = some (.bool a0_4) := (blk_cell BK128.out 4).trans rfl; have hcz45_5 : w44.cell? ⟨gb128, 5, none⟩ = some (.slice A0_5 l0_5.length c0_5) := (blk_cell BK128.out 5).trans rfl; have hfz45_0 := blk_frozen BK128.out 0; have hfz45_1 := blk_frozen BK128.out 1; have hfz45_2 := blk_frozen BK128.out 2; have hfz45_3 := blk_frozen BK128.out 3; have hfz45_4 := blk_frozen BK128.out 4; have hfz45_5 := blk_frozen BK128.out 5))
                have n0_ := Aside0.mk (blk_drew BK128.out)
                have n1_ := Aside0.mk (below_drew1 HB.out)
                clear BK128
                clear HB
                have BK128 := n0_
                have HB := n1_
                clear n0_ n1_
                have p136 : 0 ≤ (0 : Int) := (by omega)
                have q136 : 0 < (l0_5.length : Int) := of_decide_eq_true (by first | (with_reducible assumption) | assumption)
                obtain ⟨ad136, A136_5, c136_5, e136, hx136_0, hx136_1, hx136_2, hx136_3, hx136_4, hx136_5, hl136_5, hi136_5⟩ := at_T51 HR0_5.out 0 p136 q136
                have hw136_5 := hx136_5
                (try rw [show ((0 : Int)).toNat = 0 from rfl] at hw136_5)
                (try rw [show 0 * 6 = 0 from rfl] at hw136_5)
                (try rw [Addr.add_zero'] at hw136_5)
                have hw136_4 := hx136_4
                (try rw [show ((0 : Int)).toNat = 0 from rfl] at hw136_4)
                (try rw [show 0 * 6 = 0 from rfl] at hw136_4)
                (try rw [Addr.add_zero'] at hw136_4)
                have hw136_3 := hx136_3
                (try rw [show ((0 : Int)).toNat = 0 from rfl] at hw136_3)
                (try rw [show 0 * 6 = 0 from rfl] at hw136_3)
                (try rw [Addr.add_zero'] at hw136_3)
                have hw136_2 := hx136_2
                (try rw [show ((0 : Int)).toNat = 0 from rfl] at hw136_2)
                (try rw [show 0 * 6 = 0 from rfl] at hw136_2)
                (try rw [Addr.add_zero'] at hw136_2)
                have hw136_1 := hx136_1
                (try rw [show ((0 : Int)).toNat = 0 from rfl] at hw136_1)
                (try rw [show 0 * 6 = 0 from rfl] at hw136_1)
                (try rw [Addr.add_zero'] at hw136_1)
                have hw136_0 := hx136_0
                (try rw [show ((0 : Int)).toNat = 0 from rfl] at hw136_0)
                (try rw [show 0 * 6 = 0 from rfl] at hw136_0)
                (try rw [Addr.add_zero'] at hw136_0)
                cases e136
                have qi136 : (0 < l0_5.length) = True := eq_true (by omega)
                (try rw [show ((0 : Int)).toNat = 0 from rfl] at hx136_0)
                (try rw [show 0 * 6 = 0 from rfl] at hx136_0)
                (try rw [Addr.add_zero'] at hx136_0)
                (try rw [show ((0 : Int)).toNat = 0 from rfl] at hx136_1)
                (try rw [show 0 * 6 = 0 from rfl] at hx136_1)
                (try rw [Addr.add_zero'] at hx136_1)
                (try rw [show ((0 : Int)).toNat = 0 from rfl] at hx136_2)
                (try rw [show 0 * 6 = 0 from rfl] at hx136_2)
                (try rw [Addr.add_zero'] at hx136_2)
                (try rw [show ((0 : Int)).toNat = 0 from rfl] at hx136_3)
                (try rw [show 0 * 6 = 0 from rfl] at hx136_3)
                (try rw [Addr.add_zero'] at hx136_3)
                (try rw [show ((0 : Int)).toNat = 0 from rfl] at hx136_4)
                (try rw [show 0 * 6 = 0 from rfl] at hx136_4)
                (try rw [Addr.add_zero'] at hx136_4)
                (try rw [show ((0 : Int)).toNat = 0 from rfl] at hx136_5)
                (try rw [show 0 * 6 = 0 from rfl] at hx136_5)
                (try rw [Addr.add_zero'] at hx136_5)
                replace hx136_0 := (HB.out.cell (World.block_lt_of_cell? w _ hx136_0)).trans hx136_0
                replace hx136_1 := (HB.out.cell (World.block_lt_of_cell? w _ hx136_1)).trans hx136_1
                replace hx136_2 := (HB.out.cell (World.block_lt_of_cell? w _ hx136_2)).trans hx136_2
                replace hx136_3 := (HB.out.cell (World.block_lt_of_cell? w _ hx136_3)).trans hx136_3
                replace hx136_4 := (HB.out.cell (World.block_lt_of_cell? w _ hx136_4)).trans hx136_4
                replace hx136_5 := (HB.out.cell (World.block_lt_of_cell? w _ hx136_5)).trans hx136_5
                have HR136_5 := Aside0.mk hi136_5
                have HC136_5 := Aside0.mk hl136_5
                clear hi136_5 hl136_5
                replace p136 := eq_true p136
                replace q136 := eq_true q136
                have p138 : 0 ≤ (1 : Int) := (by omega)
                have q138 : 1 < (l0_5.length : Int) := of_decide_eq_true (by first | (with_reducible assumption) | assumption)
                obtain ⟨ad138, A138_5, c138_5, e138, hx138_0, hx138_1, hx138_2, hx138_3, hx138_4, hx138_5, hl138_5, hi138_5⟩ := at_T51 HR0_5.out 1 p138 q138
                have hw138_5 := hx138_5
                (try rw [show ((1 : Int)).toNat = 1 from rfl] at hw138_5)
                (try rw [show 1 * 6 = 6 from rfl] at hw138_5)
                (try simp only [Nat.reduceMul, Nat.reduceEqDiff, Go.Addr.add, ↓reduceIte] at hw138_5)
                have hw138_4 := hx138_4
                (try rw [show ((1 : Int)).toNat = 1 from rfl] at hw138_4)
                (try rw [show 1 * 6 = 6 from rfl] at hw138_4)
                (try simp only [Nat.reduceMul, Nat.reduceEqDiff, Go.Addr.add, ↓reduceIte] at hw138_4)
                have hw138_3 := hx138_3
                (try rw [show ((1 : Int)).toNat = 1 from rfl] at hw138_3)
                (try rw [show 1 * 6 = 6 from rfl] at hw138_3)
                (try simp only [Nat.reduceMul, Nat.reduceEqDiff, Go.Addr.add, ↓reduceIte] at hw138_3)
                have hw138_2 := hx138_2
                (try rw [show ((1 : Int)).toNat = 1 from rfl] at hw138_2)
                (try rw [show 1 * 6 = 6 from rfl] at hw138_2)
                (try simp only [Nat.reduceMul, Nat.reduceEqDiff, Go.Addr.add, ↓reduceIte] at hw138_2)
                have hw138_1 := hx138_1
                (try rw [show ((1 : Int)).toNat = 1 from rfl] at hw138_1)
                (try rw [show 1 * 6 = 6 from rfl] at hw138_1)
                (try simp only [Nat.reduceMul, Nat.reduceEqDiff, Go.Addr.add, ↓reduceIte] at hw138_1)
                have hw138_0 := hx138_0
                (try rw [show ((1 : Int)).toNat = 1 from rfl] at hw138_0)
                (try rw [show 1 * 6 = 6 from rfl] at hw138_0)
                (try simp only [Nat.reduceMul, Nat.reduceEqDiff, Go.Addr.add, ↓reduceIte] at hw138_0)
                obtain rfl : ad136 = ad138 := (by injection e138)
                (try simp only [show (1 : Int).toNat = 1 from rfl, Nat.reduceMul, Nat.reduceEqDiff, Go.Addr.add, ↓reduceIte] at hx138_0)
                (try simp only [show (1 : Int).toNat = 1 from rfl, Nat.reduceMul, Nat.reduceEqDiff, Go.Addr.add, ↓reduceIte] at hx138_1)
                (try simp only [show (1 : Int).toNat = 1 from rfl, Nat.reduceMul, Nat.reduceEqDiff, Go.Addr.add, ↓reduceIte] at hx138_2)
                (try simp only [show (1 : Int).toNat = 1 from rfl, Nat.reduceMul, Nat.reduceEqDiff, Go.Addr.add, ↓reduceIte] at hx138_3)
                (try simp only [show (1 : Int).toNat = 1 from rfl, Nat.reduceMul, Nat.reduceEqDiff, Go.Addr.add, ↓reduceIte] at hx138_4)
                (try simp only [show (1 : Int).toNat = 1 from rfl, Nat.reduceMul, Nat.reduceEqDiff, Go.Addr.add, ↓reduceIte] at hx138_5)
                have qi138 : (1 < l0_5.length) = True := eq_true (by omega)
                (try rw [show ((1 : Int)).toNat = 1 from rfl] at hx138_0)
                (try rw [show 1 * 6 = 6 from rfl] at hx138_0)
                (try rw [show ((1 : Int)).toNat = 1 from rfl] at hx138_1)
                (try rw [show 1 * 6 = 6 from rfl] at hx138_1)
                (try rw [show ((1 : Int)).toNat = 1 from rfl] at hx138_2)
                (try rw [show 1 * 6 = 6 from rfl] at hx138_2)
                (try rw [show ((1 : Int)).toNat = 1 from rfl] at hx138_3)
                (try rw [show 1 * 6 = 6 from rfl] at hx138_3)
                (try rw [show ((1 : Int)).toNat = 1 from rfl] at hx138_4)
                (try rw [show 1 * 6 = 6 from rfl] at hx138_4)
                (try rw [show ((1 : Int)).toNat = 1 from rfl] at hx138_5)
                (try rw [show 1 * 6 = 6 from rfl] at hx138_5)
                replace hx138_0 := (HB.out.cell (World.block_lt_of_cell? w _ hx138_0)).trans hx138_0
                replace hx138_1 := (HB.out.cell (World.block_lt_of_cell? w _ hx138_1)).trans hx138_1
                replace hx138_2 := (HB.out.cell (World.block_lt_of_cell? w _ hx138_2)).trans hx138_2
                replace hx138_3 := (HB.out.cell (World.block_lt_of_cell? w _ hx138_3)).trans hx138_3
                replace hx138_4 := (HB.out.cell (World.block_lt_of_cell? w _ hx138_4)).trans hx138_4
                replace hx138_5 := (HB.out.cell (World.block_lt_of_cell? w _ hx138_5)).trans hx138_5
                have HR138_5 := Aside0.mk hi138_5
                have HC138_5 := Aside0.mk hl138_5
                clear hi138_5 hl138_5
                replace p138 := eq_true p138
                replace q138 := eq_true q138
                have p140 : 0 ≤ (2 : Int) := (by omega)
                have q140 : 2 < (l0_5.length : Int) := of_decide_eq_true (by first | (with_reducible assumption) | assumption)
                obtain ⟨ad140, A140_5, c140_5, e140, hx140_0, hx140_1, hx140_2, hx140_3, hx140_4, hx140_5, hl140_5, hi140_5⟩ := at_T51 HR0_5.out 2 p140 q140
                have hw140_5 := hx140_5
                (try rw [show ((2 : Int)).toNat = 2 from rfl] at hw140_5)
                (try rw [show 2 * 6 = 12 from rfl] at hw140_5)
                (try simp only [Nat.reduceMul, Nat.reduceEqDiff, Go.Addr.add, ↓reduceIte] at hw140_5)
                have hw140_4 := hx140_4
                (try rw [show ((2 : Int)).toNat = 2 from rfl] at hw140_4)
                (try rw [show 2 * 6 = 12 from rfl] at hw140_4)
                (try simp only [Nat.reduceMul, Nat.reduceEqDiff, Go.Addr.add, ↓reduceIte] at hw140_4)
                have hw140_3 := hx140_3
                (try rw [show ((2 : Int)).toNat = 2 from rfl] at hw140_3)
                (try rw [show 2 * 6 = 12 from rfl] at hw140_3)
                (try simp only [Nat.reduceMul, Nat.reduceEqDiff, Go.Addr.add, ↓reduceIte] at hw140_3)
                have hw140_2 := hx140_2
                (try rw [show ((2 : Int)).toNat = 2 from rfl] at hw140_2)
                (try rw [show 2 * 6 = 12 from rfl] at hw140_2)
                (try simp only [Nat.reduceMul, Nat.reduceEqDiff, Go.Addr.add, ↓reduceIte] at hw140_2)
                have hw140_1 := hx140_1
                (try rw [show ((2 : Int)).toNat = 2 from rfl] at hw140_1)
                (try rw [show 2 * 6 = 12 from rfl] at hw140_1)
                (try simp only [Nat.reduceMul, Nat.reduceEqDiff, Go.Addr.add, ↓reduceIte] at hw140_1)
                have hw140_0 := hx140_0
                (try rw [show ((2 : Int)).toNat = 2 from rfl] at hw140_0)
                (try rw [show 2 * 6 = 12 from rfl] at hw140_0)
                (try simp only [Nat.reduceMul, Nat.reduceEqDiff, Go.Addr.add, ↓reduceIte] at hw140_0)
                obtain rfl : ad136 = ad140 := (by injection e140)
                (try simp only [show (2 : Int).toNat = 2 from rfl, Nat.reduceMul, Nat.reduceEqDiff, Go.Addr.add, ↓reduceIte] at hx140_0)
                (try simp only [show (2 : Int).toNat = 2 from rfl, Nat.reduceMul, Nat.reduceEqDiff, Go.Addr.add, ↓reduceIte] at hx140_1)
                (try simp only [show (2 : Int).toNat = 2 from rfl, Nat.reduceMul, Nat.reduceEqDiff, Go.Addr.add, ↓reduceIte] at hx140_2)
                (try simp only [show (2 : Int).toNat = 2 from rfl, Nat.reduceMul, Nat.reduceEqDiff, Go.Addr.add, ↓reduceIte] at hx140_3)
                (try simp only [show (2 : Int).toNat = 2 from rfl, Nat.reduceMul, Nat.reduceEqDiff, Go.Addr.add, ↓reduceIte] at hx140_4)
                (try simp only [show (2 : Int).toNat = 2 from rfl, Nat.reduceMul, Nat.reduceEqDiff, Go.Addr.add, ↓reduceIte] at hx140_5)
                have qi140 : (2 < l0_5.length) = True := eq_true (by omega)
                (try rw [show ((2 : Int)).toNat = 2 from rfl] at hx140_0)
                (try rw [show 2 * 6 = 12 from rfl] at hx140_0)
                (try rw [show ((2 : Int)).toNat = 2 from rfl] at hx140_1)
                (try rw [show 2 * 6 = 12 from rfl] at hx140_1)
                (try rw [show ((2 : Int)).toNat = 2 from rfl] at hx140_2)
                (try rw [show 2 * 6 = 12 from rfl] at hx140_2)
                (try rw [show ((2 : Int)).toNat = 2 from rfl] at hx140_3)
                (try rw [show 2 * 6 = 12 from rfl] at hx140_3)
                (try rw [show ((2 : Int)).toNat = 2 from rfl] at hx140_4)
                (try rw [show 2 * 6 = 12 from rfl] at hx140_4)
                (try rw [show ((2 : Int)).toNat = 2 from rfl] at hx140_5)
                (try rw [show 2 * 6 = 12 from rfl] at hx140_5)
                replace hx140_0 := (HB.out.cell (World.block_lt_of_cell? w _ hx140_0)).trans hx140_0
                replace hx140_1 := (HB.out.cell (World.block_lt_of_cell? w _ hx140_1)).trans hx140_1
                replace hx140_2 := (HB.out.cell (World.block_lt_of_cell? w _ hx140_2)).trans hx140_2
                replace hx140_3 := (HB.out.cell (World.block_lt_of_cell? w _ hx140_3)).trans hx140_3
                replace hx140_4 := (HB.out.cell (World.block_lt_of_cell? w _ hx140_4)).trans hx140_4
                replace hx140_5 := (HB.out.cell (World.block_lt_of_cell? w _ hx140_5)).trans hx140_5
                have HR140_5 := Aside0.mk hi140_5
                have HC140_5 := Aside0.mk hl140_5
                clear hi140_5 hl140_5
                replace p140 := eq_true p140
                replace q140 := eq_true q140
                refine start_ (n := 21) (S := fun w' => w'.cell? ⟨gb128, 0, none⟩ = some (.int .i64 a0_0) ∧ w'.cell? ⟨gb128, 1, none⟩ = some (.int .i64 a0_1) ∧ w'.cell? ⟨gb128, 2, none⟩ = some (.int .i64 a0_2) ∧ w'.cell? ⟨gb128, 3, none⟩ = some (.string a0_3) ∧ w'.cell? ⟨gb128, 4, none⟩ = some (.bool a0_4) ∧ w'.cell? ⟨gb128, 5, none⟩ = some (.slice (some ad136) l0_5.length c0_5) ∧ w'.cell? ad136 = some (.int .i64 ((rd_T51 l0_5 0).f0)) ∧ w'.cell? ⟨ad136.block, ad136.off + 1, none⟩ = some (.int .i64 ((rd_T51 l0_5 0).f1)) ∧ w'.cell? ⟨ad136.block, ad136.off + 2, none⟩ = some (.int .i64 ((rd_T51 l0_5 0).f2)) ∧ w'.cell? ⟨ad136.block, ad136.off + 3, none⟩ = some (.string ((rd_T51 l0_5 0).f3)) ∧ w'.cell? ⟨ad136.block, ad136.off + 4, none⟩ = some (.bool ((rd_T51 l0_5 0).f4)) ∧ w'.cell? ⟨ad136.block, ad136.off + 5, none⟩ = some (.slice A136_5 ((rd_T51 l0_5 0).f5).length c136_5) ∧ w'.cell? ⟨ad136.block, ad136.off + 6, none⟩ = some (.int .i64 ((rd_T51 l0_5 1).f0)) ∧ w'.cell? ⟨ad136.block, ad136.off + 6 + 1, none⟩ = some (.int .i64 ((rd_T51 l0_5 1).f1)) ∧ w'.cell? ⟨ad136.block, ad136.off + 6 + 2, none⟩ = some (.int .i64 ((rd_T51 l0_5 1).f2)) ∧ w'.cell? ⟨ad136.block, ad136.off + 6 + 3, none⟩ = some (.string ((rd_T51 l0_5 1).f3)) ∧ w'.cell? ⟨ad136.block, ad136.off + 6 + 4, none⟩ = some (.bool ((rd_T51 l0_5 1).f4)) ∧ w'.cell? ⟨ad136.block, ad136.off + 6 + 5, none⟩ = some (.slice A138_5 ((rd_T51 l0_5 1).f5).length c138_5) ∧ w'.cell? ⟨ad136.block, ad136.off + 12, none⟩ = some (.int .i64 ((rd_T51 l0_5 2).f0)) ∧ w'.cell? ⟨ad136.block, ad136.off + 12 + 1, none⟩ = some (.int .i64 ((rd_T51 l0_5 2).f1)) ∧ w'.cell? ⟨ad136.block, ad136.off + 12 + 2, none⟩ = some (.int .i64 ((rd_T51 l0_5 2).f2)) ∧ w'.cell? ⟨ad136.block, ad136.off + 12 + 3, none⟩ = some (.string ((rd_T51 l0_5 2).f3)) ∧ w'.cell? ⟨ad136.block, ad136.off + 12 + 4, none⟩ = some (.bool ((rd_T51 l0_5 2).f4)) ∧ w'.cell? ⟨ad136.block, ad136.off + 12 + 5, none⟩ = some (.slice A140_5 ((rd_T51 l0_5 2).f5).length c140_5)) (ds := []) #[false, false, false, false, false, false, false, false, false, false, false, false, false, false, false, false, false, false, false, false, false] (by kernel_rfl) rfl rfl ⟨(blk_cell BK128.out 0).trans rfl, (blk_cell BK128.out 1).trans rfl, (blk_cell BK128.out 2).trans rfl, (blk_cell BK128.out 3).trans rfl, (blk_cell BK128.out 4).trans rfl, (blk_cell BK128.out 5).trans rfl, ((HB.out.cell (World.block_lt_of_cell? w _ hw136_0)).trans hw136_0), ((HB.out.cell (World.block_lt_of_cell? w _ hw136_1)).trans hw136_1), ((HB.out.cell (World.block_lt_of_cell? w _ hw136_2)).trans hw136_2), ((HB.out.cell (World.block_lt_of_cell? w _ hw136_3)).trans hw136_3), ((HB.out.cell (World.block_lt_of_cell? w _ hw136_4)).trans hw136_4), ((HB.out.cell (World.block_lt_of_cell? w _ hw136_5)).trans hw136_5), ((HB.out.cell (World.block_lt_of_cell? w _ hw138_0)).trans hw138_0), ((HB.out.cell (World.block_lt_of_cell? w _ hw138_1)).trans hw138_1), ((HB.out.cell (World.block_lt_of_cell? w _ hw138_2)).trans hw138_2), ((HB.out.cell (World.block_lt_of_cell? w _ hw138_3)).trans hw138_3), ((HB.out.cell (World.block_lt_of_cell? w _ hw138_4)).trans hw138_4), ((HB.out.cell (World.block_lt_of_cell? w _ hw138_5)).trans hw138_5), ((HB.out.cell (World.block_lt_of_cell? w _ hw140_0)).trans hw140_0), ((HB.out.cell (World.block_lt_of_cell? w _ hw140_1)).trans hw140_1), ((HB.out.cell (World.block_lt_of_cell? w _ hw140_2)).trans hw140_2), ((HB.out.cell (World.block_lt_of_cell? w _ hw140_3)).trans hw140_3), ((HB.out.cell (World.block_lt_of_cell? w _ hw140_4)).trans hw140_4), ((HB.out.cell (World.block_lt_of_cell? w _ hw140_5)).trans hw140_5)⟩ (fun hHeld => ?_); refine with_tabW tree_Text.tab15 tree_Text.bits15 (fun HT_ HW_ => ?_)
                generalize w44.drew = w46 at BK128 HB HR136_5 HR138_5 HR140_5 hx136_0 hx136_1 hx136_2 hx136_3 hx136_4 hx136_5 hx138_0 hx138_1 hx138_2 hx138_3 hx138_4 hx138_5 hx140_0 hx140_1 hx140_2 hx140_3 hx140_4 hx140_5 hHeld ⊢
                refine pure_ (i := 0) (N := some 41) (v := ?_) (a' := ?_) #[true, false, false, false, false, false, false, false, false, false, false, false, false, false, false, false, false, false, false, false, false] rfl rfl (any_of HT_.out (by kernel_rfl)) (fun _ _ _ h => h) (Or.inl ⟨by rfl, ?_⟩) ?_ ?_
                rotate_left
                ·intro w'
                 go_simp
                 with_reducible rfl
                rotate_left
                ·simp only [Act.put, List.setIfInBounds_toArray, List.set_cons_zero, List.set_cons_succ, i64_w, i32_w]
                 rfl
                refine pure_ (i := 7) (N := some 48) (v := ?_) (a' := ?_) #[true, false, false, false, false, false, false, true, false, false, false, false, false, false, false, false, false, false, false, false, false] rfl rfl (any_of HT_.out (by kernel_rfl)) (fun _ _ _ h => h) (Or.inl ⟨by rfl, ?_⟩) ?_ ?_
                rotate_left
                ·intro w'
                 go_simp
                 with_reducible rfl
                rotate_left
                ·simp only [Act.put, List.setIfInBounds_toArray, List.set_cons_zero, List.set_cons_succ, i64_w, i32_w]
                 rfl
                refine pure_ (i := 14) (N := some 55) (v := ?_) (a' := ?_) #[true, false, false, false, false, false, false, true, false, false, false, false, false, false, true, false, false, false, false, false, false] rfl rfl (any_of HT_.out (by kernel_rfl)) (fun _ _ _ h => h) (Or.inl ⟨by rfl, ?_⟩) ?_ ?_
                rotate_left
                ·intro w'
                 go_simp
                 with_reducible rfl
                rotate_left
                ·simp only [Act.put, List.setIfInBounds_toArray, List.set_cons_zero, List.set_cons_succ, i64_w, i32_w]
                 rfl
                refine take_ (i := 1) (N := some 42) (v := ?_) (a' := ?_) #[true, true, false, false, false, false, false, true, false, false, false, false, false, false, true, false, false, false, false, false, false] rfl rfl (take_ofW HT_.out HW_.out (by kernel_rfl)) (fun _ _ _ h => h) (Or.inl ⟨by rfl, ?_⟩) hHeld ?_ ?_
                rotate_left
                ·rintro w' ⟨s0, s1, s2, s3, s4, s5, s6, s7, s8, s9, s10, s11, s12, s13, s14, s15, s16, s17, s18, s19, s20, s21, s22, s23⟩
                 go_simp
                 with_reducible rfl
                rotate_left
                ·simp only [Act.put, List.setIfInBounds_toArray, List.set_cons_zero, List.set_cons_succ, i64_w, i32_w]
                 rfl
                refine pure_ (i := 2) (N := some 43) (v := ?_) (a' := ?_) #[true, true, true, false, false, false, false, true, false, false, false, false, false, false, true, false, false, false, false, false, false] rfl rfl (any_of HT_.out (by kernel_rfl)) (fun _ _ _ h => h) (Or.inl ⟨by rfl, ?_⟩) ?_ ?_
                rotate_left
                ·intro w'
                 go_simp
                 with_reducible rfl
                rotate_left
                ·simp only [Act.put, List.setIfInBounds_toArray, List.set_cons_zero, List.set_cons_succ, i64_w, i32_w]
                 rfl
                refine take_ (i := 3) (N := some 44) (v := ?_) (a' := ?_) #[true, true, true, true, false, false, false, true, false, false, false, false, false, false, true, false, false, false, false, false, false] rfl rfl (take_ofW HT_.out HW_.out (by kernel_rfl)) (fun _ _ _ h => h) (Or.inl ⟨by rfl, ?_⟩) hHeld ?_ ?_
                rotate_left
                ·rintro w' ⟨s0, s1, s2, s3, s4, s5, s6, s7, s8, s9, s10, s11, s12, s13, s14, s15, s16, s17, s18, s19, s20, s21, s22, s23⟩
                 go_simp
                 with_reducible rfl
                rotate_left
                ·simp only [Act.put, List.setIfInBounds_toArray, List.set_cons_zero, List.set_cons_succ, i64_w, i32_w]
                 rfl
                refine take_ (i := 8) (N := some 49) (v := ?_) (a' := ?_) #[true, true, true, true, false, false, false, true, true, false, false, false, false, false, true, false, false, false, false, false, false] rfl rfl (take_ofW HT_.out HW_.out (by kernel_rfl)) (fun _ _ _ h => h) (Or.inl ⟨by rfl, ?_⟩) hHeld ?_ ?_
                rotate_left
                ·rintro w' ⟨s0, s1, s2, s3, s4, s5, s6, s7, s8, s9, s10, s11, s12, s13, s14, s15, s16, s17, s18, s19, s20, s21, s22, s23⟩
                 go_simp
                 with_reducible rfl
                rotate_left
                ·simp only [Act.put, List.setIfInBounds_toArray, List.set_cons_zero, List.set_cons_succ, i64_w, i32_w]
                 rfl
                refine pure_ (i := 9) (N := some 50) (v := ?_) (a' := ?_) #[true, true, true, true, false, false, false, true, true, true, false, false, false, false, true, false, false, false, false, false, false] rfl rfl (any_of HT_.out (by kernel_rfl)) (fun _ _ _ h => h) (Or.inl ⟨by rfl, ?_⟩) ?_ ?_
                rotate_left
                ·intro w'
                 go_simp
                 with_reducible rfl
                rotate_left
                ·simp only [Act.put, List.setIfInBounds_toArray, List.set_cons_zero, List.set_cons_succ, i64_w, i32_w]
                 rfl
                refine take_ (i := 10) (N := some 51) (v := ?_) (a' := ?_) #[true, true, true, true, false, false, false, true, true, true, true, false, false, false, true, false, false, false, false, false, false] rfl rfl (take_ofW HT_.out HW_.out (by kernel_rfl)) (fun _ _ _ h => h) (Or.inl ⟨by rfl, ?_⟩) hHeld ?_ ?_
                rotate_left
                ·rintro w' ⟨s0, s1, s2, s3, s4, s5, s6, s7, s8, s9, s10, s11, s12, s13, s14, s15, s16, s17, s18, s19, s20, s21, s22, s23⟩
                 go_simp
                 with_reducible rfl
                rotate_left
                ·simp only [Act.put, List.setIfInBounds_toArray, List.set_cons_zero, List.set_cons_succ, i64_w, i32_w]
                 rfl
                refine take_ (i := 15) (N := some 56) (v := ?_) (a' := ?_) #[true, true, true, true, false, false, false, true, true, true, true, false, false, false, true, true, false, false, false, false, false] rfl rfl (take_ofW HT_.out HW_.out (by kernel_rfl)) (fun _ _ _ h => h) (Or.inl ⟨by rfl, ?_⟩) hHeld ?_ ?_
                rotate_left
                ·rintro w' ⟨s0, s1, s2, s3, s4, s5, s6, s7, s8, s9, s10, s11, s12, s13, s14, s15, s16, s17, s18, s19, s20, s21, s22, s23⟩
                 go_simp
                 with_reducible rfl
                rotate_left
                ·simp only [Act.put, List.setIfInBounds_toArray, List.set_cons_zero, List.set_cons_succ, i64_w, i32_w]
                 rfl
                refine pure_ (i := 16) (N := some 57) (v := ?_) (a' := ?_) #[true, true, true, true, false, false, false, true, true, true, true, false, false, false, true, true, true, false, false, false, false] rfl rfl (any_of HT_.out (by kernel_rfl)) (fun _ _ _ h => h) (Or.inl ⟨by rfl, ?_⟩) ?_ ?_
                rotate_left
                ·intro w'
                 go_simp
                 with_reducible rfl
                rotate_left
                ·simp only [Act.put, List.setIfInBounds_toArray, List.set_cons_zero, List.set_cons_succ, i64_w, i32_w]
                 rfl
                refine take_ (i := 17) (N := some 58) (v := ?_) (a' := ?_) #[true, true, true, true, false, false, false, true, true, true, true, false, false, false, true, true, true, true, false, false, false] rfl rfl (take_ofW HT_.out HW_.out (by kernel_rfl)) (fun _ _ _ h => h) (Or.inl ⟨by rfl, ?_⟩) hHeld ?_ ?_
                rotate_left
                ·rintro w' ⟨s0, s1, s2, s3, s4, s5, s6, s7, s8, s9, s10, s11, s12, s13, s14, s15, s16, s17, s18, s19, s20, s21, s22, s23⟩
                 go_simp
                 with_reducible rfl
                rotate_left
                ·simp only [Act.put, List.setIfInBounds_toArray, List.set_cons_zero, List.set_cons_succ, i64_w, i32_w]
                 rfl
                refine one_ (i := 4) (N := some 45) #[true, true, true, true, true, false, false, true, true, true, true, false, false, false, true, true, true, true, false, false, false] rfl rfl (one_of HT_.out (by kernel_rfl)) (by decide) (fun K hK => ?_)
                refine goes_ Tryd.func29 (by kernel_rfl) rfl #[.agg #[.int .i64 ((rd_T51 l0_5 0).f0), .int .i64 ((rd_T51 l0_5 0).f1), .int .i64 ((rd_T51 l0_5 0).f2), .string ((rd_T51 l0_5 0).f3), .bool ((rd_T51 l0_5 0).f4), .slice A136_5 ((rd_T51 l0_5 0).f5).length c136_5]] (by rfl) rfl rfl (by (try simp only [List.map_toArray, List.map_cons, List.map_nil]); first | done | rfl | (simp only [List.length_drop, List.length_take]; rfl)) ?_
                with_reducible refine (ih_29 k (by omega) ((rd_T51 l0_5 0).f0) ((rd_T51 l0_5 0).f1) ((rd_T51 l0_5 0).f2) ((rd_T51 l0_5 0).f3) ((rd_T51 l0_5 0).f4) _ _ ((rd_T51 l0_5 0).f5) t137 _ ?side1 ?side2 A34.out ?side3).mono ?_
                (case side1 => repeat (first | exact (Kd.C_below HR136_5.out HB.out) | (with_reducible refine Kd.C_alloc ?_ _) | (with_reducible refine Kd.C_drewN ?_ _) | (with_reducible refine Kd.C_drew ?_)))
                (case side2 => exact HC136_5.out)
                (case side3 => exact Tabs.below HT.out (by repeat (first | (with_reducible first | exact HB.out | apply below_alloc | apply pw_below_drewN | apply below_drew1 | refine below_set ?_ GE128.out) | exact HB.out)))
                rintro e w47 ⟨rfl, hb⟩
                refine ⟨_, rfl, ?_⟩
                have n0_ := Aside0.mk (blk_below (g := gb128) (o := .cells #[.int .i64 a0_0, .int .i64 a0_1, .int .i64 a0_2, .string a0_3, .bool a0_4, .slice (some ad136) l0_5.length c0_5] 51 (0, 0)) (by (with_reducible repeat (first | refine blk_drewN ?_ _ | refine blk_drew ?_ | refine blk_alloc ?_ _)); exact BK128.out) hb)
                have n1_ := Aside0.mk (below_step (by repeat (first | (with_reducible first | exact HB.out | apply below_alloc | apply pw_below_drewN | apply below_drew1 | refine below_set ?_ GE128.out) | exact HB.out)) hb)
                clear BK128
                clear HB
                have BK128 := n0_
                have HB := n1_
                clear n0_ n1_
                (try clear hb)
                (try clear hb2)
                (try clear hk)
                (try clear hi)
                refine hK.out _ _ ⟨(blk_cell BK128.out 0).trans rfl, (blk_cell BK128.out 1).trans rfl, (blk_cell BK128.out 2).trans rfl, (blk_cell BK128.out 3).trans rfl, (blk_cell BK128.out 4).trans rfl, (blk_cell BK128.out 5).trans rfl, ((HB.out.cell (World.block_lt_of_cell? w _ hw136_0)).trans hw136_0), ((HB.out.cell (World.block_lt_of_cell? w _ hw136_1)).trans hw136_1), ((HB.out.cell (World.block_lt_of_cell? w _ hw136_2)).trans hw136_2), ((HB.out.cell (World.block_lt_of_cell? w _ hw136_3)).trans hw136_3), ((HB.out.cell (World.block_lt_of_cell? w _ hw136_4)).trans hw136_4), ((HB.out.cell (World.block_lt_of_cell? w _ hw136_5)).trans hw136_5), ((HB.out.cell (World.block_lt_of_cell? w _ hw138_0)).trans hw138_0), ((HB.out.cell (World.block_lt_of_cell? w _ hw138_1)).trans hw138_1), ((HB.out.cell (World.block_lt_of_cell? w _ hw138_2)).trans hw138_2), ((HB.out.cell (World.block_lt_of_cell? w _ hw138_3)).trans hw138_3), ((HB.out.cell (World.block_lt_of_cell? w _ hw138_4)).trans hw138_4), ((HB.out.cell (World.block_lt_of_cell? w _ hw138_5)).trans hw138_5), ((HB.out.cell (World.block_lt_of_cell? w _ hw140_0)).trans hw140_0), ((HB.out.cell (World.block_lt_of_cell? w _ hw140_1)).trans hw140_1), ((HB.out.cell (World.block_lt_of_cell? w _ hw140_2)).trans hw140_2), ((HB.out.cell (World.block_lt_of_cell? w _ hw140_3)).trans hw140_3), ((HB.out.cell (World.block_lt_of_cell? w _ hw140_4)).trans hw140_4), ((HB.out.cell (World.block_lt_of_cell? w _ hw140_5)).trans hw140_5)⟩ (fun hHeld => ?_)
                clear hK K
                refine norm_ (a' := ?_) ?_ ?_
                rotate_left
                ·show Act.put _ (some 45) _ = _
                 simp only [Act.put, List.setIfInBounds_toArray, List.set_cons_zero, List.set_cons_succ, i64_w, i32_w]
                 rfl
                refine pure_ (i := 5) (N := some 46) (v := ?_) (a' := ?_) #[true, true, true, true, true, true, false, true, true, true, true, false, false, false, true, true, true, true, false, false, false] rfl rfl (any_of HT_.out (by kernel_rfl)) (fun _ _ _ h => h) (Or.inl ⟨by rfl, ?_⟩) ?_ ?_
                rotate_left
                ·intro w'
                 go_simp
                 with_reducible rfl
                rotate_left
                ·simp only [Act.put, List.setIfInBounds_toArray, List.set_cons_zero, List.set_cons_succ, i64_w, i32_w]
                 rfl
                refine pure_ (i := 6) (N := some 47) (v := ?_) (a' := ?_) #[true, true, true, true, true, true, true, true, true, true, true, false, false, false, true, true, true, true, false, false, false] rfl rfl (any_of HT_.out (by kernel_rfl)) (fun _ _ _ h => h) (Or.inl ⟨by rfl, ?_⟩) ?_ ?_
                rotate_left
                ·intro w'
                 go_simp
                 with_reducible rfl
                rotate_left
                ·simp only [Act.put, List.setIfInBounds_toArray, List.set_cons_zero, List.set_cons_succ, i64_w, i32_w]
                 rfl
                refine one_ (i := 11) (N := some 52) #[true, true, true, true, true, true, true, true, true, true, true, true, false, false, true, true, true, true, false, false, false] rfl rfl (one_of HT_.out (by kernel_rfl)) (by decide) (fun K hK => ?_)
                refine goes_ Tryd.func29 (by kernel_rfl) rfl #[.agg #[.int .i64 ((rd_T51 l0_5 1).f0), .int .i64 ((rd_T51 l0_5 1).f1), .int .i64 ((rd_T51 l0_5 1).f2), .string ((rd_T51 l0_5 1).f3), .bool ((rd_T51 l0_5 1).f4), .slice A138_5 ((rd_T51 l0_5 1).f5).length c138_5]] (by rfl) rfl rfl (by (try simp only [List.map_toArray, List.map_cons, List.map_nil]); first | done | rfl | (simp only [List.length_drop, List.length_take]; rfl)) ?_
                with_reducible refine (ih_29 k (by omega) ((rd_T51 l0_5 1).f0) ((rd_T51 l0_5 1).f1) ((rd_T51 l0_5 1).f2) ((rd_T51 l0_5 1).f3) ((rd_T51 l0_5 1).f4) _ _ ((rd_T51 l0_5 1).f5) t139 _ ?side1 ?side2 A38.out ?side3).mono ?_
                (case side1 => repeat (first | exact (Kd.C_below HR138_5.out HB.out) | (with_reducible refine Kd.C_alloc ?_ _) | (with_reducible refine Kd.C_drewN ?_ _) | (with_reducible refine Kd.C_drew ?_)))
                (case side2 => exact HC138_5.out)
                (case side3 => exact Tabs.below HT.out (by repeat (first | (with_reducible first | exact HB.out | apply below_alloc | apply pw_below_drewN | apply below_drew1 | refine below_set ?_ GE128.out) | exact HB.out)))
                rintro e w48 ⟨rfl, hb⟩
                refine ⟨_, rfl, ?_⟩
                have n0_ := Aside0.mk (blk_below (g := gb128) (o := .cells #[.int .i64 a0_0, .int .i64 a0_1, .int .i64 a0_2, .string a0_3, .bool a0_4, .slice (some ad136) l0_5.length c0_5] 51 (0, 0)) (by (with_reducible repeat (first | refine blk_drewN ?_ _ | refine blk_drew ?_ | refine blk_alloc ?_ _)); exact BK128.out) hb)
                have n1_ := Aside0.mk (below_step (by repeat (first | (with_reducible first | exact HB.out | apply below_alloc | apply pw_below_drewN | apply below_drew1 | refine below_set ?_ GE128.out) | exact HB.out)) hb)
                clear BK128
                clear HB
                have BK128 := n0_
                have HB := n1_
                clear n0_ n1_
                (try clear hb)
                (try clear hb2)
                (try clear hk)
                (try clear hi)
                refine hK.out _ _ ⟨(blk_cell BK128.out 0).trans rfl, (blk_cell BK128.out 1).trans rfl, (blk_cell BK128.out 2).trans rfl, (blk_cell BK128.out 3).trans rfl, (blk_cell BK128.out 4).trans rfl, (blk_cell BK128.out 5).trans rfl, ((HB.out.cell (World.block_lt_of_cell? w _ hw136_0)).trans hw136_0), ((HB.out.cell (World.block_lt_of_cell? w _ hw136_1)).trans hw136_1), ((HB.out.cell (World.block_lt_of_cell? w _ hw136_2)).trans hw136_2), ((HB.out.cell (World.block_lt_of_cell? w _ hw136_3)).trans hw136_3), ((HB.out.cell (World.block_lt_of_cell? w _ hw136_4)).trans hw136_4), ((HB.out.cell (World.block_lt_of_cell? w _ hw136_5)).trans hw136_5), ((HB.out.cell (World.block_lt_of_cell? w _ hw138_0)).trans hw138_0), ((HB.out.cell (World.block_lt_of_cell? w _ hw138_1)).trans hw138_1), ((HB.out.cell (World.block_lt_of_cell? w _ hw138_2)).trans hw138_2), ((HB.out.cell (World.block_lt_of_cell? w _ hw138_3)).trans hw138_3), ((HB.out.cell (World.block_lt_of_cell? w _ hw138_4)).trans hw138_4), ((HB.out.cell (World.block_lt_of_cell? w _ hw138_5)).trans hw138_5), ((HB.out.cell (World.block_lt_of_cell? w _ hw140_0)).trans hw140_0), ((HB.out.cell (World.block_lt_of_cell? w _ hw140_1)).trans hw140_1), ((HB.out.cell (World.block_lt_of_cell? w _ hw140_2)).trans hw140_2), ((HB.out.cell (World.block_lt_of_cell? w _ hw140_3)).trans hw140_3), ((HB.out.cell (World.block_lt_of_cell? w _ hw140_4)).trans hw140_4), ((HB.out.cell (World.block_lt_of_cell? w _ hw140_5)).trans hw140_5)⟩ (fun hHeld => ?_)
                clear hK K
                refine norm_ (a' := ?_) ?_ ?_
                rotate_left
                ·show Act.put _ (some 52) _ = _
                 simp only [Act.put, List.setIfInBounds_toArray, List.set_cons_zero, List.set_cons_succ, i64_w, i32_w]
                 rfl
                refine pure_ (i := 12) (N := some 53) (v := ?_) (a' := ?_) #[true, true, true, true, true, true, true, true, true, true, true, true, true, false, true, true, true, true, false, false, false] rfl rfl (any_of HT_.out (by kernel_rfl)) (fun _ _ _ h => h) (Or.inl ⟨by rfl, ?_⟩) ?_ ?_
                rotate_left
                ·intro w'
                 go_simp
                 with_reducible rfl
                rotate_left
                ·simp only [Act.put, List.setIfInBounds_toArray, List.set_cons_zero, List.set_cons_succ, i64_w, i32_w]
                 rfl
                refine pure_ (i := 13) (N := some 54) (v := ?_) (a' := ?_) #[true, true, true, true, true, true, true, true, true, true, true, true, true, true, true, true, true, true, false, false, false] rfl rfl (any_of HT_.out (by kernel_rfl)) (fun _ _ _ h => h) (Or.inl ⟨by rfl, ?_⟩) ?_ ?_
                rotate_left
                ·intro w'
                 go_simp
                 with_reducible rfl
                rotate_left
                ·simp only [Act.put, List.setIfInBounds_toArray, List.set_cons_zero, List.set_cons_succ, i64_w, i32_w]
                 rfl
                refine one_ (i := 18) (N := some 59) #[true, true, true, true, true, true, true, true, true, true, true, true, true, true, true, true, true, true, true, false, false] rfl rfl (one_of HT_.out (by kernel_rfl)) (by decide) (fun K hK => ?_)
                refine goes_ Tryd.func29 (by kernel_rfl) rfl #[.agg #[.int .i64 ((rd_T51 l0_5 2).f0), .int .i64 ((rd_T51 l0_5 2).f1), .int .i64 ((rd_T51 l0_5 2).f2), .string ((rd_T51 l0_5 2).f3), .bool ((rd_T51 l0_5 2).f4), .slice A140_5 ((rd_T51 l0_5 2).f5).length c140_5]] (by rfl) rfl rfl (by (try simp only [List.map_toArray, List.map_cons, List.map_nil]); first | done | rfl | (simp only [List.length_drop, List.length_take]; rfl)) ?_
                with_reducible refine (ih_29 k (by omega) ((rd_T51 l0_5 2).f0) ((rd_T51 l0_5 2).f1) ((rd_T51 l0_5 2).f2) ((rd_T51 l0_5 2).f3) ((rd_T51 l0_5 2).f4) _ _ ((rd_T51 l0_5 2).f5) t141 _ ?side1 ?side2 A42.out ?side3).mono ?_
                (case side1 => repeat (first | exact (Kd.C_below HR140_5.out HB.out) | (with_reducible refine Kd.C_alloc ?_ _) | (with_reducible refine Kd.C_drewN ?_ _) | (with_reducible refine Kd.C_drew ?_)))
                (case side2 => exact HC140_5.out)
                (case side3 => exact Tabs.below HT.out (by repeat (first | (with_reducible first | exact HB.out | apply below_alloc | apply pw_below_drewN | apply below_drew1 | refine below_set ?_ GE128.out) | exact HB.out)))
                rintro e w49 ⟨rfl, hb⟩
                refine ⟨_, rfl, ?_⟩
                have n0_ := Aside0.mk (blk_below (g := gb128) (o := .cells #[.int .i64 a0_0, .int .i64 a0_1, .int .i64 a0_2, .string a0_3, .bool a0_4, .slice (some ad136) l0_5.length c0_5] 51 (0, 0)) (by (with_reducible repeat (first | refine blk_drewN ?_ _ | refine blk_drew ?_ | refine blk_alloc ?_ _)); exact BK128.out) hb)
                have n1_ := Aside0.mk (below_step (by repeat (first | (with_reducible first | exact HB.out | apply below_alloc | apply pw_below_drewN | apply below_drew1 | refine below_set ?_ GE128.out) | exact HB.out)) hb)
                clear BK128
                clear HB
                have BK128 := n0_
                have HB := n1_
                clear n0_ n1_
                (try clear hb)
                (try clear hb2)
                (try clear hk)
                (try clear hi)
                refine hK.out _ _ ⟨(blk_cell BK128.out 0).trans rfl, (blk_cell BK128.out 1).trans rfl, (blk_cell BK128.out 2).trans rfl, (blk_cell BK128.out 3).trans rfl, (blk_cell BK128.out 4).trans rfl, (blk_cell BK128.out 5).trans rfl, ((HB.out.cell (World.block_lt_of_cell? w _ hw136_0)).trans hw136_0), ((HB.out.cell (World.block_lt_of_cell? w _ hw136_1)).trans hw136_1), ((HB.out.cell (World.block_lt_of_cell? w _ hw136_2)).trans hw136_2), ((HB.out.cell (World.block_lt_of_cell? w _ hw136_3)).trans hw136_3), ((HB.out.cell (World.block_lt_of_cell? w _ hw136_4)).trans hw136_4), ((HB.out.cell (World.block_lt_of_cell? w _ hw136_5)).trans hw136_5), ((HB.out.cell (World.block_lt_of_cell? w _ hw138_0)).trans hw138_0), ((HB.out.cell (World.block_lt_of_cell? w _ hw138_1)).trans hw138_1), ((HB.out.cell (World.block_lt_of_cell? w _ hw138_2)).trans hw138_2), ((HB.out.cell (World.block_lt_of_cell? w _ hw138_3)).trans hw138_3), ((HB.out.cell (World.block_lt_of_cell? w _ hw138_4)).trans hw138_4), ((HB.out.cell (World.block_lt_of_cell? w _ hw138_5)).trans hw138_5), ((HB.out.cell (World.block_lt_of_cell? w _ hw140_0)).trans hw140_0), ((HB.out.cell (World.block_lt_of_cell? w _ hw140_1)).trans hw140_1), ((HB.out.cell (World.block_lt_of_cell? w _ hw140_2)).trans hw140_2), ((HB.out.cell (World.block_lt_of_cell? w _ hw140_3)).trans hw140_3), ((HB.out.cell (World.block_lt_of_cell? w _ hw140_4)).trans hw140_4), ((HB.out.cell (World.block_lt_of_cell? w _ hw140_5)).trans hw140_5)⟩ (fun hHeld => ?_)
                clear hK K
                refine norm_ (a' := ?_) ?_ ?_
                rotate_left
                ·show Act.put _ (some 59) _ = _
                 simp only [Act.put, List.setIfInBounds_toArray, List.set_cons_zero, List.set_cons_succ, i64_w, i32_w]
                 rfl
                refine pure_ (i := 19) (N := some 60) (v := ?_) (a' := ?_) #[true, true, true, true, true, true, true, true, true, true, true, true, true, true, true, true, true, true, true, true, false] rfl rfl (any_of HT_.out (by kernel_rfl)) (fun _ _ _ h => h) (Or.inl ⟨by rfl, ?_⟩) ?_ ?_
                rotate_left
                ·intro w'
                 go_simp
                 with_reducible rfl
                rotate_left
                ·simp only [Act.put, List.setIfInBounds_toArray, List.set_cons_zero, List.set_cons_succ, i64_w, i32_w]
                 rfl
                refine pure_ (i := 20) (N := some 2) (v := ?_) (a' := ?_) #[true, true, true, true, true, true, true, true, true, true, true, true, true, true, true, true, true, true, true, true, true] rfl rfl (any_of HT_.out (by kernel_rfl)) (fun _ _ _ h => h) (Or.inl ⟨by rfl, ?_⟩) ?_ ?_
                rotate_left
                ·intro w'
                 go_simp
                 with_reducible rfl
                rotate_left
                ·simp only [Act.put, List.setIfInBounds_toArray, List.set_cons_zero, List.set_cons_succ, i64_w, i32_w]
                 rfl
                refine done_ (done_of HT_.out (by kernel_rfl)) ?_
                try go_wp2
                go_ret
                exact ⟨by first | rfl | (simp [errW_none, errW_some] <;> rfl) | (simp [*, errW_none, errW_some] <;> rfl), by repeat (first | (with_reducible first | exact HB.out | apply below_alloc | apply pw_below_drewN | apply below_drew1 | refine below_set ?_ GE128.out) | exact HB.out)⟩
               ·rw [if_neg c43] at H
                exact absurd H (by simp)
              ·rw [if_neg c41] at H
               exact absurd H (by simp)
             ·rw [if_neg c40] at H
              exact absurd H (by simp)
            ·rw [if_neg c39] at H
             exact absurd H (by simp)
           ·rw [if_neg c37] at H
            exact absurd H (by simp)
          ·rw [if_neg c36] at H
           exact absurd H (by simp)
         ·rw [if_neg c35] at H
          exact absurd H (by simp)
        ·rw [if_neg c33] at H
         exact absurd H (by simp)
       ·rw [if_neg c32] at H
        have c32b0 : (a0_0 == 7) = false := beq_eq_false_iff_ne.mpr c32
        have c32b1 : (a0_0 != 7) = true := bne_iff_ne.mpr c32
        by_cases c50 : a0_0 = 8
        ·rw [if_pos c50] at H
         have c50b0 : (a0_0 == 8) = true := beq_iff_eq.mpr c50
         have c50b1 : (a0_0 != 8) = false := bne_eq_false_iff_eq.mpr c50
         clear c50
         by_cases c51 : 0 < (l0_5.length : Int)
         ·rw [if_pos c51] at H
          have c51b0 : decide (0 < (l0_5.length : Int)) = true := decide_eq_true c51
          have c51b1 : decide (0 < l0_5.length) = true := decide_eq_true (by omega)
          clear c51
          replace H := Option.bind_eq_some_iff.mp H
          obtain ⟨t143, A520, H⟩ := H
          replace H : (if t143.size + 4 ≤ 9223372036854775807 then (if 1 < (l0_5.length : Int) then ((tree_at.f k ((rd_T51 l0_5 1).f0) ((rd_T51 l0_5 1).f1) ((rd_T51 l0_5 1).f2) ((rd_T51 l0_5 1).f3) ((rd_T51 l0_5 1).f4) ((rd_T51 l0_5 1).f5) 1).bind fun t145 => (if (t143 ++ (⟨#[32, 45, 62, 32]⟩ : ByteArray)).size + t145.size ≤ 9223372036854775807 then (some ((t143 ++ (⟨#[32, 45, 62, 32]⟩ : ByteArray)) ++ t145)) else (none))) else (none)) else (none)) = some r := H
          have A52 := Aside0.mk A520
          clear A520
          by_cases c53 : t143.size + 4 ≤ 9223372036854775807
          ·rw [if_pos c53] at H
           have c53b0 := eq_true c53
           have c53b1 : decide (t143.size + 4 ≤ 9223372036854775807) = true := decide_eq_true c53
           try have c53b2 : (9223372036854775807 < t143.size + 4) = False := eq_false (Nat.not_lt.2 c53)
           by_cases c54 : 1 < (l0_5.length : Int)
           ·rw [if_pos c54] at H
            have c54b0 : decide (1 < (l0_5.length : Int)) = true := decide_eq_true c54
            have c54b1 : decide (1 < l0_5.length) = true := decide_eq_true (by omega)
            clear c54
            replace H := Option.bind_eq_some_iff.mp H
            obtain ⟨t145, A550, H⟩ := H
            replace H : (if (t143 ++ (⟨#[32, 45, 62, 32]⟩ : ByteArray)).size + t145.size ≤ 9223372036854775807 then (some ((t143 ++ (⟨#[32, 45, 62, 32]⟩ : ByteArray)) ++ t145)) else (none)) = some r := H
            have A55 := Aside0.mk A550
            clear A550
            by_cases c56 : (t143 ++ (⟨#[32, 45, 62, 32]⟩ : ByteArray)).size + t145.size ≤ 9223372036854775807
            ·rw [if_pos c56] at H
             have c56b0 := eq_true c56
             have c56b1 : decide ((t143 ++ (⟨#[32, 45, 62, 32]⟩ : ByteArray)).size + t145.size ≤ 9223372036854775807) = true := decide_eq_true c56
             try have c56b2 : (9223372036854775807 < (t143 ++ (⟨#[32, 45, 62, 32]⟩ : ByteArray)).size + t145.size) = False := eq_false (Nat.not_lt.2 c56)
             try have c56b9 : (9223372036854775807 < t143.size + 4 + t145.size) = False := eq_false (by have h_ := c56; simp only [ByteArray.size_append] at h_; exact Nat.not_lt.2 h_)
             obtain rfl := Option.some.inj H
             go_enter Tryd.func29, Tryd.ntmps29
             try go_wp2_with (first | ((with_reducible refine gate_dst (N := 1) rfl ?_); refine box_event ?hg (N := 1) ?hd (cs := #[.int .i64 a0_0, .int .i64 a0_1, .int .i64 a0_2, .string a0_3, .bool a0_4, .slice A0_5 l0_5.length c0_5]) (t := 51) ?hr ?_; (case hd => rfl); (case hg => rfl); (case hr => first | (go_simp; done) | (go_simp; rfl)); intro gb128 hg w57 hbox hb; have n0_ := Aside0.mk (below_step (by repeat (first | (with_reducible first | exact HB.out | apply below_alloc | apply pw_below_drewN | apply below_drew1) | exact HB.out)) hb); have n1_ := Aside0.mk (hbox); have n2_ := Aside0.mk ((by rw [hg]; exact (below_size (by repeat (first | (with_reducible first | exact HB.out | apply below_alloc | apply pw_below_drewN | apply below_drew1) | exact HB.out))) : w.heap.size ≤ gb128)); have n3_ := Aside0.mk ((by rw [hg]; exact (below_size (by repeat (first | (with_reducible first | exact HB.out | apply below_alloc | apply pw_below_drewN | apply below_drew1) | exact HB.out))) : w.heap.size ≤ gb128)); clear HB; have HB := n0_; have BK128 := n1_; have GW128 := n2_; have GE128 := n3_; clear n0_ n1_ n2_ n3_; clear hb hbox hg; have hcz58_0 : w57.cell? ⟨gb128, 0, none⟩ = some (.int .i64 a0_0) := (blk_cell BK128.out 0).trans rfl; have hcz58_1 : w57.cell? ⟨gb128, 1, none⟩ = some (.int .i64 a0_1) := (blk_cell BK128.out 1).trans rfl; have hcz58_2 : w57.cell? ⟨gb128, 2, none⟩ = some (.int .i64 a0_2) := (blk_cell BK128.out 2).trans rfl; have hcz58_3 : w57.cell? ⟨gb128, 3, none⟩ = some (.string a0_3) := (blk_cell BK128.out 3).trans rfl; have hcz58_4 : w57.cell? ⟨gb128, 4, none⟩ = some (.bool a0_4) := (blk_cell BK128.out 4).trans rfl; have hcz58_5 : w57.cell? ⟨gb128, 5, none⟩ = some (.slice A0_5 l0_5.length c0_5) := (blk_cell BK128.out 5).trans rfl; have hfz58_0 := blk_frozen BK128.out 0; have hfz58_1 := blk_frozen BK128.out 1; have hfz58_2 := blk_frozen BK128.out 2; have hfz58_3 := blk_frozen BK128.out 3; have hfz58_4 := blk_frozen BK128.out 4; have hfz58_5 := blk_frozen BK128.out 5))
             have n0_ := Aside0.mk (blk_drew BK128.out)
             have n1_ := Aside0.mk (below_drew1 HB.out)
             clear BK128
             clear HB
             have BK128 := n0_
             have HB := n1_
             clear n0_ n1_
             have p142 : 0 ≤ (0 : Int) := (by omega)
             have q142 : 0 < (l0_5.length : Int) := of_decide_eq_true (by first | (with_reducible assumption) | assumption)
             obtain ⟨ad142, A142_5, c142_5, e142, hx142_0, hx142_1, hx142_2, hx142_3, hx142_4, hx142_5, hl142_5, hi142_5⟩ := at_T51 HR0_5.out 0 p142 q142
             have hw142_5 := hx142_5
             (try rw [show ((0 : Int)).toNat = 0 from rfl] at hw142_5)
             (try rw [show 0 * 6 = 0 from rfl] at hw142_5)
             (try rw [Addr.add_zero'] at hw142_5)
             have hw142_4 := hx142_4
             (try rw [show ((0 : Int)).toNat = 0 from rfl] at hw142_4)
             (try rw [show 0 * 6 = 0 from rfl] at hw142_4)
             (try rw [Addr.add_zero'] at hw142_4)
             have hw142_3 := hx142_3
             (try rw [show ((0 : Int)).toNat = 0 from rfl] at hw142_3)
             (try rw [show 0 * 6 = 0 from rfl] at hw142_3)
             (try rw [Addr.add_zero'] at hw142_3)
             have hw142_2 := hx142_2
             (try rw [show ((0 : Int)).toNat = 0 from rfl] at hw142_2)
             (try rw [show 0 * 6 = 0 from rfl] at hw142_2)
             (try rw [Addr.add_zero'] at hw142_2)
             have hw142_1 := hx142_1
             (try rw [show ((0 : Int)).toNat = 0 from rfl] at hw142_1)
             (try rw [show 0 * 6 = 0 from rfl] at hw142_1)
             (try rw [Addr.add_zero'] at hw142_1)
             have hw142_0 := hx142_0
             (try rw [show ((0 : Int)).toNat = 0 from rfl] at hw142_0)
             (try rw [show 0 * 6 = 0 from rfl] at hw142_0)
             (try rw [Addr.add_zero'] at hw142_0)
             cases e142
             have qi142 : (0 < l0_5.length) = True := eq_true (by omega)
             (try rw [show ((0 : Int)).toNat = 0 from rfl] at hx142_0)
             (try rw [show 0 * 6 = 0 from rfl] at hx142_0)
             (try rw [Addr.add_zero'] at hx142_0)
             (try rw [show ((0 : Int)).toNat = 0 from rfl] at hx142_1)
             (try rw [show 0 * 6 = 0 from rfl] at hx142_1)
             (try rw [Addr.add_zero'] at hx142_1)
             (try rw [show ((0 : Int)).toNat = 0 from rfl] at hx142_2)
             (try rw [show 0 * 6 = 0 from rfl] at hx142_2)
             (try rw [Addr.add_zero'] at hx142_2)
             (try rw [show ((0 : Int)).toNat = 0 from rfl] at hx142_3)
             (try rw [show 0 * 6 = 0 from rfl] at hx142_3)
             (try rw [Addr.add_zero'] at hx142_3)
             (try rw [show ((0 : Int)).toNat = 0 from rfl] at hx142_4)
             (try rw [show 0 * 6 = 0 from rfl] at hx142_4)
             (try rw [Addr.add_zero'] at hx142_4)
             (try rw [show ((0 : Int)).toNat = 0 from rfl] at hx142_5)
             (try rw [show 0 * 6 = 0 from rfl] at hx142_5)
             (try rw [Addr.add_zero'] at hx142_5)
             replace hx142_0 := (HB.out.cell (World.block_lt_of_cell? w _ hx142_0)).trans hx142_0
             replace hx142_1 := (HB.out.cell (World.block_lt_of_cell? w _ hx142_1)).trans hx142_1
             replace hx142_2 := (HB.out.cell (World.block_lt_of_cell? w _ hx142_2)).trans hx142_2
             replace hx142_3 := (HB.out.cell (World.block_lt_of_cell? w _ hx142_3)).trans hx142_3
             replace hx142_4 := (HB.out.cell (World.block_lt_of_cell? w _ hx142_4)).trans hx142_4
             replace hx142_5 := (HB.out.cell (World.block_lt_of_cell? w _ hx142_5)).trans hx142_5
             have HR142_5 := Aside0.mk hi142_5
             have HC142_5 := Aside0.mk hl142_5
             clear hi142_5 hl142_5
             replace p142 := eq_true p142
             replace q142 := eq_true q142
             have p144 : 0 ≤ (1 : Int) := (by omega)
             have q144 : 1 < (l0_5.length : Int) := of_decide_eq_true (by first | (with_reducible assumption) | assumption)
             obtain ⟨ad144, A144_5, c144_5, e144, hx144_0, hx144_1, hx144_2, hx144_3, hx144_4, hx144_5, hl144_5, hi144_5⟩ := at_T51 HR0_5.out 1 p144 q144
             have hw144_5 := hx144_5
             (try rw [show ((1 : Int)).toNat = 1 from rfl] at hw144_5)
             (try rw [show 1 * 6 = 6 from rfl] at hw144_5)
             (try simp only [Nat.reduceMul, Nat.reduceEqDiff, Go.Addr.add, ↓reduceIte] at hw144_5)
             have hw144_4 := hx144_4
             (try rw [show ((1 : Int)).toNat = 1 from rfl] at hw144_4)
             (try rw [show 1 * 6 = 6 from rfl] at hw144_4)
             (try simp only [Nat.reduceMul, Nat.reduceEqDiff, Go.Addr.add, ↓reduceIte] at hw144_4)
             have hw144_3 := hx144_3
             (try rw [show ((1 : Int)).toNat = 1 from rfl] at hw144_3)
             (try rw [show 1 * 6 = 6 from rfl] at hw144_3)
             (try simp only [Nat.reduceMul, Nat.reduceEqDiff, Go.Addr.add, ↓reduceIte] at hw144_3)
             have hw144_2 := hx144_2
             (try rw [show ((1 : Int)).toNat = 1 from rfl] at hw144_2)
             (try rw [show 1 * 6 = 6 from rfl] at hw144_2)
             (try simp only [Nat.reduceMul, Nat.reduceEqDiff, Go.Addr.add, ↓reduceIte] at hw144_2)
             have hw144_1 := hx144_1
             (try rw [show ((1 : Int)).toNat = 1 from rfl] at hw144_1)
             (try rw [show 1 * 6 = 6 from rfl] at hw144_1)
             (try simp only [Nat.reduceMul, Nat.reduceEqDiff, Go.Addr.add, ↓reduceIte] at hw144_1)
             have hw144_0 := hx144_0
             (try rw [show ((1 : Int)).toNat = 1 from rfl] at hw144_0)
             (try rw [show 1 * 6 = 6 from rfl] at hw144_0)
             (try simp only [Nat.reduceMul, Nat.reduceEqDiff, Go.Addr.add, ↓reduceIte] at hw144_0)
             obtain rfl : ad142 = ad144 := (by injection e144)
             (try simp only [show (1 : Int).toNat = 1 from rfl, Nat.reduceMul, Nat.reduceEqDiff, Go.Addr.add, ↓reduceIte] at hx144_0)
             (try simp only [show (1 : Int).toNat = 1 from rfl, Nat.reduceMul, Nat.reduceEqDiff, Go.Addr.add, ↓reduceIte] at hx144_1)
             (try simp only [show (1 : Int).toNat = 1 from rfl, Nat.reduceMul, Nat.reduceEqDiff, Go.Addr.add, ↓reduceIte] at hx144_2)
             (try simp only [show (1 : Int).toNat = 1 from rfl, Nat.reduceMul, Nat.reduceEqDiff, Go.Addr.add, ↓reduceIte] at hx144_3)
             (try simp only [show (1 : Int).toNat = 1 from rfl, Nat.reduceMul, Nat.reduceEqDiff, Go.Addr.add, ↓reduceIte] at hx144_4)
             (try simp only [show (1 : Int).toNat = 1 from rfl, Nat.reduceMul, Nat.reduceEqDiff, Go.Addr.add, ↓reduceIte] at hx144_5)
             have qi144 : (1 < l0_5.length) = True := eq_true (by omega)
             (try rw [show ((1 : Int)).toNat = 1 from rfl] at hx144_0)
             (try rw [show 1 * 6 = 6 from rfl] at hx144_0)
             (try rw [show ((1 : Int)).toNat = 1 from rfl] at hx144_1)
             (try rw [show 1 * 6 = 6 from rfl] at hx144_1)
             (try rw [show ((1 : Int)).toNat = 1 from rfl] at hx144_2)
             (try rw [show 1 * 6 = 6 from rfl] at hx144_2)
             (try rw [show ((1 : Int)).toNat = 1 from rfl] at hx144_3)
             (try rw [show 1 * 6 = 6 from rfl] at hx144_3)
             (try rw [show ((1 : Int)).toNat = 1 from rfl] at hx144_4)
             (try rw [show 1 * 6 = 6 from rfl] at hx144_4)
             (try rw [show ((1 : Int)).toNat = 1 from rfl] at hx144_5)
             (try rw [show 1 * 6 = 6 from rfl] at hx144_5)
             replace hx144_0 := (HB.out.cell (World.block_lt_of_cell? w _ hx144_0)).trans hx144_0
             replace hx144_1 := (HB.out.cell (World.block_lt_of_cell? w _ hx144_1)).trans hx144_1
             replace hx144_2 := (HB.out.cell (World.block_lt_of_cell? w _ hx144_2)).trans hx144_2
             replace hx144_3 := (HB.out.cell (World.block_lt_of_cell? w _ hx144_3)).trans hx144_3
             replace hx144_4 := (HB.out.cell (World.block_lt_of_cell? w _ hx144_4)).trans hx144_4
             replace hx144_5 := (HB.out.cell (World.block_lt_of_cell? w _ hx144_5)).trans hx144_5
             have HR144_5 := Aside0.mk hi144_5
             have HC144_5 := Aside0.mk hl144_5
             clear hi144_5 hl144_5
             replace p144 := eq_true p144
             replace q144 := eq_true q144
             refine start_ (n := 13) (S := fun w' => w'.cell? ⟨gb128, 0, none⟩ = some (.int .i64 a0_0) ∧ w'.cell? ⟨gb128, 1, none⟩ = some (.int .i64 a0_1) ∧ w'.cell? ⟨gb128, 2, none⟩ = some (.int .i64 a0_2) ∧ w'.cell? ⟨gb128, 3, none⟩ = some (.string a0_3) ∧ w'.cell? ⟨gb128, 4, none⟩ = some (.bool a0_4) ∧ w'.cell? ⟨gb128, 5, none⟩ = some (.slice (some ad142) l0_5.length c0_5) ∧ w'.cell? ad142 = some (.int .i64 ((rd_T51 l0_5 0).f0)) ∧ w'.cell? ⟨ad142.block, ad142.off + 1, none⟩ = some (.int .i64 ((rd_T51 l0_5 0).f1)) ∧ w'.cell? ⟨ad142.block, ad142.off + 2, none⟩ = some (.int .i64 ((rd_T51 l0_5 0).f2)) ∧ w'.cell? ⟨ad142.block, ad142.off + 3, none⟩ = some (.string ((rd_T51 l0_5 0).f3)) ∧ w'.cell? ⟨ad142.block, ad142.off + 4, none⟩ = some (.bool ((rd_T51 l0_5 0).f4)) ∧ w'.cell? ⟨ad142.block, ad142.off + 5, none⟩ = some (.slice A142_5 ((rd_T51 l0_5 0).f5).length c142_5) ∧ w'.cell? ⟨ad142.block, ad142.off + 6, none⟩ = some (.int .i64 ((rd_T51 l0_5 1).f0)) ∧ w'.cell? ⟨ad142.block, ad142.off + 6 + 1, none⟩ = some (.int .i64 ((rd_T51 l0_5 1).f1)) ∧ w'.cell? ⟨ad142.block, ad142.off + 6 + 2, none⟩ = some (.int .i64 ((rd_T51 l0_5 1).f2)) ∧ w'.cell? ⟨ad142.block, ad142.off + 6 + 3, none⟩ = some (.string ((rd_T51 l0_5 1).f3)) ∧ w'.cell? ⟨ad142.block, ad142.off + 6 + 4, none⟩ = some (.bool ((rd_T51 l0_5 1).f4)) ∧ w'.cell? ⟨ad142.block, ad142.off + 6 + 5, none⟩ = some (.slice A144_5 ((rd_T51 l0_5 1).f5).length c144_5)) (ds := []) #[false, false, false, false, false, false, false, false, false, false, false, false, false] (by kernel_rfl) rfl rfl ⟨(blk_cell BK128.out 0).trans rfl, (blk_cell BK128.out 1).trans rfl, (blk_cell BK128.out 2).trans rfl, (blk_cell BK128.out 3).trans rfl, (blk_cell BK128.out 4).trans rfl, (blk_cell BK128.out 5).trans rfl, ((HB.out.cell (World.block_lt_of_cell? w _ hw142_0)).trans hw142_0), ((HB.out.cell (World.block_lt_of_cell? w _ hw142_1)).trans hw142_1), ((HB.out.cell (World.block_lt_of_cell? w _ hw142_2)).trans hw142_2), ((HB.out.cell (World.block_lt_of_cell? w _ hw142_3)).trans hw142_3), ((HB.out.cell (World.block_lt_of_cell? w _ hw142_4)).trans hw142_4), ((HB.out.cell (World.block_lt_of_cell? w _ hw142_5)).trans hw142_5), ((HB.out.cell (World.block_lt_of_cell? w _ hw144_0)).trans hw144_0), ((HB.out.cell (World.block_lt_of_cell? w _ hw144_1)).trans hw144_1), ((HB.out.cell (World.block_lt_of_cell? w _ hw144_2)).trans hw144_2), ((HB.out.cell (World.block_lt_of_cell? w _ hw144_3)).trans hw144_3), ((HB.out.cell (World.block_lt_of_cell? w _ hw144_4)).trans hw144_4), ((HB.out.cell (World.block_lt_of_cell? w _ hw144_5)).trans hw144_5)⟩ (fun hHeld => ?_); refine with_tabW tree_Text.tab17 tree_Text.bits17 (fun HT_ HW_ => ?_)
             generalize w57.drew = w59 at BK128 HB HR142_5 HR144_5 hx142_0 hx142_1 hx142_2 hx142_3 hx142_4 hx142_5 hx144_0 hx144_1 hx144_2 hx144_3 hx144_4 hx144_5 hHeld ⊢
             refine pure_ (i := 0) (N := some 63) (v := ?_) (a' := ?_) #[true, false, false, false, false, false, false, false, false, false, false, false, false] rfl rfl (any_of HT_.out (by kernel_rfl)) (fun _ _ _ h => h) (Or.inl ⟨by rfl, ?_⟩) ?_ ?_
             rotate_left
             ·intro w'
              go_simp
              with_reducible rfl
             rotate_left
             ·simp only [Act.put, List.setIfInBounds_toArray, List.set_cons_zero, List.set_cons_succ, i64_w, i32_w]
              rfl
             refine pure_ (i := 6) (N := some 69) (v := ?_) (a' := ?_) #[true, false, false, false, false, false, true, false, false, false, false, false, false] rfl rfl (any_of HT_.out (by kernel_rfl)) (fun _ _ _ h => h) (Or.inl ⟨by rfl, ?_⟩) ?_ ?_
             rotate_left
             ·intro w'
              go_simp
              with_reducible rfl
             rotate_left
             ·simp only [Act.put, List.setIfInBounds_toArray, List.set_cons_zero, List.set_cons_succ, i64_w, i32_w]
              rfl
             refine take_ (i := 1) (N := some 64) (v := ?_) (a' := ?_) #[true, true, false, false, false, false, true, false, false, false, false, false, false] rfl rfl (take_ofW HT_.out HW_.out (by kernel_rfl)) (fun _ _ _ h => h) (Or.inl ⟨by rfl, ?_⟩) hHeld ?_ ?_
             rotate_left
             ·rintro w' ⟨s0, s1, s2, s3, s4, s5, s6, s7, s8, s9, s10, s11, s12, s13, s14, s15, s16, s17⟩
              go_simp
              with_reducible rfl
             rotate_left
             ·simp only [Act.put, List.setIfInBounds_toArray, List.set_cons_zero, List.set_cons_succ, i64_w, i32_w]
              rfl
             refine pure_ (i := 2) (N := some 65) (v := ?_) (a' := ?_) #[true, true, true, false, false, false, true, false, false, false, false, false, false] rfl rfl (any_of HT_.out (by kernel_rfl)) (fun _ _ _ h => h) (Or.inl ⟨by rfl, ?_⟩) ?_ ?_
             rotate_left
             ·intro w'
              go_simp
              with_reducible rfl
             rotate_left
             ·simp only [Act.put, List.setIfInBounds_toArray, List.set_cons_zero, List.set_cons_succ, i64_w, i32_w]
              rfl
             refine take_ (i := 3) (N := some 66) (v := ?_) (a' := ?_) #[true, true, true, true, false, false, true, false, false, false, false, false, false] rfl rfl (take_ofW HT_.out HW_.out (by kernel_rfl)) (fun _ _ _ h => h) (Or.inl ⟨by rfl, ?_⟩) hHeld ?_ ?_
             rotate_left
             ·rintro w' ⟨s0, s1, s2, s3, s4, s5, s6, s7, s8, s9, s10, s11, s12, s13, s14, s15, s16, s17⟩
              go_simp
              with_reducible rfl
             rotate_left
             ·simp only [Act.put, List.setIfInBounds_toArray, List.set_cons_zero, List.set_cons_succ, i64_w, i32_w]
              rfl
             refine take_ (i := 7) (N := some 70) (v := ?_) (a' := ?_) #[true, true, true, true, false, false, true, true, false, false, false, false, false] rfl rfl (take_ofW HT_.out HW_.out (by kernel_rfl)) (fun _ _ _ h => h) (Or.inl ⟨by rfl, ?_⟩) hHeld ?_ ?_
             rotate_left
             ·rintro w' ⟨s0, s1, s2, s3, s4, s5, s6, s7, s8, s9, s10, s11, s12, s13, s14, s15, s16, s17⟩
              go_simp
              with_reducible rfl
             rotate_left
             ·simp only [Act.put, List.setIfInBounds_toArray, List.set_cons_zero, List.set_cons_succ, i64_w, i32_w]
              rfl
             refine pure_ (i := 8) (N := some 71) (v := ?_) (a' := ?_) #[true, true, true, true, false, false, true, true, true, false, false, false, false] rfl rfl (any_of HT_.out (by kernel_rfl)) (fun _ _ _ h => h) (Or.inl ⟨by rfl, ?_⟩) ?_ ?_
             rotate_left
             ·intro w'
              go_simp
              with_reducible rfl
             rotate_left
             ·simp only [Act.put, List.setIfInBounds_toArray, List.set_cons_zero, List.set_cons_succ, i64_w, i32_w]
              rfl
             refine take_ (i := 9) (N := some 72) (v := ?_) (a' := ?_) #[true, true, true, true, false, false, true, true, true, true, false, false, false] rfl rfl (take_ofW HT_.out HW_.out (by kernel_rfl)) (fun _ _ _ h => h) (Or.inl ⟨by rfl, ?_⟩) hHeld ?_ ?_
             rotate_left
             ·rintro w' ⟨s0, s1, s2, s3, s4, s5, s6, s7, s8, s9, s10, s11, s12, s13, s14, s15, s16, s17⟩
              go_simp
              with_reducible rfl
             rotate_left
             ·simp only [Act.put, List.setIfInBounds_toArray, List.set_cons_zero, List.set_cons_succ, i64_w, i32_w]
              rfl
             refine one_ (i := 4) (N := some 67) #[true, true, true, true, true, false, true, true, true, true, false, false, false] rfl rfl (one_of HT_.out (by kernel_rfl)) (by decide) (fun K hK => ?_)
             refine goes_ Tryd.func70 (by kernel_rfl) rfl #[.agg #[.int .i64 ((rd_T51 l0_5 0).f0), .int .i64 ((rd_T51 l0_5 0).f1), .int .i64 ((rd_T51 l0_5 0).f2), .string ((rd_T51 l0_5 0).f3), .bool ((rd_T51 l0_5 0).f4), .slice A142_5 ((rd_T51 l0_5 0).f5).length c142_5], .int .i64 2] (by rfl) rfl rfl (by (try simp only [List.map_toArray, List.map_cons, List.map_nil]); first | done | rfl | (simp only [List.length_drop, List.length_take]; rfl)) ?_
             with_reducible refine (ih_70 k (by omega) ((rd_T51 l0_5 0).f0) ((rd_T51 l0_5 0).f1) ((rd_T51 l0_5 0).f2) ((rd_T51 l0_5 0).f3) ((rd_T51 l0_5 0).f4) _ _ ((rd_T51 l0_5 0).f5) 2 t143 _ ?side1 ?side2 A52.out ?side3).mono ?_
             (case side1 => repeat (first | exact (Kd.C_below HR142_5.out HB.out) | (with_reducible refine Kd.C_alloc ?_ _) | (with_reducible refine Kd.C_drewN ?_ _) | (with_reducible refine Kd.C_drew ?_)))
             (case side2 => exact HC142_5.out)
             (case side3 => exact Tabs.below HT.out (by repeat (first | (with_reducible first | exact HB.out | apply below_alloc | apply pw_below_drewN | apply below_drew1 | refine below_set ?_ GE128.out) | exact HB.out)))
             rintro e w60 ⟨rfl, hb⟩
             refine ⟨_, rfl, ?_⟩
             have n0_ := Aside0.mk (blk_below (g := gb128) (o := .cells #[.int .i64 a0_0, .int .i64 a0_1, .int .i64 a0_2, .string a0_3, .bool a0_4, .slice (some ad142) l0_5.length c0_5] 51 (0, 0)) (by (with_reducible repeat (first | refine blk_drewN ?_ _ | refine blk_drew ?_ | refine blk_alloc ?_ _)); exact BK128.out) hb)
             have n1_ := Aside0.mk (below_step (by repeat (first | (with_reducible first | exact HB.out | apply below_alloc | apply pw_below_drewN | apply below_drew1 | refine below_set ?_ GE128.out) | exact HB.out)) hb)
             clear BK128
             clear HB
             have BK128 := n0_
             have HB := n1_
             clear n0_ n1_
             (try clear hb)
             (try clear hb2)
             (try clear hk)
             (try clear hi)
             refine hK.out _ _ ⟨(blk_cell BK128.out 0).trans rfl, (blk_cell BK128.out 1).trans rfl, (blk_cell BK128.out 2).trans rfl, (blk_cell BK128.out 3).trans rfl, (blk_cell BK128.out 4).trans rfl, (blk_cell BK128.out 5).trans rfl, ((HB.out.cell (World.block_lt_of_cell? w _ hw142_0)).trans hw142_0), ((HB.out.cell (World.block_lt_of_cell? w _ hw142_1)).trans hw142_1), ((HB.out.cell (World.block_lt_of_cell? w _ hw142_2)).trans hw142_2), ((HB.out.cell (World.block_lt_of_cell? w _ hw142_3)).trans hw142_3), ((HB.out.cell (World.block_lt_of_cell? w _ hw142_4)).trans hw142_4), ((HB.out.cell (World.block_lt_of_cell? w _ hw142_5)).trans hw142_5), ((HB.out.cell (World.block_lt_of_cell? w _ hw144_0)).trans hw144_0), ((HB.out.cell (World.block_lt_of_cell? w _ hw144_1)).trans hw144_1), ((HB.out.cell (World.block_lt_of_cell? w _ hw144_2)).trans hw144_2), ((HB.out.cell (World.block_lt_of_cell? w _ hw144_3)).trans hw144_3), ((HB.out.cell (World.block_lt_of_cell? w _ hw144_4)).trans hw144_4), ((HB.out.cell (World.block_lt_of_cell? w _ hw144_5)).trans hw144_5)⟩ (fun hHeld => ?_)
             clear hK K
             refine norm_ (a' := ?_) ?_ ?_
             rotate_left
             ·show Act.put _ (some 67) _ = _
              simp only [Act.put, List.setIfInBounds_toArray, List.set_cons_zero, List.set_cons_succ, i64_w, i32_w]
              rfl
             refine pure_ (i := 5) (N := some 68) (v := ?_) (a' := ?_) #[true, true, true, true, true, true, true, true, true, true, false, false, false] rfl rfl (any_of HT_.out (by kernel_rfl)) (fun _ _ _ h => h) (Or.inl ⟨by rfl, ?_⟩) ?_ ?_
             rotate_left
             ·intro w'
              go_simp
              with_reducible rfl
             rotate_left
             ·simp only [Act.put, List.setIfInBounds_toArray, List.set_cons_zero, List.set_cons_succ, i64_w, i32_w]
              rfl
             refine one_ (i := 10) (N := some 73) #[true, true, true, true, true, true, true, true, true, true, true, false, false] rfl rfl (one_of HT_.out (by kernel_rfl)) (by decide) (fun K hK => ?_)
             refine goes_ Tryd.func70 (by kernel_rfl) rfl #[.agg #[.int .i64 ((rd_T51 l0_5 1).f0), .int .i64 ((rd_T51 l0_5 1).f1), .int .i64 ((rd_T51 l0_5 1).f2), .string ((rd_T51 l0_5 1).f3), .bool ((rd_T51 l0_5 1).f4), .slice A144_5 ((rd_T51 l0_5 1).f5).length c144_5], .int .i64 1] (by rfl) rfl rfl (by (try simp only [List.map_toArray, List.map_cons, List.map_nil]); first | done | rfl | (simp only [List.length_drop, List.length_take]; rfl)) ?_
             with_reducible refine (ih_70 k (by omega) ((rd_T51 l0_5 1).f0) ((rd_T51 l0_5 1).f1) ((rd_T51 l0_5 1).f2) ((rd_T51 l0_5 1).f3) ((rd_T51 l0_5 1).f4) _ _ ((rd_T51 l0_5 1).f5) 1 t145 _ ?side1 ?side2 A55.out ?side3).mono ?_
             (case side1 => repeat (first | exact (Kd.C_below HR144_5.out HB.out) | (with_reducible refine Kd.C_alloc ?_ _) | (with_reducible refine Kd.C_drewN ?_ _) | (with_reducible refine Kd.C_drew ?_)))
             (case side2 => exact HC144_5.out)
             (case side3 => exact Tabs.below HT.out (by repeat (first | (with_reducible first | exact HB.out | apply below_alloc | apply pw_below_drewN | apply below_drew1 | refine below_set ?_ GE128.out) | exact HB.out)))
             rintro e w61 ⟨rfl, hb⟩
             refine ⟨_, rfl, ?_⟩
             have n0_ := Aside0.mk (blk_below (g := gb128) (o := .cells #[.int .i64 a0_0, .int .i64 a0_1, .int .i64 a0_2, .string a0_3, .bool a0_4, .slice (some ad142) l0_5.length c0_5] 51 (0, 0)) (by (with_reducible repeat (first | refine blk_drewN ?_ _ | refine blk_drew ?_ | refine blk_alloc ?_ _)); exact BK128.out) hb)
             have n1_ := Aside0.mk (below_step (by repeat (first | (with_reducible first | exact HB.out | apply below_alloc | apply pw_below_drewN | apply below_drew1 | refine below_set ?_ GE128.out) | exact HB.out)) hb)
             clear BK128
             clear HB
             have BK128 := n0_
             have HB := n1_
             clear n0_ n1_
             (try clear hb)
             (try clear hb2)
             (try clear hk)
             (try clear hi)
             refine hK.out _ _ ⟨(blk_cell BK128.out 0).trans rfl, (blk_cell BK128.out 1).trans rfl, (blk_cell BK128.out 2).trans rfl, (blk_cell BK128.out 3).trans rfl, (blk_cell BK128.out 4).trans rfl, (blk_cell BK128.out 5).trans rfl, ((HB.out.cell (World.block_lt_of_cell? w _ hw142_0)).trans hw142_0), ((HB.out.cell (World.block_lt_of_cell? w _ hw142_1)).trans hw142_1), ((HB.out.cell (World.block_lt_of_cell? w _ hw142_2)).trans hw142_2), ((HB.out.cell (World.block_lt_of_cell? w _ hw142_3)).trans hw142_3), ((HB.out.cell (World.block_lt_of_cell? w _ hw142_4)).trans hw142_4), ((HB.out.cell (World.block_lt_of_cell? w _ hw142_5)).trans hw142_5), ((HB.out.cell (World.block_lt_of_cell? w _ hw144_0)).trans hw144_0), ((HB.out.cell (World.block_lt_of_cell? w _ hw144_1)).trans hw144_1), ((HB.out.cell (World.block_lt_of_cell? w _ hw144_2)).trans hw144_2), ((HB.out.cell (World.block_lt_of_cell? w _ hw144_3)).trans hw144_3), ((HB.out.cell (World.block_lt_of_cell? w _ hw144_4)).trans hw144_4), ((HB.out.cell (World.block_lt_of_cell? w _ hw144_5)).trans hw144_5)⟩ (fun hHeld => ?_)
             clear hK K
             refine norm_ (a' := ?_) ?_ ?_
             rotate_left
             ·show Act.put _ (some 73) _ = _
              simp only [Act.put, List.setIfInBounds_toArray, List.set_cons_zero, List.set_cons_succ, i64_w, i32_w]
              rfl
             refine pure_ (i := 11) (N := some 74) (v := ?_) (a' := ?_) #[true, true, true, true, true, true, true, true, true, true, true, true, false] rfl rfl (any_of HT_.out (by kernel_rfl)) (fun _ _ _ h => h) (Or.inl ⟨by rfl, ?_⟩) ?_ ?_
             rotate_left
             ·intro w'
              go_simp
              with_reducible rfl
             rotate_left
             ·simp only [Act.put, List.setIfInBounds_toArray, List.set_cons_zero, List.set_cons_succ, i64_w, i32_w]
              rfl
             refine pure_ (i := 12) (N := some 2) (v := ?_) (a' := ?_) #[true, true, true, true, true, true, true, true, true, true, true, true, true] rfl rfl (any_of HT_.out (by kernel_rfl)) (fun _ _ _ h => h) (Or.inl ⟨by rfl, ?_⟩) ?_ ?_
             rotate_left
             ·intro w'
              go_simp
              with_reducible rfl
             rotate_left
             ·simp only [Act.put, List.setIfInBounds_toArray, List.set_cons_zero, List.set_cons_succ, i64_w, i32_w]
              rfl
             refine done_ (done_of HT_.out (by kernel_rfl)) ?_
             try go_wp2
             go_ret
             exact ⟨by first | rfl | (simp [errW_none, errW_some] <;> rfl) | (simp [*, errW_none, errW_some] <;> rfl), by repeat (first | (with_reducible first | exact HB.out | apply below_alloc | apply pw_below_drewN | apply below_drew1 | refine below_set ?_ GE128.out) | exact HB.out)⟩
            ·rw [if_neg c56] at H
             exact absurd H (by simp)
           ·rw [if_neg c54] at H
            exact absurd H (by simp)
          ·rw [if_neg c53] at H
           exact absurd H (by simp)
         ·rw [if_neg c51] at H
          exact absurd H (by simp)
        ·rw [if_neg c50] at H
         have c50b0 : (a0_0 == 8) = false := beq_eq_false_iff_ne.mpr c50
         have c50b1 : (a0_0 != 8) = true := bne_iff_ne.mpr c50
         by_cases c62 : a0_0 = 9
         ·rw [if_pos c62] at H
          have c62b0 : (a0_0 == 9) = true := beq_iff_eq.mpr c62
          have c62b1 : (a0_0 != 9) = false := bne_eq_false_iff_eq.mpr c62
          clear c62
          by_cases c63 : 0 < (l0_5.length : Int)
          ·rw [if_pos c63] at H
           have c63b0 : decide (0 < (l0_5.length : Int)) = true := decide_eq_true c63
           have c63b1 : decide (0 < l0_5.length) = true := decide_eq_true (by omega)
           clear c63
           replace H := Option.bind_eq_some_iff.mp H
           obtain ⟨t147, A640, H⟩ := H
           replace H : (if t147.size + 5 ≤ 9223372036854775807 then (if 1 < (l0_5.length : Int) then ((tree_at.f k ((rd_T51 l0_5 1).f0) ((rd_T51 l0_5 1).f1) ((rd_T51 l0_5 1).f2) ((rd_T51 l0_5 1).f3) ((rd_T51 l0_5 1).f4) ((rd_T51 l0_5 1).f5) 1).bind fun t149 => (if (t147 ++ (⟨#[32, 102, 98, 121, 32]⟩ : ByteArray)).size + t149.size ≤ 9223372036854775807 then (some ((t147 ++ (⟨#[32, 102, 98, 121, 32]⟩ : ByteArray)) ++ t149)) else (none))) else (none)) else (none)) = some r := H
           have A64 := Aside0.mk A640
           clear A640
           by_cases c65 : t147.size + 5 ≤ 9223372036854775807
           ·rw [if_pos c65] at H
            have c65b0 := eq_true c65
            have c65b1 : decide (t147.size + 5 ≤ 9223372036854775807) = true := decide_eq_true c65
            try have c65b2 : (9223372036854775807 < t147.size + 5) = False := eq_false (Nat.not_lt.2 c65)
            by_cases c66 : 1 < (l0_5.length : Int)
            ·rw [if_pos c66] at H
             have c66b0 : decide (1 < (l0_5.length : Int)) = true := decide_eq_true c66
             have c66b1 : decide (1 < l0_5.length) = true := decide_eq_true (by omega)
             clear c66
             replace H := Option.bind_eq_some_iff.mp H
             obtain ⟨t149, A670, H⟩ := H
             replace H : (if (t147 ++ (⟨#[32, 102, 98, 121, 32]⟩ : ByteArray)).size + t149.size ≤ 9223372036854775807 then (some ((t147 ++ (⟨#[32, 102, 98, 121, 32]⟩ : ByteArray)) ++ t149)) else (none)) = some r := H
             have A67 := Aside0.mk A670
             clear A670
             by_cases c68 : (t147 ++ (⟨#[32, 102, 98, 121, 32]⟩ : ByteArray)).size + t149.size ≤ 9223372036854775807
             ·rw [if_pos c68] at H
              have c68b0 := eq_true c68
              have c68b1 : decide ((t147 ++ (⟨#[32, 102, 98, 121, 32]⟩ : ByteArray)).size + t149.size ≤ 9223372036854775807) = true := decide_eq_true c68
              try have c68b2 : (9223372036854775807 < (t147 ++ (⟨#[32, 102, 98, 121, 32]⟩ : ByteArray)).size + t149.size) = False := eq_false (Nat.not_lt.2 c68)
              try have c68b9 : (9223372036854775807 < t147.size + 5 + t149.size) = False := eq_false (by have h_ := c68; simp only [ByteArray.size_append] at h_; exact Nat.not_lt.2 h_)
              obtain rfl := Option.some.inj H
              go_enter Tryd.func29, Tryd.ntmps29
              try go_wp2_with (first | ((with_reducible refine gate_dst (N := 1) rfl ?_); refine box_event ?hg (N := 1) ?hd (cs := #[.int .i64 a0_0, .int .i64 a0_1, .int .i64 a0_2, .string a0_3, .bool a0_4, .slice A0_5 l0_5.length c0_5]) (t := 51) ?hr ?_; (case hd => rfl); (case hg => rfl); (case hr => first | (go_simp; done) | (go_simp; rfl)); intro gb128 hg w69 hbox hb; have n0_ := Aside0.mk (below_step (by repeat (first | (with_reducible first | exact HB.out | apply below_alloc | apply pw_below_drewN | apply below_drew1) | exact HB.out)) hb); have n1_ := Aside0.mk (hbox); have n2_ := Aside0.mk ((by rw [hg]; exact (below_size (by repeat (first | (with_reducible first | exact HB.out | apply below_alloc | apply pw_below_drewN | apply below_drew1) | exact HB.out))) : w.heap.size ≤ gb128)); have n3_ := Aside0.mk ((by rw [hg]; exact (below_size (by repeat (first | (with_reducible first | exact HB.out | apply below_alloc | apply pw_below_drewN | apply below_drew1) | exact HB.out))) : w.heap.size ≤ gb128)); clear HB; have HB := n0_; have BK128 := n1_; have GW128 := n2_; have GE128 := n3_; clear n0_ n1_ n2_ n3_; clear hb hbox hg; have hcz70_0 : w69.cell? ⟨gb128, 0, none⟩ = some (.int .i64 a0_0) := (blk_cell BK128.out 0).trans rfl; have hcz70_1 : w69.cell? ⟨gb128, 1, none⟩ = some (.int .i64 a0_1) := (blk_cell BK128.out 1).trans rfl; have hcz70_2 : w69.cell? ⟨gb128, 2, none⟩ = some (.int .i64 a0_2) := (blk_cell BK128.out 2).trans rfl; have hcz70_3 : w69.cell? ⟨gb128, 3, none⟩ = some (.string a0_3) := (blk_cell BK128.out 3).trans rfl; have hcz70_4 : w69.cell? ⟨gb128, 4, none⟩ = some (.bool a0_4) := (blk_cell BK128.out 4).trans rfl; have hcz70_5 : w69.cell? ⟨gb128, 5, none⟩ = some (.slice A0_5 l0_5.length c0_5) := (blk_cell BK128.out 5).trans rfl; have hfz70_0 := blk_frozen BK128.out 0; have hfz70_1 := blk_frozen BK128.out 1; have hfz70_2 := blk_frozen BK128.out 2; have hfz70_3 := blk_frozen BK128.out 3; have hfz70_4 := blk_frozen BK128.out 4; have hfz70_5 := blk_frozen BK128.out 5))
              have n0_ := Aside0.mk (blk_drew BK128.out)
              have n1_ := Aside0.mk (below_drew1 HB.out)
              clear BK128
              clear HB
              have BK128 := n0_
              have HB := n1_
              clear n0_ n1_
              have p146 : 0 ≤ (0 : Int) := (by omega)
              have q146 : 0 < (l0_5.length : Int) := of_decide_eq_true (by first | (with_reducible assumption) | assumption)
              obtain ⟨ad146, A146_5, c146_5, e146, hx146_0, hx146_1, hx146_2, hx146_3, hx146_4, hx146_5, hl146_5, hi146_5⟩ := at_T51 HR0_5.out 0 p146 q146
              have hw146_5 := hx146_5
              (try rw [show ((0 : Int)).toNat = 0 from rfl] at hw146_5)
              (try rw [show 0 * 6 = 0 from rfl] at hw146_5)
              (try rw [Addr.add_zero'] at hw146_5)
              have hw146_4 := hx146_4
              (try rw [show ((0 : Int)).toNat = 0 from rfl] at hw146_4)
              (try rw [show 0 * 6 = 0 from rfl] at hw146_4)
              (try rw [Addr.add_zero'] at hw146_4)
              have hw146_3 := hx146_3
              (try rw [show ((0 : Int)).toNat = 0 from rfl] at hw146_3)
              (try rw [show 0 * 6 = 0 from rfl] at hw146_3)
              (try rw [Addr.add_zero'] at hw146_3)
              have hw146_2 := hx146_2
              (try rw [show ((0 : Int)).toNat = 0 from rfl] at hw146_2)
              (try rw [show 0 * 6 = 0 from rfl] at hw146_2)
              (try rw [Addr.add_zero'] at hw146_2)
              have hw146_1 := hx146_1
              (try rw [show ((0 : Int)).toNat = 0 from rfl] at hw146_1)
              (try rw [show 0 * 6 = 0 from rfl] at hw146_1)
              (try rw [Addr.add_zero'] at hw146_1)
              have hw146_0 := hx146_0
              (try rw [show ((0 : Int)).toNat = 0 from rfl] at hw146_0)
              (try rw [show 0 * 6 = 0 from rfl] at hw146_0)
              (try rw [Addr.add_zero'] at hw146_0)
              cases e146
              have qi146 : (0 < l0_5.length) = True := eq_true (by omega)
              (try rw [show ((0 : Int)).toNat = 0 from rfl] at hx146_0)
              (try rw [show 0 * 6 = 0 from rfl] at hx146_0)
              (try rw [Addr.add_zero'] at hx146_0)
              (try rw [show ((0 : Int)).toNat = 0 from rfl] at hx146_1)
              (try rw [show 0 * 6 = 0 from rfl] at hx146_1)
              (try rw [Addr.add_zero'] at hx146_1)
              (try rw [show ((0 : Int)).toNat = 0 from rfl] at hx146_2)
              (try rw [show 0 * 6 = 0 from rfl] at hx146_2)
              (try rw [Addr.add_zero'] at hx146_2)
              (try rw [show ((0 : Int)).toNat = 0 from rfl] at hx146_3)
              (try rw [show 0 * 6 = 0 from rfl] at hx146_3)
              (try rw [Addr.add_zero'] at hx146_3)
              (try rw [show ((0 : Int)).toNat = 0 from rfl] at hx146_4)
              (try rw [show 0 * 6 = 0 from rfl] at hx146_4)
              (try rw [Addr.add_zero'] at hx146_4)
              (try rw [show ((0 : Int)).toNat = 0 from rfl] at hx146_5)
              (try rw [show 0 * 6 = 0 from rfl] at hx146_5)
              (try rw [Addr.add_zero'] at hx146_5)
              replace hx146_0 := (HB.out.cell (World.block_lt_of_cell? w _ hx146_0)).trans hx146_0
              replace hx146_1 := (HB.out.cell (World.block_lt_of_cell? w _ hx146_1)).trans hx146_1
              replace hx146_2 := (HB.out.cell (World.block_lt_of_cell? w _ hx146_2)).trans hx146_2
              replace hx146_3 := (HB.out.cell (World.block_lt_of_cell? w _ hx146_3)).trans hx146_3
              replace hx146_4 := (HB.out.cell (World.block_lt_of_cell? w _ hx146_4)).trans hx146_4
              replace hx146_5 := (HB.out.cell (World.block_lt_of_cell? w _ hx146_5)).trans hx146_5
              have HR146_5 := Aside0.mk hi146_5
              have HC146_5 := Aside0.mk hl146_5
              clear hi146_5 hl146_5
              replace p146 := eq_true p146
              replace q146 := eq_true q146
              have p148 : 0 ≤ (1 : Int) := (by omega)
              have q148 : 1 < (l0_5.length : Int) := of_decide_eq_true (by first | (with_reducible assumption) | assumption)
              obtain ⟨ad148, A148_5, c148_5, e148, hx148_0, hx148_1, hx148_2, hx148_3, hx148_4, hx148_5, hl148_5, hi148_5⟩ := at_T51 HR0_5.out 1 p148 q148
              have hw148_5 := hx148_5
              (try rw [show ((1 : Int)).toNat = 1 from rfl] at hw148_5)
              (try rw [show 1 * 6 = 6 from rfl] at hw148_5)
              (try simp only [Nat.reduceMul, Nat.reduceEqDiff, Go.Addr.add, ↓reduceIte] at hw148_5)
              have hw148_4 := hx148_4
              (try rw [show ((1 : Int)).toNat = 1 from rfl] at hw148_4)
              (try rw [show 1 * 6 = 6 from rfl] at hw148_4)
              (try simp only [Nat.reduceMul, Nat.reduceEqDiff, Go.Addr.add, ↓reduceIte] at hw148_4)
              have hw148_3 := hx148_3
              (try rw [show ((1 : Int)).toNat = 1 from rfl] at hw148_3)
              (try rw [show 1 * 6 = 6 from rfl] at hw148_3)
              (try simp only [Nat.reduceMul, Nat.reduceEqDiff, Go.Addr.add, ↓reduceIte] at hw148_3)
              have hw148_2 := hx148_2
              (try rw [show ((1 : Int)).toNat = 1 from rfl] at hw148_2)
              (try rw [show 1 * 6 = 6 from rfl] at hw148_2)
              (try simp only [Nat.reduceMul, Nat.reduceEqDiff, Go.Addr.add, ↓reduceIte] at hw148_2)
              have hw148_1 := hx148_1
              (try rw [show ((1 : Int)).toNat = 1 from rfl] at hw148_1)
              (try rw [show 1 * 6 = 6 from rfl] at hw148_1)
              (try simp only [Nat.reduceMul, Nat.reduceEqDiff, Go.Addr.add, ↓reduceIte] at hw148_1)
              have hw148_0 := hx148_0
              (try rw [show ((1 : Int)).toNat = 1 from rfl] at hw148_0)
              (try rw [show 1 * 6 = 6 from rfl] at hw148_0)
              (try simp only [Nat.reduceMul, Nat.reduceEqDiff, Go.Addr.add, ↓reduceIte] at hw148_0)
              obtain rfl : ad146 = ad148 := (by injection e148)
              (try simp only [show (1 : Int).toNat = 1 from rfl, Nat.reduceMul, Nat.reduceEqDiff, Go.Addr.add, ↓reduceIte] at hx148_0)
              (try simp only [show (1 : Int).toNat = 1 from rfl, Nat.reduceMul, Nat.reduceEqDiff, Go.Addr.add, ↓reduceIte] at hx148_1)
              (try simp only [show (1 : Int).toNat = 1 from rfl, Nat.reduceMul, Nat.reduceEqDiff, Go.Addr.add, ↓reduceIte] at hx148_2)
              (try simp only [show (1 : Int).toNat = 1 from rfl, Nat.reduceMul, Nat.reduceEqDiff, Go.Addr.add, ↓reduceIte] at hx148_3)
              (try simp only [show (1 : Int).toNat = 1 from rfl, Nat.reduceMul, Nat.reduceEqDiff, Go.Addr.add, ↓reduceIte] at hx148_4)
              (try simp only [show (1 : Int).toNat = 1 from rfl, Nat.reduceMul, Nat.reduceEqDiff, Go.Addr.add, ↓reduceIte] at hx148_5)
              have qi148 : (1 < l0_5.length) = True := eq_true (by omega)
              (try rw [show ((1 : Int)).toNat = 1 from rfl] at hx148_0)
              (try rw [show 1 * 6 = 6 from rfl] at hx148_0)
              (try rw [show ((1 : Int)).toNat = 1 from rfl] at hx148_1)
              (try rw [show 1 * 6 = 6 from rfl] at hx148_1)
              (try rw [show ((1 : Int)).toNat = 1 from rfl] at hx148_2)
              (try rw [show 1 * 6 = 6 from rfl] at hx148_2)
              (try rw [show ((1 : Int)).toNat = 1 from rfl] at hx148_3)
              (try rw [show 1 * 6 = 6 from rfl] at hx148_3)
              (try rw [show ((1 : Int)).toNat = 1 from rfl] at hx148_4)
              (try rw [show 1 * 6 = 6 from rfl] at hx148_4)
              (try rw [show ((1 : Int)).toNat = 1 from rfl] at hx148_5)
              (try rw [show 1 * 6 = 6 from rfl] at hx148_5)
              replace hx148_0 := (HB.out.cell (World.block_lt_of_cell? w _ hx148_0)).trans hx148_0
              replace hx148_1 := (HB.out.cell (World.block_lt_of_cell? w _ hx148_1)).trans hx148_1
              replace hx148_2 := (HB.out.cell (World.block_lt_of_cell? w _ hx148_2)).trans hx148_2
              replace hx148_3 := (HB.out.cell (World.block_lt_of_cell? w _ hx148_3)).trans hx148_3
              replace hx148_4 := (HB.out.cell (World.block_lt_of_cell? w _ hx148_4)).trans hx148_4
              replace hx148_5 := (HB.out.cell (World.block_lt_of_cell? w _ hx148_5)).trans hx148_5
              have HR148_5 := Aside0.mk hi148_5
              have HC148_5 := Aside0.mk hl148_5
              clear hi148_5 hl148_5
              replace p148 := eq_true p148
              replace q148 := eq_true q148
              refine start_ (n := 13) (S := fun w' => w'.cell? ⟨gb128, 0, none⟩ = some (.int .i64 a0_0) ∧ w'.cell? ⟨gb128, 1, none⟩ = some (.int .i64 a0_1) ∧ w'.cell? ⟨gb128, 2, none⟩ = some (.int .i64 a0_2) ∧ w'.cell? ⟨gb128, 3, none⟩ = some (.string a0_3) ∧ w'.cell? ⟨gb128, 4, none⟩ = some (.bool a0_4) ∧ w'.cell? ⟨gb128, 5, none⟩ = some (.slice (some ad146) l0_5.length c0_5) ∧ w'.cell? ad146 = some (.int .i64 ((rd_T51 l0_5 0).f0)) ∧ w'.cell? ⟨ad146.block, ad146.off + 1, none⟩ = some (.int .i64 ((rd_T51 l0_5 0).f1)) ∧ w'.cell? ⟨ad146.block, ad146.off + 2, none⟩ = some (.int .i64 ((rd_T51 l0_5 0).f2)) ∧ w'.cell? ⟨ad146.block, ad146.off + 3, none⟩ = some (.string ((rd_T51 l0_5 0).f3)) ∧ w'.cell? ⟨ad146.block, ad146.off + 4, none⟩ = some (.bool ((rd_T51 l0_5 0).f4)) ∧ w'.cell? ⟨ad146.block, ad146.off + 5, none⟩ = some (.slice A146_5 ((rd_T51 l0_5 0).f5).length c146_5) ∧ w'.cell? ⟨ad146.block, ad146.off + 6, none⟩ = some (.int .i64 ((rd_T51 l0_5 1).f0)) ∧ w'.cell? ⟨ad146.block, ad146.off + 6 + 1, none⟩ = some (.int .i64 ((rd_T51 l0_5 1).f1)) ∧ w'.cell? ⟨ad146.block, ad146.off + 6 + 2, none⟩ = some (.int .i64 ((rd_T51 l0_5 1).f2)) ∧ w'.cell? ⟨ad146.block, ad146.off + 6 + 3, none⟩ = some (.string ((rd_T51 l0_5 1).f3)) ∧ w'.cell? ⟨ad146.block, ad146.off + 6 + 4, none⟩ = some (.bool ((rd_T51 l0_5 1).f4)) ∧ w'.cell? ⟨ad146.block, ad146.off + 6 + 5, none⟩ = some (.slice A148_5 ((rd_T51 l0_5 1).f5).length c148_5)) (ds := []) #[false, false, false, false, false, false, false, false, false, false, false, false, false] (by kernel_rfl) rfl rfl ⟨(blk_cell BK128.out 0).trans rfl, (blk_cell BK128.out 1).trans rfl, (blk_cell BK128.out 2).trans rfl, (blk_cell BK128.out 3).trans rfl, (blk_cell BK128.out 4).trans rfl, (blk_cell BK128.out 5).trans rfl, ((HB.out.cell (World.block_lt_of_cell? w _ hw146_0)).trans hw146_0), ((HB.out.cell (World.block_lt_of_cell? w _ hw146_1)).trans hw146_1), ((HB.out.cell (World.block_lt_of_cell? w _ hw146_2)).trans hw146_2), ((HB.out.cell (World.block_lt_of_cell? w _ hw146_3)).trans hw146_3), ((HB.out.cell (World.block_lt_of_cell? w _ hw146_4)).trans hw146_4), ((HB.out.cell (World.block_lt_of_cell? w _ hw146_5)).trans hw146_5), ((HB.out.cell (World.block_lt_of_cell? w _ hw148_0)).trans hw148_0), ((HB.out.cell (World.block_lt_of_cell? w _ hw148_1)).trans hw148_1), ((HB.out.cell (World.block_lt_of_cell? w _ hw148_2)).trans hw148_2), ((HB.out.cell (World.block_lt_of_cell? w _ hw148_3)).trans hw148_3), ((HB.out.cell (World.block_lt_of_cell? w _ hw148_4)).trans hw148_4), ((HB.out.cell (World.block_lt_of_cell? w _ hw148_5)).trans hw148_5)⟩ (fun hHeld => ?_); refine with_tabW tree_Text.tab19 tree_Text.bits19 (fun HT_ HW_ => ?_)
              generalize w69.drew = w71 at BK128 HB HR146_5 HR148_5 hx146_0 hx146_1 hx146_2 hx146_3 hx146_4 hx146_5 hx148_0 hx148_1 hx148_2 hx148_3 hx148_4 hx148_5 hHeld ⊢
              refine pure_ (i := 0) (N := some 77) (v := ?_) (a' := ?_) #[true, false, false, false, false, false, false, false, false, false, false, false, false] rfl rfl (any_of HT_.out (by kernel_rfl)) (fun _ _ _ h => h) (Or.inl ⟨by rfl, ?_⟩) ?_ ?_
              rotate_left
              ·intro w'
               go_simp
               with_reducible rfl
              rotate_left
              ·simp only [Act.put, List.setIfInBounds_toArray, List.set_cons_zero, List.set_cons_succ, i64_w, i32_w]
               rfl
              refine pure_ (i := 6) (N := some 83) (v := ?_) (a' := ?_) #[true, false, false, false, false, false, true, false, false, false, false, false, false] rfl rfl (any_of HT_.out (by kernel_rfl)) (fun _ _ _ h => h) (Or.inl ⟨by rfl, ?_⟩) ?_ ?_
              rotate_left
              ·intro w'
               go_simp
               with_reducible rfl
              rotate_left
              ·simp only [Act.put, List.setIfInBounds_toArray, List.set_cons_zero, List.set_cons_succ, i64_w, i32_w]
               rfl
              refine take_ (i := 1) (N := some 78) (v := ?_) (a' := ?_) #[true, true, false, false, false, false, true, false, false, false, false, false, false] rfl rfl (take_ofW HT_.out HW_.out (by kernel_rfl)) (fun _ _ _ h => h) (Or.inl ⟨by rfl, ?_⟩) hHeld ?_ ?_
              rotate_left
              ·rintro w' ⟨s0, s1, s2, s3, s4, s5, s6, s7, s8, s9, s10, s11, s12, s13, s14, s15, s16, s17⟩
               go_simp
               with_reducible rfl
              rotate_left
              ·simp only [Act.put, List.setIfInBounds_toArray, List.set_cons_zero, List.set_cons_succ, i64_w, i32_w]
               rfl
              refine pure_ (i := 2) (N := some 79) (v := ?_) (a' := ?_) #[true, true, true, false, false, false, true, false, false, false, false, false, false] rfl rfl (any_of HT_.out (by kernel_rfl)) (fun _ _ _ h => h) (Or.inl ⟨by rfl, ?_⟩) ?_ ?_
              rotate_left
              ·intro w'
               go_simp
               with_reducible rfl
              rotate_left
              ·simp only [Act.put, List.setIfInBounds_toArray, List.set_cons_zero, List.set_cons_succ, i64_w, i32_w]
               rfl
              refine take_ (i := 3) (N := some 80) (v := ?_) (a' := ?_) #[true, true, true, true, false, false, true, false, false, false, false, false, false] rfl rfl (take_ofW HT_.out HW_.out (by kernel_rfl)) (fun _ _ _ h => h) (Or.inl ⟨by rfl, ?_⟩) hHeld ?_ ?_
              rotate_left
              ·rintro w' ⟨s0, s1, s2, s3, s4, s5, s6, s7, s8, s9, s10, s11, s12, s13, s14, s15, s16, s17⟩
               go_simp
               with_reducible rfl
              rotate_left
              ·simp only [Act.put, List.setIfInBounds_toArray, List.set_cons_zero, List.set_cons_succ, i64_w, i32_w]
               rfl
              refine take_ (i := 7) (N := some 84) (v := ?_) (a' := ?_) #[true, true, true, true, false, false, true, true, false, false, false, false, false] rfl rfl (take_ofW HT_.out HW_.out (by kernel_rfl)) (fun _ _ _ h => h) (Or.inl ⟨by rfl, ?_⟩) hHeld ?_ ?_
              rotate_left
              ·rintro w' ⟨s0, s1, s2, s3, s4, s5, s6, s7, s8, s9, s10, s11, s12, s13, s14, s15, s16, s17⟩
               go_simp
               with_reducible rfl
              rotate_left
              ·simp only [Act.put, List.setIfInBounds_toArray, List.set_cons_zero, List.set_cons_succ, i64_w, i32_w]
               rfl
              refine pure_ (i := 8) (N := some 85) (v := ?_) (a' := ?_) #[true, true, true, true, false, false, true, true, true, false, false, false, false] rfl rfl (any_of HT_.out (by kernel_rfl)) (fun _ _ _ h => h) (Or.inl ⟨by rfl, ?_⟩) ?_ ?_
              rotate_left
              ·intro w'
               go_simp
               with_reducible rfl
              rotate_left
              ·simp only [Act.put, List.setIfInBounds_toArray, List.set_cons_zero, List.set_cons_succ, i64_w, i32_w]
               rfl
              refine take_ (i := 9) (N := some 86) (v := ?_) (a' := ?_) #[true, true, true, true, false, false, true, true, true, true, false, false, false] rfl rfl (take_ofW HT_.out HW_.out (by kernel_rfl)) (fun _ _ _ h => h) (Or.inl ⟨by rfl, ?_⟩) hHeld ?_ ?_
              rotate_left
              ·rintro w' ⟨s0, s1, s2, s3, s4, s5, s6, s7, s8, s9, s10, s11, s12, s13, s14, s15, s16, s17⟩
               go_simp
               with_reducible rfl
              rotate_left
              ·simp only [Act.put, List.setIfInBounds_toArray, List.set_cons_zero, List.set_cons_succ, i64_w, i32_w]
               rfl
              refine one_ (i := 4) (N := some 81) #[true, true, true, true, true, false, true, true, true, true, false, false, false] rfl rfl (one_of HT_.out (by kernel_rfl)) (by decide) (fun K hK => ?_)
              refine goes_ Tryd.func29 (by kernel_rfl) rfl #[.agg #[.int .i64 ((rd_T51 l0_5 0).f0), .int .i64 ((rd_T51 l0_5 0).f1), .int .i64 ((rd_T51 l0_5 0).f2), .string ((rd_T51 l0_5 0).f3), .bool ((rd_T51 l0_5 0).f4), .slice A146_5 ((rd_T51 l0_5 0).f5).length c146_5]] (by rfl) rfl rfl (by (try simp only [List.map_toArray, List.map_cons, List.map_nil]); first | done | rfl | (simp only [List.length_drop, List.length_take]; rfl)) ?_
              with_reducible refine (ih_29 k (by omega) ((rd_T51 l0_5 0).f0) ((rd_T51 l0_5 0).f1) ((rd_T51 l0_5 0).f2) ((rd_T51 l0_5 0).f3) ((rd_T51 l0_5 0).f4) _ _ ((rd_T51 l0_5 0).f5) t147 _ ?side1 ?side2 A64.out ?side3).mono ?_
              (case side1 => repeat (first | exact (Kd.C_below HR146_5.out HB.out) | (with_reducible refine Kd.C_alloc ?_ _) | (with_reducible refine Kd.C_drewN ?_ _) | (with_reducible refine Kd.C_drew ?_)))
              (case side2 => exact HC146_5.out)
              (case side3 => exact Tabs.below HT.out (by repeat (first | (with_reducible first | exact HB.out | apply below_alloc | apply pw_below_drewN | apply below_drew1 | refine below_set ?_ GE128.out) | exact HB.out)))
              rintro e w72 ⟨rfl, hb⟩
              refine ⟨_, rfl, ?_⟩
              have n0_ := Aside0.mk (blk_below (g := gb128) (o := .cells #[.int .i64 a0_0, .int .i64 a0_1, .int .i64 a0_2, .string a0_3, .bool a0_4, .slice (some ad146) l0_5.length c0_5] 51 (0, 0)) (by (with_reducible repeat (first | refine blk_drewN ?_ _ | refine blk_drew ?_ | refine blk_alloc ?_ _)); exact BK128.out) hb)
              have n1_ := Aside0.mk (below_step (by repeat (first | (with_reducible first | exact HB.out | apply below_alloc | apply pw_below_drewN | apply below_drew1 | refine below_set ?_ GE128.out) | exact HB.out)) hb)
              clear BK128
              clear HB
              have BK128 := n0_
              have HB := n1_
              clear n0_ n1_
              (try clear hb)
              (try clear hb2)
              (try clear hk)
              (try clear hi)
              refine hK.out _ _ ⟨(blk_cell BK128.out 0).trans rfl, (blk_cell BK128.out 1).trans rfl, (blk_cell BK128.out 2).trans rfl, (blk_cell BK128.out 3).trans rfl, (blk_cell BK128.out 4).trans rfl, (blk_cell BK128.out 5).trans rfl, ((HB.out.cell (World.block_lt_of_cell? w _ hw146_0)).trans hw146_0), ((HB.out.cell (World.block_lt_of_cell? w _ hw146_1)).trans hw146_1), ((HB.out.cell (World.block_lt_of_cell? w _ hw146_2)).trans hw146_2), ((HB.out.cell (World.block_lt_of_cell? w _ hw146_3)).trans hw146_3), ((HB.out.cell (World.block_lt_of_cell? w _ hw146_4)).trans hw146_4), ((HB.out.cell (World.block_lt_of_cell? w _ hw146_5)).trans hw146_5), ((HB.out.cell (World.block_lt_of_cell? w _ hw148_0)).trans hw148_0), ((HB.out.cell (World.block_lt_of_cell? w _ hw148_1)).trans hw148_1), ((HB.out.cell (World.block_lt_of_cell? w _ hw148_2)).trans hw148_2), ((HB.out.cell (World.block_lt_of_cell? w _ hw148_3)).trans hw148_3), ((HB.out.cell (World.block_lt_of_cell? w _ hw148_4)).trans hw148_4), ((HB.out.cell (World.block_lt_of_cell? w _ hw148_5)).trans hw148_5)⟩ (fun hHeld => ?_)
              clear hK K
              refine norm_ (a' := ?_) ?_ ?_
              rotate_left
              ·show Act.put _ (some 81) _ = _
               simp only [Act.put, List.setIfInBounds_toArray, List.set_cons_zero, List.set_cons_succ, i64_w, i32_w]
               rfl
              refine pure_ (i := 5) (N := some 82) (v := ?_) (a' := ?_) #[true, true, true, true, true, true, true, true, true, true, false, false, false] rfl rfl (any_of HT_.out (by kernel_rfl)) (fun _ _ _ h => h) (Or.inl ⟨by rfl, ?_⟩) ?_ ?_
              rotate_left
              ·intro w'
               go_simp
               with_reducible rfl
              rotate_left
              ·simp only [Act.put, List.setIfInBounds_toArray, List.set_cons_zero, List.set_cons_succ, i64_w, i32_w]
               rfl
              refine one_ (i := 10) (N := some 87) #[true, true, true, true, true, true, true, true, true, true, true, false, false] rfl rfl (one_of HT_.out (by kernel_rfl)) (by decide) (fun K hK => ?_)
              refine goes_ Tryd.func70 (by kernel_rfl) rfl #[.agg #[.int .i64 ((rd_T51 l0_5 1).f0), .int .i64 ((rd_T51 l0_5 1).f1), .int .i64 ((rd_T51 l0_5 1).f2), .string ((rd_T51 l0_5 1).f3), .bool ((rd_T51 l0_5 1).f4), .slice A148_5 ((rd_T51 l0_5 1).f5).length c148_5], .int .i64 1] (by rfl) rfl rfl (by (try simp only [List.map_toArray, List.map_cons, List.map_nil]); first | done | rfl | (simp only [List.length_drop, List.length_take]; rfl)) ?_
              with_reducible refine (ih_70 k (by omega) ((rd_T51 l0_5 1).f0) ((rd_T51 l0_5 1).f1) ((rd_T51 l0_5 1).f2) ((rd_T51 l0_5 1).f3) ((rd_T51 l0_5 1).f4) _ _ ((rd_T51 l0_5 1).f5) 1 t149 _ ?side1 ?side2 A67.out ?side3).mono ?_
              (case side1 => repeat (first | exact (Kd.C_below HR148_5.out HB.out) | (with_reducible refine Kd.C_alloc ?_ _) | (with_reducible refine Kd.C_drewN ?_ _) | (with_reducible refine Kd.C_drew ?_)))
              (case side2 => exact HC148_5.out)
              (case side3 => exact Tabs.below HT.out (by repeat (first | (with_reducible first | exact HB.out | apply below_alloc | apply pw_below_drewN | apply below_drew1 | refine below_set ?_ GE128.out) | exact HB.out)))
              rintro e w73 ⟨rfl, hb⟩
              refine ⟨_, rfl, ?_⟩
              have n0_ := Aside0.mk (blk_below (g := gb128) (o := .cells #[.int .i64 a0_0, .int .i64 a0_1, .int .i64 a0_2, .string a0_3, .bool a0_4, .slice (some ad146) l0_5.length c0_5] 51 (0, 0)) (by (with_reducible repeat (first | refine blk_drewN ?_ _ | refine blk_drew ?_ | refine blk_alloc ?_ _)); exact BK128.out) hb)
              have n1_ := Aside0.mk (below_step (by repeat (first | (with_reducible first | exact HB.out | apply below_alloc | apply pw_below_drewN | apply below_drew1 | refine below_set ?_ GE128.out) | exact HB.out)) hb)
              clear BK128
              clear HB
              have BK128 := n0_
              have HB := n1_
              clear n0_ n1_
              (try clear hb)
              (try clear hb2)
              (try clear hk)
              (try clear hi)
              refine hK.out _ _ ⟨(blk_cell BK128.out 0).trans rfl, (blk_cell BK128.out 1).trans rfl, (blk_cell BK128.out 2).trans rfl, (blk_cell BK128.out 3).trans rfl, (blk_cell BK128.out 4).trans rfl, (blk_cell BK128.out 5).trans rfl, ((HB.out.cell (World.block_lt_of_cell? w _ hw146_0)).trans hw146_0), ((HB.out.cell (World.block_lt_of_cell? w _ hw146_1)).trans hw146_1), ((HB.out.cell (World.block_lt_of_cell? w _ hw146_2)).trans hw146_2), ((HB.out.cell (World.block_lt_of_cell? w _ hw146_3)).trans hw146_3), ((HB.out.cell (World.block_lt_of_cell? w _ hw146_4)).trans hw146_4), ((HB.out.cell (World.block_lt_of_cell? w _ hw146_5)).trans hw146_5), ((HB.out.cell (World.block_lt_of_cell? w _ hw148_0)).trans hw148_0), ((HB.out.cell (World.block_lt_of_cell? w _ hw148_1)).trans hw148_1), ((HB.out.cell (World.block_lt_of_cell? w _ hw148_2)).trans hw148_2), ((HB.out.cell (World.block_lt_of_cell? w _ hw148_3)).trans hw148_3), ((HB.out.cell (World.block_lt_of_cell? w _ hw148_4)).trans hw148_4), ((HB.out.cell (World.block_lt_of_cell? w _ hw148_5)).trans hw148_5)⟩ (fun hHeld => ?_)
              clear hK K
              refine norm_ (a' := ?_) ?_ ?_
              rotate_left
              ·show Act.put _ (some 87) _ = _
               simp only [Act.put, List.setIfInBounds_toArray, List.set_cons_zero, List.set_cons_succ, i64_w, i32_w]
               rfl
              refine pure_ (i := 11) (N := some 88) (v := ?_) (a' := ?_) #[true, true, true, true, true, true, true, true, true, true, true, true, false] rfl rfl (any_of HT_.out (by kernel_rfl)) (fun _ _ _ h => h) (Or.inl ⟨by rfl, ?_⟩) ?_ ?_
              rotate_left
              ·intro w'
               go_simp
               with_reducible rfl
              rotate_left
              ·simp only [Act.put, List.setIfInBounds_toArray, List.set_cons_zero, List.set_cons_succ, i64_w, i32_w]
               rfl
              refine pure_ (i := 12) (N := some 2) (v := ?_) (a' := ?_) #[true, true, true, true, true, true, true, true, true, true, true, true, true] rfl rfl (any_of HT_.out (by kernel_rfl)) (fun _ _ _ h => h) (Or.inl ⟨by rfl, ?_⟩) ?_ ?_
              rotate_left
              ·intro w'
               go_simp
               with_reducible rfl
              rotate_left
              ·simp only [Act.put, List.setIfInBounds_toArray, List.set_cons_zero, List.set_cons_succ, i64_w, i32_w]
               rfl
              refine done_ (done_of HT_.out (by kernel_rfl)) ?_
              try go_wp2
              go_ret
              exact ⟨by first | rfl | (simp [errW_none, errW_some] <;> rfl) | (simp [*, errW_none, errW_some] <;> rfl), by repeat (first | (with_reducible first | exact HB.out | apply below_alloc | apply pw_below_drewN | apply below_drew1 | refine below_set ?_ GE128.out) | exact HB.out)⟩
             ·rw [if_neg c68] at H
              exact absurd H (by simp)
            ·rw [if_neg c66] at H
             exact absurd H (by simp)
           ·rw [if_neg c65] at H
            exact absurd H (by simp)
          ·rw [if_neg c63] at H
           exact absurd H (by simp)
         ·rw [if_neg c62] at H
          have c62b0 : (a0_0 == 9) = false := beq_eq_false_iff_ne.mpr c62
          have c62b1 : (a0_0 != 9) = true := bne_iff_ne.mpr c62
          by_cases c74 : a0_0 = 10
          ·rw [if_pos c74] at H
           have c74b0 : (a0_0 == 10) = true := beq_iff_eq.mpr c74
           have c74b1 : (a0_0 != 10) = false := bne_eq_false_iff_eq.mpr c74
           clear c74
           by_cases c75 : 0 < (l0_5.length : Int)
           ·rw [if_pos c75] at H
            have c75b0 : decide (0 < (l0_5.length : Int)) = true := decide_eq_true c75
            have c75b1 : decide (0 < l0_5.length) = true := decide_eq_true (by omega)
            clear c75
            replace H := Option.bind_eq_some_iff.mp H
            obtain ⟨t151, A760, H⟩ := H
            replace H : (if 4 + t151.size ≤ 9223372036854775807 then (some ((⟨#[112, 114, 101, 32]⟩ : ByteArray) ++ t151)) else (none)) = some r := H
            have A76 := Aside0.mk A760
            clear A760
            by_cases c77 : 4 + t151.size ≤ 9223372036854775807
            ·rw [if_pos c77] at H
             have c77b0 := eq_true c77
             have c77b1 : decide (4 + t151.size ≤ 9223372036854775807) = true := decide_eq_true c77
             try have c77b2 : (9223372036854775807 < 4 + t151.size) = False := eq_false (Nat.not_lt.2 c77)
             obtain rfl := Option.some.inj H
             go_enter Tryd.func29, Tryd.ntmps29
             go_wp2_with (first | ((with_reducible refine gate_dst (N := 1) rfl ?_); refine box_event ?hg (N := 1) ?hd (cs := #[.int .i64 a0_0, .int .i64 a0_1, .int .i64 a0_2, .string a0_3, .bool a0_4, .slice A0_5 l0_5.length c0_5]) (t := 51) ?hr ?_; (case hd => rfl); (case hg => rfl); (case hr => first | (go_simp; done) | (go_simp; rfl)); intro gb128 hg w78 hbox hb; have n0_ := Aside0.mk (below_step (by repeat (first | (with_reducible first | exact HB.out | apply below_alloc | apply pw_below_drewN | apply below_drew1) | exact HB.out)) hb); have n1_ := Aside0.mk (hbox); have n2_ := Aside0.mk ((by rw [hg]; exact (below_size (by repeat (first | (with_reducible first | exact HB.out | apply below_alloc | apply pw_below_drewN | apply below_drew1) | exact HB.out))) : w.heap.size ≤ gb128)); have n3_ := Aside0.mk ((by rw [hg]; exact (below_size (by repeat (first | (with_reducible first | exact HB.out | apply below_alloc | apply pw_below_drewN | apply below_drew1) | exact HB.out))) : w.heap.size ≤ gb128)); clear HB; have HB := n0_; have BK128 := n1_; have GW128 := n2_; have GE128 := n3_; clear n0_ n1_ n2_ n3_; clear hb hbox hg; have hcz79_0 : w78.cell? ⟨gb128, 0, none⟩ = some (.int .i64 a0_0) := (blk_cell BK128.out 0).trans rfl; have hcz79_1 : w78.cell? ⟨gb128, 1, none⟩ = some (.int .i64 a0_1) := (blk_cell BK128.out 1).trans rfl; have hcz79_2 : w78.cell? ⟨gb128, 2, none⟩ = some (.int .i64 a0_2) := (blk_cell BK128.out 2).trans rfl; have hcz79_3 : w78.cell? ⟨gb128, 3, none⟩ = some (.string a0_3) := (blk_cell BK128.out 3).trans rfl; have hcz79_4 : w78.cell? ⟨gb128, 4, none⟩ = some (.bool a0_4) := (blk_cell BK128.out 4).trans rfl; have hcz79_5 : w78.cell? ⟨gb128, 5, none⟩ = some (.slice A0_5 l0_5.length c0_5) := (blk_cell BK128.out 5).trans rfl; have hfz79_0 := blk_frozen BK128.out 0; have hfz79_1 := blk_frozen BK128.out 1; have hfz79_2 := blk_frozen BK128.out 2; have hfz79_3 := blk_frozen BK128.out 3; have hfz79_4 := blk_frozen BK128.out 4; have hfz79_5 := blk_frozen BK128.out 5; have p150 : 0 ≤ (0 : Int) := (by omega); have q150 : 0 < (l0_5.length : Int) := of_decide_eq_true (by first | (with_reducible assumption) | assumption); obtain ⟨ad150, A150_5, c150_5, e150, hx150_0, hx150_1, hx150_2, hx150_3, hx150_4, hx150_5, hl150_5, hi150_5⟩ := at_T51 HR0_5.out 0 p150 q150; cases e150; have qi150 : (0 < l0_5.length) = True := eq_true (by omega); (try rw [show ((0 : Int)).toNat = 0 from rfl] at hx150_0); (try rw [show 0 * 6 = 0 from rfl] at hx150_0); (try rw [Addr.add_zero'] at hx150_0); (try rw [show ((0 : Int)).toNat = 0 from rfl] at hx150_1); (try rw [show 0 * 6 = 0 from rfl] at hx150_1); (try rw [Addr.add_zero'] at hx150_1); (try rw [show ((0 : Int)).toNat = 0 from rfl] at hx150_2); (try rw [show 0 * 6 = 0 from rfl] at hx150_2); (try rw [Addr.add_zero'] at hx150_2); (try rw [show ((0 : Int)).toNat = 0 from rfl] at hx150_3); (try rw [show 0 * 6 = 0 from rfl] at hx150_3); (try rw [Addr.add_zero'] at hx150_3); (try rw [show ((0 : Int)).toNat = 0 from rfl] at hx150_4); (try rw [show 0 * 6 = 0 from rfl] at hx150_4); (try rw [Addr.add_zero'] at hx150_4); (try rw [show ((0 : Int)).toNat = 0 from rfl] at hx150_5); (try rw [show 0 * 6 = 0 from rfl] at hx150_5); (try rw [Addr.add_zero'] at hx150_5); replace hx150_0 := (HB.out.cell (World.block_lt_of_cell? w _ hx150_0)).trans hx150_0; replace hx150_1 := (HB.out.cell (World.block_lt_of_cell? w _ hx150_1)).trans hx150_1; replace hx150_2 := (HB.out.cell (World.block_lt_of_cell? w _ hx150_2)).trans hx150_2; replace hx150_3 := (HB.out.cell (World.block_lt_of_cell? w _ hx150_3)).trans hx150_3; replace hx150_4 := (HB.out.cell (World.block_lt_of_cell? w _ hx150_4)).trans hx150_4; replace hx150_5 := (HB.out.cell (World.block_lt_of_cell? w _ hx150_5)).trans hx150_5; have HR150_5 := Aside0.mk hi150_5; have HC150_5 := Aside0.mk hl150_5; clear hi150_5 hl150_5; replace p150 := eq_true p150; replace q150 := eq_true q150) | ((with_reducible refine gate_callee (f := 70) rfl ?_); refine goesL_ (some 95) rfl rfl Tryd.func70 (by kernel_rfl) rfl #[.agg #[.int .i64 ((rd_T51 l0_5 0).f0), .int .i64 ((rd_T51 l0_5 0).f1), .int .i64 ((rd_T51 l0_5 0).f2), .string ((rd_T51 l0_5 0).f3), .bool ((rd_T51 l0_5 0).f4), .slice A150_5 ((rd_T51 l0_5 0).f5).length c150_5], .int .i64 8] rfl (by (try simp only [List.map_toArray, List.map_cons, List.map_nil]); first | done | rfl | (simp only [List.length_drop, List.length_take]; rfl)) ?_; (with_reducible refine (ih_70 k (by omega) ((rd_T51 l0_5 0).f0) ((rd_T51 l0_5 0).f1) ((rd_T51 l0_5 0).f2) ((rd_T51 l0_5 0).f3) ((rd_T51 l0_5 0).f4) _ _ ((rd_T51 l0_5 0).f5) 8 t151 _ ?side1 ?side2 A76.out ?side3).mono ?_); (case side1 => repeat (first | exact (Kd.C_below HR150_5.out HB.out) | (with_reducible refine Kd.C_alloc ?_ _) | (with_reducible refine Kd.C_drewN ?_ _) | (with_reducible refine Kd.C_drew ?_))); (case side2 => exact HC150_5.out); (case side3 => exact Tabs.below HT.out (by repeat (first | (with_reducible first | exact HB.out | apply below_alloc | apply pw_below_drewN | apply below_drew1 | refine below_set ?_ GE128.out) | exact HB.out))); rintro e w80 ⟨rfl, hb⟩; refine ⟨_, rfl, ?_⟩; have n0_ := Aside0.mk (blk_below (g := gb128) (o := .cells #[.int .i64 a0_0, .int .i64 a0_1, .int .i64 a0_2, .string a0_3, .bool a0_4, .slice (some ad150) l0_5.length c0_5] 51 (0, 0)) (by (with_reducible repeat (first | refine blk_drewN ?_ _ | refine blk_drew ?_ | refine blk_alloc ?_ _)); exact BK128.out) hb); have n1_ := Aside0.mk (below_step (by repeat (first | (with_reducible first | exact HB.out | apply below_alloc | apply pw_below_drewN | apply below_drew1 | refine below_set ?_ GE128.out) | exact HB.out)) hb); clear BK128; clear HB; have BK128 := n0_; have HB := n1_; clear n0_ n1_; (try clear hb); (try clear hb2); (try clear hk); (try clear hi)))
             go_ret
             exact ⟨by first | rfl | (simp [errW_none, errW_some] <;> rfl) | (simp [*, errW_none, errW_some] <;> rfl), by repeat (first | (with_reducible first | exact HB.out | apply below_alloc | apply pw_below_drewN | apply below_drew1 | refine below_set ?_ GE128.out) | exact HB.out)⟩
            ·rw [if_neg c77] at H
             exact absurd H (by simp)
           ·rw [if_neg c75] at H
            exact absurd H (by simp)
          ·rw [if_neg c74] at H
           have c74b0 : (a0_0 == 10) = false := beq_eq_false_iff_ne.mpr c74
           have c74b1 : (a0_0 != 10) = true := bne_iff_ne.mpr c74
           by_cases c81 : a0_0 = 11
           ·rw [if_pos c81] at H
            have c81b0 : (a0_0 == 11) = true := beq_iff_eq.mpr c81
            have c81b1 : (a0_0 != 11) = false := bne_eq_false_iff_eq.mpr c81
            clear c81
            by_cases c82 : 0 < (l0_5.length : Int)
            ·rw [if_pos c82] at H
             have c82b0 : decide (0 < (l0_5.length : Int)) = true := decide_eq_true c82
             have c82b1 : decide (0 < l0_5.length) = true := decide_eq_true (by omega)
             clear c82
             replace H := Option.bind_eq_some_iff.mp H
             obtain ⟨t153, A830, H⟩ := H
             replace H : ((tree_clock.f a0_3 a0_4).bind fun t154 => (if t153.size + t154.size ≤ 9223372036854775807 then (some (t153 ++ t154)) else (none))) = some r := H
             have A83 := Aside0.mk A830
             clear A830
             replace H := Option.bind_eq_some_iff.mp H
             obtain ⟨t154, A840, H⟩ := H
             replace H : (if t153.size + t154.size ≤ 9223372036854775807 then (some (t153 ++ t154)) else (none)) = some r := H
             have A84 := Aside0.mk A840
             clear A840
             by_cases c85 : t153.size + t154.size ≤ 9223372036854775807
             ·rw [if_pos c85] at H
              have c85b0 := eq_true c85
              have c85b1 : decide (t153.size + t154.size ≤ 9223372036854775807) = true := decide_eq_true c85
              try have c85b2 : (9223372036854775807 < t153.size + t154.size) = False := eq_false (Nat.not_lt.2 c85)
              obtain rfl := Option.some.inj H
              go_enter Tryd.func29, Tryd.ntmps29
              try go_wp2_with (first | ((with_reducible refine gate_dst (N := 1) rfl ?_); refine box_event ?hg (N := 1) ?hd (cs := #[.int .i64 a0_0, .int .i64 a0_1, .int .i64 a0_2, .string a0_3, .bool a0_4, .slice A0_5 l0_5.length c0_5]) (t := 51) ?hr ?_; (case hd => rfl); (case hg => rfl); (case hr => first | (go_simp; done) | (go_simp; rfl)); intro gb128 hg w86 hbox hb; have n0_ := Aside0.mk (below_step (by repeat (first | (with_reducible first | exact HB.out | apply below_alloc | apply pw_below_drewN | apply below_drew1) | exact HB.out)) hb); have n1_ := Aside0.mk (hbox); have n2_ := Aside0.mk ((by rw [hg]; exact (below_size (by repeat (first | (with_reducible first | exact HB.out | apply below_alloc | apply pw_below_drewN | apply below_drew1) | exact HB.out))) : w.heap.size ≤ gb128)); have n3_ := Aside0.mk ((by rw [hg]; exact (below_size (by repeat (first | (with_reducible first | exact HB.out | apply below_alloc | apply pw_below_drewN | apply below_drew1) | exact HB.out))) : w.heap.size ≤ gb128)); clear HB; have HB := n0_; have BK128 := n1_; have GW128 := n2_; have GE128 := n3_; clear n0_ n1_ n2_ n3_; clear hb hbox hg; have hcz87_0 : w86.cell? ⟨gb128, 0, none⟩ = some (.int .i64 a0_0) := (blk_cell BK128.out 0).trans rfl; have hcz87_1 : w86.cell? ⟨gb128, 1, none⟩ = some (.int .i64 a0_1) := (blk_cell BK128.out 1).trans rfl; have hcz87_2 : w86.cell? ⟨gb128, 2, none⟩ = some (.int .i64 a0_2) := (blk_cell BK128.out 2).trans rfl; have hcz87_3 : w86.cell? ⟨gb128, 3, none⟩ = some (.string a0_3) := (blk_cell BK128.out 3).trans rfl; have hcz87_4 : w86.cell? ⟨gb128, 4, none⟩ = some (.bool a0_4) := (blk_cell BK128.out 4).trans rfl; have hcz87_5 : w86.cell? ⟨gb128, 5, none⟩ = some (.slice A0_5 l0_5.length c0_5) := (blk_cell BK128.out 5).trans rfl; have hfz87_0 := blk_frozen BK128.out 0; have hfz87_1 := blk_frozen BK128.out 1; have hfz87_2 := blk_frozen BK128.out 2; have hfz87_3 := blk_frozen BK128.out 3; have hfz87_4 := blk_frozen BK128.out 4; have hfz87_5 := blk_frozen BK128.out 5))
              have n0_ := Aside0.mk (blk_drew BK128.out)
              have n1_ := Aside0.mk (below_drew1 HB.out)
              clear BK128
              clear HB
              have BK128 := n0_
              have HB := n1_
              clear n0_ n1_
              have p152 : 0 ≤ (0 : Int) := (by omega)
              have q152 : 0 < (l0_5.length : Int) := of_decide_eq_true (by first | (with_reducible assumption) | assumption)
              obtain ⟨ad152, A152_5, c152_5, e152, hx152_0, hx152_1, hx152_2, hx152_3, hx152_4, hx152_5, hl152_5, hi152_5⟩ := at_T51 HR0_5.out 0 p152 q152
              have hw152_5 := hx152_5
              (try rw [show ((0 : Int)).toNat = 0 from rfl] at hw152_5)
              (try rw [show 0 * 6 = 0 from rfl] at hw152_5)
              (try rw [Addr.add_zero'] at hw152_5)
              have hw152_4 := hx152_4
              (try rw [show ((0 : Int)).toNat = 0 from rfl] at hw152_4)
              (try rw [show 0 * 6 = 0 from rfl] at hw152_4)
              (try rw [Addr.add_zero'] at hw152_4)
              have hw152_3 := hx152_3
              (try rw [show ((0 : Int)).toNat = 0 from rfl] at hw152_3)
              (try rw [show 0 * 6 = 0 from rfl] at hw152_3)
              (try rw [Addr.add_zero'] at hw152_3)
              have hw152_2 := hx152_2
              (try rw [show ((0 : Int)).toNat = 0 from rfl] at hw152_2)
              (try rw [show 0 * 6 = 0 from rfl] at hw152_2)
              (try rw [Addr.add_zero'] at hw152_2)
              have hw152_1 := hx152_1
              (try rw [show ((0 : Int)).toNat = 0 from rfl] at hw152_1)
              (try rw [show 0 * 6 = 0 from rfl] at hw152_1)
              (try rw [Addr.add_zero'] at hw152_1)
              have hw152_0 := hx152_0
              (try rw [show ((0 : Int)).toNat = 0 from rfl] at hw152_0)
              (try rw [show 0 * 6 = 0 from rfl] at hw152_0)
              (try rw [Addr.add_zero'] at hw152_0)
              cases e152
              have qi152 : (0 < l0_5.length) = True := eq_true (by omega)
              (try rw [show ((0 : Int)).toNat = 0 from rfl] at hx152_0)
              (try rw [show 0 * 6 = 0 from rfl] at hx152_0)
              (try rw [Addr.add_zero'] at hx152_0)
              (try rw [show ((0 : Int)).toNat = 0 from rfl] at hx152_1)
              (try rw [show 0 * 6 = 0 from rfl] at hx152_1)
              (try rw [Addr.add_zero'] at hx152_1)
              (try rw [show ((0 : Int)).toNat = 0 from rfl] at hx152_2)
              (try rw [show 0 * 6 = 0 from rfl] at hx152_2)
              (try rw [Addr.add_zero'] at hx152_2)
              (try rw [show ((0 : Int)).toNat = 0 from rfl] at hx152_3)
              (try rw [show 0 * 6 = 0 from rfl] at hx152_3)
              (try rw [Addr.add_zero'] at hx152_3)
              (try rw [show ((0 : Int)).toNat = 0 from rfl] at hx152_4)
              (try rw [show 0 * 6 = 0 from rfl] at hx152_4)
              (try rw [Addr.add_zero'] at hx152_4)
              (try rw [show ((0 : Int)).toNat = 0 from rfl] at hx152_5)
              (try rw [show 0 * 6 = 0 from rfl] at hx152_5)
              (try rw [Addr.add_zero'] at hx152_5)
              replace hx152_0 := (HB.out.cell (World.block_lt_of_cell? w _ hx152_0)).trans hx152_0
              replace hx152_1 := (HB.out.cell (World.block_lt_of_cell? w _ hx152_1)).trans hx152_1
              replace hx152_2 := (HB.out.cell (World.block_lt_of_cell? w _ hx152_2)).trans hx152_2
              replace hx152_3 := (HB.out.cell (World.block_lt_of_cell? w _ hx152_3)).trans hx152_3
              replace hx152_4 := (HB.out.cell (World.block_lt_of_cell? w _ hx152_4)).trans hx152_4
              replace hx152_5 := (HB.out.cell (World.block_lt_of_cell? w _ hx152_5)).trans hx152_5
              have HR152_5 := Aside0.mk hi152_5
              have HC152_5 := Aside0.mk hl152_5
              clear hi152_5 hl152_5
              replace p152 := eq_true p152
              replace q152 := eq_true q152
              refine start_ (n := 12) (S := fun w' => w'.cell? ⟨gb128, 0, none⟩ = some (.int .i64 a0_0) ∧ w'.cell? ⟨gb128, 1, none⟩ = some (.int .i64 a0_1) ∧ w'.cell? ⟨gb128, 2, none⟩ = some (.int .i64 a0_2) ∧ w'.cell? ⟨gb128, 3, none⟩ = some (.string a0_3) ∧ w'.cell? ⟨gb128, 4, none⟩ = some (.bool a0_4) ∧ w'.cell? ⟨gb128, 5, none⟩ = some (.slice (some ad152) l0_5.length c0_5) ∧ w'.cell? ad152 = some (.int .i64 ((rd_T51 l0_5 0).f0)) ∧ w'.cell? ⟨ad152.block, ad152.off + 1, none⟩ = some (.int .i64 ((rd_T51 l0_5 0).f1)) ∧ w'.cell? ⟨ad152.block, ad152.off + 2, none⟩ = some (.int .i64 ((rd_T51 l0_5 0).f2)) ∧ w'.cell? ⟨ad152.block, ad152.off + 3, none⟩ = some (.string ((rd_T51 l0_5 0).f3)) ∧ w'.cell? ⟨ad152.block, ad152.off + 4, none⟩ = some (.bool ((rd_T51 l0_5 0).f4)) ∧ w'.cell? ⟨ad152.block, ad152.off + 5, none⟩ = some (.slice A152_5 ((rd_T51 l0_5 0).f5).length c152_5)) (ds := []) #[false, false, false, false, false, false, false, false, false, false, false, false] (by kernel_rfl) rfl rfl ⟨(blk_cell BK128.out 0).trans rfl, (blk_cell BK128.out 1).trans rfl, (blk_cell BK128.out 2).trans rfl, (blk_cell BK128.out 3).trans rfl, (blk_cell BK128.out 4).trans rfl, (blk_cell BK128.out 5).trans rfl, ((HB.out.cell (World.block_lt_of_cell? w _ hw152_0)).trans hw152_0), ((HB.out.cell (World.block_lt_of_cell? w _ hw152_1)).trans hw152_1), ((HB.out.cell (World.block_lt_of_cell? w _ hw152_2)).trans hw152_2), ((HB.out.cell (World.block_lt_of_cell? w _ hw152_3)).trans hw152_3), ((HB.out.cell (World.block_lt_of_cell? w _ hw152_4)).trans hw152_4), ((HB.out.cell (World.block_lt_of_cell? w _ hw152_5)).trans hw152_5)⟩ (fun hHeld => ?_); refine with_tabW tree_Text.tab23 tree_Text.bits23 (fun HT_ HW_ => ?_)
              generalize w86.drew = w88 at BK128 HB HR152_5 hx152_0 hx152_1 hx152_2 hx152_3 hx152_4 hx152_5 hHeld ⊢
              refine pure_ (i := 0) (N := some 99) (v := ?_) (a' := ?_) #[true, false, false, false, false, false, false, false, false, false, false, false] rfl rfl (any_of HT_.out (by kernel_rfl)) (fun _ _ _ h => h) (Or.inl ⟨by rfl, ?_⟩) ?_ ?_
              rotate_left
              ·intro w'
               go_simp
               with_reducible rfl
              rotate_left
              ·simp only [Act.put, List.setIfInBounds_toArray, List.set_cons_zero, List.set_cons_succ, i64_w, i32_w]
               rfl
              refine pure_ (i := 5) (N := some 104) (v := ?_) (a' := ?_) #[true, false, false, false, false, true, false, false, false, false, false, false] rfl rfl (any_of HT_.out (by kernel_rfl)) (fun _ _ _ h => h) (Or.inl ⟨by rfl, ?_⟩) ?_ ?_
              rotate_left
              ·intro w'
               go_simp
               with_reducible rfl
              rotate_left
              ·simp only [Act.put, List.setIfInBounds_toArray, List.set_cons_zero, List.set_cons_succ, i64_w, i32_w]
               rfl
              refine pure_ (i := 7) (N := some 106) (v := ?_) (a' := ?_) #[true, false, false, false, false, true, false, true, false, false, false, false] rfl rfl (any_of HT_.out (by kernel_rfl)) (fun _ _ _ h => h) (Or.inl ⟨by rfl, ?_⟩) ?_ ?_
              rotate_left
              ·intro w'
               go_simp
               with_reducible rfl
              rotate_left
              ·simp only [Act.put, List.setIfInBounds_toArray, List.set_cons_zero, List.set_cons_succ, i64_w, i32_w]
               rfl
              refine take_ (i := 1) (N := some 100) (v := ?_) (a' := ?_) #[true, true, false, false, false, true, false, true, false, false, false, false] rfl rfl (take_ofW HT_.out HW_.out (by kernel_rfl)) (fun _ _ _ h => h) (Or.inl ⟨by rfl, ?_⟩) hHeld ?_ ?_
              rotate_left
              ·rintro w' ⟨s0, s1, s2, s3, s4, s5, s6, s7, s8, s9, s10, s11⟩
               go_simp
               with_reducible rfl
              rotate_left
              ·simp only [Act.put, List.setIfInBounds_toArray, List.set_cons_zero, List.set_cons_succ, i64_w, i32_w]
               rfl
              refine pure_ (i := 2) (N := some 101) (v := ?_) (a' := ?_) #[true, true, true, false, false, true, false, true, false, false, false, false] rfl rfl (any_of HT_.out (by kernel_rfl)) (fun _ _ _ h => h) (Or.inl ⟨by rfl, ?_⟩) ?_ ?_
              rotate_left
              ·intro w'
               go_simp
               with_reducible rfl
              rotate_left
              ·simp only [Act.put, List.setIfInBounds_toArray, List.set_cons_zero, List.set_cons_succ, i64_w, i32_w]
               rfl
              refine take_ (i := 3) (N := some 102) (v := ?_) (a' := ?_) #[true, true, true, true, false, true, false, true, false, false, false, false] rfl rfl (take_ofW HT_.out HW_.out (by kernel_rfl)) (fun _ _ _ h => h) (Or.inl ⟨by rfl, ?_⟩) hHeld ?_ ?_
              rotate_left
              ·rintro w' ⟨s0, s1, s2, s3, s4, s5, s6, s7, s8, s9, s10, s11⟩
               go_simp
               with_reducible rfl
              rotate_left
              ·simp only [Act.put, List.setIfInBounds_toArray, List.set_cons_zero, List.set_cons_succ, i64_w, i32_w]
               rfl
              refine take_ (i := 6) (N := some 105) (v := ?_) (a' := ?_) #[true, true, true, true, false, true, true, true, false, false, false, false] rfl rfl (take_ofW HT_.out HW_.out (by kernel_rfl)) (fun _ _ _ h => h) (Or.inl ⟨by rfl, ?_⟩) hHeld ?_ ?_
              rotate_left
              ·rintro w' ⟨s0, s1, s2, s3, s4, s5, s6, s7, s8, s9, s10, s11⟩
               go_simp
               with_reducible rfl
              rotate_left
              ·simp only [Act.put, List.setIfInBounds_toArray, List.set_cons_zero, List.set_cons_succ, i64_w, i32_w]
               rfl
              refine take_ (i := 8) (N := some 107) (v := ?_) (a' := ?_) #[true, true, true, true, false, true, true, true, true, false, false, false] rfl rfl (take_ofW HT_.out HW_.out (by kernel_rfl)) (fun _ _ _ h => h) (Or.inl ⟨by rfl, ?_⟩) hHeld ?_ ?_
              rotate_left
              ·rintro w' ⟨s0, s1, s2, s3, s4, s5, s6, s7, s8, s9, s10, s11⟩
               go_simp
               with_reducible rfl
              rotate_left
              ·simp only [Act.put, List.setIfInBounds_toArray, List.set_cons_zero, List.set_cons_succ, i64_w, i32_w]
               rfl
              refine one_ (i := 4) (N := some 103) #[true, true, true, true, true, true, true, true, true, false, false, false] rfl rfl (one_of HT_.out (by kernel_rfl)) (by decide) (fun K hK => ?_)
              refine goes_ Tryd.func70 (by kernel_rfl) rfl #[.agg #[.int .i64 ((rd_T51 l0_5 0).f0), .int .i64 ((rd_T51 l0_5 0).f1), .int .i64 ((rd_T51 l0_5 0).f2), .string ((rd_T51 l0_5 0).f3), .bool ((rd_T51 l0_5 0).f4), .slice A152_5 ((rd_T51 l0_5 0).f5).length c152_5], .int .i64 9] (by rfl) rfl rfl (by (try simp only [List.map_toArray, List.map_cons, List.map_nil]); first | done | rfl | (simp only [List.length_drop, List.length_take]; rfl)) ?_
              with_reducible refine (ih_70 k (by omega) ((rd_T51 l0_5 0).f0) ((rd_T51 l0_5 0).f1) ((rd_T51 l0_5 0).f2) ((rd_T51 l0_5 0).f3) ((rd_T51 l0_5 0).f4) _ _ ((rd_T51 l0_5 0).f5) 9 t153 _ ?side1 ?side2 A83.out ?side3).mono ?_
              (case side1 => repeat (first | exact (Kd.C_below HR152_5.out HB.out) | (with_reducible refine Kd.C_alloc ?_ _) | (with_reducible refine Kd.C_drewN ?_ _) | (with_reducible refine Kd.C_drew ?_)))
              (case side2 => exact HC152_5.out)
              (case side3 => exact Tabs.below HT.out (by repeat (first | (with_reducible first | exact HB.out | apply below_alloc | apply pw_below_drewN | apply below_drew1 | refine below_set ?_ GE128.out) | exact HB.out)))
              rintro e w89 ⟨rfl, hb⟩
              refine ⟨_, rfl, ?_⟩
              have n0_ := Aside0.mk (blk_below (g := gb128) (o := .cells #[.int .i64 a0_0, .int .i64 a0_1, .int .i64 a0_2, .string a0_3, .bool a0_4, .slice (some ad152) l0_5.length c0_5] 51 (0, 0)) (by (with_reducible repeat (first | refine blk_drewN ?_ _ | refine blk_drew ?_ | refine blk_alloc ?_ _)); exact BK128.out) hb)
              have n1_ := Aside0.mk (below_step (by repeat (first | (with_reducible first | exact HB.out | apply below_alloc | apply pw_below_drewN | apply below_drew1 | refine below_set ?_ GE128.out) | exact HB.out)) hb)
              clear BK128
              clear HB
              have BK128 := n0_
              have HB := n1_
              clear n0_ n1_
              (try clear hb)
              (try clear hb2)
              (try clear hk)
              (try clear hi)
              refine hK.out _ _ ⟨(blk_cell BK128.out 0).trans rfl, (blk_cell BK128.out 1).trans rfl, (blk_cell BK128.out 2).trans rfl, (blk_cell BK128.out 3).trans rfl, (blk_cell BK128.out 4).trans rfl, (blk_cell BK128.out 5).trans rfl, ((HB.out.cell (World.block_lt_of_cell? w _ hw152_0)).trans hw152_0), ((HB.out.cell (World.block_lt_of_cell? w _ hw152_1)).trans hw152_1), ((HB.out.cell (World.block_lt_of_cell? w _ hw152_2)).trans hw152_2), ((HB.out.cell (World.block_lt_of_cell? w _ hw152_3)).trans hw152_3), ((HB.out.cell (World.block_lt_of_cell? w _ hw152_4)).trans hw152_4), ((HB.out.cell (World.block_lt_of_cell? w _ hw152_5)).trans hw152_5)⟩ (fun hHeld => ?_)
              clear hK K
              refine norm_ (a' := ?_) ?_ ?_
              rotate_left
              ·show Act.put _ (some 103) _ = _
               simp only [Act.put, List.setIfInBounds_toArray, List.set_cons_zero, List.set_cons_succ, i64_w, i32_w]
               rfl
              refine one_ (i := 9) (N := some 108) #[true, true, true, true, true, true, true, true, true, true, false, false] rfl rfl (one_of HT_.out (by kernel_rfl)) (by decide) (fun K hK => ?_)
              refine goes_ Tryd.func72 (by kernel_rfl) rfl #[.string a0_3, .bool a0_4] (by rfl) rfl rfl (by (try simp only [List.map_toArray, List.map_cons, List.map_nil]); first | done | rfl | (simp only [List.length_drop, List.length_take]; rfl)) ?_
              with_reducible refine (tree_clock.calls a0_3 a0_4 t154 _ A84.out).mono ?_
              rintro e w' ⟨rfl, ⟨nd, rfl⟩⟩
              refine ⟨_, rfl, ?_⟩
              refine hK.out _ _ ⟨(blk_cell BK128.out 0).trans rfl, (blk_cell BK128.out 1).trans rfl, (blk_cell BK128.out 2).trans rfl, (blk_cell BK128.out 3).trans rfl, (blk_cell BK128.out 4).trans rfl, (blk_cell BK128.out 5).trans rfl, ((HB.out.cell (World.block_lt_of_cell? w _ hw152_0)).trans hw152_0), ((HB.out.cell (World.block_lt_of_cell? w _ hw152_1)).trans hw152_1), ((HB.out.cell (World.block_lt_of_cell? w _ hw152_2)).trans hw152_2), ((HB.out.cell (World.block_lt_of_cell? w _ hw152_3)).trans hw152_3), ((HB.out.cell (World.block_lt_of_cell? w _ hw152_4)).trans hw152_4), ((HB.out.cell (World.block_lt_of_cell? w _ hw152_5)).trans hw152_5)⟩ (fun hHeld => ?_)
              clear hK K
              refine norm_ (a' := ?_) ?_ ?_
              rotate_left
              ·show Act.put _ (some 108) _ = _
               simp only [Act.put, List.setIfInBounds_toArray, List.set_cons_zero, List.set_cons_succ, i64_w, i32_w]
               rfl
              refine pure_ (i := 10) (N := some 109) (v := ?_) (a' := ?_) #[true, true, true, true, true, true, true, true, true, true, true, false] rfl rfl (any_of HT_.out (by kernel_rfl)) (fun _ _ _ h => h) (Or.inl ⟨by rfl, ?_⟩) ?_ ?_
              rotate_left
              ·intro w'
               go_simp
               with_reducible rfl
              rotate_left
              ·simp only [Act.put, List.setIfInBounds_toArray, List.set_cons_zero, List.set_cons_succ, i64_w, i32_w]
               rfl
              refine pure_ (i := 11) (N := some 2) (v := ?_) (a' := ?_) #[true, true, true, true, true, true, true, true, true, true, true, true] rfl rfl (any_of HT_.out (by kernel_rfl)) (fun _ _ _ h => h) (Or.inl ⟨by rfl, ?_⟩) ?_ ?_
              rotate_left
              ·intro w'
               go_simp
               with_reducible rfl
              rotate_left
              ·simp only [Act.put, List.setIfInBounds_toArray, List.set_cons_zero, List.set_cons_succ, i64_w, i32_w]
               rfl
              refine done_ (done_of HT_.out (by kernel_rfl)) ?_
              try go_wp2
              go_ret
              exact ⟨by first | rfl | (simp [errW_none, errW_some] <;> rfl) | (simp [*, errW_none, errW_some] <;> rfl), by repeat (first | (with_reducible first | exact HB.out | apply below_alloc | apply pw_below_drewN | apply below_drew1 | refine below_set ?_ GE128.out) | exact HB.out)⟩
             ·rw [if_neg c85] at H
              exact absurd H (by simp)
            ·rw [if_neg c82] at H
             exact absurd H (by simp)
           ·rw [if_neg c81] at H
            have c81b0 : (a0_0 == 11) = false := beq_eq_false_iff_ne.mpr c81
            have c81b1 : (a0_0 != 11) = true := bne_iff_ne.mpr c81
            by_cases c90 : a0_0 = 12
            ·rw [if_pos c90] at H
             have c90b0 : (a0_0 == 12) = true := beq_iff_eq.mpr c90
             have c90b1 : (a0_0 != 12) = false := bne_eq_false_iff_eq.mpr c90
             clear c90
             by_cases c91 : 6 + a0_3.size ≤ 9223372036854775807
             ·rw [if_pos c91] at H
              have c91b0 := eq_true c91
              have c91b1 : decide (6 + a0_3.size ≤ 9223372036854775807) = true := decide_eq_true c91
              try have c91b2 : (9223372036854775807 < 6 + a0_3.size) = False := eq_false (Nat.not_lt.2 c91)
              by_cases c92 : ((⟨#[109, 101, 114, 103, 101, 32]⟩ : ByteArray) ++ a0_3).size + 2 ≤ 9223372036854775807
              ·rw [if_pos c92] at H
               have c92b0 := eq_true c92
               have c92b1 : decide (((⟨#[109, 101, 114, 103, 101, 32]⟩ : ByteArray) ++ a0_3).size + 2 ≤ 9223372036854775807) = true := decide_eq_true c92
               try have c92b2 : (9223372036854775807 < ((⟨#[109, 101, 114, 103, 101, 32]⟩ : ByteArray) ++ a0_3).size + 2) = False := eq_false (Nat.not_lt.2 c92)
               try have c92b9 : (9223372036854775807 < 6 + a0_3.size + 2) = False := eq_false (by have h_ := c92; simp only [ByteArray.size_append] at h_; exact Nat.not_lt.2 h_)
               by_cases c93 : 0 < (l0_5.length : Int)
               ·rw [if_pos c93] at H
                have c93b0 : decide (0 < (l0_5.length : Int)) = true := decide_eq_true c93
                have c93b1 : decide (0 < l0_5.length) = true := decide_eq_true (by omega)
                clear c93
                replace H := Option.bind_eq_some_iff.mp H
                obtain ⟨t156, A940, H⟩ := H
                replace H : (if (((⟨#[109, 101, 114, 103, 101, 32]⟩ : ByteArray) ++ a0_3) ++ (⟨#[32, 40]⟩ : ByteArray)).size + t156.size ≤ 9223372036854775807 then (if ((((⟨#[109, 101, 114, 103, 101, 32]⟩ : ByteArray) ++ a0_3) ++ (⟨#[32, 40]⟩ : ByteArray)) ++ t156).size + 3 ≤ 9223372036854775807 then (if 1 < (l0_5.length : Int) then ((tree_Text.f k ((rd_T51 l0_5 1).f0) ((rd_T51 l0_5 1).f1) ((rd_T51 l0_5 1).f2) ((rd_T51 l0_5 1).f3) ((rd_T51 l0_5 1).f4) ((rd_T51 l0_5 1).f5)).bind fun t158 => (if (((((⟨#[109, 101, 114, 103, 101, 32]⟩ : ByteArray) ++ a0_3) ++ (⟨#[32, 40]⟩ : ByteArray)) ++ t156) ++ (⟨#[41, 32, 40]⟩ : ByteArray)).size + t158.size ≤ 9223372036854775807 then (if ((((((⟨#[109, 101, 114, 103, 101, 32]⟩ : ByteArray) ++ a0_3) ++ (⟨#[32, 40]⟩ : ByteArray)) ++ t156) ++ (⟨#[41, 32, 40]⟩ : ByteArray)) ++ t158).size + 1 ≤ 9223372036854775807 then (some (((((((⟨#[109, 101, 114, 103, 101, 32]⟩ : ByteArray) ++ a0_3) ++ (⟨#[32, 40]⟩ : ByteArray)) ++ t156) ++ (⟨#[41, 32, 40]⟩ : ByteArray)) ++ t158) ++ (⟨#[41]⟩ : ByteArray))) else (none)) else (none))) else (none)) else (none)) else (none)) = some r := H
                have A94 := Aside0.mk A940
                clear A940
                by_cases c95 : (((⟨#[109, 101, 114, 103, 101, 32]⟩ : ByteArray) ++ a0_3) ++ (⟨#[32, 40]⟩ : ByteArray)).size + t156.size ≤ 9223372036854775807
                ·rw [if_pos c95] at H
                 have c95b0 := eq_true c95
                 have c95b1 : decide ((((⟨#[109, 101, 114, 103, 101, 32]⟩ : ByteArray) ++ a0_3) ++ (⟨#[32, 40]⟩ : ByteArray)).size + t156.size ≤ 9223372036854775807) = true := decide_eq_true c95
                 try have c95b2 : (9223372036854775807 < (((⟨#[109, 101, 114, 103, 101, 32]⟩ : ByteArray) ++ a0_3) ++ (⟨#[32, 40]⟩ : ByteArray)).size + t156.size) = False := eq_false (Nat.not_lt.2 c95)
                 try have c95b9 : (9223372036854775807 < 6 + a0_3.size + 2 + t156.size) = False := eq_false (by have h_ := c95; simp only [ByteArray.size_append] at h_; exact Nat.not_lt.2 h_)
                 by_cases c96 : ((((⟨#[109, 101, 114, 103, 101, 32]⟩ : ByteArray) ++ a0_3) ++ (⟨#[32, 40]⟩ : ByteArray)) ++ t156).size + 3 ≤ 9223372036854775807
                 ·rw [if_pos c96] at H
                  have c96b0 := eq_true c96
                  have c96b1 : decide (((((⟨#[109, 101, 114, 103, 101, 32]⟩ : ByteArray) ++ a0_3) ++ (⟨#[32, 40]⟩ : ByteArray)) ++ t156).size + 3 ≤ 9223372036854775807) = true := decide_eq_true c96
                  try have c96b2 : (9223372036854775807 < ((((⟨#[109, 101, 114, 103, 101, 32]⟩ : ByteArray) ++ a0_3) ++ (⟨#[32, 40]⟩ : ByteArray)) ++ t156).size + 3) = False := eq_false (Nat.not_lt.2 c96)
                  try have c96b9 : (9223372036854775807 < 6 + a0_3.size + 2 + t156.size + 3) = False := eq_false (by have h_ := c96; simp only [ByteArray.size_append] at h_; exact Nat.not_lt.2 h_)
                  by_cases c97 : 1 < (l0_5.length : Int)
                  ·rw [if_pos c97] at H
                   have c97b0 : decide (1 < (l0_5.length : Int)) = true := decide_eq_true c97
                   have c97b1 : decide (1 < l0_5.length) = true := decide_eq_true (by omega)
                   clear c97
                   replace H := Option.bind_eq_some_iff.mp H
                   obtain ⟨t158, A980, H⟩ := H
                   replace H : (if (((((⟨#[109, 101, 114, 103, 101, 32]⟩ : ByteArray) ++ a0_3) ++ (⟨#[32, 40]⟩ : ByteArray)) ++ t156) ++ (⟨#[41, 32, 40]⟩ : ByteArray)).size + t158.size ≤ 9223372036854775807 then (if ((((((⟨#[109, 101, 114, 103, 101, 32]⟩ : ByteArray) ++ a0_3) ++ (⟨#[32, 40]⟩ : ByteArray)) ++ t156) ++ (⟨#[41, 32, 40]⟩ : ByteArray)) ++ t158).size + 1 ≤ 9223372036854775807 then (some (((((((⟨#[109, 101, 114, 103, 101, 32]⟩ : ByteArray) ++ a0_3) ++ (⟨#[32, 40]⟩ : ByteArray)) ++ t156) ++ (⟨#[41, 32, 40]⟩ : ByteArray)) ++ t158) ++ (⟨#[41]⟩ : ByteArray))) else (none)) else (none)) = some r := H
                   have A98 := Aside0.mk A980
                   clear A980
                   by_cases c99 : (((((⟨#[109, 101, 114, 103, 101, 32]⟩ : ByteArray) ++ a0_3) ++ (⟨#[32, 40]⟩ : ByteArray)) ++ t156) ++ (⟨#[41, 32, 40]⟩ : ByteArray)).size + t158.size ≤ 9223372036854775807
                   ·rw [if_pos c99] at H
                    have c99b0 := eq_true c99
                    have c99b1 : decide ((((((⟨#[109, 101, 114, 103, 101, 32]⟩ : ByteArray) ++ a0_3) ++ (⟨#[32, 40]⟩ : ByteArray)) ++ t156) ++ (⟨#[41, 32, 40]⟩ : ByteArray)).size + t158.size ≤ 9223372036854775807) = true := decide_eq_true c99
                    try have c99b2 : (9223372036854775807 < (((((⟨#[109, 101, 114, 103, 101, 32]⟩ : ByteArray) ++ a0_3) ++ (⟨#[32, 40]⟩ : ByteArray)) ++ t156) ++ (⟨#[41, 32, 40]⟩ : ByteArray)).size + t158.size) = False := eq_false (Nat.not_lt.2 c99)
                    try have c99b9 : (9223372036854775807 < 6 + a0_3.size + 2 + t156.size + 3 + t158.size) = False := eq_false (by have h_ := c99; simp only [ByteArray.size_append] at h_; exact Nat.not_lt.2 h_)
                    by_cases c100 : ((((((⟨#[109, 101, 114, 103, 101, 32]⟩ : ByteArray) ++ a0_3) ++ (⟨#[32, 40]⟩ : ByteArray)) ++ t156) ++ (⟨#[41, 32, 40]⟩ : ByteArray)) ++ t158).size + 1 ≤ 9223372036854775807
                    ·rw [if_pos c100] at H
                     have c100b0 := eq_true c100
                     have c100b1 : decide (((((((⟨#[109, 101, 114, 103, 101, 32]⟩ : ByteArray) ++ a0_3) ++ (⟨#[32, 40]⟩ : ByteArray)) ++ t156) ++ (⟨#[41, 32, 40]⟩ : ByteArray)) ++ t158).size + 1 ≤ 9223372036854775807) = true := decide_eq_true c100
                     try have c100b2 : (9223372036854775807 < ((((((⟨#[109, 101, 114, 103, 101, 32]⟩ : ByteArray) ++ a0_3) ++ (⟨#[32, 40]⟩ : ByteArray)) ++ t156) ++ (⟨#[41, 32, 40]⟩ : ByteArray)) ++ t158).size + 1) = False := eq_false (Nat.not_lt.2 c100)
                     try have c100b9 : (9223372036854775807 < 6 + a0_3.size + 2 + t156.size + 3 + t158.size + 1) = False := eq_false (by have h_ := c100; simp only [ByteArray.size_append] at h_; exact Nat.not_lt.2 h_)
                     obtain rfl := Option.some.inj H
                     go_enter Tryd.func29, Tryd.ntmps29
                     try go_wp2_with (first | ((with_reducible refine gate_dst (N := 1) rfl ?_); refine box_event ?hg (N := 1) ?hd (cs := #[.int .i64 a0_0, .int .i64 a0_1, .int .i64 a0_2, .string a0_3, .bool a0_4, .slice A0_5 l0_5.length c0_5]) (t := 51) ?hr ?_; (case hd => rfl); (case hg => rfl); (case hr => first | (go_simp; done) | (go_simp; rfl)); intro gb128 hg w101 hbox hb; have n0_ := Aside0.mk (below_step (by repeat (first | (with_reducible first | exact HB.out | apply below_alloc | apply pw_below_drewN | apply below_drew1) | exact HB.out)) hb); have n1_ := Aside0.mk (hbox); have n2_ := Aside0.mk ((by rw [hg]; exact (below_size (by repeat (first | (with_reducible first | exact HB.out | apply below_alloc | apply pw_below_drewN | apply below_drew1) | exact HB.out))) : w.heap.size ≤ gb128)); have n3_ := Aside0.mk ((by rw [hg]; exact (below_size (by repeat (first | (with_reducible first | exact HB.out | apply below_alloc | apply pw_below_drewN | apply below_drew1) | exact HB.out))) : w.heap.size ≤ gb128)); clear HB; have HB := n0_; have BK128 := n1_; have GW128 := n2_; have GE128 := n3_; clear n0_ n1_ n2_ n3_; clear hb hbox hg; have hcz102_0 : w101.cell? ⟨gb128, 0, none⟩ = some (.int .i64 a0_0) := (blk_cell BK128.out 0).trans rfl; have hcz102_1 : w101.cell? ⟨gb128, 1, none⟩ = some (.int .i64 a0_1) := (blk_cell BK128.out 1).trans rfl; have hcz102_2 : w101.cell? ⟨gb128, 2, none⟩ = some (.int .i64 a0_2) := (blk_cell BK128.out 2).trans rfl; have hcz102_3 : w101.cell? ⟨gb128, 3, none⟩ = some (.string a0_3) := (blk_cell BK128.out 3).trans rfl; have hcz102_4 : w101.cell? ⟨gb128, 4, none⟩ = some (.bool a0_4) := (blk_cell BK128.out 4).trans rfl; have hcz102_5 : w101.cell? ⟨gb128, 5, none⟩ = some (.slice A0_5 l0_5.length c0_5) := (blk_cell BK128.out 5).trans rfl; have hfz102_0 := blk_frozen BK128.out 0; have hfz102_1 := blk_frozen BK128.out 1; have hfz102_2 := blk_frozen BK128.out 2; have hfz102_3 := blk_frozen BK128.out 3; have hfz102_4 := blk_frozen BK128.out 4; have hfz102_5 := blk_frozen BK128.out 5))
                     have n0_ := Aside0.mk (blk_drew BK128.out)
                     have n1_ := Aside0.mk (below_drew1 HB.out)
                     clear BK128
                     clear HB
                     have BK128 := n0_
                     have HB := n1_
                     clear n0_ n1_
                     have p155 : 0 ≤ (0 : Int) := (by omega)
                     have q155 : 0 < (l0_5.length : Int) := of_decide_eq_true (by first | (with_reducible assumption) | assumption)
                     obtain ⟨ad155, A155_5, c155_5, e155, hx155_0, hx155_1, hx155_2, hx155_3, hx155_4, hx155_5, hl155_5, hi155_5⟩ := at_T51 HR0_5.out 0 p155 q155
                     have hw155_5 := hx155_5
                     (try rw [show ((0 : Int)).toNat = 0 from rfl] at hw155_5)
                     (try rw [show 0 * 6 = 0 from rfl] at hw155_5)
                     (try rw [Addr.add_zero'] at hw155_5)
                     have hw155_4 := hx155_4
                     (try rw [show ((0 : Int)).toNat = 0 from rfl] at hw155_4)
                     (try rw [show 0 * 6 = 0 from rfl] at hw155_4)
                     (try rw [Addr.add_zero'] at hw155_4)
                     have hw155_3 := hx155_3
                     (try rw [show ((0 : Int)).toNat = 0 from rfl] at hw155_3)
                     (try rw [show 0 * 6 = 0 from rfl] at hw155_3)
                     (try rw [Addr.add_zero'] at hw155_3)
                     have hw155_2 := hx155_2
                     (try rw [show ((0 : Int)).toNat = 0 from rfl] at hw155_2)
                     (try rw [show 0 * 6 = 0 from rfl] at hw155_2)
                     (try rw [Addr.add_zero'] at hw155_2)
                     have hw155_1 := hx155_1
                     (try rw [show ((0 : Int)).toNat = 0 from rfl] at hw155_1)
                     (try rw [show 0 * 6 = 0 from rfl] at hw155_1)
                     (try rw [Addr.add_zero'] at hw155_1)
                     have hw155_0 := hx155_0
                     (try rw [show ((0 : Int)).toNat = 0 from rfl] at hw155_0)
                     (try rw [show 0 * 6 = 0 from rfl] at hw155_0)
                     (try rw [Addr.add_zero'] at hw155_0)
                     cases e155
                     have qi155 : (0 < l0_5.length) = True := eq_true (by omega)
                     (try rw [show ((0 : Int)).toNat = 0 from rfl] at hx155_0)
                     (try rw [show 0 * 6 = 0 from rfl] at hx155_0)
                     (try rw [Addr.add_zero'] at hx155_0)
                     (try rw [show ((0 : Int)).toNat = 0 from rfl] at hx155_1)
                     (try rw [show 0 * 6 = 0 from rfl] at hx155_1)
                     (try rw [Addr.add_zero'] at hx155_1)
                     (try rw [show ((0 : Int)).toNat = 0 from rfl] at hx155_2)
                     (try rw [show 0 * 6 = 0 from rfl] at hx155_2)
                     (try rw [Addr.add_zero'] at hx155_2)
                     (try rw [show ((0 : Int)).toNat = 0 from rfl] at hx155_3)
                     (try rw [show 0 * 6 = 0 from rfl] at hx155_3)
                     (try rw [Addr.add_zero'] at hx155_3)
                     (try rw [show ((0 : Int)).toNat = 0 from rfl] at hx155_4)
                     (try rw [show 0 * 6 = 0 from rfl] at hx155_4)
                     (try rw [Addr.add_zero'] at hx155_4)
                     (try rw [show ((0 : Int)).toNat = 0 from rfl] at hx155_5)
                     (try rw [show 0 * 6 = 0 from rfl] at hx155_5)
                     (try rw [Addr.add_zero'] at hx155_5)
                     replace hx155_0 := (HB.out.cell (World.block_lt_of_cell? w _ hx155_0)).trans hx155_0
                     replace hx155_1 := (HB.out.cell (World.block_lt_of_cell? w _ hx155_1)).trans hx155_1
                     replace hx155_2 := (HB.out.cell (World.block_lt_of_cell? w _ hx155_2)).trans hx155_2
                     replace hx155_3 := (HB.out.cell (World.block_lt_of_cell? w _ hx155_3)).trans hx155_3
                     replace hx155_4 := (HB.out.cell (World.block_lt_of_cell? w _ hx155_4)).trans hx155_4
                     replace hx155_5 := (HB.out.cell (World.block_lt_of_cell? w _ hx155_5)).trans hx155_5
                     have HR155_5 := Aside0.mk hi155_5
                     have HC155_5 := Aside0.mk hl155_5
                     clear hi155_5 hl155_5
                     replace p155 := eq_true p155
                     replace q155 := eq_true q155
                     have p157 : 0 ≤ (1 : Int) := (by omega)
                     have q157 : 1 < (l0_5.length : Int) := of_decide_eq_true (by first | (with_reducible assumption) | assumption)
                     obtain ⟨ad157, A157_5, c157_5, e157, hx157_0, hx157_1, hx157_2, hx157_3, hx157_4, hx157_5, hl157_5, hi157_5⟩ := at_T51 HR0_5.out 1 p157 q157
                     have hw157_5 := hx157_5
                     (try rw [show ((1 : Int)).toNat = 1 from rfl] at hw157_5)
                     (try rw [show 1 * 6 = 6 from rfl] at hw157_5)
                     (try simp only [Nat.reduceMul, Nat.reduceEqDiff, Go.Addr.add, ↓reduceIte] at hw157_5)
                     have hw157_4 := hx157_4
                     (try rw [show ((1 : Int)).toNat = 1 from rfl] at hw157_4)
                     (try rw [show 1 * 6 = 6 from rfl] at hw157_4)
                     (try simp only [Nat.reduceMul, Nat.reduceEqDiff, Go.Addr.add, ↓reduceIte] at hw157_4)
                     have hw157_3 := hx157_3
                     (try rw [show ((1 : Int)).toNat = 1 from rfl] at hw157_3)
                     (try rw [show 1 * 6 = 6 from rfl] at hw157_3)
                     (try simp only [Nat.reduceMul, Nat.reduceEqDiff, Go.Addr.add, ↓reduceIte] at hw157_3)
                     have hw157_2 := hx157_2
                     (try rw [show ((1 : Int)).toNat = 1 from rfl] at hw157_2)
                     (try rw [show 1 * 6 = 6 from rfl] at hw157_2)
                     (try simp only [Nat.reduceMul, Nat.reduceEqDiff, Go.Addr.add, ↓reduceIte] at hw157_2)
                     have hw157_1 := hx157_1
                     (try rw [show ((1 : Int)).toNat = 1 from rfl] at hw157_1)
                     (try rw [show 1 * 6 = 6 from rfl] at hw157_1)
                     (try simp only [Nat.reduceMul, Nat.reduceEqDiff, Go.Addr.add, ↓reduceIte] at hw157_1)
                     have hw157_0 := hx157_0
                     (try rw [show ((1 : Int)).toNat = 1 from rfl] at hw157_0)
                     (try rw [show 1 * 6 = 6 from rfl] at hw157_0)
                     (try simp only [Nat.reduceMul, Nat.reduceEqDiff, Go.Addr.add, ↓reduceIte] at hw157_0)
                     obtain rfl : ad155 = ad157 := (by injection e157)
                     (try simp only [show (1 : Int).toNat = 1 from rfl, Nat.reduceMul, Nat.reduceEqDiff, Go.Addr.add, ↓reduceIte] at hx157_0)
                     (try simp only [show (1 : Int).toNat = 1 from rfl, Nat.reduceMul, Nat.reduceEqDiff, Go.Addr.add, ↓reduceIte] at hx157_1)
                     (try simp only [show (1 : Int).toNat = 1 from rfl, Nat.reduceMul, Nat.reduceEqDiff, Go.Addr.add, ↓reduceIte] at hx157_2)
                     (try simp only [show (1 : Int).toNat = 1 from rfl, Nat.reduceMul, Nat.reduceEqDiff, Go.Addr.add, ↓reduceIte] at hx157_3)
                     (try simp only [show (1 : Int).toNat = 1 from rfl, Nat.reduceMul, Nat.reduceEqDiff, Go.Addr.add, ↓reduceIte] at hx157_4)
                     (try simp only [show (1 : Int).toNat = 1 from rfl, Nat.reduceMul, Nat.reduceEqDiff, Go.Addr.add, ↓reduceIte] at hx157_5)
                     have qi157 : (1 < l0_5.length) = True := eq_true (by omega)
                     (try rw [show ((1 : Int)).toNat = 1 from rfl] at hx157_0)
                     (try rw [show 1 * 6 = 6 from rfl] at hx157_0)
                     (try rw [show ((1 : Int)).toNat = 1 from rfl] at hx157_1)
                     (try rw [show 1 * 6 = 6 from rfl] at hx157_1)
                     (try rw [show ((1 : Int)).toNat = 1 from rfl] at hx157_2)
                     (try rw [show 1 * 6 = 6 from rfl] at hx157_2)
                     (try rw [show ((1 : Int)).toNat = 1 from rfl] at hx157_3)
                     (try rw [show 1 * 6 = 6 from rfl] at hx157_3)
                     (try rw [show ((1 : Int)).toNat = 1 from rfl] at hx157_4)
                     (try rw [show 1 * 6 = 6 from rfl] at hx157_4)
                     (try rw [show ((1 : Int)).toNat = 1 from rfl] at hx157_5)
                     (try rw [show 1 * 6 = 6 from rfl] at hx157_5)
                     replace hx157_0 := (HB.out.cell (World.block_lt_of_cell? w _ hx157_0)).trans hx157_0
                     replace hx157_1 := (HB.out.cell (World.block_lt_of_cell? w _ hx157_1)).trans hx157_1
                     replace hx157_2 := (HB.out.cell (World.block_lt_of_cell? w _ hx157_2)).trans hx157_2
                     replace hx157_3 := (HB.out.cell (World.block_lt_of_cell? w _ hx157_3)).trans hx157_3
                     replace hx157_4 := (HB.out.cell (World.block_lt_of_cell? w _ hx157_4)).trans hx157_4
                     replace hx157_5 := (HB.out.cell (World.block_lt_of_cell? w _ hx157_5)).trans hx157_5
                     have HR157_5 := Aside0.mk hi157_5
                     have HC157_5 := Aside0.mk hl157_5
                     clear hi157_5 hl157_5
                     replace p157 := eq_true p157
                     replace q157 := eq_true q157
                     refine start_ (n := 19) (S := fun w' => w'.cell? ⟨gb128, 0, none⟩ = some (.int .i64 a0_0) ∧ w'.cell? ⟨gb128, 1, none⟩ = some (.int .i64 a0_1) ∧ w'.cell? ⟨gb128, 2, none⟩ = some (.int .i64 a0_2) ∧ w'.cell? ⟨gb128, 3, none⟩ = some (.string a0_3) ∧ w'.cell? ⟨gb128, 4, none⟩ = some (.bool a0_4) ∧ w'.cell? ⟨gb128, 5, none⟩ = some (.slice (some ad155) l0_5.length c0_5) ∧ w'.cell? ad155 = some (.int .i64 ((rd_T51 l0_5 0).f0)) ∧ w'.cell? ⟨ad155.block, ad155.off + 1, none⟩ = some (.int .i64 ((rd_T51 l0_5 0).f1)) ∧ w'.cell? ⟨ad155.block, ad155.off + 2, none⟩ = some (.int .i64 ((rd_T51 l0_5 0).f2)) ∧ w'.cell? ⟨ad155.block, ad155.off + 3, none⟩ = some (.string ((rd_T51 l0_5 0).f3)) ∧ w'.cell? ⟨ad155.block, ad155.off + 4, none⟩ = some (.bool ((rd_T51 l0_5 0).f4)) ∧ w'.cell? ⟨ad155.block, ad155.off + 5, none⟩ = some (.slice A155_5 ((rd_T51 l0_5 0).f5).length c155_5) ∧ w'.cell? ⟨ad155.block, ad155.off + 6, none⟩ = some (.int .i64 ((rd_T51 l0_5 1).f0)) ∧ w'.cell? ⟨ad155.block, ad155.off + 6 + 1, none⟩ = some (.int .i64 ((rd_T51 l0_5 1).f1)) ∧ w'.cell? ⟨ad155.block, ad155.off + 6 + 2, none⟩ = some (.int .i64 ((rd_T51 l0_5 1).f2)) ∧ w'.cell? ⟨ad155.block, ad155.off + 6 + 3, none⟩ = some (.string ((rd_T51 l0_5 1).f3)) ∧ w'.cell? ⟨ad155.block, ad155.off + 6 + 4, none⟩ = some (.bool ((rd_T51 l0_5 1).f4)) ∧ w'.cell? ⟨ad155.block, ad155.off + 6 + 5, none⟩ = some (.slice A157_5 ((rd_T51 l0_5 1).f5).length c157_5)) (ds := []) #[false, false, false, false, false, false, false, false, false, false, false, false, false, false, false, false, false, false, false] (by kernel_rfl) rfl rfl ⟨(blk_cell BK128.out 0).trans rfl, (blk_cell BK128.out 1).trans rfl, (blk_cell BK128.out 2).trans rfl, (blk_cell BK128.out 3).trans rfl, (blk_cell BK128.out 4).trans rfl, (blk_cell BK128.out 5).trans rfl, ((HB.out.cell (World.block_lt_of_cell? w _ hw155_0)).trans hw155_0), ((HB.out.cell (World.block_lt_of_cell? w _ hw155_1)).trans hw155_1), ((HB.out.cell (World.block_lt_of_cell? w _ hw155_2)).trans hw155_2), ((HB.out.cell (World.block_lt_of_cell? w _ hw155_3)).trans hw155_3), ((HB.out.cell (World.block_lt_of_cell? w _ hw155_4)).trans hw155_4), ((HB.out.cell (World.block_lt_of_cell? w _ hw155_5)).trans hw155_5), ((HB.out.cell (World.block_lt_of_cell? w _ hw157_0)).trans hw157_0), ((HB.out.cell (World.block_lt_of_cell? w _ hw157_1)).trans hw157_1), ((HB.out.cell (World.block_lt_of_cell? w _ hw157_2)).trans hw157_2), ((HB.out.cell (World.block_lt_of_cell? w _ hw157_3)).trans hw157_3), ((HB.out.cell (World.block_lt_of_cell? w _ hw157_4)).trans hw157_4), ((HB.out.cell (World.block_lt_of_cell? w _ hw157_5)).trans hw157_5)⟩ (fun hHeld => ?_); refine with_tabW tree_Text.tab25 tree_Text.bits25 (fun HT_ HW_ => ?_)
                     generalize w101.drew = w103 at BK128 HB HR155_5 HR157_5 hx155_0 hx155_1 hx155_2 hx155_3 hx155_4 hx155_5 hx157_0 hx157_1 hx157_2 hx157_3 hx157_4 hx157_5 hHeld ⊢
                     refine pure_ (i := 0) (N := some 112) (v := ?_) (a' := ?_) #[true, false, false, false, false, false, false, false, false, false, false, false, false, false, false, false, false, false, false] rfl rfl (any_of HT_.out (by kernel_rfl)) (fun _ _ _ h => h) (Or.inl ⟨by rfl, ?_⟩) ?_ ?_
                     rotate_left
                     ·intro w'
                      go_simp
                      with_reducible rfl
                     rotate_left
                     ·simp only [Act.put, List.setIfInBounds_toArray, List.set_cons_zero, List.set_cons_succ, i64_w, i32_w]
                      rfl
                     refine pure_ (i := 4) (N := some 116) (v := ?_) (a' := ?_) #[true, false, false, false, true, false, false, false, false, false, false, false, false, false, false, false, false, false, false] rfl rfl (any_of HT_.out (by kernel_rfl)) (fun _ _ _ h => h) (Or.inl ⟨by rfl, ?_⟩) ?_ ?_
                     rotate_left
                     ·intro w'
                      go_simp
                      with_reducible rfl
                     rotate_left
                     ·simp only [Act.put, List.setIfInBounds_toArray, List.set_cons_zero, List.set_cons_succ, i64_w, i32_w]
                      rfl
                     refine pure_ (i := 11) (N := some 123) (v := ?_) (a' := ?_) #[true, false, false, false, true, false, false, false, false, false, false, true, false, false, false, false, false, false, false] rfl rfl (any_of HT_.out (by kernel_rfl)) (fun _ _ _ h => h) (Or.inl ⟨by rfl, ?_⟩) ?_ ?_
                     rotate_left
                     ·intro w'
                      go_simp
                      with_reducible rfl
                     rotate_left
                     ·simp only [Act.put, List.setIfInBounds_toArray, List.set_cons_zero, List.set_cons_succ, i64_w, i32_w]
                      rfl
                     refine take_ (i := 1) (N := some 113) (v := ?_) (a' := ?_) #[true, true, false, false, true, false, false, false, false, false, false, true, false, false, false, false, false, false, false] rfl rfl (take_ofW HT_.out HW_.out (by kernel_rfl)) (fun _ _ _ h => h) (Or.inl ⟨by rfl, ?_⟩) hHeld ?_ ?_
                     rotate_left
                     ·rintro w' ⟨s0, s1, s2, s3, s4, s5, s6, s7, s8, s9, s10, s11, s12, s13, s14, s15, s16, s17⟩
                      go_simp
                      with_reducible rfl
                     rotate_left
                     ·simp only [Act.put, List.setIfInBounds_toArray, List.set_cons_zero, List.set_cons_succ, i64_w, i32_w]
                      rfl
                     refine pure_ (i := 2) (N := some 114) (v := ?_) (a' := ?_) #[true, true, true, false, true, false, false, false, false, false, false, true, false, false, false, false, false, false, false] rfl rfl (any_of HT_.out (by kernel_rfl)) (fun _ _ _ h => h) (Or.inl ⟨by rfl, ?_⟩) ?_ ?_
                     rotate_left
                     ·intro w'
                      go_simp
                      with_reducible rfl
                     rotate_left
                     ·simp only [Act.put, List.setIfInBounds_toArray, List.set_cons_zero, List.set_cons_succ, i64_w, i32_w]
                      rfl
                     refine pure_ (i := 3) (N := some 115) (v := ?_) (a' := ?_) #[true, true, true, true, true, false, false, false, false, false, false, true, false, false, false, false, false, false, false] rfl rfl (any_of HT_.out (by kernel_rfl)) (fun _ _ _ h => h) (Or.inl ⟨by rfl, ?_⟩) ?_ ?_
                     rotate_left
                     ·intro w'
                      go_simp
                      with_reducible rfl
                     rotate_left
                     ·simp only [Act.put, List.setIfInBounds_toArray, List.set_cons_zero, List.set_cons_succ, i64_w, i32_w]
                      rfl
                     refine take_ (i := 5) (N := some 117) (v := ?_) (a' := ?_) #[true, true, true, true, true, true, false, false, false, false, false, true, false, false, false, false, false, false, false] rfl rfl (take_ofW HT_.out HW_.out (by kernel_rfl)) (fun _ _ _ h => h) (Or.inl ⟨by rfl, ?_⟩) hHeld ?_ ?_
                     rotate_left
                     ·rintro w' ⟨s0, s1, s2, s3, s4, s5, s6, s7, s8, s9, s10, s11, s12, s13, s14, s15, s16, s17⟩
                      go_simp
                      with_reducible rfl
                     rotate_left
                     ·simp only [Act.put, List.setIfInBounds_toArray, List.set_cons_zero, List.set_cons_succ, i64_w, i32_w]
                      rfl
                     refine pure_ (i := 6) (N := some 118) (v := ?_) (a' := ?_) #[true, true, true, true, true, true, true, false, false, false, false, true, false, false, false, false, false, false, false] rfl rfl (any_of HT_.out (by kernel_rfl)) (fun _ _ _ h => h) (Or.inl ⟨by rfl, ?_⟩) ?_ ?_
                     rotate_left
                     ·intro w'
                      go_simp
                      with_reducible rfl
                     rotate_left
                     ·simp only [Act.put, List.setIfInBounds_toArray, List.set_cons_zero, List.set_cons_succ, i64_w, i32_w]
                      rfl
                     refine take_ (i := 7) (N := some 119) (v := ?_) (a' := ?_) #[true, true, true, true, true, true, true, true, false, false, false, true, false, false, false, false, false, false, false] rfl rfl (take_ofW HT_.out HW_.out (by kernel_rfl)) (fun _ _ _ h => h) (Or.inl ⟨by rfl, ?_⟩) hHeld ?_ ?_
                     rotate_left
                     ·rintro w' ⟨s0, s1, s2, s3, s4, s5, s6, s7, s8, s9, s10, s11, s12, s13, s14, s15, s16, s17⟩
                      go_simp
                      with_reducible rfl
                     rotate_left
                     ·simp only [Act.put, List.setIfInBounds_toArray, List.set_cons_zero, List.set_cons_succ, i64_w, i32_w]
                      rfl
                     refine take_ (i := 12) (N := some 124) (v := ?_) (a' := ?_) #[true, true, true, true, true, true, true, true, false, false, false, true, true, false, false, false, false, false, false] rfl rfl (take_ofW HT_.out HW_.out (by kernel_rfl)) (fun _ _ _ h => h) (Or.inl ⟨by rfl, ?_⟩) hHeld ?_ ?_
                     rotate_left
                     ·rintro w' ⟨s0, s1, s2, s3, s4, s5, s6, s7, s8, s9, s10, s11, s12, s13, s14, s15, s16, s17⟩
                      go_simp
                      with_reducible rfl
                     rotate_left
                     ·simp only [Act.put, List.setIfInBounds_toArray, List.set_cons_zero, List.set_cons_succ, i64_w, i32_w]
                      rfl
                     refine pure_ (i := 13) (N := some 125) (v := ?_) (a' := ?_) #[true, true, true, true, true, true, true, true, false, false, false, true, true, true, false, false, false, false, false] rfl rfl (any_of HT_.out (by kernel_rfl)) (fun _ _ _ h => h) (Or.inl ⟨by rfl, ?_⟩) ?_ ?_
                     rotate_left
                     ·intro w'
                      go_simp
                      with_reducible rfl
                     rotate_left
                     ·simp only [Act.put, List.setIfInBounds_toArray, List.set_cons_zero, List.set_cons_succ, i64_w, i32_w]
                      rfl
                     refine take_ (i := 14) (N := some 126) (v := ?_) (a' := ?_) #[true, true, true, true, true, true, true, true, false, false, false, true, true, true, true, false, false, false, false] rfl rfl (take_ofW HT_.out HW_.out (by kernel_rfl)) (fun _ _ _ h => h) (Or.inl ⟨by rfl, ?_⟩) hHeld ?_ ?_
                     rotate_left
                     ·rintro w' ⟨s0, s1, s2, s3, s4, s5, s6, s7, s8, s9, s10, s11, s12, s13, s14, s15, s16, s17⟩
                      go_simp
                      with_reducible rfl
                     rotate_left
                     ·simp only [Act.put, List.setIfInBounds_toArray, List.set_cons_zero, List.set_cons_succ, i64_w, i32_w]
                      rfl
                     refine one_ (i := 8) (N := some 120) #[true, true, true, true, true, true, true, true, true, false, false, true, true, true, true, false, false, false, false] rfl rfl (one_of HT_.out (by kernel_rfl)) (by decide) (fun K hK => ?_)
                     refine goes_ Tryd.func29 (by kernel_rfl) rfl #[.agg #[.int .i64 ((rd_T51 l0_5 0).f0), .int .i64 ((rd_T51 l0_5 0).f1), .int .i64 ((rd_T51 l0_5 0).f2), .string ((rd_T51 l0_5 0).f3), .bool ((rd_T51 l0_5 0).f4), .slice A155_5 ((rd_T51 l0_5 0).f5).length c155_5]] (by rfl) rfl rfl (by (try simp only [List.map_toArray, List.map_cons, List.map_nil]); first | done | rfl | (simp only [List.length_drop, List.length_take]; rfl)) ?_
                     with_reducible refine (ih_29 k (by omega) ((rd_T51 l0_5 0).f0) ((rd_T51 l0_5 0).f1) ((rd_T51 l0_5 0).f2) ((rd_T51 l0_5 0).f3) ((rd_T51 l0_5 0).f4) _ _ ((rd_T51 l0_5 0).f5) t156 _ ?side1 ?side2 A94.out ?side3).mono ?_
                     (case side1 => repeat (first | exact (Kd.C_below HR155_5.out HB.out) | (with_reducible refine Kd.C_alloc ?_ _) | (with_reducible refine Kd.C_drewN ?_ _) | (with_reducible refine Kd.C_drew ?_)))
                     (case side2 => exact HC155_5.out)
                     (case side3 => exact Tabs.below HT.out (by repeat (first | (with_reducible first | exact HB.out | apply below_alloc | apply pw_below_drewN | apply below_drew1 | refine below_set ?_ GE128.out) | exact HB.out)))
                     rintro e w104 ⟨rfl, hb⟩
                     refine ⟨_, rfl, ?_⟩
                     have n0_ := Aside0.mk (blk_below (g := gb128) (o := .cells #[.int .i64 a0_0, .int .i64 a0_1, .int .i64 a0_2, .string a0_3, .bool a0_4, .slice (some ad155) l0_5.length c0_5] 51 (0, 0)) (by (with_reducible repeat (first | refine blk_drewN ?_ _ | refine blk_drew ?_ | refine blk_alloc ?_ _)); exact BK128.out) hb)
                     have n1_ := Aside0.mk (below_step (by repeat (first | (with_reducible first | exact HB.out | apply below_alloc | apply pw_below_drewN | apply below_drew1 | refine below_set ?_ GE128.out) | exact HB.out)) hb)
                     clear BK128
                     clear HB
                     have BK128 := n0_
                     have HB := n1_
                     clear n0_ n1_
                     (try clear hb)
                     (try clear hb2)
                     (try clear hk)
                     (try clear hi)
                     refine hK.out _ _ ⟨(blk_cell BK128.out 0).trans rfl, (blk_cell BK128.out 1).trans rfl, (blk_cell BK128.out 2).trans rfl, (blk_cell BK128.out 3).trans rfl, (blk_cell BK128.out 4).trans rfl, (blk_cell BK128.out 5).trans rfl, ((HB.out.cell (World.block_lt_of_cell? w _ hw155_0)).trans hw155_0), ((HB.out.cell (World.block_lt_of_cell? w _ hw155_1)).trans hw155_1), ((HB.out.cell (World.block_lt_of_cell? w _ hw155_2)).trans hw155_2), ((HB.out.cell (World.block_lt_of_cell? w _ hw155_3)).trans hw155_3), ((HB.out.cell (World.block_lt_of_cell? w _ hw155_4)).trans hw155_4), ((HB.out.cell (World.block_lt_of_cell? w _ hw155_5)).trans hw155_5), ((HB.out.cell (World.block_lt_of_cell? w _ hw157_0)).trans hw157_0), ((HB.out.cell (World.block_lt_of_cell? w _ hw157_1)).trans hw157_1), ((HB.out.cell (World.block_lt_of_cell? w _ hw157_2)).trans hw157_2), ((HB.out.cell (World.block_lt_of_cell? w _ hw157_3)).trans hw157_3), ((HB.out.cell (World.block_lt_of_cell? w _ hw157_4)).trans hw157_4), ((HB.out.cell (World.block_lt_of_cell? w _ hw157_5)).trans hw157_5)⟩ (fun hHeld => ?_)
                     clear hK K
                     refine norm_ (a' := ?_) ?_ ?_
                     rotate_left
                     ·show Act.put _ (some 120) _ = _
                      simp only [Act.put, List.setIfInBounds_toArray, List.set_cons_zero, List.set_cons_succ, i64_w, i32_w]
                      rfl
                     refine pure_ (i := 9) (N := some 121) (v := ?_) (a' := ?_) #[true, true, true, true, true, true, true, true, true, true, false, true, true, true, true, false, false, false, false] rfl rfl (any_of HT_.out (by kernel_rfl)) (fun _ _ _ h => h) (Or.inl ⟨by rfl, ?_⟩) ?_ ?_
                     rotate_left
                     ·intro w'
                      go_simp
                      with_reducible rfl
                     rotate_left
                     ·simp only [Act.put, List.setIfInBounds_toArray, List.set_cons_zero, List.set_cons_succ, i64_w, i32_w]
                      rfl
                     refine pure_ (i := 10) (N := some 122) (v := ?_) (a' := ?_) #[true, true, true, true, true, true, true, true, true, true, true, true, true, true, true, false, false, false, false] rfl rfl (any_of HT_.out (by kernel_rfl)) (fun _ _ _ h => h) (Or.inl ⟨by rfl, ?_⟩) ?_ ?_
                     rotate_left
                     ·intro w'
                      go_simp
                      with_reducible rfl
                     rotate_left
                     ·simp only [Act.put, List.setIfInBounds_toArray, List.set_cons_zero, List.set_cons_succ, i64_w, i32_w]
                      rfl
                     refine one_ (i := 15) (N := some 127) #[true, true, true, true, true, true, true, true, true, true, true, true, true, true, true, true, false, false, false] rfl rfl (one_of HT_.out (by kernel_rfl)) (by decide) (fun K hK => ?_)
                     refine goes_ Tryd.func29 (by kernel_rfl) rfl #[.agg #[.int .i64 ((rd_T51 l0_5 1).f0), .int .i64 ((rd_T51 l0_5 1).f1), .int .i64 ((rd_T51 l0_5 1).f2), .string ((rd_T51 l0_5 1).f3), .bool ((rd_T51 l0_5 1).f4), .slice A157_5 ((rd_T51 l0_5 1).f5).length c157_5]] (by rfl) rfl rfl (by (try simp only [List.map_toArray, List.map_cons, List.map_nil]); first | done | rfl | (simp only [List.length_drop, List.length_take]; rfl)) ?_
                     with_reducible refine (ih_29 k (by omega) ((rd_T51 l0_5 1).f0) ((rd_T51 l0_5 1).f1) ((rd_T51 l0_5 1).f2) ((rd_T51 l0_5 1).f3) ((rd_T51 l0_5 1).f4) _ _ ((rd_T51 l0_5 1).f5) t158 _ ?side1 ?side2 A98.out ?side3).mono ?_
                     (case side1 => repeat (first | exact (Kd.C_below HR157_5.out HB.out) | (with_reducible refine Kd.C_alloc ?_ _) | (with_reducible refine Kd.C_drewN ?_ _) | (with_reducible refine Kd.C_drew ?_)))
                     (case side2 => exact HC157_5.out)
                     (case side3 => exact Tabs.below HT.out (by repeat (first | (with_reducible first | exact HB.out | apply below_alloc | apply pw_below_drewN | apply below_drew1 | refine below_set ?_ GE128.out) | exact HB.out)))
                     rintro e w105 ⟨rfl, hb⟩
                     refine ⟨_, rfl, ?_⟩
                     have n0_ := Aside0.mk (blk_below (g := gb128) (o := .cells #[.int .i64 a0_0, .int .i64 a0_1, .int .i64 a0_2, .string a0_3, .bool a0_4, .slice (some ad155) l0_5.length c0_5] 51 (0, 0)) (by (with_reducible repeat (first | refine blk_drewN ?_ _ | refine blk_drew ?_ | refine blk_alloc ?_ _)); exact BK128.out) hb)
                     have n1_ := Aside0.mk (below_step (by repeat (first | (with_reducible first | exact HB.out | apply below_alloc | apply pw_below_drewN | apply below_drew1 | refine below_set ?_ GE128.out) | exact HB.out)) hb)
                     clear BK128
                     clear HB
                     have BK128 := n0_
                     have HB := n1_
                     clear n0_ n1_
                     (try clear hb)
                     (try clear hb2)
                     (try clear hk)
                     (try clear hi)
                     refine hK.out _ _ ⟨(blk_cell BK128.out 0).trans rfl, (blk_cell BK128.out 1).trans rfl, (blk_cell BK128.out 2).trans rfl, (blk_cell BK128.out 3).trans rfl, (blk_cell BK128.out 4).trans rfl, (blk_cell BK128.out 5).trans rfl, ((HB.out.cell (World.block_lt_of_cell? w _ hw155_0)).trans hw155_0), ((HB.out.cell (World.block_lt_of_cell? w _ hw155_1)).trans hw155_1), ((HB.out.cell (World.block_lt_of_cell? w _ hw155_2)).trans hw155_2), ((HB.out.cell (World.block_lt_of_cell? w _ hw155_3)).trans hw155_3), ((HB.out.cell (World.block_lt_of_cell? w _ hw155_4)).trans hw155_4), ((HB.out.cell (World.block_lt_of_cell? w _ hw155_5)).trans hw155_5), ((HB.out.cell (World.block_lt_of_cell? w _ hw157_0)).trans hw157_0), ((HB.out.cell (World.block_lt_of_cell? w _ hw157_1)).trans hw157_1), ((HB.out.cell (World.block_lt_of_cell? w _ hw157_2)).trans hw157_2), ((HB.out.cell (World.block_lt_of_cell? w _ hw157_3)).trans hw157_3), ((HB.out.cell (World.block_lt_of_cell? w _ hw157_4)).trans hw157_4), ((HB.out.cell (World.block_lt_of_cell? w _ hw157_5)).trans hw157_5)⟩ (fun hHeld => ?_)
                     clear hK K
                     refine norm_ (a' := ?_) ?_ ?_
                     rotate_left
                     ·show Act.put _ (some 127) _ = _
                      simp only [Act.put, List.setIfInBounds_toArray, List.set_cons_zero, List.set_cons_succ, i64_w, i32_w]
                      rfl
                     refine pure_ (i := 16) (N := some 128) (v := ?_) (a' := ?_) #[true, true, true, true, true, true, true, true, true, true, true, true, true, true, true, true, true, false, false] rfl rfl (any_of HT_.out (by kernel_rfl)) (fun _ _ _ h => h) (Or.inl ⟨by rfl, ?_⟩) ?_ ?_
                     rotate_left
                     ·intro w'
                      go_simp
                      with_reducible rfl
                     rotate_left
                     ·simp only [Act.put, List.setIfInBounds_toArray, List.set_cons_zero, List.set_cons_succ, i64_w, i32_w]
                      rfl
                     refine pure_ (i := 17) (N := some 129) (v := ?_) (a' := ?_) #[true, true, true, true, true, true, true, true, true, true, true, true, true, true, true, true, true, true, false] rfl rfl (any_of HT_.out (by kernel_rfl)) (fun _ _ _ h => h) (Or.inl ⟨by rfl, ?_⟩) ?_ ?_
                     rotate_left
                     ·intro w'
                      go_simp
                      with_reducible rfl
                     rotate_left
                     ·simp only [Act.put, List.setIfInBounds_toArray, List.set_cons_zero, List.set_cons_succ, i64_w, i32_w]
                      rfl
                     refine pure_ (i := 18) (N := some 2) (v := ?_) (a' := ?_) #[true, true, true, true, true, true, true, true, true, true, true, true, true, true, true, true, true, true, true] rfl rfl (any_of HT_.out (by kernel_rfl)) (fun _ _ _ h => h) (Or.inl ⟨by rfl, ?_⟩) ?_ ?_
                     rotate_left
                     ·intro w'
                      go_simp
                      with_reducible rfl
                     rotate_left
                     ·simp only [Act.put, List.setIfInBounds_toArray, List.set_cons_zero, List.set_cons_succ, i64_w, i32_w]
                      rfl
                     refine done_ (done_of HT_.out (by kernel_rfl)) ?_
                     try go_wp2
                     go_ret
                     exact ⟨by first | rfl | (simp [errW_none, errW_some] <;> rfl) | (simp [*, errW_none, errW_some] <;> rfl), by repeat (first | (with_reducible first | exact HB.out | apply below_alloc | apply pw_below_drewN | apply below_drew1 | refine below_set ?_ GE128.out) | exact HB.out)⟩
                    ·rw [if_neg c100] at H
                     exact absurd H (by simp)
                   ·rw [if_neg c99] at H
                    exact absurd H (by simp)
                  ·rw [if_neg c97] at H
                   exact absurd H (by simp)
                 ·rw [if_neg c96] at H
                  exact absurd H (by simp)
                ·rw [if_neg c95] at H
                 exact absurd H (by simp)
               ·rw [if_neg c93] at H
                exact absurd H (by simp)
              ·rw [if_neg c92] at H
               exact absurd H (by simp)
             ·rw [if_neg c91] at H
              exact absurd H (by simp)
            ·rw [if_neg c90] at H
             have c90b0 : (a0_0 == 12) = false := beq_eq_false_iff_ne.mpr c90
             have c90b1 : (a0_0 != 12) = true := bne_iff_ne.mpr c90
             by_cases c106 : a0_0 = 13
             ·rw [if_pos c106] at H
              have c106b0 : (a0_0 == 13) = true := beq_iff_eq.mpr c106
              have c106b1 : (a0_0 != 13) = false := bne_eq_false_iff_eq.mpr c106
              clear c106
              by_cases c107 : a0_3.size + 1 ≤ 9223372036854775807
              ·rw [if_pos c107] at H
               have c107b0 := eq_true c107
               have c107b1 : decide (a0_3.size + 1 ≤ 9223372036854775807) = true := decide_eq_true c107
               try have c107b2 : (9223372036854775807 < a0_3.size + 1) = False := eq_false (Nat.not_lt.2 c107)
               replace H := Option.bind_eq_some_iff.mp H
               obtain ⟨t159, A1080, H⟩ := H
               replace H : (if (a0_3 ++ (⟨#[40]⟩ : ByteArray)).size + t159.size ≤ 9223372036854775807 then (if ((a0_3 ++ (⟨#[40]⟩ : ByteArray)) ++ t159).size + 1 ≤ 9223372036854775807 then (some (((a0_3 ++ (⟨#[40]⟩ : ByteArray)) ++ t159) ++ (⟨#[41]⟩ : ByteArray))) else (none)) else (none)) = some r := H
               have A108 := Aside0.mk A1080
               clear A1080
               by_cases c109 : (a0_3 ++ (⟨#[40]⟩ : ByteArray)).size + t159.size ≤ 9223372036854775807
               ·rw [if_pos c109] at H
                have c109b0 := eq_true c109
                have c109b1 : decide ((a0_3 ++ (⟨#[40]⟩ : ByteArray)).size + t159.size ≤ 9223372036854775807) = true := decide_eq_true c109
                try have c109b2 : (9223372036854775807 < (a0_3 ++ (⟨#[40]⟩ : ByteArray)).size + t159.size) = False := eq_false (Nat.not_lt.2 c109)
                try have c109b9 : (9223372036854775807 < a0_3.size + 1 + t159.size) = False := eq_false (by have h_ := c109; simp only [ByteArray.size_append] at h_; exact Nat.not_lt.2 h_)
                by_cases c110 : ((a0_3 ++ (⟨#[40]⟩ : ByteArray)) ++ t159).size + 1 ≤ 9223372036854775807
                ·rw [if_pos c110] at H
                 have c110b0 := eq_true c110
                 have c110b1 : decide (((a0_3 ++ (⟨#[40]⟩ : ByteArray)) ++ t159).size + 1 ≤ 9223372036854775807) = true := decide_eq_true c110
                 try have c110b2 : (9223372036854775807 < ((a0_3 ++ (⟨#[40]⟩ : ByteArray)) ++ t159).size + 1) = False := eq_false (Nat.not_lt.2 c110)
                 try have c110b9 : (9223372036854775807 < a0_3.size + 1 + t159.size + 1) = False := eq_false (by have h_ := c110; simp only [ByteArray.size_append] at h_; exact Nat.not_lt.2 h_)
                 obtain rfl := Option.some.inj H
                 go_enter Tryd.func29, Tryd.ntmps29
                 try go_wp2_with (first | ((with_reducible refine gate_dst (N := 1) rfl ?_); refine box_event ?hg (N := 1) ?hd (cs := #[.int .i64 a0_0, .int .i64 a0_1, .int .i64 a0_2, .string a0_3, .bool a0_4, .slice A0_5 l0_5.length c0_5]) (t := 51) ?hr ?_; (case hd => rfl); (case hg => rfl); (case hr => first | (go_simp; done) | (go_simp; rfl)); intro gb128 hg w111 hbox hb; have n0_ := Aside0.mk (below_step (by repeat (first | (with_reducible first | exact HB.out | apply below_alloc | apply pw_below_drewN | apply below_drew1) | exact HB.out)) hb); have n1_ := Aside0.mk (hbox); have n2_ := Aside0.mk ((by rw [hg]; exact (below_size (by repeat (first | (with_reducible first | exact HB.out | apply below_alloc | apply pw_below_drewN | apply below_drew1) | exact HB.out))) : w.heap.size ≤ gb128)); have n3_ := Aside0.mk ((by rw [hg]; exact (below_size (by repeat (first | (with_reducible first | exact HB.out | apply below_alloc | apply pw_below_drewN | apply below_drew1) | exact HB.out))) : w.heap.size ≤ gb128)); clear HB; have HB := n0_; have BK128 := n1_; have GW128 := n2_; have GE128 := n3_; clear n0_ n1_ n2_ n3_; clear hb hbox hg; have hcz112_0 : w111.cell? ⟨gb128, 0, none⟩ = some (.int .i64 a0_0) := (blk_cell BK128.out 0).trans rfl; have hcz112_1 : w111.cell? ⟨gb128, 1, none⟩ = some (.int .i64 a0_1) := (blk_cell BK128.out 1).trans rfl; have hcz112_2 : w111.cell? ⟨gb128, 2, none⟩ = some (.int .i64 a0_2) := (blk_cell BK128.out 2).trans rfl; have hcz112_3 : w111.cell? ⟨gb128, 3, none⟩ = some (.string a0_3) := (blk_cell BK128.out 3).trans rfl; have hcz112_4 : w111.cell? ⟨gb128, 4, none⟩ = some (.bool a0_4) := (blk_cell BK128.out 4).trans rfl; have hcz112_5 : w111.cell? ⟨gb128, 5, none⟩ = some (.slice A0_5 l0_5.length c0_5) := (blk_cell BK128.out 5).trans rfl; have hfz112_0 := blk_frozen BK128.out 0; have hfz112_1 := blk_frozen BK128.out 1; have hfz112_2 := blk_frozen BK128.out 2; have hfz112_3 := blk_frozen BK128.out 3; have hfz112_4 := blk_frozen BK128.out 4; have hfz112_5 := blk_frozen BK128.out 5))
                 have n0_ := Aside0.mk (blk_drew BK128.out)
                 have n1_ := Aside0.mk (below_drew1 HB.out)
                 clear BK128
                 clear HB
                 have BK128 := n0_
                 have HB := n1_
                 clear n0_ n1_
                 refine start_ (n := 9) (S := fun w' => w'.cell? ⟨gb128, 0, none⟩ = some (.int .i64 a0_0) ∧ w'.cell? ⟨gb128, 1, none⟩ = some (.int .i64 a0_1) ∧ w'.cell? ⟨gb128, 2, none⟩ = some (.int .i64 a0_2) ∧ w'.cell? ⟨gb128, 3, none⟩ = some (.string a0_3) ∧ w'.cell? ⟨gb128, 4, none⟩ = some (.bool a0_4) ∧ w'.cell? ⟨gb128, 5, none⟩ = some (.slice A0_5 l0_5.length c0_5)) (ds := []) #[false, false, false, false, false, false, false, false, false] (by kernel_rfl) rfl rfl ⟨(blk_cell BK128.out 0).trans rfl, (blk_cell BK128.out 1).trans rfl, (blk_cell BK128.out 2).trans rfl, (blk_cell BK128.out 3).trans rfl, (blk_cell BK128.out 4).trans rfl, (blk_cell BK128.out 5).trans rfl⟩ (fun hHeld => ?_); refine with_tabW tree_Text.tab27 tree_Text.bits27 (fun HT_ HW_ => ?_)
                 generalize w111.drew = w113 at BK128 HB hHeld ⊢
                 refine pure_ (i := 0) (N := some 132) (v := ?_) (a' := ?_) #[true, false, false, false, false, false, false, false, false] rfl rfl (any_of HT_.out (by kernel_rfl)) (fun _ _ _ h => h) (Or.inl ⟨by rfl, ?_⟩) ?_ ?_
                 rotate_left
                 ·intro w'
                  go_simp
                  with_reducible rfl
                 rotate_left
                 ·simp only [Act.put, List.setIfInBounds_toArray, List.set_cons_zero, List.set_cons_succ, i64_w, i32_w]
                  rfl
                 refine pure_ (i := 3) (N := some 135) (v := ?_) (a' := ?_) #[true, false, false, true, false, false, false, false, false] rfl rfl (any_of HT_.out (by kernel_rfl)) (fun _ _ _ h => h) (Or.inl ⟨by rfl, ?_⟩) ?_ ?_
                 rotate_left
                 ·intro w'
                  go_simp
                  with_reducible rfl
                 rotate_left
                 ·simp only [Act.put, List.setIfInBounds_toArray, List.set_cons_zero, List.set_cons_succ, i64_w, i32_w]
                  rfl
                 refine take_ (i := 1) (N := some 133) (v := ?_) (a' := ?_) #[true, true, false, true, false, false, false, false, false] rfl rfl (take_ofW HT_.out HW_.out (by kernel_rfl)) (fun _ _ _ h => h) (Or.inl ⟨by rfl, ?_⟩) hHeld ?_ ?_
                 rotate_left
                 ·rintro w' ⟨s0, s1, s2, s3, s4, s5⟩
                  go_simp
                  with_reducible rfl
                 rotate_left
                 ·simp only [Act.put, List.setIfInBounds_toArray, List.set_cons_zero, List.set_cons_succ, i64_w, i32_w]
                  rfl
                 refine pure_ (i := 2) (N := some 134) (v := ?_) (a' := ?_) #[true, true, true, true, false, false, false, false, false] rfl rfl (any_of HT_.out (by kernel_rfl)) (fun _ _ _ h => h) (Or.inl ⟨by rfl, ?_⟩) ?_ ?_
                 rotate_left
                 ·intro w'
                  go_simp
                  with_reducible rfl
                 rotate_left
                 ·simp only [Act.put, List.setIfInBounds_toArray, List.set_cons_zero, List.set_cons_succ, i64_w, i32_w]
                  rfl
                 refine take_ (i := 4) (N := some 136) (v := ?_) (a' := ?_) #[true, true, true, true, true, false, false, false, false] rfl rfl (take_ofW HT_.out HW_.out (by kernel_rfl)) (fun _ _ _ h => h) (Or.inl ⟨by rfl, ?_⟩) hHeld ?_ ?_
                 rotate_left
                 ·rintro w' ⟨s0, s1, s2, s3, s4, s5⟩
                  go_simp
                  with_reducible rfl
                 rotate_left
                 ·simp only [Act.put, List.setIfInBounds_toArray, List.set_cons_zero, List.set_cons_succ, i64_w, i32_w]
                  rfl
                 refine one_ (i := 5) (N := some 137) #[true, true, true, true, true, true, false, false, false] rfl rfl (one_of HT_.out (by kernel_rfl)) (by decide) (fun K hK => ?_)
                 refine goes_ Tryd.func73 (by kernel_rfl) rfl #[.slice A0_5 l0_5.length c0_5] (by rfl) rfl rfl (by (try simp only [List.map_toArray, List.map_cons, List.map_nil]); first | done | rfl | (simp only [List.length_drop, List.length_take]; rfl)) ?_
                 with_reducible refine (ih_73 k (by omega) _ _ l0_5 t159 _ ?side1 ?side2 A108.out ?side3).mono ?_
                 (case side1 => repeat (first | exact (Kd.C_below HR0_5.out HB.out) | (with_reducible refine Kd.C_alloc ?_ _) | (with_reducible refine Kd.C_drewN ?_ _) | (with_reducible refine Kd.C_drew ?_)))
                 (case side2 => exact HC0_5.out)
                 (case side3 => exact Tabs.below HT.out (by repeat (first | (with_reducible first | exact HB.out | apply below_alloc | apply pw_below_drewN | apply below_drew1 | refine below_set ?_ GE128.out) | exact HB.out)))
                 rintro e w114 ⟨rfl, hb⟩
                 refine ⟨_, rfl, ?_⟩
                 have n0_ := Aside0.mk (blk_below (g := gb128) (o := .cells #[.int .i64 a0_0, .int .i64 a0_1, .int .i64 a0_2, .string a0_3, .bool a0_4, .slice A0_5 l0_5.length c0_5] 51 (0, 0)) (by (with_reducible repeat (first | refine blk_drewN ?_ _ | refine blk_drew ?_ | refine blk_alloc ?_ _)); exact BK128.out) hb)
                 have n1_ := Aside0.mk (below_step (by repeat (first | (with_reducible first | exact HB.out | apply below_alloc | apply pw_below_drewN | apply below_drew1 | refine below_set ?_ GE128.out) | exact HB.out)) hb)
                 clear BK128
                 clear HB
                 have BK128 := n0_
                 have HB := n1_
                 clear n0_ n1_
                 (try clear hb)
                 (try clear hb2)
                 (try clear hk)
                 (try clear hi)
                 refine hK.out _ _ ⟨(blk_cell BK128.out 0).trans rfl, (blk_cell BK128.out 1).trans rfl, (blk_cell BK128.out 2).trans rfl, (blk_cell BK128.out 3).trans rfl, (blk_cell BK128.out 4).trans rfl, (blk_cell BK128.out 5).trans rfl⟩ (fun hHeld => ?_)
                 clear hK K
                 refine norm_ (a' := ?_) ?_ ?_
                 rotate_left
                 ·show Act.put _ (some 137) _ = _
                  simp only [Act.put, List.setIfInBounds_toArray, List.set_cons_zero, List.set_cons_succ, i64_w, i32_w]
                  rfl
                 refine pure_ (i := 6) (N := some 138) (v := ?_) (a' := ?_) #[true, true, true, true, true, true, true, false, false] rfl rfl (any_of HT_.out (by kernel_rfl)) (fun _ _ _ h => h) (Or.inl ⟨by rfl, ?_⟩) ?_ ?_
                 rotate_left
                 ·intro w'
                  go_simp
                  with_reducible rfl
                 rotate_left
                 ·simp only [Act.put, List.setIfInBounds_toArray, List.set_cons_zero, List.set_cons_succ, i64_w, i32_w]
                  rfl
                 refine pure_ (i := 7) (N := some 139) (v := ?_) (a' := ?_) #[true, true, true, true, true, true, true, true, false] rfl rfl (any_of HT_.out (by kernel_rfl)) (fun _ _ _ h => h) (Or.inl ⟨by rfl, ?_⟩) ?_ ?_
                 rotate_left
                 ·intro w'
                  go_simp
                  with_reducible rfl
                 rotate_left
                 ·simp only [Act.put, List.setIfInBounds_toArray, List.set_cons_zero, List.set_cons_succ, i64_w, i32_w]
                  rfl
                 refine pure_ (i := 8) (N := some 2) (v := ?_) (a' := ?_) #[true, true, true, true, true, true, true, true, true] rfl rfl (any_of HT_.out (by kernel_rfl)) (fun _ _ _ h => h) (Or.inl ⟨by rfl, ?_⟩) ?_ ?_
                 rotate_left
                 ·intro w'
                  go_simp
                  with_reducible rfl
                 rotate_left
                 ·simp only [Act.put, List.setIfInBounds_toArray, List.set_cons_zero, List.set_cons_succ, i64_w, i32_w]
                  rfl
                 refine done_ (done_of HT_.out (by kernel_rfl)) ?_
                 try go_wp2
                 go_ret
                 exact ⟨by first | rfl | (simp [errW_none, errW_some] <;> rfl) | (simp [*, errW_none, errW_some] <;> rfl), by repeat (first | (with_reducible first | exact HB.out | apply below_alloc | apply pw_below_drewN | apply below_drew1 | refine below_set ?_ GE128.out) | exact HB.out)⟩
                ·rw [if_neg c110] at H
                 exact absurd H (by simp)
               ·rw [if_neg c109] at H
                exact absurd H (by simp)
              ·rw [if_neg c107] at H
               exact absurd H (by simp)
             ·rw [if_neg c106] at H
              have c106b0 : (a0_0 == 13) = false := beq_eq_false_iff_ne.mpr c106
              have c106b1 : (a0_0 != 13) = true := bne_iff_ne.mpr c106
              by_cases c115 : (l0_5.length : Int) = 0
              ·rw [if_pos c115] at H
               have c115b0 : ((l0_5.length : Int) == 0) = true := beq_iff_eq.mpr c115
               have c115b1 : ((l0_5.length : Int) != 0) = false := bne_eq_false_iff_eq.mpr c115
               clear c115
               by_cases c116 : 6 + a0_3.size ≤ 9223372036854775807
               ·rw [if_pos c116] at H
                have c116b0 := eq_true c116
                have c116b1 : decide (6 + a0_3.size ≤ 9223372036854775807) = true := decide_eq_true c116
                try have c116b2 : (9223372036854775807 < 6 + a0_3.size) = False := eq_false (Nat.not_lt.2 c116)
                obtain rfl := Option.some.inj H
                go_enter Tryd.func29, Tryd.ntmps29
                go_wp2_with (first | ((with_reducible refine gate_dst (N := 1) rfl ?_); refine box_event ?hg (N := 1) ?hd (cs := #[.int .i64 a0_0, .int .i64 a0_1, .int .i64 a0_2, .string a0_3, .bool a0_4, .slice A0_5 l0_5.length c0_5]) (t := 51) ?hr ?_; (case hd => rfl); (case hg => rfl); (case hr => first | (go_simp; done) | (go_simp; rfl)); intro gb128 hg w117 hbox hb; have n0_ := Aside0.mk (below_step (by repeat (first | (with_reducible first | exact HB.out | apply below_alloc | apply pw_below_drewN | apply below_drew1) | exact HB.out)) hb); have n1_ := Aside0.mk (hbox); have n2_ := Aside0.mk ((by rw [hg]; exact (below_size (by repeat (first | (with_reducible first | exact HB.out | apply below_alloc | apply pw_below_drewN | apply below_drew1) | exact HB.out))) : w.heap.size ≤ gb128)); have n3_ := Aside0.mk ((by rw [hg]; exact (below_size (by repeat (first | (with_reducible first | exact HB.out | apply below_alloc | apply pw_below_drewN | apply below_drew1) | exact HB.out))) : w.heap.size ≤ gb128)); clear HB; have HB := n0_; have BK128 := n1_; have GW128 := n2_; have GE128 := n3_; clear n0_ n1_ n2_ n3_; clear hb hbox hg; have hcz118_0 : w117.cell? ⟨gb128, 0, none⟩ = some (.int .i64 a0_0) := (blk_cell BK128.out 0).trans rfl; have hcz118_1 : w117.cell? ⟨gb128, 1, none⟩ = some (.int .i64 a0_1) := (blk_cell BK128.out 1).trans rfl; have hcz118_2 : w117.cell? ⟨gb128, 2, none⟩ = some (.int .i64 a0_2) := (blk_cell BK128.out 2).trans rfl; have hcz118_3 : w117.cell? ⟨gb128, 3, none⟩ = some (.string a0_3) := (blk_cell BK128.out 3).trans rfl; have hcz118_4 : w117.cell? ⟨gb128, 4, none⟩ = some (.bool a0_4) := (blk_cell BK128.out 4).trans rfl; have hcz118_5 : w117.cell? ⟨gb128, 5, none⟩ = some (.slice A0_5 l0_5.length c0_5) := (blk_cell BK128.out 5).trans rfl; have hfz118_0 := blk_frozen BK128.out 0; have hfz118_1 := blk_frozen BK128.out 1; have hfz118_2 := blk_frozen BK128.out 2; have hfz118_3 := blk_frozen BK128.out 3; have hfz118_4 := blk_frozen BK128.out 4; have hfz118_5 := blk_frozen BK128.out 5))
                go_ret
                exact ⟨by first | rfl | (simp [errW_none, errW_some] <;> rfl) | (simp [*, errW_none, errW_some] <;> rfl), by repeat (first | (with_reducible first | exact HB.out | apply below_alloc | apply pw_below_drewN | apply below_drew1 | refine below_set ?_ GE128.out) | exact HB.out)⟩
               ·rw [if_neg c116] at H
                exact absurd H (by simp)
              ·rw [if_neg c115] at H
               have c115b0 : ((l0_5.length : Int) == 0) = false := beq_eq_false_iff_ne.mpr c115
               have c115b1 : ((l0_5.length : Int) != 0) = true := bne_iff_ne.mpr c115
               have c115b2 : ¬ (l0_5 = []) := fun h_ => c115 (by rw [h_]; rfl)
               by_cases c119 : 6 + a0_3.size ≤ 9223372036854775807
               ·rw [if_pos c119] at H
                have c119b0 := eq_true c119
                have c119b1 : decide (6 + a0_3.size ≤ 9223372036854775807) = true := decide_eq_true c119
                try have c119b2 : (9223372036854775807 < 6 + a0_3.size) = False := eq_false (Nat.not_lt.2 c119)
                by_cases c120 : ((⟨#[97, 119, 97, 105, 116, 32]⟩ : ByteArray) ++ a0_3).size + 8 ≤ 9223372036854775807
                ·rw [if_pos c120] at H
                 have c120b0 := eq_true c120
                 have c120b1 : decide (((⟨#[97, 119, 97, 105, 116, 32]⟩ : ByteArray) ++ a0_3).size + 8 ≤ 9223372036854775807) = true := decide_eq_true c120
                 try have c120b2 : (9223372036854775807 < ((⟨#[97, 119, 97, 105, 116, 32]⟩ : ByteArray) ++ a0_3).size + 8) = False := eq_false (Nat.not_lt.2 c120)
                 try have c120b9 : (9223372036854775807 < 6 + a0_3.size + 8) = False := eq_false (by have h_ := c120; simp only [ByteArray.size_append] at h_; exact Nat.not_lt.2 h_)
                 replace H := Option.bind_eq_some_iff.mp H
                 obtain ⟨t160, A1210, H⟩ := H
                 replace H : (if (((⟨#[97, 119, 97, 105, 116, 32]⟩ : ByteArray) ++ a0_3) ++ (⟨#[32, 97, 102, 116, 101, 114, 32, 40]⟩ : ByteArray)).size + t160.size ≤ 9223372036854775807 then (if ((((⟨#[97, 119, 97, 105, 116, 32]⟩ : ByteArray) ++ a0_3) ++ (⟨#[32, 97, 102, 116, 101, 114, 32, 40]⟩ : ByteArray)) ++ t160).size + 1 ≤ 9223372036854775807 then (some (((((⟨#[97, 119, 97, 105, 116, 32]⟩ : ByteArray) ++ a0_3) ++ (⟨#[32, 97, 102, 116, 101, 114, 32, 40]⟩ : ByteArray)) ++ t160) ++ (⟨#[41]⟩ : ByteArray))) else (none)) else (none)) = some r := H
                 have A121 := Aside0.mk A1210
                 clear A1210
                 by_cases c122 : (((⟨#[97, 119, 97, 105, 116, 32]⟩ : ByteArray) ++ a0_3) ++ (⟨#[32, 97, 102, 116, 101, 114, 32, 40]⟩ : ByteArray)).size + t160.size ≤ 9223372036854775807
                 ·rw [if_pos c122] at H
                  have c122b0 := eq_true c122
                  have c122b1 : decide ((((⟨#[97, 119, 97, 105, 116, 32]⟩ : ByteArray) ++ a0_3) ++ (⟨#[32, 97, 102, 116, 101, 114, 32, 40]⟩ : ByteArray)).size + t160.size ≤ 9223372036854775807) = true := decide_eq_true c122
                  try have c122b2 : (9223372036854775807 < (((⟨#[97, 119, 97, 105, 116, 32]⟩ : ByteArray) ++ a0_3) ++ (⟨#[32, 97, 102, 116, 101, 114, 32, 40]⟩ : ByteArray)).size + t160.size) = False := eq_false (Nat.not_lt.2 c122)
                  try have c122b9 : (9223372036854775807 < 6 + a0_3.size + 8 + t160.size) = False := eq_false (by have h_ := c122; simp only [ByteArray.size_append] at h_; exact Nat.not_lt.2 h_)
                  by_cases c123 : ((((⟨#[97, 119, 97, 105, 116, 32]⟩ : ByteArray) ++ a0_3) ++ (⟨#[32, 97, 102, 116, 101, 114, 32, 40]⟩ : ByteArray)) ++ t160).size + 1 ≤ 9223372036854775807
                  ·rw [if_pos c123] at H
                   have c123b0 := eq_true c123
                   have c123b1 : decide (((((⟨#[97, 119, 97, 105, 116, 32]⟩ : ByteArray) ++ a0_3) ++ (⟨#[32, 97, 102, 116, 101, 114, 32, 40]⟩ : ByteArray)) ++ t160).size + 1 ≤ 9223372036854775807) = true := decide_eq_true c123
                   try have c123b2 : (9223372036854775807 < ((((⟨#[97, 119, 97, 105, 116, 32]⟩ : ByteArray) ++ a0_3) ++ (⟨#[32, 97, 102, 116, 101, 114, 32, 40]⟩ : ByteArray)) ++ t160).size + 1) = False := eq_false (Nat.not_lt.2 c123)
                   try have c123b9 : (9223372036854775807 < 6 + a0_3.size + 8 + t160.size + 1) = False := eq_false (by have h_ := c123; simp only [ByteArray.size_append] at h_; exact Nat.not_lt.2 h_)
                   obtain rfl := Option.some.inj H
                   go_enter Tryd.func29, Tryd.ntmps29
                   try go_wp2_with (first | ((with_reducible refine gate_dst (N := 1) rfl ?_); refine box_event ?hg (N := 1) ?hd (cs := #[.int .i64 a0_0, .int .i64 a0_1, .int .i64 a0_2, .string a0_3, .bool a0_4, .slice A0_5 l0_5.length c0_5]) (t := 51) ?hr ?_; (case hd => rfl); (case hg => rfl); (case hr => first | (go_simp; done) | (go_simp; rfl)); intro gb128 hg w124 hbox hb; have n0_ := Aside0.mk (below_step (by repeat (first | (with_reducible first | exact HB.out | apply below_alloc | apply pw_below_drewN | apply below_drew1) | exact HB.out)) hb); have n1_ := Aside0.mk (hbox); have n2_ := Aside0.mk ((by rw [hg]; exact (below_size (by repeat (first | (with_reducible first | exact HB.out | apply below_alloc | apply pw_below_drewN | apply below_drew1) | exact HB.out))) : w.heap.size ≤ gb128)); have n3_ := Aside0.mk ((by rw [hg]; exact (below_size (by repeat (first | (with_reducible first | exact HB.out | apply below_alloc | apply pw_below_drewN | apply below_drew1) | exact HB.out))) : w.heap.size ≤ gb128)); clear HB; have HB := n0_; have BK128 := n1_; have GW128 := n2_; have GE128 := n3_; clear n0_ n1_ n2_ n3_; clear hb hbox hg; have hcz125_0 : w124.cell? ⟨gb128, 0, none⟩ = some (.int .i64 a0_0) := (blk_cell BK128.out 0).trans rfl; have hcz125_1 : w124.cell? ⟨gb128, 1, none⟩ = some (.int .i64 a0_1) := (blk_cell BK128.out 1).trans rfl; have hcz125_2 : w124.cell? ⟨gb128, 2, none⟩ = some (.int .i64 a0_2) := (blk_cell BK128.out 2).trans rfl; have hcz125_3 : w124.cell? ⟨gb128, 3, none⟩ = some (.string a0_3) := (blk_cell BK128.out 3).trans rfl; have hcz125_4 : w124.cell? ⟨gb128, 4, none⟩ = some (.bool a0_4) := (blk_cell BK128.out 4).trans rfl; have hcz125_5 : w124.cell? ⟨gb128, 5, none⟩ = some (.slice A0_5 l0_5.length c0_5) := (blk_cell BK128.out 5).trans rfl; have hfz125_0 := blk_frozen BK128.out 0; have hfz125_1 := blk_frozen BK128.out 1; have hfz125_2 := blk_frozen BK128.out 2; have hfz125_3 := blk_frozen BK128.out 3; have hfz125_4 := blk_frozen BK128.out 4; have hfz125_5 := blk_frozen BK128.out 5))
                   have n0_ := Aside0.mk (blk_drew BK128.out)
                   have n1_ := Aside0.mk (below_drew1 HB.out)
                   clear BK128
                   clear HB
                   have BK128 := n0_
                   have HB := n1_
                   clear n0_ n1_
                   refine start_ (n := 10) (S := fun w' => w'.cell? ⟨gb128, 0, none⟩ = some (.int .i64 a0_0) ∧ w'.cell? ⟨gb128, 1, none⟩ = some (.int .i64 a0_1) ∧ w'.cell? ⟨gb128, 2, none⟩ = some (.int .i64 a0_2) ∧ w'.cell? ⟨gb128, 3, none⟩ = some (.string a0_3) ∧ w'.cell? ⟨gb128, 4, none⟩ = some (.bool a0_4) ∧ w'.cell? ⟨gb128, 5, none⟩ = some (.slice A0_5 l0_5.length c0_5)) (ds := []) #[false, false, false, false, false, false, false, false, false, false] (by kernel_rfl) rfl rfl ⟨(blk_cell BK128.out 0).trans rfl, (blk_cell BK128.out 1).trans rfl, (blk_cell BK128.out 2).trans rfl, (blk_cell BK128.out 3).trans rfl, (blk_cell BK128.out 4).trans rfl, (blk_cell BK128.out 5).trans rfl⟩ (fun hHeld => ?_); refine with_tabW tree_Text.tab30 tree_Text.bits30 (fun HT_ HW_ => ?_)
                   generalize w124.drew = w126 at BK128 HB hHeld ⊢
                   refine pure_ (i := 0) (N := some 147) (v := ?_) (a' := ?_) #[true, false, false, false, false, false, false, false, false, false] rfl rfl (any_of HT_.out (by kernel_rfl)) (fun _ _ _ h => h) (Or.inl ⟨by rfl, ?_⟩) ?_ ?_
                   rotate_left
                   ·intro w'
                    go_simp
                    with_reducible rfl
                   rotate_left
                   ·simp only [Act.put, List.setIfInBounds_toArray, List.set_cons_zero, List.set_cons_succ, i64_w, i32_w]
                    rfl
                   refine pure_ (i := 4) (N := some 151) (v := ?_) (a' := ?_) #[true, false, false, false, true, false, false, false, false, false] rfl rfl (any_of HT_.out (by kernel_rfl)) (fun _ _ _ h => h) (Or.inl ⟨by rfl, ?_⟩) ?_ ?_
                   rotate_left
                   ·intro w'
                    go_simp
                    with_reducible rfl
                   rotate_left
                   ·simp only [Act.put, List.setIfInBounds_toArray, List.set_cons_zero, List.set_cons_succ, i64_w, i32_w]
                    rfl
                   refine take_ (i := 1) (N := some 148) (v := ?_) (a' := ?_) #[true, true, false, false, true, false, false, false, false, false] rfl rfl (take_ofW HT_.out HW_.out (by kernel_rfl)) (fun _ _ _ h => h) (Or.inl ⟨by rfl, ?_⟩) hHeld ?_ ?_
                   rotate_left
                   ·rintro w' ⟨s0, s1, s2, s3, s4, s5⟩
                    go_simp
                    with_reducible rfl
                   rotate_left
                   ·simp only [Act.put, List.setIfInBounds_toArray, List.set_cons_zero, List.set_cons_succ, i64_w, i32_w]
                    rfl
                   refine pure_ (i := 2) (N := some 149) (v := ?_) (a' := ?_) #[true, true, true, false, true, false, false, false, false, false] rfl rfl (any_of HT_.out (by kernel_rfl)) (fun _ _ _ h => h) (Or.inl ⟨by rfl, ?_⟩) ?_ ?_
                   rotate_left
                   ·intro w'
                    go_simp
                    with_reducible rfl
                   rotate_left
                   ·simp only [Act.put, List.setIfInBounds_toArray, List.set_cons_zero, List.set_cons_succ, i64_w, i32_w]
                    rfl
                   refine pure_ (i := 3) (N := some 150) (v := ?_) (a' := ?_) #[true, true, true, true, true, false, false, false, false, false] rfl rfl (any_of HT_.out (by kernel_rfl)) (fun _ _ _ h => h) (Or.inl ⟨by rfl, ?_⟩) ?_ ?_
                   rotate_left
                   ·intro w'
                    go_simp
                    with_reducible rfl
                   rotate_left
                   ·simp only [Act.put, List.setIfInBounds_toArray, List.set_cons_zero, List.set_cons_succ, i64_w, i32_w]
                    rfl
                   refine take_ (i := 5) (N := some 152) (v := ?_) (a' := ?_) #[true, true, true, true, true, true, false, false, false, false] rfl rfl (take_ofW HT_.out HW_.out (by kernel_rfl)) (fun _ _ _ h => h) (Or.inl ⟨by rfl, ?_⟩) hHeld ?_ ?_
                   rotate_left
                   ·rintro w' ⟨s0, s1, s2, s3, s4, s5⟩
                    go_simp
                    with_reducible rfl
                   rotate_left
                   ·simp only [Act.put, List.setIfInBounds_toArray, List.set_cons_zero, List.set_cons_succ, i64_w, i32_w]
                    rfl
                   refine one_ (i := 6) (N := some 153) #[true, true, true, true, true, true, true, false, false, false] rfl rfl (one_of HT_.out (by kernel_rfl)) (by decide) (fun K hK => ?_)
                   refine goes_ Tryd.func73 (by kernel_rfl) rfl #[.slice A0_5 l0_5.length c0_5] (by rfl) rfl rfl (by (try simp only [List.map_toArray, List.map_cons, List.map_nil]); first | done | rfl | (simp only [List.length_drop, List.length_take]; rfl)) ?_
                   with_reducible refine (ih_73 k (by omega) _ _ l0_5 t160 _ ?side1 ?side2 A121.out ?side3).mono ?_
                   (case side1 => repeat (first | exact (Kd.C_below HR0_5.out HB.out) | (with_reducible refine Kd.C_alloc ?_ _) | (with_reducible refine Kd.C_drewN ?_ _) | (with_reducible refine Kd.C_drew ?_)))
                   (case side2 => exact HC0_5.out)
                   (case side3 => exact Tabs.below HT.out (by repeat (first | (with_reducible first | exact HB.out | apply below_alloc | apply pw_below_drewN | apply below_drew1 | refine below_set ?_ GE128.out) | exact HB.out)))
                   rintro e w127 ⟨rfl, hb⟩
                   refine ⟨_, rfl, ?_⟩
                   have n0_ := Aside0.mk (blk_below (g := gb128) (o := .cells #[.int .i64 a0_0, .int .i64 a0_1, .int .i64 a0_2, .string a0_3, .bool a0_4, .slice A0_5 l0_5.length c0_5] 51 (0, 0)) (by (with_reducible repeat (first | refine blk_drewN ?_ _ | refine blk_drew ?_ | refine blk_alloc ?_ _)); exact BK128.out) hb)
                   have n1_ := Aside0.mk (below_step (by repeat (first | (with_reducible first | exact HB.out | apply below_alloc | apply pw_below_drewN | apply below_drew1 | refine below_set ?_ GE128.out) | exact HB.out)) hb)
                   clear BK128
                   clear HB
                   have BK128 := n0_
                   have HB := n1_
                   clear n0_ n1_
                   (try clear hb)
                   (try clear hb2)
                   (try clear hk)
                   (try clear hi)
                   refine hK.out _ _ ⟨(blk_cell BK128.out 0).trans rfl, (blk_cell BK128.out 1).trans rfl, (blk_cell BK128.out 2).trans rfl, (blk_cell BK128.out 3).trans rfl, (blk_cell BK128.out 4).trans rfl, (blk_cell BK128.out 5).trans rfl⟩ (fun hHeld => ?_)
                   clear hK K
                   refine norm_ (a' := ?_) ?_ ?_
                   rotate_left
                   ·show Act.put _ (some 153) _ = _
                    simp only [Act.put, List.setIfInBounds_toArray, List.set_cons_zero, List.set_cons_succ, i64_w, i32_w]
                    rfl
                   refine pure_ (i := 7) (N := some 154) (v := ?_) (a' := ?_) #[true, true, true, true, true, true, true, true, false, false] rfl rfl (any_of HT_.out (by kernel_rfl)) (fun _ _ _ h => h) (Or.inl ⟨by rfl, ?_⟩) ?_ ?_
                   rotate_left
                   ·intro w'
                    go_simp
                    with_reducible rfl
                   rotate_left
                   ·simp only [Act.put, List.setIfInBounds_toArray, List.set_cons_zero, List.set_cons_succ, i64_w, i32_w]
                    rfl
                   refine pure_ (i := 8) (N := some 155) (v := ?_) (a' := ?_) #[true, true, true, true, true, true, true, true, true, false] rfl rfl (any_of HT_.out (by kernel_rfl)) (fun _ _ _ h => h) (Or.inl ⟨by rfl, ?_⟩) ?_ ?_
                   rotate_left
                   ·intro w'
                    go_simp
                    with_reducible rfl
                   rotate_left
                   ·simp only [Act.put, List.setIfInBounds_toArray, List.set_cons_zero, List.set_cons_succ, i64_w, i32_w]
                    rfl
                   refine pure_ (i := 9) (N := some 2) (v := ?_) (a' := ?_) #[true, true, true, true, true, true, true, true, true, true] rfl rfl (any_of HT_.out (by kernel_rfl)) (fun _ _ _ h => h) (Or.inl ⟨by rfl, ?_⟩) ?_ ?_
                   rotate_left
                   ·intro w'
                    go_simp
                    with_reducible rfl
                   rotate_left
                   ·simp only [Act.put, List.setIfInBounds_toArray, List.set_cons_zero, List.set_cons_succ, i64_w, i32_w]
                    rfl
                   refine done_ (done_of HT_.out (by kernel_rfl)) ?_
                   try go_wp2
                   go_ret
                   exact ⟨by first | rfl | (simp [errW_none, errW_some] <;> rfl) | (simp [*, errW_none, errW_some] <;> rfl), by repeat (first | (with_reducible first | exact HB.out | apply below_alloc | apply pw_below_drewN | apply below_drew1 | refine below_set ?_ GE128.out) | exact HB.out)⟩
                  ·rw [if_neg c123] at H
                   exact absurd H (by simp)
                 ·rw [if_neg c122] at H
                  exact absurd H (by simp)
                ·rw [if_neg c120] at H
                 exact absurd H (by simp)
               ·rw [if_neg c119] at H
                exact absurd H (by simp)

end Go.Proofs.YtnlkjimpefebbaaDoor.XT
