import Derived.Test.YtjafllnbgfcchaaDoorZTGXTAx0
-- Written by a program of this session (wip/xprint) out of the translation.
namespace Go.Proofs.YtjafllnbgfcchaaDoor.XTA
open Go.RowKit Go.Proofs.YtjafllnbgfcchaaDoorW.PrintWords Go.Proofs.YtjafllnbgfcchaaDoorW.PrintLast Go.Proofs.YtjafllnbgfcchaaDoorW.PrintMore Go.Proofs.YtjafllnbgfcchaaDoor.XK
attribute [local go_sem] max2_int min2_int max_two min_two max_three min_three max_four min_four   -- for this text's walks alone
set_option linter.unusedVariables false
set_option linter.unusedSimpArgs false

attribute [local go_sem high] eqA27
/-! ### girandolelaw05_TypesRight: function 10 -/
def girandolelaw05_TypesRight.j0 : Nat → Bool → Int → List (S34) → Bool → Int → Int → Option (Bool)
 | 0, _, _, _, _, _, _ => none
 | k + 1, x0, x10, x12, x14, x133000, x133001 => if x10 < 7 then (if x14 = true then (if x10 > 8 then (if x0 = true then (if (x133000 == 0 && (x133001 == 0)) = true then ((types_Check.f x12).bind fun bt133 => (some ((bt133.1 == 0 && (bt133.2 == 0)) == false))) else (some false)) else (if (x133000 == 0 && (x133001 == 0)) = true then ((types_Check.f x12).bind fun bt135 => (some ((bt135.1 == 0 && (bt135.2 == 0)) == x0))) else (some false))) else (if (x133000 == 0 && (x133001 == 0)) = true then ((types_Check.f x12).bind fun bt137 => (some ((bt137.1 == 0 && (bt137.2 == 0)) == (!x0)))) else (some false))) else (if x10 > 8 then (if (x133000 == 0 && (x133001 == 0)) = true then ((types_Check.f x12).bind fun bt139 => (some ((bt139.1 == 0 && (bt139.2 == 0)) == false))) else (some false)) else (if (x133000 == 0 && (x133001 == 0)) = true then ((types_Check.f x12).bind fun bt141 => (some ((bt141.1 == 0 && (bt141.2 == 0)) == false))) else (some false)))) else (if x10 > 8 then (if x14 = true then (if (x133000 == 0 && (x133001 == 0)) = true then ((types_Check.f x12).bind fun bt143 => (some ((bt143.1 == 0 && (bt143.2 == 0)) == x0))) else (some false)) else (if (x133000 == 0 && (x133001 == 0)) = true then ((types_Check.f x12).bind fun bt145 => (some ((bt145.1 == 0 && (bt145.2 == 0)) == false))) else (some false))) else (if (x133000 == 0 && (x133001 == 0)) = true then ((types_Check.f x12).bind fun bt147 => (some ((bt147.1 == 0 && (bt147.2 == 0)) == x14))) else (some false)))
def girandolelaw05_TypesRight.f (k : Nat) (a0 : Bool) (a1 : Bool) (a2 : Bool) (a3 : Int) : Option (Bool) := (girandolelaw05_awake.f).bind fun t119 => (if t119 = true then ((some (([(⟨#[43]⟩ : ByteArray), (⟨#[45]⟩ : ByteArray), (⟨#[42]⟩ : ByteArray), (⟨#[60]⟩ : ByteArray), (⟨#[60, 61]⟩ : ByteArray), (⟨#[62]⟩ : ByteArray), (⟨#[62, 61]⟩ : ByteArray), (⟨#[61]⟩ : ByteArray), (⟨#[60, 62]⟩ : ByteArray), (⟨#[97, 110, 100]⟩ : ByteArray), (⟨#[111, 114]⟩ : ByteArray), (⟨#[120, 111, 114]⟩ : ByteArray)] : List ByteArray) : List ByteArray)).bind fun y120 => (if (y120.length : Int) = 0 then (none) else ((girandolelaw05_TypesRight_1.f a0).bind fun t123 => (if 10 + t123.size ≤ 9223372036854775807 then (if ((⟨#[110, 111, 100, 101, 32, 102, 40, 97, 58, 32]⟩ : ByteArray) ++ t123).size + 5 ≤ 9223372036854775807 then ((girandolelaw05_TypesRight_1.f a1).bind fun t124 => (if (((⟨#[110, 111, 100, 101, 32, 102, 40, 97, 58, 32]⟩ : ByteArray) ++ t123) ++ (⟨#[44, 32, 98, 58, 32]⟩ : ByteArray)).size + t124.size ≤ 9223372036854775807 then (if ((((⟨#[110, 111, 100, 101, 32, 102, 40, 97, 58, 32]⟩ : ByteArray) ++ t123) ++ (⟨#[44, 32, 98, 58, 32]⟩ : ByteArray)) ++ t124).size + 14 ≤ 9223372036854775807 then ((girandolelaw05_TypesRight_1.f a2).bind fun t125 => (if (((((⟨#[110, 111, 100, 101, 32, 102, 40, 97, 58, 32]⟩ : ByteArray) ++ t123) ++ (⟨#[44, 32, 98, 58, 32]⟩ : ByteArray)) ++ t124) ++ (⟨#[41, 32, 114, 101, 116, 117, 114, 110, 115, 32, 40, 121, 58, 32]⟩ : ByteArray)).size + t125.size ≤ 9223372036854775807 then (if ((((((⟨#[110, 111, 100, 101, 32, 102, 40, 97, 58, 32]⟩ : ByteArray) ++ t123) ++ (⟨#[44, 32, 98, 58, 32]⟩ : ByteArray)) ++ t124) ++ (⟨#[41, 32, 114, 101, 116, 117, 114, 110, 115, 32, 40, 121, 58, 32]⟩ : ByteArray)) ++ t125).size + 12 ≤ 9223372036854775807 then (if 0 ≤ (Int.tmod (Go.bits .and .i64 a3 255) (y120.length : Int)) then (if (Int.tmod (Go.bits .and .i64 a3 255) (y120.length : Int)) < (y120.length : Int) then (if (((((((⟨#[110, 111, 100, 101, 32, 102, 40, 97, 58, 32]⟩ : ByteArray) ++ t123) ++ (⟨#[44, 32, 98, 58, 32]⟩ : ByteArray)) ++ t124) ++ (⟨#[41, 32, 114, 101, 116, 117, 114, 110, 115, 32, 40, 121, 58, 32]⟩ : ByteArray)) ++ t125) ++ (⟨#[41, 32, 108, 101, 116, 32, 121, 32, 61, 32, 97, 32]⟩ : ByteArray)).size + (rdOf ByteArray.empty y120 (Int.tmod (Go.bits .and .i64 a3 255) (y120.length : Int))).size ≤ 9223372036854775807 then (if ((((((((⟨#[110, 111, 100, 101, 32, 102, 40, 97, 58, 32]⟩ : ByteArray) ++ t123) ++ (⟨#[44, 32, 98, 58, 32]⟩ : ByteArray)) ++ t124) ++ (⟨#[41, 32, 114, 101, 116, 117, 114, 110, 115, 32, 40, 121, 58, 32]⟩ : ByteArray)) ++ t125) ++ (⟨#[41, 32, 108, 101, 116, 32, 121, 32, 61, 32, 97, 32]⟩ : ByteArray)) ++ (rdOf ByteArray.empty y120 (Int.tmod (Go.bits .and .i64 a3 255) (y120.length : Int)))).size + 7 ≤ 9223372036854775807 then ((parse_Program.f (((((((((⟨#[110, 111, 100, 101, 32, 102, 40, 97, 58, 32]⟩ : ByteArray) ++ t123) ++ (⟨#[44, 32, 98, 58, 32]⟩ : ByteArray)) ++ t124) ++ (⟨#[41, 32, 114, 101, 116, 117, 114, 110, 115, 32, 40, 121, 58, 32]⟩ : ByteArray)) ++ t125) ++ (⟨#[41, 32, 108, 101, 116, 32, 121, 32, 61, 32, 97, 32]⟩ : ByteArray)) ++ (rdOf ByteArray.empty y120 (Int.tmod (Go.bits .and .i64 a3 255) (y120.length : Int)))) ++ (⟨#[32, 98, 59, 32, 116, 101, 108]⟩ : ByteArray))).bind fun bt127 => (if (a0 == a1) = true then (girandolelaw05_TypesRight.j0 k a0 (Int.tmod (Go.bits .and .i64 a3 255) (y120.length : Int)) bt127.1 (a2 == (decide ((Int.tmod (Go.bits .and .i64 a3 255) (y120.length : Int)) > 2))) bt127.2.1 bt127.2.2) else (girandolelaw05_TypesRight.j0 k a0 (Int.tmod (Go.bits .and .i64 a3 255) (y120.length : Int)) bt127.1 false bt127.2.1 bt127.2.2))) else (none)) else (none)) else (none)) else (none)) else (none)) else (none))) else (none)) else (none))) else (none)) else (none))))) else (some false))
def girandolelaw05_TypesRight.T6 : Bool × List (List Nat × List Nat) := (true, [([], []), ([], []), ([0, 1], [0, 1]), ([2], [2]), ([3], [3]), ([], []), ([], []), ([5, 6, 2], [5, 6]), ([4, 7], [4, 7]), ([8], [8]), ([], []), ([], []), ([10, 11, 7], [10, 11]), ([9, 12], [9, 12]), ([13], [13]), ([], []), ([], []), ([15, 16], [15, 16]), ([17], [17]), ([14, 18], [14, 18]), ([19], [19]), ([20, 12], [20]), ([21], [21]), ([22], [22]), ([22], [22]), ([], []), ([23, 21, 0, 1, 2, 3, 4, 5, 6, 7, 8, 9, 10, 11, 12, 13, 14, 15, 16, 17, 18, 19, 20, 21, 22, 23, 25], [23]), ([25, 24, 26, 0, 1, 2, 3, 4, 5, 6, 7, 8, 9, 10, 11, 12, 13, 14, 15, 16, 17, 18, 19, 20, 21, 22, 23, 24, 25, 26], [24, 25])])
def girandolelaw05_TypesRight.B6 : List Nat := [0, 0, 3, 7, 15, 0, 0, 103, 255, 511, 0, 0, 3303, 8191, 16383, 0, 0, 98304, 229376, 524287, 1048575, 2097151, 4194303, 8388607, 8388607, 0, 50331647, 134217727]
theorem girandolelaw05_TypesRight.tab6 : rtab .any (opsOf Tryd.f10 6) = girandolelaw05_TypesRight.T6 := by kernel_rfl
theorem girandolelaw05_TypesRight.bits6 : waitsOk girandolelaw05_TypesRight.T6.2 girandolelaw05_TypesRight.B6 = true := by kernel_rfl
set_option maxHeartbeats 8000000 in
set_option maxRecDepth 100000 in
theorem girandolelaw05_TypesRight.calls (k : Nat) (a0 : Bool) (a1 : Bool) (a2 : Bool) (a3 : Int) (r : Bool) (w : World) (h : girandolelaw05_TypesRight.f k a0 a1 a2 a3 = some r) (hT : Tabs w) :
  Calls Tryd.prog 10 #[.bool a0, .bool a1, .bool a2, .int .i64 a3] w fun e w' => e = .returned (.bool r) ∧ Below w.heap.size w w' := by
 have HT := Aside0.mk hT
 clear hT
 have hu27 := Tryd.underlying27
 have HB := Aside0.mk (Below.refl w.heap.size w)
 have H : ((girandolelaw05_awake.f).bind fun t119 => (if t119 = true then ((some (([(⟨#[43]⟩ : ByteArray), (⟨#[45]⟩ : ByteArray), (⟨#[42]⟩ : ByteArray), (⟨#[60]⟩ : ByteArray), (⟨#[60, 61]⟩ : ByteArray), (⟨#[62]⟩ : ByteArray), (⟨#[62, 61]⟩ : ByteArray), (⟨#[61]⟩ : ByteArray), (⟨#[60, 62]⟩ : ByteArray), (⟨#[97, 110, 100]⟩ : ByteArray), (⟨#[111, 114]⟩ : ByteArray), (⟨#[120, 111, 114]⟩ : ByteArray)] : List ByteArray) : List ByteArray)).bind fun y120 => (if (y120.length : Int) = 0 then (none) else ((girandolelaw05_TypesRight_1.f a0).bind fun t123 => (if 10 + t123.size ≤ 9223372036854775807 then (if ((⟨#[110, 111, 100, 101, 32, 102, 40, 97, 58, 32]⟩ : ByteArray) ++ t123).size + 5 ≤ 9223372036854775807 then ((girandolelaw05_TypesRight_1.f a1).bind fun t124 => (if (((⟨#[110, 111, 100, 101, 32, 102, 40, 97, 58, 32]⟩ : ByteArray) ++ t123) ++ (⟨#[44, 32, 98, 58, 32]⟩ : ByteArray)).size + t124.size ≤ 9223372036854775807 then (if ((((⟨#[110, 111, 100, 101, 32, 102, 40, 97, 58, 32]⟩ : ByteArray) ++ t123) ++ (⟨#[44, 32, 98, 58, 32]⟩ : ByteArray)) ++ t124).size + 14 ≤ 9223372036854775807 then ((girandolelaw05_TypesRight_1.f a2).bind fun t125 => (if (((((⟨#[110, 111, 100, 101, 32, 102, 40, 97, 58, 32]⟩ : ByteArray) ++ t123) ++ (⟨#[44, 32, 98, 58, 32]⟩ : ByteArray)) ++ t124) ++ (⟨#[41, 32, 114, 101, 116, 117, 114, 110, 115, 32, 40, 121, 58, 32]⟩ : ByteArray)).size + t125.size ≤ 9223372036854775807 then (if ((((((⟨#[110, 111, 100, 101, 32, 102, 40, 97, 58, 32]⟩ : ByteArray) ++ t123) ++ (⟨#[44, 32, 98, 58, 32]⟩ : ByteArray)) ++ t124) ++ (⟨#[41, 32, 114, 101, 116, 117, 114, 110, 115, 32, 40, 121, 58, 32]⟩ : ByteArray)) ++ t125).size + 12 ≤ 9223372036854775807 then (if 0 ≤ (Int.tmod (Go.bits .and .i64 a3 255) (y120.length : Int)) then (if (Int.tmod (Go.bits .and .i64 a3 255) (y120.length : Int)) < (y120.length : Int) then (if (((((((⟨#[110, 111, 100, 101, 32, 102, 40, 97, 58, 32]⟩ : ByteArray) ++ t123) ++ (⟨#[44, 32, 98, 58, 32]⟩ : ByteArray)) ++ t124) ++ (⟨#[41, 32, 114, 101, 116, 117, 114, 110, 115, 32, 40, 121, 58, 32]⟩ : ByteArray)) ++ t125) ++ (⟨#[41, 32, 108, 101, 116, 32, 121, 32, 61, 32, 97, 32]⟩ : ByteArray)).size + (rdOf ByteArray.empty y120 (Int.tmod (Go.bits .and .i64 a3 255) (y120.length : Int))).size ≤ 9223372036854775807 then (if ((((((((⟨#[110, 111, 100, 101, 32, 102, 40, 97, 58, 32]⟩ : ByteArray) ++ t123) ++ (⟨#[44, 32, 98, 58, 32]⟩ : ByteArray)) ++ t124) ++ (⟨#[41, 32, 114, 101, 116, 117, 114, 110, 115, 32, 40, 121, 58, 32]⟩ : ByteArray)) ++ t125) ++ (⟨#[41, 32, 108, 101, 116, 32, 121, 32, 61, 32, 97, 32]⟩ : ByteArray)) ++ (rdOf ByteArray.empty y120 (Int.tmod (Go.bits .and .i64 a3 255) (y120.length : Int)))).size + 7 ≤ 9223372036854775807 then ((parse_Program.f (((((((((⟨#[110, 111, 100, 101, 32, 102, 40, 97, 58, 32]⟩ : ByteArray) ++ t123) ++ (⟨#[44, 32, 98, 58, 32]⟩ : ByteArray)) ++ t124) ++ (⟨#[41, 32, 114, 101, 116, 117, 114, 110, 115, 32, 40, 121, 58, 32]⟩ : ByteArray)) ++ t125) ++ (⟨#[41, 32, 108, 101, 116, 32, 121, 32, 61, 32, 97, 32]⟩ : ByteArray)) ++ (rdOf ByteArray.empty y120 (Int.tmod (Go.bits .and .i64 a3 255) (y120.length : Int)))) ++ (⟨#[32, 98, 59, 32, 116, 101, 108]⟩ : ByteArray))).bind fun bt127 => (if (a0 == a1) = true then (girandolelaw05_TypesRight.j0 k a0 (Int.tmod (Go.bits .and .i64 a3 255) (y120.length : Int)) bt127.1 (a2 == (decide ((Int.tmod (Go.bits .and .i64 a3 255) (y120.length : Int)) > 2))) bt127.2.1 bt127.2.2) else (girandolelaw05_TypesRight.j0 k a0 (Int.tmod (Go.bits .and .i64 a3 255) (y120.length : Int)) bt127.1 false bt127.2.1 bt127.2.2))) else (none)) else (none)) else (none)) else (none)) else (none)) else (none))) else (none)) else (none))) else (none)) else (none))))) else (some false))) = some r := h
 clear h
 replace H := Option.bind_eq_some_iff.mp H
 obtain ⟨t119, A50, H⟩ := H
 try dsimp only at H
 have A5 := Aside0.mk A50
 clear A50
 by_cases c6 : t119 = true
 ·subst c6
  have H1 : ((some (([(⟨#[43]⟩ : ByteArray), (⟨#[45]⟩ : ByteArray), (⟨#[42]⟩ : ByteArray), (⟨#[60]⟩ : ByteArray), (⟨#[60, 61]⟩ : ByteArray), (⟨#[62]⟩ : ByteArray), (⟨#[62, 61]⟩ : ByteArray), (⟨#[61]⟩ : ByteArray), (⟨#[60, 62]⟩ : ByteArray), (⟨#[97, 110, 100]⟩ : ByteArray), (⟨#[111, 114]⟩ : ByteArray), (⟨#[120, 111, 114]⟩ : ByteArray)] : List ByteArray) : List ByteArray)).bind fun y120 => (if (y120.length : Int) = 0 then (none) else ((girandolelaw05_TypesRight_1.f a0).bind fun t123 => (if 10 + t123.size ≤ 9223372036854775807 then (if ((⟨#[110, 111, 100, 101, 32, 102, 40, 97, 58, 32]⟩ : ByteArray) ++ t123).size + 5 ≤ 9223372036854775807 then ((girandolelaw05_TypesRight_1.f a1).bind fun t124 => (if (((⟨#[110, 111, 100, 101, 32, 102, 40, 97, 58, 32]⟩ : ByteArray) ++ t123) ++ (⟨#[44, 32, 98, 58, 32]⟩ : ByteArray)).size + t124.size ≤ 9223372036854775807 then (if ((((⟨#[110, 111, 100, 101, 32, 102, 40, 97, 58, 32]⟩ : ByteArray) ++ t123) ++ (⟨#[44, 32, 98, 58, 32]⟩ : ByteArray)) ++ t124).size + 14 ≤ 9223372036854775807 then ((girandolelaw05_TypesRight_1.f a2).bind fun t125 => (if (((((⟨#[110, 111, 100, 101, 32, 102, 40, 97, 58, 32]⟩ : ByteArray) ++ t123) ++ (⟨#[44, 32, 98, 58, 32]⟩ : ByteArray)) ++ t124) ++ (⟨#[41, 32, 114, 101, 116, 117, 114, 110, 115, 32, 40, 121, 58, 32]⟩ : ByteArray)).size + t125.size ≤ 9223372036854775807 then (if ((((((⟨#[110, 111, 100, 101, 32, 102, 40, 97, 58, 32]⟩ : ByteArray) ++ t123) ++ (⟨#[44, 32, 98, 58, 32]⟩ : ByteArray)) ++ t124) ++ (⟨#[41, 32, 114, 101, 116, 117, 114, 110, 115, 32, 40, 121, 58, 32]⟩ : ByteArray)) ++ t125).size + 12 ≤ 9223372036854775807 then (if 0 ≤ (Int.tmod (Go.bits .and .i64 a3 255) (y120.length : Int)) then (if (Int.tmod (Go.bits .and .i64 a3 255) (y120.length : Int)) < (y120.length : Int) then (if (((((((⟨#[110, 111, 100, 101, 32, 102, 40, 97, 58, 32]⟩ : ByteArray) ++ t123) ++ (⟨#[44, 32, 98, 58, 32]⟩ : ByteArray)) ++ t124) ++ (⟨#[41, 32, 114, 101, 116, 117, 114, 110, 115, 32, 40, 121, 58, 32]⟩ : ByteArray)) ++ t125) ++ (⟨#[41, 32, 108, 101, 116, 32, 121, 32, 61, 32, 97, 32]⟩ : ByteArray)).size + (rdOf ByteArray.empty y120 (Int.tmod (Go.bits .and .i64 a3 255) (y120.length : Int))).size ≤ 9223372036854775807 then (if ((((((((⟨#[110, 111, 100, 101, 32, 102, 40, 97, 58, 32]⟩ : ByteArray) ++ t123) ++ (⟨#[44, 32, 98, 58, 32]⟩ : ByteArray)) ++ t124) ++ (⟨#[41, 32, 114, 101, 116, 117, 114, 110, 115, 32, 40, 121, 58, 32]⟩ : ByteArray)) ++ t125) ++ (⟨#[41, 32, 108, 101, 116, 32, 121, 32, 61, 32, 97, 32]⟩ : ByteArray)) ++ (rdOf ByteArray.empty y120 (Int.tmod (Go.bits .and .i64 a3 255) (y120.length : Int)))).size + 7 ≤ 9223372036854775807 then ((parse_Program.f (((((((((⟨#[110, 111, 100, 101, 32, 102, 40, 97, 58, 32]⟩ : ByteArray) ++ t123) ++ (⟨#[44, 32, 98, 58, 32]⟩ : ByteArray)) ++ t124) ++ (⟨#[41, 32, 114, 101, 116, 117, 114, 110, 115, 32, 40, 121, 58, 32]⟩ : ByteArray)) ++ t125) ++ (⟨#[41, 32, 108, 101, 116, 32, 121, 32, 61, 32, 97, 32]⟩ : ByteArray)) ++ (rdOf ByteArray.empty y120 (Int.tmod (Go.bits .and .i64 a3 255) (y120.length : Int)))) ++ (⟨#[32, 98, 59, 32, 116, 101, 108]⟩ : ByteArray))).bind fun bt127 => (if (a0 == a1) = true then (girandolelaw05_TypesRight.j0 k a0 (Int.tmod (Go.bits .and .i64 a3 255) (y120.length : Int)) bt127.1 (a2 == (decide ((Int.tmod (Go.bits .and .i64 a3 255) (y120.length : Int)) > 2))) bt127.2.1 bt127.2.2) else (girandolelaw05_TypesRight.j0 k a0 (Int.tmod (Go.bits .and .i64 a3 255) (y120.length : Int)) bt127.1 false bt127.2.1 bt127.2.2))) else (none)) else (none)) else (none)) else (none)) else (none)) else (none))) else (none)) else (none))) else (none)) else (none))))) = some r := by rw [if_pos rfl] at H; exact H
  clear H
  have H := H1
  clear H1
  obtain ⟨y120, hy120⟩ : ∃ y_ : List ByteArray, y_ = (([(⟨#[43]⟩ : ByteArray), (⟨#[45]⟩ : ByteArray), (⟨#[42]⟩ : ByteArray), (⟨#[60]⟩ : ByteArray), (⟨#[60, 61]⟩ : ByteArray), (⟨#[62]⟩ : ByteArray), (⟨#[62, 61]⟩ : ByteArray), (⟨#[61]⟩ : ByteArray), (⟨#[60, 62]⟩ : ByteArray), (⟨#[97, 110, 100]⟩ : ByteArray), (⟨#[111, 114]⟩ : ByteArray), (⟨#[120, 111, 114]⟩ : ByteArray)] : List ByteArray)) := ⟨_, rfl⟩
  replace H : (if (y120.length : Int) = 0 then (none) else ((girandolelaw05_TypesRight_1.f a0).bind fun t123 => (if 10 + t123.size ≤ 9223372036854775807 then (if ((⟨#[110, 111, 100, 101, 32, 102, 40, 97, 58, 32]⟩ : ByteArray) ++ t123).size + 5 ≤ 9223372036854775807 then ((girandolelaw05_TypesRight_1.f a1).bind fun t124 => (if (((⟨#[110, 111, 100, 101, 32, 102, 40, 97, 58, 32]⟩ : ByteArray) ++ t123) ++ (⟨#[44, 32, 98, 58, 32]⟩ : ByteArray)).size + t124.size ≤ 9223372036854775807 then (if ((((⟨#[110, 111, 100, 101, 32, 102, 40, 97, 58, 32]⟩ : ByteArray) ++ t123) ++ (⟨#[44, 32, 98, 58, 32]⟩ : ByteArray)) ++ t124).size + 14 ≤ 9223372036854775807 then ((girandolelaw05_TypesRight_1.f a2).bind fun t125 => (if (((((⟨#[110, 111, 100, 101, 32, 102, 40, 97, 58, 32]⟩ : ByteArray) ++ t123) ++ (⟨#[44, 32, 98, 58, 32]⟩ : ByteArray)) ++ t124) ++ (⟨#[41, 32, 114, 101, 116, 117, 114, 110, 115, 32, 40, 121, 58, 32]⟩ : ByteArray)).size + t125.size ≤ 9223372036854775807 then (if ((((((⟨#[110, 111, 100, 101, 32, 102, 40, 97, 58, 32]⟩ : ByteArray) ++ t123) ++ (⟨#[44, 32, 98, 58, 32]⟩ : ByteArray)) ++ t124) ++ (⟨#[41, 32, 114, 101, 116, 117, 114, 110, 115, 32, 40, 121, 58, 32]⟩ : ByteArray)) ++ t125).size + 12 ≤ 9223372036854775807 then (if 0 ≤ (Int.tmod (Go.bits .and .i64 a3 255) (y120.length : Int)) then (if (Int.tmod (Go.bits .and .i64 a3 255) (y120.length : Int)) < (y120.length : Int) then (if (((((((⟨#[110, 111, 100, 101, 32, 102, 40, 97, 58, 32]⟩ : ByteArray) ++ t123) ++ (⟨#[44, 32, 98, 58, 32]⟩ : ByteArray)) ++ t124) ++ (⟨#[41, 32, 114, 101, 116, 117, 114, 110, 115, 32, 40, 121, 58, 32]⟩ : ByteArray)) ++ t125) ++ (⟨#[41, 32, 108, 101, 116, 32, 121, 32, 61, 32, 97, 32]⟩ : ByteArray)).size + (rdOf ByteArray.empty y120 (Int.tmod (Go.bits .and .i64 a3 255) (y120.length : Int))).size ≤ 9223372036854775807 then (if ((((((((⟨#[110, 111, 100, 101, 32, 102, 40, 97, 58, 32]⟩ : ByteArray) ++ t123) ++ (⟨#[44, 32, 98, 58, 32]⟩ : ByteArray)) ++ t124) ++ (⟨#[41, 32, 114, 101, 116, 117, 114, 110, 115, 32, 40, 121, 58, 32]⟩ : ByteArray)) ++ t125) ++ (⟨#[41, 32, 108, 101, 116, 32, 121, 32, 61, 32, 97, 32]⟩ : ByteArray)) ++ (rdOf ByteArray.empty y120 (Int.tmod (Go.bits .and .i64 a3 255) (y120.length : Int)))).size + 7 ≤ 9223372036854775807 then ((parse_Program.f (((((((((⟨#[110, 111, 100, 101, 32, 102, 40, 97, 58, 32]⟩ : ByteArray) ++ t123) ++ (⟨#[44, 32, 98, 58, 32]⟩ : ByteArray)) ++ t124) ++ (⟨#[41, 32, 114, 101, 116, 117, 114, 110, 115, 32, 40, 121, 58, 32]⟩ : ByteArray)) ++ t125) ++ (⟨#[41, 32, 108, 101, 116, 32, 121, 32, 61, 32, 97, 32]⟩ : ByteArray)) ++ (rdOf ByteArray.empty y120 (Int.tmod (Go.bits .and .i64 a3 255) (y120.length : Int)))) ++ (⟨#[32, 98, 59, 32, 116, 101, 108]⟩ : ByteArray))).bind fun bt127 => (if (a0 == a1) = true then (girandolelaw05_TypesRight.j0 k a0 (Int.tmod (Go.bits .and .i64 a3 255) (y120.length : Int)) bt127.1 (a2 == (decide ((Int.tmod (Go.bits .and .i64 a3 255) (y120.length : Int)) > 2))) bt127.2.1 bt127.2.2) else (girandolelaw05_TypesRight.j0 k a0 (Int.tmod (Go.bits .and .i64 a3 255) (y120.length : Int)) bt127.1 false bt127.2.1 bt127.2.2))) else (none)) else (none)) else (none)) else (none)) else (none)) else (none))) else (none)) else (none))) else (none)) else (none)))) = some r := by first | (rw [hy120]; with_reducible exact H) | (have H2_ := (Option.bind_some _ _).symm.trans H; rw [hy120]; with_reducible exact H2_) | (have H2_ := (Option.bind_some _ _).symm.trans H; with_reducible exact H2_) | with_reducible exact H | (rw [hy120]; exact H) | exact H
  have Ny120 := Aside0.mk hy120
  clear hy120
  by_cases c7 : (y120.length : Int) = 0
  ·rw [if_pos c7] at H
   exact absurd H (by simp)
  ·rw [if_neg c7] at H
   have c7b0 : ((y120.length : Int) == 0) = false := beq_eq_false_iff_ne.mpr c7
   have c7b1 : ((y120.length : Int) != 0) = true := bne_iff_ne.mpr c7
   have c7b2 : ¬ (y120 = []) := fun h_ => c7 (by rw [h_]; rfl)
   replace H := Option.bind_eq_some_iff.mp H
   obtain ⟨t123, A80, H⟩ := H
   try dsimp only at H
   have A8 := Aside0.mk A80
   clear A80
   by_cases c9 : 10 + t123.size ≤ 9223372036854775807
   ·rw [if_pos c9] at H
    have c9b0 := eq_true c9
    have c9b1 : decide (10 + t123.size ≤ 9223372036854775807) = true := decide_eq_true c9
    try have c9b2 : (9223372036854775807 < 10 + t123.size) = False := eq_false (Nat.not_lt.2 c9)
    by_cases c10 : ((⟨#[110, 111, 100, 101, 32, 102, 40, 97, 58, 32]⟩ : ByteArray) ++ t123).size + 5 ≤ 9223372036854775807
    ·rw [if_pos c10] at H
     have c10b0 := eq_true c10
     have c10b1 : decide (((⟨#[110, 111, 100, 101, 32, 102, 40, 97, 58, 32]⟩ : ByteArray) ++ t123).size + 5 ≤ 9223372036854775807) = true := decide_eq_true c10
     try have c10b2 : (9223372036854775807 < ((⟨#[110, 111, 100, 101, 32, 102, 40, 97, 58, 32]⟩ : ByteArray) ++ t123).size + 5) = False := eq_false (Nat.not_lt.2 c10)
     try have c10b9 : (9223372036854775807 < 10 + t123.size + 5) = False := eq_false (by have h_ := c10; simp only [ByteArray.size_append] at h_; exact Nat.not_lt.2 h_)
     replace H := Option.bind_eq_some_iff.mp H
     obtain ⟨t124, A110, H⟩ := H
     try dsimp only at H
     have A11 := Aside0.mk A110
     clear A110
     by_cases c12 : (((⟨#[110, 111, 100, 101, 32, 102, 40, 97, 58, 32]⟩ : ByteArray) ++ t123) ++ (⟨#[44, 32, 98, 58, 32]⟩ : ByteArray)).size + t124.size ≤ 9223372036854775807
     ·rw [if_pos c12] at H
      have c12b0 := eq_true c12
      have c12b1 : decide ((((⟨#[110, 111, 100, 101, 32, 102, 40, 97, 58, 32]⟩ : ByteArray) ++ t123) ++ (⟨#[44, 32, 98, 58, 32]⟩ : ByteArray)).size + t124.size ≤ 9223372036854775807) = true := decide_eq_true c12
      try have c12b2 : (9223372036854775807 < (((⟨#[110, 111, 100, 101, 32, 102, 40, 97, 58, 32]⟩ : ByteArray) ++ t123) ++ (⟨#[44, 32, 98, 58, 32]⟩ : ByteArray)).size + t124.size) = False := eq_false (Nat.not_lt.2 c12)
      try have c12b9 : (9223372036854775807 < 10 + t123.size + 5 + t124.size) = False := eq_false (by have h_ := c12; simp only [ByteArray.size_append] at h_; exact Nat.not_lt.2 h_)
      by_cases c13 : ((((⟨#[110, 111, 100, 101, 32, 102, 40, 97, 58, 32]⟩ : ByteArray) ++ t123) ++ (⟨#[44, 32, 98, 58, 32]⟩ : ByteArray)) ++ t124).size + 14 ≤ 9223372036854775807
      ·rw [if_pos c13] at H
       have c13b0 := eq_true c13
       have c13b1 : decide (((((⟨#[110, 111, 100, 101, 32, 102, 40, 97, 58, 32]⟩ : ByteArray) ++ t123) ++ (⟨#[44, 32, 98, 58, 32]⟩ : ByteArray)) ++ t124).size + 14 ≤ 9223372036854775807) = true := decide_eq_true c13
       try have c13b2 : (9223372036854775807 < ((((⟨#[110, 111, 100, 101, 32, 102, 40, 97, 58, 32]⟩ : ByteArray) ++ t123) ++ (⟨#[44, 32, 98, 58, 32]⟩ : ByteArray)) ++ t124).size + 14) = False := eq_false (Nat.not_lt.2 c13)
       try have c13b9 : (9223372036854775807 < 10 + t123.size + 5 + t124.size + 14) = False := eq_false (by have h_ := c13; simp only [ByteArray.size_append] at h_; exact Nat.not_lt.2 h_)
       replace H := Option.bind_eq_some_iff.mp H
       obtain ⟨t125, A140, H⟩ := H
       try dsimp only at H
       have A14 := Aside0.mk A140
       clear A140
       by_cases c15 : (((((⟨#[110, 111, 100, 101, 32, 102, 40, 97, 58, 32]⟩ : ByteArray) ++ t123) ++ (⟨#[44, 32, 98, 58, 32]⟩ : ByteArray)) ++ t124) ++ (⟨#[41, 32, 114, 101, 116, 117, 114, 110, 115, 32, 40, 121, 58, 32]⟩ : ByteArray)).size + t125.size ≤ 9223372036854775807
       ·rw [if_pos c15] at H
        have c15b0 := eq_true c15
        have c15b1 : decide ((((((⟨#[110, 111, 100, 101, 32, 102, 40, 97, 58, 32]⟩ : ByteArray) ++ t123) ++ (⟨#[44, 32, 98, 58, 32]⟩ : ByteArray)) ++ t124) ++ (⟨#[41, 32, 114, 101, 116, 117, 114, 110, 115, 32, 40, 121, 58, 32]⟩ : ByteArray)).size + t125.size ≤ 9223372036854775807) = true := decide_eq_true c15
        try have c15b2 : (9223372036854775807 < (((((⟨#[110, 111, 100, 101, 32, 102, 40, 97, 58, 32]⟩ : ByteArray) ++ t123) ++ (⟨#[44, 32, 98, 58, 32]⟩ : ByteArray)) ++ t124) ++ (⟨#[41, 32, 114, 101, 116, 117, 114, 110, 115, 32, 40, 121, 58, 32]⟩ : ByteArray)).size + t125.size) = False := eq_false (Nat.not_lt.2 c15)
        try have c15b9 : (9223372036854775807 < 10 + t123.size + 5 + t124.size + 14 + t125.size) = False := eq_false (by have h_ := c15; simp only [ByteArray.size_append] at h_; exact Nat.not_lt.2 h_)
        by_cases c16 : ((((((⟨#[110, 111, 100, 101, 32, 102, 40, 97, 58, 32]⟩ : ByteArray) ++ t123) ++ (⟨#[44, 32, 98, 58, 32]⟩ : ByteArray)) ++ t124) ++ (⟨#[41, 32, 114, 101, 116, 117, 114, 110, 115, 32, 40, 121, 58, 32]⟩ : ByteArray)) ++ t125).size + 12 ≤ 9223372036854775807
        ·rw [if_pos c16] at H
         have c16b0 := eq_true c16
         have c16b1 : decide (((((((⟨#[110, 111, 100, 101, 32, 102, 40, 97, 58, 32]⟩ : ByteArray) ++ t123) ++ (⟨#[44, 32, 98, 58, 32]⟩ : ByteArray)) ++ t124) ++ (⟨#[41, 32, 114, 101, 116, 117, 114, 110, 115, 32, 40, 121, 58, 32]⟩ : ByteArray)) ++ t125).size + 12 ≤ 9223372036854775807) = true := decide_eq_true c16
         try have c16b2 : (9223372036854775807 < ((((((⟨#[110, 111, 100, 101, 32, 102, 40, 97, 58, 32]⟩ : ByteArray) ++ t123) ++ (⟨#[44, 32, 98, 58, 32]⟩ : ByteArray)) ++ t124) ++ (⟨#[41, 32, 114, 101, 116, 117, 114, 110, 115, 32, 40, 121, 58, 32]⟩ : ByteArray)) ++ t125).size + 12) = False := eq_false (Nat.not_lt.2 c16)
         try have c16b9 : (9223372036854775807 < 10 + t123.size + 5 + t124.size + 14 + t125.size + 12) = False := eq_false (by have h_ := c16; simp only [ByteArray.size_append] at h_; exact Nat.not_lt.2 h_)
         obtain ⟨ji17, hji17⟩ : ∃ j_ : Int, (Int.tmod (Go.bits .and .i64 a3 255) (y120.length : Int)) = j_ := ⟨_, rfl⟩
         replace H : (if 0 ≤ (ji17) then (if (ji17) < (y120.length : Int) then (if (((((((⟨#[110, 111, 100, 101, 32, 102, 40, 97, 58, 32]⟩ : ByteArray) ++ t123) ++ (⟨#[44, 32, 98, 58, 32]⟩ : ByteArray)) ++ t124) ++ (⟨#[41, 32, 114, 101, 116, 117, 114, 110, 115, 32, 40, 121, 58, 32]⟩ : ByteArray)) ++ t125) ++ (⟨#[41, 32, 108, 101, 116, 32, 121, 32, 61, 32, 97, 32]⟩ : ByteArray)).size + (rdOf ByteArray.empty y120 (ji17)).size ≤ 9223372036854775807 then (if ((((((((⟨#[110, 111, 100, 101, 32, 102, 40, 97, 58, 32]⟩ : ByteArray) ++ t123) ++ (⟨#[44, 32, 98, 58, 32]⟩ : ByteArray)) ++ t124) ++ (⟨#[41, 32, 114, 101, 116, 117, 114, 110, 115, 32, 40, 121, 58, 32]⟩ : ByteArray)) ++ t125) ++ (⟨#[41, 32, 108, 101, 116, 32, 121, 32, 61, 32, 97, 32]⟩ : ByteArray)) ++ (rdOf ByteArray.empty y120 (ji17))).size + 7 ≤ 9223372036854775807 then ((parse_Program.f (((((((((⟨#[110, 111, 100, 101, 32, 102, 40, 97, 58, 32]⟩ : ByteArray) ++ t123) ++ (⟨#[44, 32, 98, 58, 32]⟩ : ByteArray)) ++ t124) ++ (⟨#[41, 32, 114, 101, 116, 117, 114, 110, 115, 32, 40, 121, 58, 32]⟩ : ByteArray)) ++ t125) ++ (⟨#[41, 32, 108, 101, 116, 32, 121, 32, 61, 32, 97, 32]⟩ : ByteArray)) ++ (rdOf ByteArray.empty y120 (ji17))) ++ (⟨#[32, 98, 59, 32, 116, 101, 108]⟩ : ByteArray))).bind fun bt127 => (if (a0 == a1) = true then (girandolelaw05_TypesRight.j0 k a0 ji17 bt127.1 (a2 == (decide ((ji17) > 2))) bt127.2.1 bt127.2.2) else (girandolelaw05_TypesRight.j0 k a0 ji17 bt127.1 false bt127.2.1 bt127.2.2))) else (none)) else (none)) else (none)) else (none)) = some r := by first | (rw [hji17] at H; exact H) | (simp only [hji17] at H ⊢; exact H)
         (try rw [hji17] at A5)
         (try rw [hji17] at A8)
         (try rw [hji17] at A11)
         (try rw [hji17] at A14)
         by_cases c18 : 0 ≤ (ji17)
         ·rw [if_pos c18] at H
          have c18b0 : decide (0 ≤ (ji17)) = true := decide_eq_true c18
          clear c18
          by_cases c19 : (ji17) < (y120.length : Int)
          ·rw [if_pos c19] at H
           have c19b0 : decide ((ji17) < (y120.length : Int)) = true := decide_eq_true c19
           clear c19
           by_cases c20 : (((((((⟨#[110, 111, 100, 101, 32, 102, 40, 97, 58, 32]⟩ : ByteArray) ++ t123) ++ (⟨#[44, 32, 98, 58, 32]⟩ : ByteArray)) ++ t124) ++ (⟨#[41, 32, 114, 101, 116, 117, 114, 110, 115, 32, 40, 121, 58, 32]⟩ : ByteArray)) ++ t125) ++ (⟨#[41, 32, 108, 101, 116, 32, 121, 32, 61, 32, 97, 32]⟩ : ByteArray)).size + (rdOf ByteArray.empty y120 (ji17)).size ≤ 9223372036854775807
           ·rw [if_pos c20] at H
            have c20b0 := eq_true c20
            have c20b1 : decide ((((((((⟨#[110, 111, 100, 101, 32, 102, 40, 97, 58, 32]⟩ : ByteArray) ++ t123) ++ (⟨#[44, 32, 98, 58, 32]⟩ : ByteArray)) ++ t124) ++ (⟨#[41, 32, 114, 101, 116, 117, 114, 110, 115, 32, 40, 121, 58, 32]⟩ : ByteArray)) ++ t125) ++ (⟨#[41, 32, 108, 101, 116, 32, 121, 32, 61, 32, 97, 32]⟩ : ByteArray)).size + (rdOf ByteArray.empty y120 (ji17)).size ≤ 9223372036854775807) = true := decide_eq_true c20
            try have c20b2 : (9223372036854775807 < (((((((⟨#[110, 111, 100, 101, 32, 102, 40, 97, 58, 32]⟩ : ByteArray) ++ t123) ++ (⟨#[44, 32, 98, 58, 32]⟩ : ByteArray)) ++ t124) ++ (⟨#[41, 32, 114, 101, 116, 117, 114, 110, 115, 32, 40, 121, 58, 32]⟩ : ByteArray)) ++ t125) ++ (⟨#[41, 32, 108, 101, 116, 32, 121, 32, 61, 32, 97, 32]⟩ : ByteArray)).size + (rdOf ByteArray.empty y120 (ji17)).size) = False := eq_false (Nat.not_lt.2 c20)
            try have c20b9 : (9223372036854775807 < 10 + t123.size + 5 + t124.size + 14 + t125.size + 12 + (rdOf ByteArray.empty y120 (ji17)).size) = False := eq_false (by have h_ := c20; simp only [ByteArray.size_append] at h_; exact Nat.not_lt.2 h_)
            by_cases c21 : ((((((((⟨#[110, 111, 100, 101, 32, 102, 40, 97, 58, 32]⟩ : ByteArray) ++ t123) ++ (⟨#[44, 32, 98, 58, 32]⟩ : ByteArray)) ++ t124) ++ (⟨#[41, 32, 114, 101, 116, 117, 114, 110, 115, 32, 40, 121, 58, 32]⟩ : ByteArray)) ++ t125) ++ (⟨#[41, 32, 108, 101, 116, 32, 121, 32, 61, 32, 97, 32]⟩ : ByteArray)) ++ (rdOf ByteArray.empty y120 (ji17))).size + 7 ≤ 9223372036854775807
            ·rw [if_pos c21] at H
             have c21b0 := eq_true c21
             have c21b1 : decide (((((((((⟨#[110, 111, 100, 101, 32, 102, 40, 97, 58, 32]⟩ : ByteArray) ++ t123) ++ (⟨#[44, 32, 98, 58, 32]⟩ : ByteArray)) ++ t124) ++ (⟨#[41, 32, 114, 101, 116, 117, 114, 110, 115, 32, 40, 121, 58, 32]⟩ : ByteArray)) ++ t125) ++ (⟨#[41, 32, 108, 101, 116, 32, 121, 32, 61, 32, 97, 32]⟩ : ByteArray)) ++ (rdOf ByteArray.empty y120 (ji17))).size + 7 ≤ 9223372036854775807) = true := decide_eq_true c21
             try have c21b2 : (9223372036854775807 < ((((((((⟨#[110, 111, 100, 101, 32, 102, 40, 97, 58, 32]⟩ : ByteArray) ++ t123) ++ (⟨#[44, 32, 98, 58, 32]⟩ : ByteArray)) ++ t124) ++ (⟨#[41, 32, 114, 101, 116, 117, 114, 110, 115, 32, 40, 121, 58, 32]⟩ : ByteArray)) ++ t125) ++ (⟨#[41, 32, 108, 101, 116, 32, 121, 32, 61, 32, 97, 32]⟩ : ByteArray)) ++ (rdOf ByteArray.empty y120 (ji17))).size + 7) = False := eq_false (Nat.not_lt.2 c21)
             try have c21b9 : (9223372036854775807 < 10 + t123.size + 5 + t124.size + 14 + t125.size + 12 + (rdOf ByteArray.empty y120 (ji17)).size + 7) = False := eq_false (by have h_ := c21; simp only [ByteArray.size_append] at h_; exact Nat.not_lt.2 h_)
             replace H := Option.bind_eq_some_iff.mp H
             obtain ⟨⟨t127, t130, t131⟩, A220, H⟩ := H
             try dsimp only at H
             have A22 := Aside0.mk A220
             clear A220
             have HC23 := Aside0.mk H
             clear H
             go_enter Tryd.func10, Tryd.ntmps10
             try go_wp2_with (first | ((with_reducible refine gate_callee (f := 31) rfl ?_); refine goesL_ (some 15) rfl rfl Tryd.func31 (by kernel_rfl) rfl #[] rfl (by (try simp only [List.map_toArray, List.map_cons, List.map_nil]); first | done | rfl | (simp only [List.length_drop, List.length_take]; rfl)) ?_; (with_reducible refine (girandolelaw05_awake.calls  true _ A5.out ?side1).mono ?_); (case side1 => exact Tabs.below HT.out (by repeat (first | (with_reducible first | exact HB.out | apply below_alloc | apply pw_below_drewN | apply below_drew1) | exact HB.out))); rintro e w24 ⟨rfl, hb⟩; refine ⟨_, rfl, ?_⟩; have n0_ := Aside0.mk (below_step (by repeat (first | (with_reducible first | exact HB.out | apply below_alloc | apply pw_below_drewN | apply below_drew1) | exact HB.out)) hb); clear HB; have HB := n0_; clear n0_; (try clear hb); (try clear hb2); (try clear hk); (try clear hi)) | ((with_reducible refine gate_dst (N := 17) rfl ?_); refine Kd.R_lit Kd.string _ 9 ?hg (N := 17) ?hd (xs := ([(⟨#[43]⟩ : ByteArray), (⟨#[45]⟩ : ByteArray), (⟨#[42]⟩ : ByteArray), (⟨#[60]⟩ : ByteArray), (⟨#[60, 61]⟩ : ByteArray), (⟨#[62]⟩ : ByteArray), (⟨#[62, 61]⟩ : ByteArray), (⟨#[61]⟩ : ByteArray), (⟨#[60, 62]⟩ : ByteArray), (⟨#[97, 110, 100]⟩ : ByteArray), (⟨#[111, 114]⟩ : ByteArray), (⟨#[120, 111, 114]⟩ : ByteArray)] : List ByteArray)) (inner := [.string (⟨#[43]⟩ : ByteArray), .string (⟨#[45]⟩ : ByteArray), .string (⟨#[42]⟩ : ByteArray), .string (⟨#[60]⟩ : ByteArray), .string (⟨#[60, 61]⟩ : ByteArray), .string (⟨#[62]⟩ : ByteArray), .string (⟨#[62, 61]⟩ : ByteArray), .string (⟨#[61]⟩ : ByteArray), .string (⟨#[60, 62]⟩ : ByteArray), .string (⟨#[97, 110, 100]⟩ : ByteArray), .string (⟨#[111, 114]⟩ : ByteArray), .string (⟨#[120, 111, 114]⟩ : ByteArray)]) (ok := fun _ => True) (okp := fun _ => True) ?hr ?hp (fun _ hk => hk) trivial (Below.refl _ _) (Nat.le_refl _) (by simp) ?_; (case hd => rfl); (case hg => rfl); (case hr => first | (go_simp; done) | (go_simp; rfl)); (case hp => exact (Reps.one (show Kd.M Kd.string _ _ _ (⟨#[43]⟩ : ByteArray) [.string (⟨#[43]⟩ : ByteArray)] from rfl) (Reps.one (show Kd.M Kd.string _ _ _ (⟨#[45]⟩ : ByteArray) [.string (⟨#[45]⟩ : ByteArray)] from rfl) (Reps.one (show Kd.M Kd.string _ _ _ (⟨#[42]⟩ : ByteArray) [.string (⟨#[42]⟩ : ByteArray)] from rfl) (Reps.one (show Kd.M Kd.string _ _ _ (⟨#[60]⟩ : ByteArray) [.string (⟨#[60]⟩ : ByteArray)] from rfl) (Reps.one (show Kd.M Kd.string _ _ _ (⟨#[60, 61]⟩ : ByteArray) [.string (⟨#[60, 61]⟩ : ByteArray)] from rfl) (Reps.one (show Kd.M Kd.string _ _ _ (⟨#[62]⟩ : ByteArray) [.string (⟨#[62]⟩ : ByteArray)] from rfl) (Reps.one (show Kd.M Kd.string _ _ _ (⟨#[62, 61]⟩ : ByteArray) [.string (⟨#[62, 61]⟩ : ByteArray)] from rfl) (Reps.one (show Kd.M Kd.string _ _ _ (⟨#[61]⟩ : ByteArray) [.string (⟨#[61]⟩ : ByteArray)] from rfl) (Reps.one (show Kd.M Kd.string _ _ _ (⟨#[60, 62]⟩ : ByteArray) [.string (⟨#[60, 62]⟩ : ByteArray)] from rfl) (Reps.one (show Kd.M Kd.string _ _ _ (⟨#[97, 110, 100]⟩ : ByteArray) [.string (⟨#[97, 110, 100]⟩ : ByteArray)] from rfl) (Reps.one (show Kd.M Kd.string _ _ _ (⟨#[111, 114]⟩ : ByteArray) [.string (⟨#[111, 114]⟩ : ByteArray)] from rfl) (Reps.one (show Kd.M Kd.string _ _ _ (⟨#[120, 111, 114]⟩ : ByteArray) [.string (⟨#[120, 111, 114]⟩ : ByteArray)] from rfl) (Reps.none _ _)))))))))))))); intro v121 w25 ho26 hb hg_ hnew_; clear hg_ hnew_; (first | rw [← Ny120.out] at ho26 | (simp only [Int.reduceToNat] at ho26; rw [← Ny120.out] at ho26)); have n0_ := Aside0.mk (Kd.R_lower ho26 (below_size (by repeat (first | (with_reducible first | exact HB.out | apply below_alloc | apply pw_below_drewN | apply below_drew1) | exact HB.out)))); have n1_ := Aside0.mk (below_step (by repeat (first | (with_reducible first | exact HB.out | apply below_alloc | apply pw_below_drewN | apply below_drew1) | exact HB.out)) hb); clear HB; have HO122 := n0_; have HB := n1_; clear n0_ n1_; clear hb ho26; obtain ⟨Ao27, co27, eo27⟩ := Kd.R_slice HO122.out; subst eo27))
             have n0_ := Aside0.mk (Kd.R_drew HO122.out)
             have n1_ := Aside0.mk (below_drew1 HB.out)
             clear HO122
             clear HB
             have HO122 := n0_
             have HB := n1_
             clear n0_ n1_
             have p126 : 0 ≤ ((ji17) : Int) := of_decide_eq_true (by first | (with_reducible assumption) | assumption)
             have q126 : (ji17) < (y120.length : Int) := of_decide_eq_true (by first | (with_reducible assumption) | assumption)
             obtain ⟨ad126, e126, hx126_0⟩ := Kd.at_string (Kd.R_reads' HO122.out).2.2 (ji17) p126 q126
             cases e126
             replace p126 := eq_true p126
             replace q126 := eq_true q126
             refine start_ (n := 28) (S := fun w' => w'.cell? (ad126.add ((ji17)).toNat) = some (.string (rdOf ByteArray.empty y120 (ji17)))) (ds := []) (bLs 28 0) (by kernel_rfl) rfl rfl (hx126_0) (fun hHeld => ?_); refine with_tabW girandolelaw05_TypesRight.tab6 girandolelaw05_TypesRight.bits6 (fun HT_ HW_ => ?_)
             generalize w25.drew = w28 at HO122 HB hx126_0 hHeld ⊢
             refine pure_ (i := 0) (N := some 24) (v := ?_) (a' := ?_) (bLs 28 1) rfl rfl (any_of HT_.out (by kernel_rfl)) (fun _ _ _ h => h) (Or.inl ⟨by rfl, ?_⟩) ?_ ?_
             rotate_left
             ·intro w'
              go_simp
              with_reducible rfl
             rotate_left
             ·simp only [Act.put, List.setIfInBounds_toArray, List.set_cons_zero, List.set_cons_succ, i64_w, i32_w]
              rfl
             refine pure_ (i := 1) (N := some 25) (v := ?_) (a' := ?_) (bLs 28 3) rfl rfl (any_of HT_.out (by kernel_rfl)) (fun _ _ _ h => h) (Or.inl ⟨by rfl, ?_⟩) ?_ ?_
             rotate_left
             ·intro w'
              go_simp
              with_reducible rfl
             rotate_left
             ·simp only [Act.put, List.setIfInBounds_toArray, List.set_cons_zero, List.set_cons_succ, i64_w, i32_w]
              rfl
             refine pure_ (i := 5) (N := some 29) (v := ?_) (a' := ?_) (bLs 28 35) rfl rfl (any_of HT_.out (by kernel_rfl)) (fun _ _ _ h => h) (Or.inl ⟨by rfl, ?_⟩) ?_ ?_
             rotate_left
             ·intro w'
              go_simp
              with_reducible rfl
             rotate_left
             ·simp only [Act.put, List.setIfInBounds_toArray, List.set_cons_zero, List.set_cons_succ, i64_w, i32_w]
              rfl
             refine pure_ (i := 6) (N := some 30) (v := ?_) (a' := ?_) (bLs 28 99) rfl rfl (any_of HT_.out (by kernel_rfl)) (fun _ _ _ h => h) (Or.inl ⟨by rfl, ?_⟩) ?_ ?_
             rotate_left
             ·intro w'
              go_simp
              with_reducible rfl
             rotate_left
             ·simp only [Act.put, List.setIfInBounds_toArray, List.set_cons_zero, List.set_cons_succ, i64_w, i32_w]
              rfl
             refine pure_ (i := 10) (N := some 34) (v := ?_) (a' := ?_) (bLs 28 1123) rfl rfl (any_of HT_.out (by kernel_rfl)) (fun _ _ _ h => h) (Or.inl ⟨by rfl, ?_⟩) ?_ ?_
             rotate_left
             ·intro w'
              go_simp
              with_reducible rfl
             rotate_left
             ·simp only [Act.put, List.setIfInBounds_toArray, List.set_cons_zero, List.set_cons_succ, i64_w, i32_w]
              rfl
             refine pure_ (i := 11) (N := some 35) (v := ?_) (a' := ?_) (bLs 28 3171) rfl rfl (any_of HT_.out (by kernel_rfl)) (fun _ _ _ h => h) (Or.inl ⟨by rfl, ?_⟩) ?_ ?_
             rotate_left
             ·intro w'
              go_simp
              with_reducible rfl
             rotate_left
             ·simp only [Act.put, List.setIfInBounds_toArray, List.set_cons_zero, List.set_cons_succ, i64_w, i32_w]
              rfl
             refine pure_ (i := 15) (N := some 39) (v := ?_) (a' := ?_) (bLs 28 35939) rfl rfl (any_of HT_.out (by kernel_rfl)) (fun _ _ _ h => h) (Or.inl ⟨by rfl, ?_⟩) ?_ ?_
             rotate_left
             ·intro w'
              go_simp
              with_reducible rfl
             rotate_left
             ·simp only [Act.put, List.setIfInBounds_toArray, List.set_cons_zero, List.set_cons_succ, i64_w, i32_w]
              rfl
             refine pure_ (i := 16) (N := some 40) (v := ?_) (a' := ?_) (bLs 28 101475) rfl rfl (any_of HT_.out (by kernel_rfl)) (fun _ _ _ h => h) (Or.inl ⟨by rfl, ?_⟩) ?_ ?_
             rotate_left
             ·intro w'
              go_simp
              with_reducible rfl
             rotate_left
             ·simp only [Act.put, List.setIfInBounds_toArray, List.set_cons_zero, List.set_cons_succ, i64_w, i32_w]
              rfl
             refine pure_ (i := 17) (N := some 41) (v := ?_) (a' := ?_) (bLs 28 232547) rfl rfl (any_of HT_.out (by kernel_rfl)) (fun _ _ _ h => h) (Or.inl ⟨by rfl, ?_⟩) ?_ ?_
             rotate_left
             ·intro w'
              go_simp
              with_reducible rfl
             rotate_left
             ·simp only [Act.put, List.setIfInBounds_toArray, List.set_cons_zero, List.set_cons_succ, i64_w, i32_w]
              rfl
             refine take_ (i := 18) (N := some 42) (v := ?_) (a' := ?_) (bLs 28 494691) rfl rfl (take_ofW HT_.out HW_.out (by kernel_rfl)) (fun _ _ _ h => h) (Or.inl ⟨by rfl, ?_⟩) hHeld ?_ ?_
             rotate_left
             ·intro w' s0
              go_simp
              with_reducible rfl
             rotate_left
             ·simp only [Act.put, List.setIfInBounds_toArray, List.set_cons_zero, List.set_cons_succ, i64_w, i32_w]
              rfl
             refine join_ (σ := Value × Nat) 2 (bLs 28 67108863) (fun s_ => [(26, .string t123), (31, .string t124), (36, .string t125), (45, .tuple #[s_.1, .agg #[.int .i64 t130, .int .i64 t131]]), (13, .pointer (some ⟨s_.2, 0, none⟩)), (27, .string ((⟨#[110, 111, 100, 101, 32, 102, 40, 97, 58, 32]⟩ : ByteArray) ++ t123)), (28, .string (((⟨#[110, 111, 100, 101, 32, 102, 40, 97, 58, 32]⟩ : ByteArray) ++ t123) ++ (⟨#[44, 32, 98, 58, 32]⟩ : ByteArray))), (32, .string ((((⟨#[110, 111, 100, 101, 32, 102, 40, 97, 58, 32]⟩ : ByteArray) ++ t123) ++ (⟨#[44, 32, 98, 58, 32]⟩ : ByteArray)) ++ t124)), (33, .string (((((⟨#[110, 111, 100, 101, 32, 102, 40, 97, 58, 32]⟩ : ByteArray) ++ t123) ++ (⟨#[44, 32, 98, 58, 32]⟩ : ByteArray)) ++ t124) ++ (⟨#[41, 32, 114, 101, 116, 117, 114, 110, 115, 32, 40, 121, 58, 32]⟩ : ByteArray))), (37, .string ((((((⟨#[110, 111, 100, 101, 32, 102, 40, 97, 58, 32]⟩ : ByteArray) ++ t123) ++ (⟨#[44, 32, 98, 58, 32]⟩ : ByteArray)) ++ t124) ++ (⟨#[41, 32, 114, 101, 116, 117, 114, 110, 115, 32, 40, 121, 58, 32]⟩ : ByteArray)) ++ t125)), (38, .string (((((((⟨#[110, 111, 100, 101, 32, 102, 40, 97, 58, 32]⟩ : ByteArray) ++ t123) ++ (⟨#[44, 32, 98, 58, 32]⟩ : ByteArray)) ++ t124) ++ (⟨#[41, 32, 114, 101, 116, 117, 114, 110, 115, 32, 40, 121, 58, 32]⟩ : ByteArray)) ++ t125) ++ (⟨#[41, 32, 108, 101, 116, 32, 121, 32, 61, 32, 97, 32]⟩ : ByteArray))), (43, .string ((((((((⟨#[110, 111, 100, 101, 32, 102, 40, 97, 58, 32]⟩ : ByteArray) ++ t123) ++ (⟨#[44, 32, 98, 58, 32]⟩ : ByteArray)) ++ t124) ++ (⟨#[41, 32, 114, 101, 116, 117, 114, 110, 115, 32, 40, 121, 58, 32]⟩ : ByteArray)) ++ t125) ++ (⟨#[41, 32, 108, 101, 116, 32, 121, 32, 61, 32, 97, 32]⟩ : ByteArray)) ++ (rdOf ByteArray.empty y120 (ji17)))), (44, .string (((((((((⟨#[110, 111, 100, 101, 32, 102, 40, 97, 58, 32]⟩ : ByteArray) ++ t123) ++ (⟨#[44, 32, 98, 58, 32]⟩ : ByteArray)) ++ t124) ++ (⟨#[41, 32, 114, 101, 116, 117, 114, 110, 115, 32, 40, 121, 58, 32]⟩ : ByteArray)) ++ t125) ++ (⟨#[41, 32, 108, 101, 116, 32, 121, 32, 61, 32, 97, 32]⟩ : ByteArray)) ++ (rdOf ByteArray.empty y120 (ji17))) ++ (⟨#[32, 98, 59, 32, 116, 101, 108]⟩ : ByteArray))), (23, .tuple #[s_.1, .agg #[.int .i64 t130, .int .i64 t131]]), (46, s_.1), (47, .agg #[.int .i64 t130, .int .i64 t131])]) (fun s_ w' => (w'.cell? (ad126.add ((ji17)).toNat) = some (.string (rdOf ByteArray.empty y120 (ji17)))) ∧ (Kd.R Kd.string 9 w' w.heap.size (fun _ => True) (.slice (some ad126) y120.length co27) y120) ∧ (Kd.R k34 34 w' w.heap.size (fun _ => True) s_.1 t127) ∧ (w'.heap[s_.2]? = some (.cells #[.int .i64 0, .int .i64 0] 27 (0, 0))) ∧ (w.heap.size ≤ s_.2) ∧ (w.heap.size ≤ s_.2) ∧ (Below w.heap.size w w')) ?_ ?_
             rotate_left
             ·intro hJ2_7_12_21_25
              refine join_ (σ := Value) 3 (bLs 28 33554431) (fun s_ => [(26, .string t123), (31, .string t124), (36, .string t125), (45, .tuple #[s_, .agg #[.int .i64 t130, .int .i64 t131]]), (27, .string ((⟨#[110, 111, 100, 101, 32, 102, 40, 97, 58, 32]⟩ : ByteArray) ++ t123)), (28, .string (((⟨#[110, 111, 100, 101, 32, 102, 40, 97, 58, 32]⟩ : ByteArray) ++ t123) ++ (⟨#[44, 32, 98, 58, 32]⟩ : ByteArray))), (32, .string ((((⟨#[110, 111, 100, 101, 32, 102, 40, 97, 58, 32]⟩ : ByteArray) ++ t123) ++ (⟨#[44, 32, 98, 58, 32]⟩ : ByteArray)) ++ t124)), (33, .string (((((⟨#[110, 111, 100, 101, 32, 102, 40, 97, 58, 32]⟩ : ByteArray) ++ t123) ++ (⟨#[44, 32, 98, 58, 32]⟩ : ByteArray)) ++ t124) ++ (⟨#[41, 32, 114, 101, 116, 117, 114, 110, 115, 32, 40, 121, 58, 32]⟩ : ByteArray))), (37, .string ((((((⟨#[110, 111, 100, 101, 32, 102, 40, 97, 58, 32]⟩ : ByteArray) ++ t123) ++ (⟨#[44, 32, 98, 58, 32]⟩ : ByteArray)) ++ t124) ++ (⟨#[41, 32, 114, 101, 116, 117, 114, 110, 115, 32, 40, 121, 58, 32]⟩ : ByteArray)) ++ t125)), (38, .string (((((((⟨#[110, 111, 100, 101, 32, 102, 40, 97, 58, 32]⟩ : ByteArray) ++ t123) ++ (⟨#[44, 32, 98, 58, 32]⟩ : ByteArray)) ++ t124) ++ (⟨#[41, 32, 114, 101, 116, 117, 114, 110, 115, 32, 40, 121, 58, 32]⟩ : ByteArray)) ++ t125) ++ (⟨#[41, 32, 108, 101, 116, 32, 121, 32, 61, 32, 97, 32]⟩ : ByteArray))), (43, .string ((((((((⟨#[110, 111, 100, 101, 32, 102, 40, 97, 58, 32]⟩ : ByteArray) ++ t123) ++ (⟨#[44, 32, 98, 58, 32]⟩ : ByteArray)) ++ t124) ++ (⟨#[41, 32, 114, 101, 116, 117, 114, 110, 115, 32, 40, 121, 58, 32]⟩ : ByteArray)) ++ t125) ++ (⟨#[41, 32, 108, 101, 116, 32, 121, 32, 61, 32, 97, 32]⟩ : ByteArray)) ++ (rdOf ByteArray.empty y120 (ji17)))), (44, .string (((((((((⟨#[110, 111, 100, 101, 32, 102, 40, 97, 58, 32]⟩ : ByteArray) ++ t123) ++ (⟨#[44, 32, 98, 58, 32]⟩ : ByteArray)) ++ t124) ++ (⟨#[41, 32, 114, 101, 116, 117, 114, 110, 115, 32, 40, 121, 58, 32]⟩ : ByteArray)) ++ t125) ++ (⟨#[41, 32, 108, 101, 116, 32, 121, 32, 61, 32, 97, 32]⟩ : ByteArray)) ++ (rdOf ByteArray.empty y120 (ji17))) ++ (⟨#[32, 98, 59, 32, 116, 101, 108]⟩ : ByteArray))), (23, .tuple #[s_, .agg #[.int .i64 t130, .int .i64 t131]]), (46, s_), (47, .agg #[.int .i64 t130, .int .i64 t131])]) (fun s_ w' => (w'.cell? (ad126.add ((ji17)).toNat) = some (.string (rdOf ByteArray.empty y120 (ji17)))) ∧ (Kd.R Kd.string 9 w' w.heap.size (fun _ => True) (.slice (some ad126) y120.length co27) y120) ∧ (Kd.R k34 34 w' w.heap.size (fun _ => True) s_ t127) ∧ (Below w.heap.size w w')) ?_ ?_
              rotate_left
              ·intro hJ2_7_12_21
               refine join_ (σ := Nat) 6 (bLs 28 35651583) (fun s_ => [(26, .string t123), (31, .string t124), (36, .string t125), (13, .pointer (some ⟨s_, 0, none⟩)), (27, .string ((⟨#[110, 111, 100, 101, 32, 102, 40, 97, 58, 32]⟩ : ByteArray) ++ t123)), (28, .string (((⟨#[110, 111, 100, 101, 32, 102, 40, 97, 58, 32]⟩ : ByteArray) ++ t123) ++ (⟨#[44, 32, 98, 58, 32]⟩ : ByteArray))), (32, .string ((((⟨#[110, 111, 100, 101, 32, 102, 40, 97, 58, 32]⟩ : ByteArray) ++ t123) ++ (⟨#[44, 32, 98, 58, 32]⟩ : ByteArray)) ++ t124)), (33, .string (((((⟨#[110, 111, 100, 101, 32, 102, 40, 97, 58, 32]⟩ : ByteArray) ++ t123) ++ (⟨#[44, 32, 98, 58, 32]⟩ : ByteArray)) ++ t124) ++ (⟨#[41, 32, 114, 101, 116, 117, 114, 110, 115, 32, 40, 121, 58, 32]⟩ : ByteArray))), (37, .string ((((((⟨#[110, 111, 100, 101, 32, 102, 40, 97, 58, 32]⟩ : ByteArray) ++ t123) ++ (⟨#[44, 32, 98, 58, 32]⟩ : ByteArray)) ++ t124) ++ (⟨#[41, 32, 114, 101, 116, 117, 114, 110, 115, 32, 40, 121, 58, 32]⟩ : ByteArray)) ++ t125)), (38, .string (((((((⟨#[110, 111, 100, 101, 32, 102, 40, 97, 58, 32]⟩ : ByteArray) ++ t123) ++ (⟨#[44, 32, 98, 58, 32]⟩ : ByteArray)) ++ t124) ++ (⟨#[41, 32, 114, 101, 116, 117, 114, 110, 115, 32, 40, 121, 58, 32]⟩ : ByteArray)) ++ t125) ++ (⟨#[41, 32, 108, 101, 116, 32, 121, 32, 61, 32, 97, 32]⟩ : ByteArray))), (43, .string ((((((((⟨#[110, 111, 100, 101, 32, 102, 40, 97, 58, 32]⟩ : ByteArray) ++ t123) ++ (⟨#[44, 32, 98, 58, 32]⟩ : ByteArray)) ++ t124) ++ (⟨#[41, 32, 114, 101, 116, 117, 114, 110, 115, 32, 40, 121, 58, 32]⟩ : ByteArray)) ++ t125) ++ (⟨#[41, 32, 108, 101, 116, 32, 121, 32, 61, 32, 97, 32]⟩ : ByteArray)) ++ (rdOf ByteArray.empty y120 (ji17)))), (44, .string (((((((((⟨#[110, 111, 100, 101, 32, 102, 40, 97, 58, 32]⟩ : ByteArray) ++ t123) ++ (⟨#[44, 32, 98, 58, 32]⟩ : ByteArray)) ++ t124) ++ (⟨#[41, 32, 114, 101, 116, 117, 114, 110, 115, 32, 40, 121, 58, 32]⟩ : ByteArray)) ++ t125) ++ (⟨#[41, 32, 108, 101, 116, 32, 121, 32, 61, 32, 97, 32]⟩ : ByteArray)) ++ (rdOf ByteArray.empty y120 (ji17))) ++ (⟨#[32, 98, 59, 32, 116, 101, 108]⟩ : ByteArray)))]) (fun s_ w' => (w'.cell? (ad126.add ((ji17)).toNat) = some (.string (rdOf ByteArray.empty y120 (ji17)))) ∧ (Kd.R Kd.string 9 w' w.heap.size (fun _ => True) (.slice (some ad126) y120.length co27) y120) ∧ (w'.heap[s_]? = some (.cells #[.int .i64 0, .int .i64 0] 27 (0, 0))) ∧ (w.heap.size ≤ s_) ∧ (w.heap.size ≤ s_) ∧ (Below w.heap.size w w')) ?_ ?_
               rotate_left
               ·intro hJ2_7_12_25
                refine join_ (σ := Unit) 7 (bLs 28 2097151) (fun s_ => [(26, .string t123), (31, .string t124), (36, .string t125), (27, .string ((⟨#[110, 111, 100, 101, 32, 102, 40, 97, 58, 32]⟩ : ByteArray) ++ t123)), (28, .string (((⟨#[110, 111, 100, 101, 32, 102, 40, 97, 58, 32]⟩ : ByteArray) ++ t123) ++ (⟨#[44, 32, 98, 58, 32]⟩ : ByteArray))), (32, .string ((((⟨#[110, 111, 100, 101, 32, 102, 40, 97, 58, 32]⟩ : ByteArray) ++ t123) ++ (⟨#[44, 32, 98, 58, 32]⟩ : ByteArray)) ++ t124)), (33, .string (((((⟨#[110, 111, 100, 101, 32, 102, 40, 97, 58, 32]⟩ : ByteArray) ++ t123) ++ (⟨#[44, 32, 98, 58, 32]⟩ : ByteArray)) ++ t124) ++ (⟨#[41, 32, 114, 101, 116, 117, 114, 110, 115, 32, 40, 121, 58, 32]⟩ : ByteArray))), (37, .string ((((((⟨#[110, 111, 100, 101, 32, 102, 40, 97, 58, 32]⟩ : ByteArray) ++ t123) ++ (⟨#[44, 32, 98, 58, 32]⟩ : ByteArray)) ++ t124) ++ (⟨#[41, 32, 114, 101, 116, 117, 114, 110, 115, 32, 40, 121, 58, 32]⟩ : ByteArray)) ++ t125)), (38, .string (((((((⟨#[110, 111, 100, 101, 32, 102, 40, 97, 58, 32]⟩ : ByteArray) ++ t123) ++ (⟨#[44, 32, 98, 58, 32]⟩ : ByteArray)) ++ t124) ++ (⟨#[41, 32, 114, 101, 116, 117, 114, 110, 115, 32, 40, 121, 58, 32]⟩ : ByteArray)) ++ t125) ++ (⟨#[41, 32, 108, 101, 116, 32, 121, 32, 61, 32, 97, 32]⟩ : ByteArray))), (43, .string ((((((((⟨#[110, 111, 100, 101, 32, 102, 40, 97, 58, 32]⟩ : ByteArray) ++ t123) ++ (⟨#[44, 32, 98, 58, 32]⟩ : ByteArray)) ++ t124) ++ (⟨#[41, 32, 114, 101, 116, 117, 114, 110, 115, 32, 40, 121, 58, 32]⟩ : ByteArray)) ++ t125) ++ (⟨#[41, 32, 108, 101, 116, 32, 121, 32, 61, 32, 97, 32]⟩ : ByteArray)) ++ (rdOf ByteArray.empty y120 (ji17)))), (44, .string (((((((((⟨#[110, 111, 100, 101, 32, 102, 40, 97, 58, 32]⟩ : ByteArray) ++ t123) ++ (⟨#[44, 32, 98, 58, 32]⟩ : ByteArray)) ++ t124) ++ (⟨#[41, 32, 114, 101, 116, 117, 114, 110, 115, 32, 40, 121, 58, 32]⟩ : ByteArray)) ++ t125) ++ (⟨#[41, 32, 108, 101, 116, 32, 121, 32, 61, 32, 97, 32]⟩ : ByteArray)) ++ (rdOf ByteArray.empty y120 (ji17))) ++ (⟨#[32, 98, 59, 32, 116, 101, 108]⟩ : ByteArray)))]) (fun s_ w' => (w'.cell? (ad126.add ((ji17)).toNat) = some (.string (rdOf ByteArray.empty y120 (ji17)))) ∧ (Kd.R Kd.string 9 w' w.heap.size (fun _ => True) (.slice (some ad126) y120.length co27) y120) ∧ (Below w.heap.size w w')) ?_ ?_
                rotate_left
                ·intro hJ2_7_12
                 refine join_ (σ := Nat) 11 (bLs 28 34050047) (fun s_ => [(26, .string t123), (31, .string t124), (13, .pointer (some ⟨s_, 0, none⟩)), (27, .string ((⟨#[110, 111, 100, 101, 32, 102, 40, 97, 58, 32]⟩ : ByteArray) ++ t123)), (28, .string (((⟨#[110, 111, 100, 101, 32, 102, 40, 97, 58, 32]⟩ : ByteArray) ++ t123) ++ (⟨#[44, 32, 98, 58, 32]⟩ : ByteArray))), (32, .string ((((⟨#[110, 111, 100, 101, 32, 102, 40, 97, 58, 32]⟩ : ByteArray) ++ t123) ++ (⟨#[44, 32, 98, 58, 32]⟩ : ByteArray)) ++ t124)), (33, .string (((((⟨#[110, 111, 100, 101, 32, 102, 40, 97, 58, 32]⟩ : ByteArray) ++ t123) ++ (⟨#[44, 32, 98, 58, 32]⟩ : ByteArray)) ++ t124) ++ (⟨#[41, 32, 114, 101, 116, 117, 114, 110, 115, 32, 40, 121, 58, 32]⟩ : ByteArray)))]) (fun s_ w' => (w'.cell? (ad126.add ((ji17)).toNat) = some (.string (rdOf ByteArray.empty y120 (ji17)))) ∧ (Kd.R Kd.string 9 w' w.heap.size (fun _ => True) (.slice (some ad126) y120.length co27) y120) ∧ (w'.heap[s_]? = some (.cells #[.int .i64 0, .int .i64 0] 27 (0, 0))) ∧ (w.heap.size ≤ s_) ∧ (w.heap.size ≤ s_) ∧ (Below w.heap.size w w')) ?_ ?_
                 rotate_left
                 ·intro hJ2_7_25
                  refine join_ (σ := Unit) 12 (bLs 28 495615) (fun s_ => [(26, .string t123), (31, .string t124), (27, .string ((⟨#[110, 111, 100, 101, 32, 102, 40, 97, 58, 32]⟩ : ByteArray) ++ t123)), (28, .string (((⟨#[110, 111, 100, 101, 32, 102, 40, 97, 58, 32]⟩ : ByteArray) ++ t123) ++ (⟨#[44, 32, 98, 58, 32]⟩ : ByteArray))), (32, .string ((((⟨#[110, 111, 100, 101, 32, 102, 40, 97, 58, 32]⟩ : ByteArray) ++ t123) ++ (⟨#[44, 32, 98, 58, 32]⟩ : ByteArray)) ++ t124)), (33, .string (((((⟨#[110, 111, 100, 101, 32, 102, 40, 97, 58, 32]⟩ : ByteArray) ++ t123) ++ (⟨#[44, 32, 98, 58, 32]⟩ : ByteArray)) ++ t124) ++ (⟨#[41, 32, 114, 101, 116, 117, 114, 110, 115, 32, 40, 121, 58, 32]⟩ : ByteArray)))]) (fun s_ w' => (w'.cell? (ad126.add ((ji17)).toNat) = some (.string (rdOf ByteArray.empty y120 (ji17)))) ∧ (Kd.R Kd.string 9 w' w.heap.size (fun _ => True) (.slice (some ad126) y120.length co27) y120) ∧ (Below w.heap.size w w')) ?_ ?_
                  rotate_left
                  ·intro hJ2_7
                   refine join_ (σ := Nat) 14 (bLs 28 34049151) (fun s_ => [(26, .string t123), (13, .pointer (some ⟨s_, 0, none⟩)), (27, .string ((⟨#[110, 111, 100, 101, 32, 102, 40, 97, 58, 32]⟩ : ByteArray) ++ t123)), (28, .string (((⟨#[110, 111, 100, 101, 32, 102, 40, 97, 58, 32]⟩ : ByteArray) ++ t123) ++ (⟨#[44, 32, 98, 58, 32]⟩ : ByteArray)))]) (fun s_ w' => (w'.cell? (ad126.add ((ji17)).toNat) = some (.string (rdOf ByteArray.empty y120 (ji17)))) ∧ (Kd.R Kd.string 9 w' w.heap.size (fun _ => True) (.slice (some ad126) y120.length co27) y120) ∧ (w'.heap[s_]? = some (.cells #[.int .i64 0, .int .i64 0] 27 (0, 0))) ∧ (w.heap.size ≤ s_) ∧ (w.heap.size ≤ s_) ∧ (Below w.heap.size w w')) ?_ ?_
                   rotate_left
                   ·intro hJ2_25
                    refine join_ (σ := Unit) 15 (bLs 28 494719) (fun s_ => [(26, .string t123), (27, .string ((⟨#[110, 111, 100, 101, 32, 102, 40, 97, 58, 32]⟩ : ByteArray) ++ t123)), (28, .string (((⟨#[110, 111, 100, 101, 32, 102, 40, 97, 58, 32]⟩ : ByteArray) ++ t123) ++ (⟨#[44, 32, 98, 58, 32]⟩ : ByteArray)))]) (fun s_ w' => (w'.cell? (ad126.add ((ji17)).toNat) = some (.string (rdOf ByteArray.empty y120 (ji17)))) ∧ (Kd.R Kd.string 9 w' w.heap.size (fun _ => True) (.slice (some ad126) y120.length co27) y120) ∧ (Below w.heap.size w w')) ?_ ?_
                    rotate_left
                    ·intro hJ2
                     refine join_ (σ := Nat) 17 (bLs 28 34049123) (fun s_ => [(13, .pointer (some ⟨s_, 0, none⟩))]) (fun s_ w' => (w'.cell? (ad126.add ((ji17)).toNat) = some (.string (rdOf ByteArray.empty y120 (ji17)))) ∧ (Kd.R Kd.string 9 w' w.heap.size (fun _ => True) (.slice (some ad126) y120.length co27) y120) ∧ (w'.heap[s_]? = some (.cells #[.int .i64 0, .int .i64 0] 27 (0, 0))) ∧ (w.heap.size ≤ s_) ∧ (w.heap.size ≤ s_) ∧ (Below w.heap.size w w')) ?_ ?_
                     rotate_left
                     ·intro hJ25
                      refine two_ (i := 2) (j := 25) (Ni := some 26) (Nj := some 13) (bLs 28 494695) (bLs 28 34049123) rfl rfl rfl rfl (two_of HT_.out (by kernel_rfl)) (by decide) (by decide) (fun K hK => ?_) (fun K hK => ?_)
                      ·skip
                       refine Vf.goesV_ Tryd.func33 (by kernel_rfl) rfl #[.bool a0] (by rfl) rfl rfl (by rfl) (by (try simp only [List.map_toArray, List.map_cons, List.map_nil]); first | done | rfl | (simp only [List.length_drop, List.length_take]; rfl)) ?_
                       with_reducible refine (girandolelaw05_TypesRight_1.calls a0 t123 _ A8.out).mono ?_
                       rintro e w29 ⟨rfl, hb⟩
                       have HS0_ := (hb.cell (World.block_lt_of_cell? _ _ (hHeld))).trans (hHeld)
                       refine ⟨_, rfl, ?_⟩
                       have n0_ := Aside0.mk (Kd.R_below (by (with_reducible repeat (first | apply Kd.R_alloc | apply Kd.R_drewN | apply Kd.R_drew)); exact HO122.out) hb)
                       have n1_ := Aside0.mk (below_step (by repeat (first | (with_reducible first | exact HB.out | apply below_alloc | apply pw_below_drewN | apply below_drew1) | exact HB.out)) hb)
                       clear HO122
                       clear HB
                       have HO122 := n0_
                       have HB := n1_
                       clear n0_ n1_
                       (try clear hb)
                       (try clear hb2)
                       (try clear hk)
                       (try clear hi)
                       refine hK.out _ _ (HS0_) (fun hHeld => ?_)
                       clear hK K
                       refine norm_ (a' := ?_) ?_ ?_
                       rotate_left
                       ·show Act.put _ (some 26) _ = _
                        simp only [Act.put, List.setIfInBounds_toArray, List.set_cons_zero, List.set_cons_succ, i64_w, i32_w]
                        rfl
                       refine pure_ (i := 3) (N := some 27) (v := ?_) (a' := ?_) (bLs 28 494703) rfl rfl (any_of HT_.out (by kernel_rfl)) (fun _ _ _ h => h) (Or.inl ⟨by rfl, ?_⟩) ?_ ?_
                       rotate_left
                       ·intro w'
                        go_simp
                        with_reducible rfl
                       rotate_left
                       ·simp only [Act.put, List.setIfInBounds_toArray, List.set_cons_zero, List.set_cons_succ, i64_w, i32_w]
                        rfl
                       refine pure_ (i := 4) (N := some 28) (v := ?_) (a' := ?_) (bLs 28 494719) rfl rfl (any_of HT_.out (by kernel_rfl)) (fun _ _ _ h => h) (Or.inl ⟨by rfl, ?_⟩) ?_ ?_
                       rotate_left
                       ·intro w'
                        go_simp
                        with_reducible rfl
                       rotate_left
                       ·simp only [Act.put, List.setIfInBounds_toArray, List.set_cons_zero, List.set_cons_succ, i64_w, i32_w]
                        rfl
                       exact norm_ (by first | (simp only [putAll, Act.put, List.setIfInBounds_toArray, List.set_cons_zero, List.set_cons_succ]; done) | (simp only [putAll, Act.put, List.setIfInBounds_toArray, List.set_cons_zero, List.set_cons_succ]; rfl)) (hJ2 () _ ⟨hHeld, (by (with_reducible repeat (first | apply Kd.R_alloc | apply Kd.R_drewN | apply Kd.R_drew)); exact HO122.out), (by repeat (first | (with_reducible first | exact HB.out | apply below_alloc | apply pw_below_drewN | apply below_drew1) | exact HB.out))⟩)
                      ·skip
                       refine box_step ?hg (N := 13) ?hd (cs := #[.int .i64 0, .int .i64 0]) (t := 27) ?hr ?_; (case hd => rfl); (case hg => rfl); (case hr => first | (go_simp; done) | (go_simp; rfl))
                       intro gb132 hg w29 hbox hb
                       have HS0_ := (hb.cell (World.block_lt_of_cell? _ _ (hHeld))).trans (hHeld)
                       have n0_ := Aside0.mk (Kd.R_below (by (with_reducible repeat (first | apply Kd.R_alloc | apply Kd.R_drewN | apply Kd.R_drew)); exact HO122.out) hb)
                       have n1_ := Aside0.mk (below_step (by repeat (first | (with_reducible first | exact HB.out | apply below_alloc | apply pw_below_drewN | apply below_drew1) | exact HB.out)) hb)
                       have n2_ := Aside0.mk (hbox)
                       have n3_ := Aside0.mk ((by rw [hg]; exact (below_size (by repeat (first | (with_reducible first | exact HB.out | apply below_alloc | apply pw_below_drewN | apply below_drew1) | exact HB.out))) : w.heap.size ≤ gb132))
                       have n4_ := Aside0.mk ((by rw [hg]; exact (below_size (by repeat (first | (with_reducible first | exact HB.out | apply below_alloc | apply pw_below_drewN | apply below_drew1) | exact HB.out))) : w.heap.size ≤ gb132))
                       clear HO122
                       clear HB
                       have HO122 := n0_
                       have HB := n1_
                       have BK132 := n2_
                       have GW132 := n3_
                       have GE132 := n4_
                       clear n0_ n1_ n2_ n3_ n4_
                       clear hb hbox hg
                       refine hK.out _ _ (HS0_) (fun hHeld => ?_)
                       clear hK K
                       refine norm_ (a' := ?_) ?_ ?_
                       rotate_left
                       ·show Act.put _ (some 13) _ = _
                        simp only [Act.put, List.setIfInBounds_toArray, List.set_cons_zero, List.set_cons_succ, i64_w, i32_w]
                        rfl
                       exact norm_ (by first | (simp only [putAll, Act.put, List.setIfInBounds_toArray, List.set_cons_zero, List.set_cons_succ]; done) | (simp only [putAll, Act.put, List.setIfInBounds_toArray, List.set_cons_zero, List.set_cons_succ]; rfl)) (hJ25 (gb132) _ ⟨hHeld, (by (with_reducible repeat (first | apply Kd.R_alloc | apply Kd.R_drewN | apply Kd.R_drew)); exact HO122.out), (by (with_reducible repeat (first | refine blk_drewN ?_ _ | refine blk_drew ?_ | refine blk_alloc ?_ _)); exact BK132.out), GW132.out, GE132.out, (by repeat (first | (with_reducible first | exact HB.out | apply below_alloc | apply pw_below_drewN | apply below_drew1 | refine below_set ?_ GE132.out) | exact HB.out))⟩)
                     ·skip
                      rintro gb132 w30 ⟨hS_, h0_, h1_, h2_, h3_, h4_⟩
                      have n0_ : Aside0 (Kd.R Kd.string 9 w30 w.heap.size (fun _ => True) (.slice (some ad126) y120.length co27) y120) := ⟨h0_⟩
                      have n1_ : Aside0 (w30.heap[gb132]? = some (.cells #[.int .i64 0, .int .i64 0] 27 (0, 0))) := ⟨h1_⟩
                      have n2_ : Aside0 (w.heap.size ≤ gb132) := ⟨h2_⟩
                      have n3_ : Aside0 (w.heap.size ≤ gb132) := ⟨h3_⟩
                      have n4_ : Aside0 (Below w.heap.size w w30) := ⟨h4_⟩
                      clear HO122
                      clear HB
                      clear h0_ h1_ h2_ h3_ h4_
                      have HO122 := n0_
                      have BK132 := n1_
                      have GW132 := n2_
                      have GE132 := n3_
                      have HB := n4_
                      clear n0_ n1_ n2_ n3_ n4_
                      have hHeld : w30.cell? (ad126.add ((ji17)).toNat) = some (.string (rdOf ByteArray.empty y120 (ji17))) := hS_
                      refine norm_ (a' := ?_) ?_ ?_
                      rotate_left
                      ·simp only [putAll, Act.put, List.setIfInBounds_toArray, List.set_cons_zero, List.set_cons_succ]
                       rfl
                      refine one_ (i := 2) (N := some 26) (bLs 28 34049127) rfl rfl (one_of HT_.out (by kernel_rfl)) (by decide) (fun K hK => ?_)
                      refine Vf.goesV_ Tryd.func33 (by kernel_rfl) rfl #[.bool a0] (by rfl) rfl rfl (by rfl) (by (try simp only [List.map_toArray, List.map_cons, List.map_nil]); first | done | rfl | (simp only [List.length_drop, List.length_take]; rfl)) ?_
                      with_reducible refine (girandolelaw05_TypesRight_1.calls a0 t123 _ A8.out).mono ?_
                      rintro e w31 ⟨rfl, hb⟩
                      have HS0_ := (hb.cell (World.block_lt_of_cell? _ _ (hHeld))).trans (hHeld)
                      refine ⟨_, rfl, ?_⟩
                      have n0_ := Aside0.mk (Kd.R_below (by (with_reducible repeat (first | apply Kd.R_alloc | apply Kd.R_drewN | apply Kd.R_drew)); exact HO122.out) hb)
                      have n1_ := Aside0.mk (blk_below (g := gb132) (o := .cells #[.int .i64 0, .int .i64 0] 27 (0, 0)) (by (with_reducible repeat (first | refine blk_drewN ?_ _ | refine blk_drew ?_ | refine blk_alloc ?_ _)); exact BK132.out) hb)
                      have n2_ := Aside0.mk (below_step (by repeat (first | (with_reducible first | exact HB.out | apply below_alloc | apply pw_below_drewN | apply below_drew1 | refine below_set ?_ GE132.out) | exact HB.out)) hb)
                      clear HO122
                      clear BK132
                      clear HB
                      have HO122 := n0_
                      have BK132 := n1_
                      have HB := n2_
                      clear n0_ n1_ n2_
                      (try clear hb)
                      (try clear hb2)
                      (try clear hk)
                      (try clear hi)
                      refine hK.out _ _ (HS0_) (fun hHeld => ?_)
                      clear hK K
                      refine norm_ (a' := ?_) ?_ ?_
                      rotate_left
                      ·show Act.put _ (some 26) _ = _
                       simp only [Act.put, List.setIfInBounds_toArray, List.set_cons_zero, List.set_cons_succ, i64_w, i32_w]
                       rfl
                      refine pure_ (i := 3) (N := some 27) (v := ?_) (a' := ?_) (bLs 28 34049135) rfl rfl (any_of HT_.out (by kernel_rfl)) (fun _ _ _ h => h) (Or.inl ⟨by rfl, ?_⟩) ?_ ?_
                      rotate_left
                      ·intro w'
                       go_simp
                       with_reducible rfl
                      rotate_left
                      ·simp only [Act.put, List.setIfInBounds_toArray, List.set_cons_zero, List.set_cons_succ, i64_w, i32_w]
                       rfl
                      refine pure_ (i := 4) (N := some 28) (v := ?_) (a' := ?_) (bLs 28 34049151) rfl rfl (any_of HT_.out (by kernel_rfl)) (fun _ _ _ h => h) (Or.inl ⟨by rfl, ?_⟩) ?_ ?_
                      rotate_left
                      ·intro w'
                       go_simp
                       with_reducible rfl
                      rotate_left
                      ·simp only [Act.put, List.setIfInBounds_toArray, List.set_cons_zero, List.set_cons_succ, i64_w, i32_w]
                       rfl
                      exact norm_ (by first | (simp only [putAll, Act.put, List.setIfInBounds_toArray, List.set_cons_zero, List.set_cons_succ]; done) | (simp only [putAll, Act.put, List.setIfInBounds_toArray, List.set_cons_zero, List.set_cons_succ]; rfl)) (hJ2_25 (gb132) _ ⟨hHeld, (by (with_reducible repeat (first | apply Kd.R_alloc | apply Kd.R_drewN | apply Kd.R_drew)); exact HO122.out), (by (with_reducible repeat (first | refine blk_drewN ?_ _ | refine blk_drew ?_ | refine blk_alloc ?_ _)); exact BK132.out), GW132.out, GE132.out, (by repeat (first | (with_reducible first | exact HB.out | apply below_alloc | apply pw_below_drewN | apply below_drew1 | refine below_set ?_ GE132.out) | exact HB.out))⟩)
                    ·skip
                     rintro _ w30 ⟨hS_, h0_, h1_⟩
                     have n0_ : Aside0 (Kd.R Kd.string 9 w30 w.heap.size (fun _ => True) (.slice (some ad126) y120.length co27) y120) := ⟨h0_⟩
                     have n1_ : Aside0 (Below w.heap.size w w30) := ⟨h1_⟩
                     clear HO122
                     clear HB
                     clear h0_ h1_
                     have HO122 := n0_
                     have HB := n1_
                     clear n0_ n1_
                     have hHeld : w30.cell? (ad126.add ((ji17)).toNat) = some (.string (rdOf ByteArray.empty y120 (ji17))) := hS_
                     refine norm_ (a' := ?_) ?_ ?_
                     rotate_left
                     ·simp only [putAll, Act.put, List.setIfInBounds_toArray, List.set_cons_zero, List.set_cons_succ]
                      rfl
                     refine two_ (i := 7) (j := 25) (Ni := some 31) (Nj := some 13) (bLs 28 494847) (bLs 28 34049151) rfl rfl rfl rfl (two_of HT_.out (by kernel_rfl)) (by decide) (by decide) (fun K hK => ?_) (fun K hK => ?_)
                     ·skip
                      refine Vf.goesV_ Tryd.func33 (by kernel_rfl) rfl #[.bool a1] (by rfl) rfl rfl (by rfl) (by (try simp only [List.map_toArray, List.map_cons, List.map_nil]); first | done | rfl | (simp only [List.length_drop, List.length_take]; rfl)) ?_
                      with_reducible refine (girandolelaw05_TypesRight_1.calls a1 t124 _ A11.out).mono ?_
                      rintro e w31 ⟨rfl, hb⟩
                      have HS0_ := (hb.cell (World.block_lt_of_cell? _ _ (hHeld))).trans (hHeld)
                      refine ⟨_, rfl, ?_⟩
                      have n0_ := Aside0.mk (Kd.R_below (by (with_reducible repeat (first | apply Kd.R_alloc | apply Kd.R_drewN | apply Kd.R_drew)); exact HO122.out) hb)
                      have n1_ := Aside0.mk (below_step (by repeat (first | (with_reducible first | exact HB.out | apply below_alloc | apply pw_below_drewN | apply below_drew1) | exact HB.out)) hb)
                      clear HO122
                      clear HB
                      have HO122 := n0_
                      have HB := n1_
                      clear n0_ n1_
                      (try clear hb)
                      (try clear hb2)
                      (try clear hk)
                      (try clear hi)
                      refine hK.out _ _ (HS0_) (fun hHeld => ?_)
                      clear hK K
                      refine norm_ (a' := ?_) ?_ ?_
                      rotate_left
                      ·show Act.put _ (some 31) _ = _
                       simp only [Act.put, List.setIfInBounds_toArray, List.set_cons_zero, List.set_cons_succ, i64_w, i32_w]
                       rfl
                      refine pure_ (i := 8) (N := some 32) (v := ?_) (a' := ?_) (bLs 28 495103) rfl rfl (any_of HT_.out (by kernel_rfl)) (fun _ _ _ h => h) (Or.inl ⟨by rfl, ?_⟩) ?_ ?_
                      rotate_left
                      ·intro w'
                       go_simp
                       with_reducible rfl
                      rotate_left
                      ·simp only [Act.put, List.setIfInBounds_toArray, List.set_cons_zero, List.set_cons_succ, i64_w, i32_w]
                       rfl
                      refine pure_ (i := 9) (N := some 33) (v := ?_) (a' := ?_) (bLs 28 495615) rfl rfl (any_of HT_.out (by kernel_rfl)) (fun _ _ _ h => h) (Or.inl ⟨by rfl, ?_⟩) ?_ ?_
                      rotate_left
                      ·intro w'
                       go_simp
                       with_reducible rfl
                      rotate_left
                      ·simp only [Act.put, List.setIfInBounds_toArray, List.set_cons_zero, List.set_cons_succ, i64_w, i32_w]
                       rfl
                      exact norm_ (by first | (simp only [putAll, Act.put, List.setIfInBounds_toArray, List.set_cons_zero, List.set_cons_succ]; done) | (simp only [putAll, Act.put, List.setIfInBounds_toArray, List.set_cons_zero, List.set_cons_succ]; rfl)) (hJ2_7 () _ ⟨hHeld, (by (with_reducible repeat (first | apply Kd.R_alloc | apply Kd.R_drewN | apply Kd.R_drew)); exact HO122.out), (by repeat (first | (with_reducible first | exact HB.out | apply below_alloc | apply pw_below_drewN | apply below_drew1) | exact HB.out))⟩)
                     ·skip
                      refine box_step ?hg (N := 13) ?hd (cs := #[.int .i64 0, .int .i64 0]) (t := 27) ?hr ?_; (case hd => rfl); (case hg => rfl); (case hr => first | (go_simp; done) | (go_simp; rfl))
                      intro gb132 hg w31 hbox hb
                      have HS0_ := (hb.cell (World.block_lt_of_cell? _ _ (hHeld))).trans (hHeld)
                      have n0_ := Aside0.mk (Kd.R_below (by (with_reducible repeat (first | apply Kd.R_alloc | apply Kd.R_drewN | apply Kd.R_drew)); exact HO122.out) hb)
                      have n1_ := Aside0.mk (below_step (by repeat (first | (with_reducible first | exact HB.out | apply below_alloc | apply pw_below_drewN | apply below_drew1) | exact HB.out)) hb)
                      have n2_ := Aside0.mk (hbox)
                      have n3_ := Aside0.mk ((by rw [hg]; exact (below_size (by repeat (first | (with_reducible first | exact HB.out | apply below_alloc | apply pw_below_drewN | apply below_drew1) | exact HB.out))) : w.heap.size ≤ gb132))
                      have n4_ := Aside0.mk ((by rw [hg]; exact (below_size (by repeat (first | (with_reducible first | exact HB.out | apply below_alloc | apply pw_below_drewN | apply below_drew1) | exact HB.out))) : w.heap.size ≤ gb132))
                      clear HO122
                      clear HB
                      have HO122 := n0_
                      have HB := n1_
                      have BK132 := n2_
                      have GW132 := n3_
                      have GE132 := n4_
                      clear n0_ n1_ n2_ n3_ n4_
                      clear hb hbox hg
                      refine hK.out _ _ (HS0_) (fun hHeld => ?_)
                      clear hK K
                      refine norm_ (a' := ?_) ?_ ?_
                      rotate_left
                      ·show Act.put _ (some 13) _ = _
                       simp only [Act.put, List.setIfInBounds_toArray, List.set_cons_zero, List.set_cons_succ, i64_w, i32_w]
                       rfl
                      exact norm_ (by first | (simp only [putAll, Act.put, List.setIfInBounds_toArray, List.set_cons_zero, List.set_cons_succ]; done) | (simp only [putAll, Act.put, List.setIfInBounds_toArray, List.set_cons_zero, List.set_cons_succ]; rfl)) (hJ2_25 (gb132) _ ⟨hHeld, (by (with_reducible repeat (first | apply Kd.R_alloc | apply Kd.R_drewN | apply Kd.R_drew)); exact HO122.out), (by (with_reducible repeat (first | refine blk_drewN ?_ _ | refine blk_drew ?_ | refine blk_alloc ?_ _)); exact BK132.out), GW132.out, GE132.out, (by repeat (first | (with_reducible first | exact HB.out | apply below_alloc | apply pw_below_drewN | apply below_drew1 | refine below_set ?_ GE132.out) | exact HB.out))⟩)
                   ·skip
                    rintro gb132 w31 ⟨hS_, h0_, h1_, h2_, h3_, h4_⟩
                    have n0_ : Aside0 (Kd.R Kd.string 9 w31 w.heap.size (fun _ => True) (.slice (some ad126) y120.length co27) y120) := ⟨h0_⟩
                    have n1_ : Aside0 (w31.heap[gb132]? = some (.cells #[.int .i64 0, .int .i64 0] 27 (0, 0))) := ⟨h1_⟩
                    have n2_ : Aside0 (w.heap.size ≤ gb132) := ⟨h2_⟩
                    have n3_ : Aside0 (w.heap.size ≤ gb132) := ⟨h3_⟩
                    have n4_ : Aside0 (Below w.heap.size w w31) := ⟨h4_⟩
                    clear HO122
                    clear HB
                    clear h0_ h1_ h2_ h3_ h4_
                    have HO122 := n0_
                    have BK132 := n1_
                    have GW132 := n2_
                    have GE132 := n3_
                    have HB := n4_
                    clear n0_ n1_ n2_ n3_ n4_
                    have hHeld : w31.cell? (ad126.add ((ji17)).toNat) = some (.string (rdOf ByteArray.empty y120 (ji17))) := hS_
                    refine norm_ (a' := ?_) ?_ ?_
                    rotate_left
                    ·simp only [putAll, Act.put, List.setIfInBounds_toArray, List.set_cons_zero, List.set_cons_succ]
                     rfl
                    refine one_ (i := 7) (N := some 31) (bLs 28 34049279) rfl rfl (one_of HT_.out (by kernel_rfl)) (by decide) (fun K hK => ?_)
                    refine Vf.goesV_ Tryd.func33 (by kernel_rfl) rfl #[.bool a1] (by rfl) rfl rfl (by rfl) (by (try simp only [List.map_toArray, List.map_cons, List.map_nil]); first | done | rfl | (simp only [List.length_drop, List.length_take]; rfl)) ?_
                    with_reducible refine (girandolelaw05_TypesRight_1.calls a1 t124 _ A11.out).mono ?_
                    rintro e w32 ⟨rfl, hb⟩
                    have HS0_ := (hb.cell (World.block_lt_of_cell? _ _ (hHeld))).trans (hHeld)
                    refine ⟨_, rfl, ?_⟩
                    have n0_ := Aside0.mk (Kd.R_below (by (with_reducible repeat (first | apply Kd.R_alloc | apply Kd.R_drewN | apply Kd.R_drew)); exact HO122.out) hb)
                    have n1_ := Aside0.mk (blk_below (g := gb132) (o := .cells #[.int .i64 0, .int .i64 0] 27 (0, 0)) (by (with_reducible repeat (first | refine blk_drewN ?_ _ | refine blk_drew ?_ | refine blk_alloc ?_ _)); exact BK132.out) hb)
                    have n2_ := Aside0.mk (below_step (by repeat (first | (with_reducible first | exact HB.out | apply below_alloc | apply pw_below_drewN | apply below_drew1 | refine below_set ?_ GE132.out) | exact HB.out)) hb)
                    clear HO122
                    clear BK132
                    clear HB
                    have HO122 := n0_
                    have BK132 := n1_
                    have HB := n2_
                    clear n0_ n1_ n2_
                    (try clear hb)
                    (try clear hb2)
                    (try clear hk)
                    (try clear hi)
                    refine hK.out _ _ (HS0_) (fun hHeld => ?_)
                    clear hK K
                    refine norm_ (a' := ?_) ?_ ?_
                    rotate_left
                    ·show Act.put _ (some 31) _ = _
                     simp only [Act.put, List.setIfInBounds_toArray, List.set_cons_zero, List.set_cons_succ, i64_w, i32_w]
                     rfl
                    refine pure_ (i := 8) (N := some 32) (v := ?_) (a' := ?_) (bLs 28 34049535) rfl rfl (any_of HT_.out (by kernel_rfl)) (fun _ _ _ h => h) (Or.inl ⟨by rfl, ?_⟩) ?_ ?_
                    rotate_left
                    ·intro w'
                     go_simp
                     with_reducible rfl
                    rotate_left
                    ·simp only [Act.put, List.setIfInBounds_toArray, List.set_cons_zero, List.set_cons_succ, i64_w, i32_w]
                     rfl
                    refine pure_ (i := 9) (N := some 33) (v := ?_) (a' := ?_) (bLs 28 34050047) rfl rfl (any_of HT_.out (by kernel_rfl)) (fun _ _ _ h => h) (Or.inl ⟨by rfl, ?_⟩) ?_ ?_
                    rotate_left
                    ·intro w'
                     go_simp
                     with_reducible rfl
                    rotate_left
                    ·simp only [Act.put, List.setIfInBounds_toArray, List.set_cons_zero, List.set_cons_succ, i64_w, i32_w]
                     rfl
                    exact norm_ (by first | (simp only [putAll, Act.put, List.setIfInBounds_toArray, List.set_cons_zero, List.set_cons_succ]; done) | (simp only [putAll, Act.put, List.setIfInBounds_toArray, List.set_cons_zero, List.set_cons_succ]; rfl)) (hJ2_7_25 (gb132) _ ⟨hHeld, (by (with_reducible repeat (first | apply Kd.R_alloc | apply Kd.R_drewN | apply Kd.R_drew)); exact HO122.out), (by (with_reducible repeat (first | refine blk_drewN ?_ _ | refine blk_drew ?_ | refine blk_alloc ?_ _)); exact BK132.out), GW132.out, GE132.out, (by repeat (first | (with_reducible first | exact HB.out | apply below_alloc | apply pw_below_drewN | apply below_drew1 | refine below_set ?_ GE132.out) | exact HB.out))⟩)
                  ·skip
                   rintro _ w31 ⟨hS_, h0_, h1_⟩
                   have n0_ : Aside0 (Kd.R Kd.string 9 w31 w.heap.size (fun _ => True) (.slice (some ad126) y120.length co27) y120) := ⟨h0_⟩
                   have n1_ : Aside0 (Below w.heap.size w w31) := ⟨h1_⟩
                   clear HO122
                   clear HB
                   clear h0_ h1_
                   have HO122 := n0_
                   have HB := n1_
                   clear n0_ n1_
                   have hHeld : w31.cell? (ad126.add ((ji17)).toNat) = some (.string (rdOf ByteArray.empty y120 (ji17))) := hS_
                   refine norm_ (a' := ?_) ?_ ?_
                   rotate_left
                   ·simp only [putAll, Act.put, List.setIfInBounds_toArray, List.set_cons_zero, List.set_cons_succ]
                    rfl
                   refine two_ (i := 12) (j := 25) (Ni := some 36) (Nj := some 13) (bLs 28 499711) (bLs 28 34050047) rfl rfl rfl rfl (two_of HT_.out (by kernel_rfl)) (by decide) (by decide) (fun K hK => ?_) (fun K hK => ?_)
                   ·skip
                    refine Vf.goesV_ Tryd.func33 (by kernel_rfl) rfl #[.bool a2] (by rfl) rfl rfl (by rfl) (by (try simp only [List.map_toArray, List.map_cons, List.map_nil]); first | done | rfl | (simp only [List.length_drop, List.length_take]; rfl)) ?_
                    with_reducible refine (girandolelaw05_TypesRight_1.calls a2 t125 _ A14.out).mono ?_
                    rintro e w32 ⟨rfl, hb⟩
                    have HS0_ := (hb.cell (World.block_lt_of_cell? _ _ (hHeld))).trans (hHeld)
                    refine ⟨_, rfl, ?_⟩
                    have n0_ := Aside0.mk (Kd.R_below (by (with_reducible repeat (first | apply Kd.R_alloc | apply Kd.R_drewN | apply Kd.R_drew)); exact HO122.out) hb)
                    have n1_ := Aside0.mk (below_step (by repeat (first | (with_reducible first | exact HB.out | apply below_alloc | apply pw_below_drewN | apply below_drew1) | exact HB.out)) hb)
                    clear HO122
                    clear HB
                    have HO122 := n0_
                    have HB := n1_
                    clear n0_ n1_
                    (try clear hb)
                    (try clear hb2)
                    (try clear hk)
                    (try clear hi)
                    refine hK.out _ _ (HS0_) (fun hHeld => ?_)
                    clear hK K
                    refine norm_ (a' := ?_) ?_ ?_
                    rotate_left
                    ·show Act.put _ (some 36) _ = _
                     simp only [Act.put, List.setIfInBounds_toArray, List.set_cons_zero, List.set_cons_succ, i64_w, i32_w]
                     rfl
                    refine pure_ (i := 13) (N := some 37) (v := ?_) (a' := ?_) (bLs 28 507903) rfl rfl (any_of HT_.out (by kernel_rfl)) (fun _ _ _ h => h) (Or.inl ⟨by rfl, ?_⟩) ?_ ?_
                    rotate_left
                    ·intro w'
                     go_simp
                     with_reducible rfl
                    rotate_left
                    ·simp only [Act.put, List.setIfInBounds_toArray, List.set_cons_zero, List.set_cons_succ, i64_w, i32_w]
                     rfl
                    refine pure_ (i := 14) (N := some 38) (v := ?_) (a' := ?_) (bLs 28 524287) rfl rfl (any_of HT_.out (by kernel_rfl)) (fun _ _ _ h => h) (Or.inl ⟨by rfl, ?_⟩) ?_ ?_
                    rotate_left
                    ·intro w'
                     go_simp
                     with_reducible rfl
                    rotate_left
                    ·simp only [Act.put, List.setIfInBounds_toArray, List.set_cons_zero, List.set_cons_succ, i64_w, i32_w]
                     rfl
                    refine pure_ (i := 19) (N := some 43) (v := ?_) (a' := ?_) (bLs 28 1048575) rfl rfl (any_of HT_.out (by kernel_rfl)) (fun _ _ _ h => h) (Or.inl ⟨by rfl, ?_⟩) ?_ ?_
                    rotate_left
                    ·intro w'
                     go_simp
                     with_reducible rfl
                    rotate_left
                    ·simp only [Act.put, List.setIfInBounds_toArray, List.set_cons_zero, List.set_cons_succ, i64_w, i32_w]
                     rfl
                    refine pure_ (i := 20) (N := some 44) (v := ?_) (a' := ?_) (bLs 28 2097151) rfl rfl (any_of HT_.out (by kernel_rfl)) (fun _ _ _ h => h) (Or.inl ⟨by rfl, ?_⟩) ?_ ?_
                    rotate_left
                    ·intro w'
                     go_simp
                     with_reducible rfl
                    rotate_left
                    ·simp only [Act.put, List.setIfInBounds_toArray, List.set_cons_zero, List.set_cons_succ, i64_w, i32_w]
                     rfl
                    exact norm_ (by first | (simp only [putAll, Act.put, List.setIfInBounds_toArray, List.set_cons_zero, List.set_cons_succ]; done) | (simp only [putAll, Act.put, List.setIfInBounds_toArray, List.set_cons_zero, List.set_cons_succ]; rfl)) (hJ2_7_12 () _ ⟨hHeld, (by (with_reducible repeat (first | apply Kd.R_alloc | apply Kd.R_drewN | apply Kd.R_drew)); exact HO122.out), (by repeat (first | (with_reducible first | exact HB.out | apply below_alloc | apply pw_below_drewN | apply below_drew1) | exact HB.out))⟩)
                   ·skip
                    refine box_step ?hg (N := 13) ?hd (cs := #[.int .i64 0, .int .i64 0]) (t := 27) ?hr ?_; (case hd => rfl); (case hg => rfl); (case hr => first | (go_simp; done) | (go_simp; rfl))
                    intro gb132 hg w32 hbox hb
                    have HS0_ := (hb.cell (World.block_lt_of_cell? _ _ (hHeld))).trans (hHeld)
                    have n0_ := Aside0.mk (Kd.R_below (by (with_reducible repeat (first | apply Kd.R_alloc | apply Kd.R_drewN | apply Kd.R_drew)); exact HO122.out) hb)
                    have n1_ := Aside0.mk (below_step (by repeat (first | (with_reducible first | exact HB.out | apply below_alloc | apply pw_below_drewN | apply below_drew1) | exact HB.out)) hb)
                    have n2_ := Aside0.mk (hbox)
                    have n3_ := Aside0.mk ((by rw [hg]; exact (below_size (by repeat (first | (with_reducible first | exact HB.out | apply below_alloc | apply pw_below_drewN | apply below_drew1) | exact HB.out))) : w.heap.size ≤ gb132))
                    have n4_ := Aside0.mk ((by rw [hg]; exact (below_size (by repeat (first | (with_reducible first | exact HB.out | apply below_alloc | apply pw_below_drewN | apply below_drew1) | exact HB.out))) : w.heap.size ≤ gb132))
                    clear HO122
                    clear HB
                    have HO122 := n0_
                    have HB := n1_
                    have BK132 := n2_
                    have GW132 := n3_
                    have GE132 := n4_
                    clear n0_ n1_ n2_ n3_ n4_
                    clear hb hbox hg
                    refine hK.out _ _ (HS0_) (fun hHeld => ?_)
                    clear hK K
                    refine norm_ (a' := ?_) ?_ ?_
                    rotate_left
                    ·show Act.put _ (some 13) _ = _
                     simp only [Act.put, List.setIfInBounds_toArray, List.set_cons_zero, List.set_cons_succ, i64_w, i32_w]
                     rfl
                    exact norm_ (by first | (simp only [putAll, Act.put, List.setIfInBounds_toArray, List.set_cons_zero, List.set_cons_succ]; done) | (simp only [putAll, Act.put, List.setIfInBounds_toArray, List.set_cons_zero, List.set_cons_succ]; rfl)) (hJ2_7_25 (gb132) _ ⟨hHeld, (by (with_reducible repeat (first | apply Kd.R_alloc | apply Kd.R_drewN | apply Kd.R_drew)); exact HO122.out), (by (with_reducible repeat (first | refine blk_drewN ?_ _ | refine blk_drew ?_ | refine blk_alloc ?_ _)); exact BK132.out), GW132.out, GE132.out, (by repeat (first | (with_reducible first | exact HB.out | apply below_alloc | apply pw_below_drewN | apply below_drew1 | refine below_set ?_ GE132.out) | exact HB.out))⟩)
                 ·skip
                  rintro gb132 w32 ⟨hS_, h0_, h1_, h2_, h3_, h4_⟩
                  have n0_ : Aside0 (Kd.R Kd.string 9 w32 w.heap.size (fun _ => True) (.slice (some ad126) y120.length co27) y120) := ⟨h0_⟩
                  have n1_ : Aside0 (w32.heap[gb132]? = some (.cells #[.int .i64 0, .int .i64 0] 27 (0, 0))) := ⟨h1_⟩
                  have n2_ : Aside0 (w.heap.size ≤ gb132) := ⟨h2_⟩
                  have n3_ : Aside0 (w.heap.size ≤ gb132) := ⟨h3_⟩
                  have n4_ : Aside0 (Below w.heap.size w w32) := ⟨h4_⟩
                  clear HO122
                  clear HB
                  clear h0_ h1_ h2_ h3_ h4_
                  have HO122 := n0_
                  have BK132 := n1_
                  have GW132 := n2_
                  have GE132 := n3_
                  have HB := n4_
                  clear n0_ n1_ n2_ n3_ n4_
                  have hHeld : w32.cell? (ad126.add ((ji17)).toNat) = some (.string (rdOf ByteArray.empty y120 (ji17))) := hS_
                  refine norm_ (a' := ?_) ?_ ?_
                  rotate_left
                  ·simp only [putAll, Act.put, List.setIfInBounds_toArray, List.set_cons_zero, List.set_cons_succ]
                   rfl
                  refine one_ (i := 12) (N := some 36) (bLs 28 34054143) rfl rfl (one_of HT_.out (by kernel_rfl)) (by decide) (fun K hK => ?_)
                  refine Vf.goesV_ Tryd.func33 (by kernel_rfl) rfl #[.bool a2] (by rfl) rfl rfl (by rfl) (by (try simp only [List.map_toArray, List.map_cons, List.map_nil]); first | done | rfl | (simp only [List.length_drop, List.length_take]; rfl)) ?_
                  with_reducible refine (girandolelaw05_TypesRight_1.calls a2 t125 _ A14.out).mono ?_
                  rintro e w33 ⟨rfl, hb⟩
                  have HS0_ := (hb.cell (World.block_lt_of_cell? _ _ (hHeld))).trans (hHeld)
                  refine ⟨_, rfl, ?_⟩
                  have n0_ := Aside0.mk (Kd.R_below (by (with_reducible repeat (first | apply Kd.R_alloc | apply Kd.R_drewN | apply Kd.R_drew)); exact HO122.out) hb)
                  have n1_ := Aside0.mk (blk_below (g := gb132) (o := .cells #[.int .i64 0, .int .i64 0] 27 (0, 0)) (by (with_reducible repeat (first | refine blk_drewN ?_ _ | refine blk_drew ?_ | refine blk_alloc ?_ _)); exact BK132.out) hb)
                  have n2_ := Aside0.mk (below_step (by repeat (first | (with_reducible first | exact HB.out | apply below_alloc | apply pw_below_drewN | apply below_drew1 | refine below_set ?_ GE132.out) | exact HB.out)) hb)
                  clear HO122
                  clear BK132
                  clear HB
                  have HO122 := n0_
                  have BK132 := n1_
                  have HB := n2_
                  clear n0_ n1_ n2_
                  (try clear hb)
                  (try clear hb2)
                  (try clear hk)
                  (try clear hi)
                  refine hK.out _ _ (HS0_) (fun hHeld => ?_)
                  clear hK K
                  refine norm_ (a' := ?_) ?_ ?_
                  rotate_left
                  ·show Act.put _ (some 36) _ = _
                   simp only [Act.put, List.setIfInBounds_toArray, List.set_cons_zero, List.set_cons_succ, i64_w, i32_w]
                   rfl
                  refine pure_ (i := 13) (N := some 37) (v := ?_) (a' := ?_) (bLs 28 34062335) rfl rfl (any_of HT_.out (by kernel_rfl)) (fun _ _ _ h => h) (Or.inl ⟨by rfl, ?_⟩) ?_ ?_
                  rotate_left
                  ·intro w'
                   go_simp
                   with_reducible rfl
                  rotate_left
                  ·simp only [Act.put, List.setIfInBounds_toArray, List.set_cons_zero, List.set_cons_succ, i64_w, i32_w]
                   rfl
                  refine pure_ (i := 14) (N := some 38) (v := ?_) (a' := ?_) (bLs 28 34078719) rfl rfl (any_of HT_.out (by kernel_rfl)) (fun _ _ _ h => h) (Or.inl ⟨by rfl, ?_⟩) ?_ ?_
                  rotate_left
                  ·intro w'
                   go_simp
                   with_reducible rfl
                  rotate_left
                  ·simp only [Act.put, List.setIfInBounds_toArray, List.set_cons_zero, List.set_cons_succ, i64_w, i32_w]
                   rfl
                  refine pure_ (i := 19) (N := some 43) (v := ?_) (a' := ?_) (bLs 28 34603007) rfl rfl (any_of HT_.out (by kernel_rfl)) (fun _ _ _ h => h) (Or.inl ⟨by rfl, ?_⟩) ?_ ?_
                  rotate_left
                  ·intro w'
                   go_simp
                   with_reducible rfl
                  rotate_left
                  ·simp only [Act.put, List.setIfInBounds_toArray, List.set_cons_zero, List.set_cons_succ, i64_w, i32_w]
                   rfl
                  refine pure_ (i := 20) (N := some 44) (v := ?_) (a' := ?_) (bLs 28 35651583) rfl rfl (any_of HT_.out (by kernel_rfl)) (fun _ _ _ h => h) (Or.inl ⟨by rfl, ?_⟩) ?_ ?_
                  rotate_left
                  ·intro w'
                   go_simp
                   with_reducible rfl
                  rotate_left
                  ·simp only [Act.put, List.setIfInBounds_toArray, List.set_cons_zero, List.set_cons_succ, i64_w, i32_w]
                   rfl
                  exact norm_ (by first | (simp only [putAll, Act.put, List.setIfInBounds_toArray, List.set_cons_zero, List.set_cons_succ]; done) | (simp only [putAll, Act.put, List.setIfInBounds_toArray, List.set_cons_zero, List.set_cons_succ]; rfl)) (hJ2_7_12_25 (gb132) _ ⟨hHeld, (by (with_reducible repeat (first | apply Kd.R_alloc | apply Kd.R_drewN | apply Kd.R_drew)); exact HO122.out), (by (with_reducible repeat (first | refine blk_drewN ?_ _ | refine blk_drew ?_ | refine blk_alloc ?_ _)); exact BK132.out), GW132.out, GE132.out, (by repeat (first | (with_reducible first | exact HB.out | apply below_alloc | apply pw_below_drewN | apply below_drew1 | refine below_set ?_ GE132.out) | exact HB.out))⟩)
                ·skip
                 rintro _ w32 ⟨hS_, h0_, h1_⟩
                 have n0_ : Aside0 (Kd.R Kd.string 9 w32 w.heap.size (fun _ => True) (.slice (some ad126) y120.length co27) y120) := ⟨h0_⟩
                 have n1_ : Aside0 (Below w.heap.size w w32) := ⟨h1_⟩
                 clear HO122
                 clear HB
                 clear h0_ h1_
                 have HO122 := n0_
                 have HB := n1_
                 clear n0_ n1_
                 have hHeld : w32.cell? (ad126.add ((ji17)).toNat) = some (.string (rdOf ByteArray.empty y120 (ji17))) := hS_
                 refine norm_ (a' := ?_) ?_ ?_
                 rotate_left
                 ·simp only [putAll, Act.put, List.setIfInBounds_toArray, List.set_cons_zero, List.set_cons_succ]
                  rfl
                 refine two_ (i := 21) (j := 25) (Ni := some 45) (Nj := some 13) (bLs 28 4194303) (bLs 28 35651583) rfl rfl rfl rfl (two_of HT_.out (by kernel_rfl)) (by decide) (by decide) (fun K hK => ?_) (fun K hK => ?_)
                 ·skip
                  refine goes_ Tryd.func15 (by kernel_rfl) rfl #[.string (((((((((⟨#[110, 111, 100, 101, 32, 102, 40, 97, 58, 32]⟩ : ByteArray) ++ t123) ++ (⟨#[44, 32, 98, 58, 32]⟩ : ByteArray)) ++ t124) ++ (⟨#[41, 32, 114, 101, 116, 117, 114, 110, 115, 32, 40, 121, 58, 32]⟩ : ByteArray)) ++ t125) ++ (⟨#[41, 32, 108, 101, 116, 32, 121, 32, 61, 32, 97, 32]⟩ : ByteArray)) ++ (rdOf ByteArray.empty y120 (ji17))) ++ (⟨#[32, 98, 59, 32, 116, 101, 108]⟩ : ByteArray))] (by rfl) rfl rfl (by (try simp only [List.map_toArray, List.map_cons, List.map_nil]); first | done | (simp only [hji17]; rfl) | rfl | (simp only [List.length_drop, List.length_take]; rfl)) ?_
                  with_reducible refine (parse_Program.calls (((((((((⟨#[110, 111, 100, 101, 32, 102, 40, 97, 58, 32]⟩ : ByteArray) ++ t123) ++ (⟨#[44, 32, 98, 58, 32]⟩ : ByteArray)) ++ t124) ++ (⟨#[41, 32, 114, 101, 116, 117, 114, 110, 115, 32, 40, 121, 58, 32]⟩ : ByteArray)) ++ t125) ++ (⟨#[41, 32, 108, 101, 116, 32, 121, 32, 61, 32, 97, 32]⟩ : ByteArray)) ++ (rdOf ByteArray.empty y120 (ji17))) ++ (⟨#[32, 98, 59, 32, 116, 101, 108]⟩ : ByteArray)) t127 t130 t131 _ A22.out ?side1).mono ?_
                  (case side1 => exact Tabs.below HT.out (by repeat (first | (with_reducible first | exact HB.out | apply below_alloc | apply pw_below_drewN | apply below_drew1) | exact HB.out)))
                  rintro e w33 ⟨v128, rfl, ho0, hb⟩
                  have HS0_ := (hb.cell (World.block_lt_of_cell? _ _ (hHeld))).trans (hHeld)
                  refine ⟨_, rfl, ?_⟩
                  have n0_ := Aside0.mk (Kd.R_below (by (with_reducible repeat (first | apply Kd.R_alloc | apply Kd.R_drewN | apply Kd.R_drew)); exact HO122.out) hb)
                  have n1_ := Aside0.mk (Kd.R_lower ho0 (below_size (by repeat (first | (with_reducible first | exact HB.out | apply below_alloc | apply pw_below_drewN | apply below_drew1) | exact HB.out))))
                  have n2_ := Aside0.mk (below_step (by repeat (first | (with_reducible first | exact HB.out | apply below_alloc | apply pw_below_drewN | apply below_drew1) | exact HB.out)) hb)
                  clear HO122
                  clear HB
                  have HO122 := n0_
                  have HO129 := n1_
                  have HB := n2_
                  clear n0_ n1_ n2_
                  (try clear hb)
                  (try clear hb2)
                  (try clear hk)
                  (try clear hi)
                  (try clear ho0)
                  refine hK.out _ _ (HS0_) (fun hHeld => ?_)
                  clear hK K
                  refine norm_ (a' := ?_) ?_ ?_
                  rotate_left
                  ·show Act.put _ (some 45) _ = _
                   simp only [Act.put, List.setIfInBounds_toArray, List.set_cons_zero, List.set_cons_succ, i64_w, i32_w]
                   rfl
                  refine pure_ (i := 22) (N := some 23) (v := ?_) (a' := ?_) (bLs 28 8388607) rfl rfl (any_of HT_.out (by kernel_rfl)) (fun _ _ _ h => h) (Or.inl ⟨by rfl, ?_⟩) ?_ ?_
                  rotate_left
                  ·intro w'
                   go_simp
                   with_reducible rfl
                  rotate_left
                  ·simp only [Act.put, List.setIfInBounds_toArray, List.set_cons_zero, List.set_cons_succ, i64_w, i32_w]
                   rfl
                  refine pure_ (i := 23) (N := some 46) (v := ?_) (a' := ?_) (bLs 28 16777215) rfl rfl (any_of HT_.out (by kernel_rfl)) (fun _ _ _ h => h) (Or.inl ⟨by rfl, ?_⟩) ?_ ?_
                  rotate_left
                  ·intro w'
                   go_simp
                   with_reducible rfl
                  rotate_left
                  ·simp only [Act.put, List.setIfInBounds_toArray, List.set_cons_zero, List.set_cons_succ, i64_w, i32_w]
                   rfl
                  refine pure_ (i := 24) (N := some 47) (v := ?_) (a' := ?_) (bLs 28 33554431) rfl rfl (any_of HT_.out (by kernel_rfl)) (fun _ _ _ h => h) (Or.inl ⟨by rfl, ?_⟩) ?_ ?_
                  rotate_left
                  ·intro w'
                   go_simp
                   with_reducible rfl
                  rotate_left
                  ·simp only [Act.put, List.setIfInBounds_toArray, List.set_cons_zero, List.set_cons_succ, i64_w, i32_w]
                   rfl
                  exact norm_ (by first | (simp only [putAll, Act.put, List.setIfInBounds_toArray, List.set_cons_zero, List.set_cons_succ]; done) | (simp only [putAll, Act.put, List.setIfInBounds_toArray, List.set_cons_zero, List.set_cons_succ]; rfl)) (hJ2_7_12_21 (v128) _ ⟨hHeld, (by (with_reducible repeat (first | apply Kd.R_alloc | apply Kd.R_drewN | apply Kd.R_drew)); exact HO122.out), (by (with_reducible repeat (first | apply Kd.R_alloc | apply Kd.R_drewN | apply Kd.R_drew)); exact HO129.out), (by repeat (first | (with_reducible first | exact HB.out | apply below_alloc | apply pw_below_drewN | apply below_drew1) | exact HB.out))⟩)
                 ·skip
                  refine box_step ?hg (N := 13) ?hd (cs := #[.int .i64 0, .int .i64 0]) (t := 27) ?hr ?_; (case hd => rfl); (case hg => rfl); (case hr => first | (go_simp; done) | (go_simp; rfl))
                  intro gb132 hg w33 hbox hb
                  have HS0_ := (hb.cell (World.block_lt_of_cell? _ _ (hHeld))).trans (hHeld)
                  have n0_ := Aside0.mk (Kd.R_below (by (with_reducible repeat (first | apply Kd.R_alloc | apply Kd.R_drewN | apply Kd.R_drew)); exact HO122.out) hb)
                  have n1_ := Aside0.mk (below_step (by repeat (first | (with_reducible first | exact HB.out | apply below_alloc | apply pw_below_drewN | apply below_drew1) | exact HB.out)) hb)
                  have n2_ := Aside0.mk (hbox)
                  have n3_ := Aside0.mk ((by rw [hg]; exact (below_size (by repeat (first | (with_reducible first | exact HB.out | apply below_alloc | apply pw_below_drewN | apply below_drew1) | exact HB.out))) : w.heap.size ≤ gb132))
                  have n4_ := Aside0.mk ((by rw [hg]; exact (below_size (by repeat (first | (with_reducible first | exact HB.out | apply below_alloc | apply pw_below_drewN | apply below_drew1) | exact HB.out))) : w.heap.size ≤ gb132))
                  clear HO122
                  clear HB
                  have HO122 := n0_
                  have HB := n1_
                  have BK132 := n2_
                  have GW132 := n3_
                  have GE132 := n4_
                  clear n0_ n1_ n2_ n3_ n4_
                  clear hb hbox hg
                  refine hK.out _ _ (HS0_) (fun hHeld => ?_)
                  clear hK K
                  refine norm_ (a' := ?_) ?_ ?_
                  rotate_left
                  ·show Act.put _ (some 13) _ = _
                   simp only [Act.put, List.setIfInBounds_toArray, List.set_cons_zero, List.set_cons_succ, i64_w, i32_w]
                   rfl
                  exact norm_ (by first | (simp only [putAll, Act.put, List.setIfInBounds_toArray, List.set_cons_zero, List.set_cons_succ]; done) | (simp only [putAll, Act.put, List.setIfInBounds_toArray, List.set_cons_zero, List.set_cons_succ]; rfl)) (hJ2_7_12_25 (gb132) _ ⟨hHeld, (by (with_reducible repeat (first | apply Kd.R_alloc | apply Kd.R_drewN | apply Kd.R_drew)); exact HO122.out), (by (with_reducible repeat (first | refine blk_drewN ?_ _ | refine blk_drew ?_ | refine blk_alloc ?_ _)); exact BK132.out), GW132.out, GE132.out, (by repeat (first | (with_reducible first | exact HB.out | apply below_alloc | apply pw_below_drewN | apply below_drew1 | refine below_set ?_ GE132.out) | exact HB.out))⟩)
               ·skip
                rintro gb132 w33 ⟨hS_, h0_, h1_, h2_, h3_, h4_⟩
                have n0_ : Aside0 (Kd.R Kd.string 9 w33 w.heap.size (fun _ => True) (.slice (some ad126) y120.length co27) y120) := ⟨h0_⟩
                have n1_ : Aside0 (w33.heap[gb132]? = some (.cells #[.int .i64 0, .int .i64 0] 27 (0, 0))) := ⟨h1_⟩
                have n2_ : Aside0 (w.heap.size ≤ gb132) := ⟨h2_⟩
                have n3_ : Aside0 (w.heap.size ≤ gb132) := ⟨h3_⟩
                have n4_ : Aside0 (Below w.heap.size w w33) := ⟨h4_⟩
                clear HO122
                clear HB
                clear h0_ h1_ h2_ h3_ h4_
                have HO122 := n0_
                have BK132 := n1_
                have GW132 := n2_
                have GE132 := n3_
                have HB := n4_
                clear n0_ n1_ n2_ n3_ n4_
                have hHeld : w33.cell? (ad126.add ((ji17)).toNat) = some (.string (rdOf ByteArray.empty y120 (ji17))) := hS_
                refine norm_ (a' := ?_) ?_ ?_
                rotate_left
                ·simp only [putAll, Act.put, List.setIfInBounds_toArray, List.set_cons_zero, List.set_cons_succ]
                 rfl
                refine one_ (i := 21) (N := some 45) (bLs 28 37748735) rfl rfl (one_of HT_.out (by kernel_rfl)) (by decide) (fun K hK => ?_)
                refine goes_ Tryd.func15 (by kernel_rfl) rfl #[.string (((((((((⟨#[110, 111, 100, 101, 32, 102, 40, 97, 58, 32]⟩ : ByteArray) ++ t123) ++ (⟨#[44, 32, 98, 58, 32]⟩ : ByteArray)) ++ t124) ++ (⟨#[41, 32, 114, 101, 116, 117, 114, 110, 115, 32, 40, 121, 58, 32]⟩ : ByteArray)) ++ t125) ++ (⟨#[41, 32, 108, 101, 116, 32, 121, 32, 61, 32, 97, 32]⟩ : ByteArray)) ++ (rdOf ByteArray.empty y120 (ji17))) ++ (⟨#[32, 98, 59, 32, 116, 101, 108]⟩ : ByteArray))] (by rfl) rfl rfl (by (try simp only [List.map_toArray, List.map_cons, List.map_nil]); first | done | (simp only [hji17]; rfl) | rfl | (simp only [List.length_drop, List.length_take]; rfl)) ?_
                with_reducible refine (parse_Program.calls (((((((((⟨#[110, 111, 100, 101, 32, 102, 40, 97, 58, 32]⟩ : ByteArray) ++ t123) ++ (⟨#[44, 32, 98, 58, 32]⟩ : ByteArray)) ++ t124) ++ (⟨#[41, 32, 114, 101, 116, 117, 114, 110, 115, 32, 40, 121, 58, 32]⟩ : ByteArray)) ++ t125) ++ (⟨#[41, 32, 108, 101, 116, 32, 121, 32, 61, 32, 97, 32]⟩ : ByteArray)) ++ (rdOf ByteArray.empty y120 (ji17))) ++ (⟨#[32, 98, 59, 32, 116, 101, 108]⟩ : ByteArray)) t127 t130 t131 _ A22.out ?side1).mono ?_
                (case side1 => exact Tabs.below HT.out (by repeat (first | (with_reducible first | exact HB.out | apply below_alloc | apply pw_below_drewN | apply below_drew1 | refine below_set ?_ GE132.out) | exact HB.out)))
                rintro e w34 ⟨v128, rfl, ho0, hb⟩
                have HS0_ := (hb.cell (World.block_lt_of_cell? _ _ (hHeld))).trans (hHeld)
                refine ⟨_, rfl, ?_⟩
                have n0_ := Aside0.mk (Kd.R_below (by (with_reducible repeat (first | apply Kd.R_alloc | apply Kd.R_drewN | apply Kd.R_drew)); exact HO122.out) hb)
                have n1_ := Aside0.mk (Kd.R_lower ho0 (below_size (by repeat (first | (with_reducible first | exact HB.out | apply below_alloc | apply pw_below_drewN | apply below_drew1 | refine below_set ?_ GE132.out) | exact HB.out))))
                have n2_ := Aside0.mk (blk_below (g := gb132) (o := .cells #[.int .i64 0, .int .i64 0] 27 (0, 0)) (by (with_reducible repeat (first | refine blk_drewN ?_ _ | refine blk_drew ?_ | refine blk_alloc ?_ _)); exact BK132.out) hb)
                have n3_ := Aside0.mk (below_step (by repeat (first | (with_reducible first | exact HB.out | apply below_alloc | apply pw_below_drewN | apply below_drew1 | refine below_set ?_ GE132.out) | exact HB.out)) hb)
                clear HO122
                clear BK132
                clear HB
                have HO122 := n0_
                have HO129 := n1_
                have BK132 := n2_
                have HB := n3_
                clear n0_ n1_ n2_ n3_
                (try clear hb)
                (try clear hb2)
                (try clear hk)
                (try clear hi)
                (try clear ho0)
                refine hK.out _ _ (HS0_) (fun hHeld => ?_)
                clear hK K
                refine norm_ (a' := ?_) ?_ ?_
                rotate_left
                ·show Act.put _ (some 45) _ = _
                 simp only [Act.put, List.setIfInBounds_toArray, List.set_cons_zero, List.set_cons_succ, i64_w, i32_w]
                 rfl
                refine pure_ (i := 22) (N := some 23) (v := ?_) (a' := ?_) (bLs 28 41943039) rfl rfl (any_of HT_.out (by kernel_rfl)) (fun _ _ _ h => h) (Or.inl ⟨by rfl, ?_⟩) ?_ ?_
                rotate_left
                ·intro w'
                 go_simp
                 with_reducible rfl
                rotate_left
                ·simp only [Act.put, List.setIfInBounds_toArray, List.set_cons_zero, List.set_cons_succ, i64_w, i32_w]
                 rfl
                refine pure_ (i := 23) (N := some 46) (v := ?_) (a' := ?_) (bLs 28 50331647) rfl rfl (any_of HT_.out (by kernel_rfl)) (fun _ _ _ h => h) (Or.inl ⟨by rfl, ?_⟩) ?_ ?_
                rotate_left
                ·intro w'
                 go_simp
                 with_reducible rfl
                rotate_left
                ·simp only [Act.put, List.setIfInBounds_toArray, List.set_cons_zero, List.set_cons_succ, i64_w, i32_w]
                 rfl
                refine pure_ (i := 24) (N := some 47) (v := ?_) (a' := ?_) (bLs 28 67108863) rfl rfl (any_of HT_.out (by kernel_rfl)) (fun _ _ _ h => h) (Or.inl ⟨by rfl, ?_⟩) ?_ ?_
                rotate_left
                ·intro w'
                 go_simp
                 with_reducible rfl
                rotate_left
                ·simp only [Act.put, List.setIfInBounds_toArray, List.set_cons_zero, List.set_cons_succ, i64_w, i32_w]
                 rfl
                exact norm_ (by first | (simp only [putAll, Act.put, List.setIfInBounds_toArray, List.set_cons_zero, List.set_cons_succ]; done) | (simp only [putAll, Act.put, List.setIfInBounds_toArray, List.set_cons_zero, List.set_cons_succ]; rfl)) (hJ2_7_12_21_25 (v128, gb132) _ ⟨hHeld, (by (with_reducible repeat (first | apply Kd.R_alloc | apply Kd.R_drewN | apply Kd.R_drew)); exact HO122.out), (by (with_reducible repeat (first | apply Kd.R_alloc | apply Kd.R_drewN | apply Kd.R_drew)); exact HO129.out), (by (with_reducible repeat (first | refine blk_drewN ?_ _ | refine blk_drew ?_ | refine blk_alloc ?_ _)); exact BK132.out), GW132.out, GE132.out, (by repeat (first | (with_reducible first | exact HB.out | apply below_alloc | apply pw_below_drewN | apply below_drew1 | refine below_set ?_ GE132.out) | exact HB.out))⟩)
              ·skip
               rintro v128 w33 ⟨hS_, h0_, h1_, h2_⟩
               have n0_ : Aside0 (Kd.R Kd.string 9 w33 w.heap.size (fun _ => True) (.slice (some ad126) y120.length co27) y120) := ⟨h0_⟩
               have n1_ : Aside0 (Kd.R k34 34 w33 w.heap.size (fun _ => True) v128 t127) := ⟨h1_⟩
               have n2_ : Aside0 (Below w.heap.size w w33) := ⟨h2_⟩
               clear HO122
               clear HB
               clear h0_ h1_ h2_
               have HO122 := n0_
               have HO129 := n1_
               have HB := n2_
               clear n0_ n1_ n2_
               have hHeld : w33.cell? (ad126.add ((ji17)).toNat) = some (.string (rdOf ByteArray.empty y120 (ji17))) := hS_
               refine norm_ (a' := ?_) ?_ ?_
               rotate_left
               ·simp only [putAll, Act.put, List.setIfInBounds_toArray, List.set_cons_zero, List.set_cons_succ]
                rfl
               refine one_ (i := 25) (N := some 13) (bLs 28 67108863) rfl rfl (one_of HT_.out (by kernel_rfl)) (by decide) (fun K hK => ?_)
               refine box_step ?hg (N := 13) ?hd (cs := #[.int .i64 0, .int .i64 0]) (t := 27) ?hr ?_; (case hd => rfl); (case hg => rfl); (case hr => first | (go_simp; done) | (go_simp; rfl))
               intro gb132 hg w34 hbox hb
               have HS0_ := (hb.cell (World.block_lt_of_cell? _ _ (hHeld))).trans (hHeld)
               have n0_ := Aside0.mk (Kd.R_below (by (with_reducible repeat (first | apply Kd.R_alloc | apply Kd.R_drewN | apply Kd.R_drew)); exact HO122.out) hb)
               have n1_ := Aside0.mk (Kd.R_below (by (with_reducible repeat (first | apply Kd.R_alloc | apply Kd.R_drewN | apply Kd.R_drew)); exact HO129.out) hb)
               have n2_ := Aside0.mk (below_step (by repeat (first | (with_reducible first | exact HB.out | apply below_alloc | apply pw_below_drewN | apply below_drew1) | exact HB.out)) hb)
               have n3_ := Aside0.mk (hbox)
               have n4_ := Aside0.mk ((by rw [hg]; exact (below_size (by repeat (first | (with_reducible first | exact HB.out | apply below_alloc | apply pw_below_drewN | apply below_drew1) | exact HB.out))) : w.heap.size ≤ gb132))
               have n5_ := Aside0.mk ((by rw [hg]; exact (below_size (by repeat (first | (with_reducible first | exact HB.out | apply below_alloc | apply pw_below_drewN | apply below_drew1) | exact HB.out))) : w.heap.size ≤ gb132))
               clear HO122
               clear HO129
               clear HB
               have HO122 := n0_
               have HO129 := n1_
               have HB := n2_
               have BK132 := n3_
               have GW132 := n4_
               have GE132 := n5_
               clear n0_ n1_ n2_ n3_ n4_ n5_
               clear hb hbox hg
               refine hK.out _ _ (HS0_) (fun hHeld => ?_)
               clear hK K
               refine norm_ (a' := ?_) ?_ ?_
               rotate_left
               ·show Act.put _ (some 13) _ = _
                simp only [Act.put, List.setIfInBounds_toArray, List.set_cons_zero, List.set_cons_succ, i64_w, i32_w]
                rfl
               exact norm_ (by first | (simp only [putAll, Act.put, List.setIfInBounds_toArray, List.set_cons_zero, List.set_cons_succ]; done) | (simp only [putAll, Act.put, List.setIfInBounds_toArray, List.set_cons_zero, List.set_cons_succ]; rfl)) (hJ2_7_12_21_25 (v128, gb132) _ ⟨hHeld, (by (with_reducible repeat (first | apply Kd.R_alloc | apply Kd.R_drewN | apply Kd.R_drew)); exact HO122.out), (by (with_reducible repeat (first | apply Kd.R_alloc | apply Kd.R_drewN | apply Kd.R_drew)); exact HO129.out), (by (with_reducible repeat (first | refine blk_drewN ?_ _ | refine blk_drew ?_ | refine blk_alloc ?_ _)); exact BK132.out), GW132.out, GE132.out, (by repeat (first | (with_reducible first | exact HB.out | apply below_alloc | apply pw_below_drewN | apply below_drew1 | refine below_set ?_ GE132.out) | exact HB.out))⟩)
             rintro ⟨v128, gb132⟩ w34 ⟨hS_, h0_, h1_, h2_, h3_, h4_, h5_⟩
             have n0_ : Aside0 (Kd.R Kd.string 9 w34 w.heap.size (fun _ => True) (.slice (some ad126) y120.length co27) y120) := ⟨h0_⟩
             have n1_ : Aside0 (Kd.R k34 34 w34 w.heap.size (fun _ => True) v128 t127) := ⟨h1_⟩
             have n2_ : Aside0 (w34.heap[gb132]? = some (.cells #[.int .i64 0, .int .i64 0] 27 (0, 0))) := ⟨h2_⟩
             have n3_ : Aside0 (w.heap.size ≤ gb132) := ⟨h3_⟩
             have n4_ : Aside0 (w.heap.size ≤ gb132) := ⟨h4_⟩
             have n5_ : Aside0 (Below w.heap.size w w34) := ⟨h5_⟩
             clear HO122
             clear HB
             clear h0_ h1_ h2_ h3_ h4_ h5_
             have HO122 := n0_
             have HO129 := n1_
             have BK132 := n2_
             have GW132 := n3_
             have GE132 := n4_
             have HB := n5_
             clear n0_ n1_ n2_ n3_ n4_ n5_
             have hHeld : w34.cell? (ad126.add ((ji17)).toNat) = some (.string (rdOf ByteArray.empty y120 (ji17))) := hS_
             refine norm_ (a' := ?_) ?_ ?_
             rotate_left
             ·simp only [putAll, Act.put, List.setIfInBounds_toArray, List.set_cons_zero, List.set_cons_succ]
              rfl
             refine pure_ (i := 26) (N := some 12) (v := ?_) (a' := ?_) (bLs 28 134217727) rfl rfl (any_of HT_.out (by kernel_rfl)) (fun _ _ _ h => h) (Or.inl ⟨by rfl, ?_⟩) ?_ ?_
             rotate_left
             ·intro w'
              go_simp
              with_reducible rfl
             rotate_left
             ·simp only [Act.put, List.setIfInBounds_toArray, List.set_cons_zero, List.set_cons_succ, i64_w, i32_w]
              rfl
             refine one_ (i := 27) (N := none) (bLs 28 268435455) rfl rfl (one_of HT_.out (by kernel_rfl)) (by decide) (fun K hK => ?_)
             have hs35 : w34.cell? ⟨gb132, 0, none⟩ = some (.int .i64 0) := (blk_cell BK132.out 0).trans rfl
             have hfs35 := blk_frozen BK132.out 0
             have hs36 : w34.cell? ⟨gb132, 1, none⟩ = some (.int .i64 0) := (blk_cell BK132.out 1).trans rfl
             have hfs36 := blk_frozen BK132.out 1
             refine skip_ (w1 := ?_) (by rfl) rfl ?_ ?_
             rotate_left
             ·go_simp
              rfl
             refine hK.out _ _ (((cell_far (p := ⟨gb132, _, none⟩) (by first | exact Kd.own_blk (Kd.R_ne HO122.out BK132.out (by decide)) | (rw [add_block]; exact Kd.own_blk (Kd.R_ne HO122.out BK132.out (by decide))) | (show (Addr.add _ _).block ≠ _; rw [add_block]; exact Kd.own_blk (Kd.R_ne HO122.out BK132.out (by decide))) | (dsimp only; exact Kd.own_blk (Kd.R_ne HO122.out BK132.out (by decide)))) _).trans (((cell_far (p := ⟨gb132, _, none⟩) (by first | exact Kd.own_blk (Kd.R_ne HO122.out BK132.out (by decide)) | (rw [add_block]; exact Kd.own_blk (Kd.R_ne HO122.out BK132.out (by decide))) | (show (Addr.add _ _).block ≠ _; rw [add_block]; exact Kd.own_blk (Kd.R_ne HO122.out BK132.out (by decide))) | (dsimp only; exact Kd.own_blk (Kd.R_ne HO122.out BK132.out (by decide)))) _).trans (hHeld))))) (fun hHeld => ?_)
             clear hK K
             refine done_ (done_of HT_.out (by kernel_rfl)) ?_
             go_upto_region 7 with (fail)
             go_cut [14] (fun v14 wc => ∃ (kq : Nat) (x14_22 : Bool), v14 = .bool x14_22 ∧ Aside0 (girandolelaw05_TypesRight.j0 kq a0 ji17 t127 x14_22 t130 t131 = some r) ∧ Aside0 (kq ≤ k) ∧ Aside0 (Kd.R k34 34 wc w.heap.size (fun _ => True) v128 t127) ∧ Aside0 (wc.heap[gb132]? = some (.cells #[.int .i64 t130, .int .i64 t131] 27 (0, 0))) ∧ Aside0 (Below w.heap.size w wc))
             case first =>
              have H := HC23.out
              clear HC23
              by_cases c37 : (a0 == a1) = true
              ·rw [if_pos c37] at H
               have c37b0 : (a0 == a1) = true := c37
               (try (have c37b1 : decide (a0 = a1) = true := by simpa using c37))
               (try (have c37b2 : (a0 == a1) = true := by simpa using c37))
               clear c37
               (first | rw [c37b0] | (simp only [i64_w, i32_w]; rw [c37b0]) | skip)
               have H' := Aside0.mk H
               clear H
               go_wp2
               go_meet
               case rel => exact ⟨_, ((a2 == (decide ((ji17) > 2)))), (by first | rfl | (simp; done) | (simp only [← hji17] <;> (first | rfl | simp)) | (simp [*]; done)), H', ⟨by first | omega | exact Nat.le_refl _⟩, ⟨by (with_reducible repeat (first | apply Kd.R_alloc | apply Kd.R_drewN | apply Kd.R_drew)); exact Kd.R_mono (Kd.R_far (p := ⟨gb132, 1, none⟩) (Kd.R_far (p := ⟨gb132, 0, none⟩) (Kd.R_types HO129.out BK132.out (by decide)) (fun _ hk => hk.2) (.int .i64 t130)) (fun _ hk => hk.2) (.int .i64 t131)) (fun _ hk => trivial)⟩, ⟨by (with_reducible repeat (first | refine blk_drewN ?_ _ | refine blk_drew ?_ | refine blk_alloc ?_ _)); refine blk_put (cs := #[.int .i64 t130, .int .i64 0]) ?_ 1 _ rfl; (with_reducible repeat (first | refine blk_drewN ?_ _ | refine blk_drew ?_ | refine blk_alloc ?_ _)); refine blk_put (cs := #[.int .i64 0, .int .i64 0]) ?_ 0 _ rfl; (with_reducible repeat (first | refine blk_drewN ?_ _ | refine blk_drew ?_ | refine blk_alloc ?_ _)); exact BK132.out⟩, ⟨by repeat (first | (with_reducible first | exact HB.out | apply below_alloc | apply pw_below_drewN | apply below_drew1 | refine below_set ?_ GE132.out) | exact HB.out)⟩⟩
              ·rw [if_neg c37] at H
               have c37b0 : (a0 == a1) = false := by simpa using c37
               (try (have c37b1 : decide (a0 = a1) = false := by simpa using c37))
               (try (have c37b2 : (a0 == a1) = false := by simpa using c37))
               (try (have c37b3 : ¬ (a0 = a1) := by simpa using c37))
               clear c37
               (first | rw [c37b0] | (simp only [i64_w, i32_w]; rw [c37b0]) | skip)
               have H' := Aside0.mk H
               clear H
               go_wp2
               go_meet
               case rel => exact ⟨_, (false), (by first | rfl | (simp; done) | (simp [*]; done)), H', ⟨by first | omega | exact Nat.le_refl _⟩, ⟨by (with_reducible repeat (first | apply Kd.R_alloc | apply Kd.R_drewN | apply Kd.R_drew)); exact Kd.R_mono (Kd.R_far (p := ⟨gb132, 1, none⟩) (Kd.R_far (p := ⟨gb132, 0, none⟩) (Kd.R_types HO129.out BK132.out (by decide)) (fun _ hk => hk.2) (.int .i64 t130)) (fun _ hk => hk.2) (.int .i64 t131)) (fun _ hk => trivial)⟩, ⟨by (with_reducible repeat (first | refine blk_drewN ?_ _ | refine blk_drew ?_ | refine blk_alloc ?_ _)); refine blk_put (cs := #[.int .i64 t130, .int .i64 0]) ?_ 1 _ rfl; (with_reducible repeat (first | refine blk_drewN ?_ _ | refine blk_drew ?_ | refine blk_alloc ?_ _)); refine blk_put (cs := #[.int .i64 0, .int .i64 0]) ?_ 0 _ rfl; (with_reducible repeat (first | refine blk_drewN ?_ _ | refine blk_drew ?_ | refine blk_alloc ?_ _)); exact BK132.out⟩, ⟨by repeat (first | (with_reducible first | exact HB.out | apply below_alloc | apply pw_below_drewN | apply below_drew1 | refine below_set ?_ GE132.out) | exact HB.out)⟩⟩
             case rest =>
              clear HC23
              try clear c1
              try clear p2
              try clear c3
              try clear c15
              try clear c33
              try clear c37
              try clear c37b0
              try clear c37b1
              try clear c37b2
              obtain ⟨kq, x14_22, rfl, HA, HJ22, HO_12, BK132, HB⟩ := hcut
              cases kq with
              | zero => exact absurd HA.out (by simp [girandolelaw05_TypesRight.j0])
              | succ kj22 =>
               have H := HA.out
               clear HA
               simp only [girandolelaw05_TypesRight.j0] at H
               by_cases c38 : ji17 < 7
               ·rw [if_pos c38] at H
                have c38b0 : decide (ji17 < 7) = true := decide_eq_true c38
                clear c38
                by_cases c39 : x14_22 = true
                ·subst c39
                 have H1 : (if ji17 > 8 then (if a0 = true then (if (t130 == 0 && (t131 == 0)) = true then ((types_Check.f t127).bind fun bt133 => (some ((bt133.1 == 0 && (bt133.2 == 0)) == false))) else (some false)) else (if (t130 == 0 && (t131 == 0)) = true then ((types_Check.f t127).bind fun bt135 => (some ((bt135.1 == 0 && (bt135.2 == 0)) == a0))) else (some false))) else (if (t130 == 0 && (t131 == 0)) = true then ((types_Check.f t127).bind fun bt137 => (some ((bt137.1 == 0 && (bt137.2 == 0)) == (!a0)))) else (some false))) = some r := by rw [if_pos rfl] at H; exact H
                 clear H
                 have H := H1
                 clear H1
                 by_cases c40 : ji17 > 8
                 ·rw [if_pos c40] at H
                  have c40b0 : decide (8 < ji17) = true := decide_eq_true c40
                  clear c40
                  by_cases c41 : a0 = true
                  ·subst c41
                   have H1 : (if (t130 == 0 && (t131 == 0)) = true then ((types_Check.f t127).bind fun bt133 => (some ((bt133.1 == 0 && (bt133.2 == 0)) == false))) else (some false)) = some r := by rw [if_pos rfl] at H; exact H
                   clear H
                   have H := H1
                   clear H1
                   by_cases c42 : (t130 == 0 && (t131 == 0)) = true
                   ·rw [if_pos c42] at H
                    have c42b0 : (t130 == 0 && (t131 == 0)) = true := c42
                    (try (have c42b1 : decide (t130 = 0 && (t131 == 0)) = true := by simpa using c42))
                    (try (have c42b2 : (t130 == 0 && (t131 == 0)) = true := by simpa using c42))
                    clear c42
                    replace H := Option.bind_eq_some_iff.mp H
                    obtain ⟨⟨t133, t134⟩, A430, H⟩ := H
                    try dsimp only at H
                    have A43 := Aside0.mk A430
                    clear A430
                    obtain rfl := Option.some.inj H
                    have hcz44_0 : wc.cell? ⟨gb132, 0, none⟩ = some (.int .i64 t130) := (blk_cell BK132.out 0).trans rfl
                    have hcz44_1 : wc.cell? ⟨gb132, 1, none⟩ = some (.int .i64 t131) := (blk_cell BK132.out 1).trans rfl
                    have hfz44_0 := blk_frozen BK132.out 0
                    have hfz44_1 := blk_frozen BK132.out 1
                    obtain ⟨Ao45, co45, eo45⟩ := Kd.R_slice HO_12.out
                    subst eo45
                    go_wp2_with (first | (go_at_call 32; (with_reducible refine (types_Check.calls _ _ t127 t133 t134 _ ?side1 ?side2 A43.out).mono ?_); (case side1 => repeat (first | exact (Kd.R_reads' HO_12.out).2.2 | (with_reducible refine Kd.C_alloc ?_ _) | (with_reducible refine Kd.C_drewN ?_ _) | (with_reducible refine Kd.C_drew ?_))); (case side2 => exact (Kd.R_reads' HO_12.out).2.1); rintro e w46 ⟨rfl, hb⟩; have n0_ := Aside0.mk (Kd.R_below (by (with_reducible repeat (first | apply Kd.R_alloc | apply Kd.R_drewN | apply Kd.R_drew)); exact HO_12.out) hb); have n1_ := Aside0.mk (blk_below (g := gb132) (o := .cells #[.int .i64 t130, .int .i64 t131] 27 (0, 0)) (by (with_reducible repeat (first | refine blk_drewN ?_ _ | refine blk_drew ?_ | refine blk_alloc ?_ _)); exact BK132.out) hb); have n2_ := Aside0.mk (below_step (by repeat (first | (with_reducible first | exact HB.out | apply below_alloc | apply pw_below_drewN | apply below_drew1 | refine below_set ?_ GE132.out) | exact HB.out)) hb); clear HO_12; clear BK132; clear HB; have HO_12 := n0_; have BK132 := n1_; have HB := n2_; clear n0_ n1_ n2_; (try clear hb); (try clear hb2); (try clear hk); (try clear hi)))
                    go_ret
                    exact ⟨by first | rfl | (simp [errW_none, errW_some] <;> rfl) | (simp only [← hji17]; first | rfl | (simp [errW_none, errW_some] <;> rfl)) | (simp [*, errW_none, errW_some] <;> rfl), by repeat (first | (with_reducible first | exact HB.out | apply below_alloc | apply pw_below_drewN | apply below_drew1 | refine below_set ?_ GE132.out) | exact HB.out)⟩
                   ·rw [if_neg c42] at H
                    have c42b0 : (t130 == 0 && (t131 == 0)) = false := by simpa using c42
                    (try (have c42b1 : decide (t130 = 0 && (t131 == 0)) = false := by simpa using c42))
                    (try (have c42b2 : (t130 == 0 && (t131 == 0)) = false := by simpa using c42))
                    (try (have c42b3 : ¬ (t130 = 0 && (t131 == 0)) := by simpa using c42))
                    clear c42
                    obtain rfl := Option.some.inj H
                    have hcz47_0 : wc.cell? ⟨gb132, 0, none⟩ = some (.int .i64 t130) := (blk_cell BK132.out 0).trans rfl
                    have hcz47_1 : wc.cell? ⟨gb132, 1, none⟩ = some (.int .i64 t131) := (blk_cell BK132.out 1).trans rfl
                    have hfz47_0 := blk_frozen BK132.out 0
                    have hfz47_1 := blk_frozen BK132.out 1
                    go_wp2
                    go_ret
                    exact ⟨by first | rfl | (simp [errW_none, errW_some] <;> rfl) | (simp only [← hji17]; first | rfl | (simp [errW_none, errW_some] <;> rfl)) | (simp [*, errW_none, errW_some] <;> rfl), by repeat (first | (with_reducible first | exact HB.out | apply below_alloc | apply pw_below_drewN | apply below_drew1 | refine below_set ?_ GE132.out) | exact HB.out)⟩
                  ·replace c41 := Bool.eq_false_iff.mpr c41
                   subst c41
                   have H1 : (if (t130 == 0 && (t131 == 0)) = true then ((types_Check.f t127).bind fun bt135 => (some ((bt135.1 == 0 && (bt135.2 == 0)) == false))) else (some false)) = some r := by rw [if_neg (show ¬ (false = true) by decide)] at H; exact H
                   clear H
                   have H := H1
                   clear H1
                   by_cases c48 : (t130 == 0 && (t131 == 0)) = true
                   ·rw [if_pos c48] at H
                    have c48b0 : (t130 == 0 && (t131 == 0)) = true := c48
                    (try (have c48b1 : decide (t130 = 0 && (t131 == 0)) = true := by simpa using c48))
                    (try (have c48b2 : (t130 == 0 && (t131 == 0)) = true := by simpa using c48))
                    clear c48
                    replace H := Option.bind_eq_some_iff.mp H
                    obtain ⟨⟨t135, t136⟩, A490, H⟩ := H
                    try dsimp only at H
                    have A49 := Aside0.mk A490
                    clear A490
                    obtain rfl := Option.some.inj H
                    have hcz50_0 : wc.cell? ⟨gb132, 0, none⟩ = some (.int .i64 t130) := (blk_cell BK132.out 0).trans rfl
                    have hcz50_1 : wc.cell? ⟨gb132, 1, none⟩ = some (.int .i64 t131) := (blk_cell BK132.out 1).trans rfl
                    have hfz50_0 := blk_frozen BK132.out 0
                    have hfz50_1 := blk_frozen BK132.out 1
                    obtain ⟨Ao51, co51, eo51⟩ := Kd.R_slice HO_12.out
                    subst eo51
                    go_wp2_with (first | (go_at_call 32; (with_reducible refine (types_Check.calls _ _ t127 t135 t136 _ ?side1 ?side2 A49.out).mono ?_); (case side1 => repeat (first | exact (Kd.R_reads' HO_12.out).2.2 | (with_reducible refine Kd.C_alloc ?_ _) | (with_reducible refine Kd.C_drewN ?_ _) | (with_reducible refine Kd.C_drew ?_))); (case side2 => exact (Kd.R_reads' HO_12.out).2.1); rintro e w52 ⟨rfl, hb⟩; have n0_ := Aside0.mk (Kd.R_below (by (with_reducible repeat (first | apply Kd.R_alloc | apply Kd.R_drewN | apply Kd.R_drew)); exact HO_12.out) hb); have n1_ := Aside0.mk (blk_below (g := gb132) (o := .cells #[.int .i64 t130, .int .i64 t131] 27 (0, 0)) (by (with_reducible repeat (first | refine blk_drewN ?_ _ | refine blk_drew ?_ | refine blk_alloc ?_ _)); exact BK132.out) hb); have n2_ := Aside0.mk (below_step (by repeat (first | (with_reducible first | exact HB.out | apply below_alloc | apply pw_below_drewN | apply below_drew1 | refine below_set ?_ GE132.out) | exact HB.out)) hb); clear HO_12; clear BK132; clear HB; have HO_12 := n0_; have BK132 := n1_; have HB := n2_; clear n0_ n1_ n2_; (try clear hb); (try clear hb2); (try clear hk); (try clear hi)))
                    go_ret
                    exact ⟨by first | rfl | (simp [errW_none, errW_some] <;> rfl) | (simp only [← hji17]; first | rfl | (simp [errW_none, errW_some] <;> rfl)) | (simp [*, errW_none, errW_some] <;> rfl), by repeat (first | (with_reducible first | exact HB.out | apply below_alloc | apply pw_below_drewN | apply below_drew1 | refine below_set ?_ GE132.out) | exact HB.out)⟩
                   ·rw [if_neg c48] at H
                    have c48b0 : (t130 == 0 && (t131 == 0)) = false := by simpa using c48
                    (try (have c48b1 : decide (t130 = 0 && (t131 == 0)) = false := by simpa using c48))
                    (try (have c48b2 : (t130 == 0 && (t131 == 0)) = false := by simpa using c48))
                    (try (have c48b3 : ¬ (t130 = 0 && (t131 == 0)) := by simpa using c48))
                    clear c48
                    obtain rfl := Option.some.inj H
                    have hcz53_0 : wc.cell? ⟨gb132, 0, none⟩ = some (.int .i64 t130) := (blk_cell BK132.out 0).trans rfl
                    have hcz53_1 : wc.cell? ⟨gb132, 1, none⟩ = some (.int .i64 t131) := (blk_cell BK132.out 1).trans rfl
                    have hfz53_0 := blk_frozen BK132.out 0
                    have hfz53_1 := blk_frozen BK132.out 1
                    go_wp2
                    go_ret
                    exact ⟨by first | rfl | (simp [errW_none, errW_some] <;> rfl) | (simp only [← hji17]; first | rfl | (simp [errW_none, errW_some] <;> rfl)) | (simp [*, errW_none, errW_some] <;> rfl), by repeat (first | (with_reducible first | exact HB.out | apply below_alloc | apply pw_below_drewN | apply below_drew1 | refine below_set ?_ GE132.out) | exact HB.out)⟩
                 ·rw [if_neg c40] at H
                  have c40b0 : decide (8 < ji17) = false := decide_eq_false c40
                  clear c40
                  by_cases c54 : (t130 == 0 && (t131 == 0)) = true
                  ·rw [if_pos c54] at H
                   have c54b0 : (t130 == 0 && (t131 == 0)) = true := c54
                   (try (have c54b1 : decide (t130 = 0 && (t131 == 0)) = true := by simpa using c54))
                   (try (have c54b2 : (t130 == 0 && (t131 == 0)) = true := by simpa using c54))
                   clear c54
                   replace H := Option.bind_eq_some_iff.mp H
                   obtain ⟨⟨t137, t138⟩, A550, H⟩ := H
                   try dsimp only at H
                   have A55 := Aside0.mk A550
                   clear A550
                   obtain rfl := Option.some.inj H
                   have hcz56_0 : wc.cell? ⟨gb132, 0, none⟩ = some (.int .i64 t130) := (blk_cell BK132.out 0).trans rfl
                   have hcz56_1 : wc.cell? ⟨gb132, 1, none⟩ = some (.int .i64 t131) := (blk_cell BK132.out 1).trans rfl
                   have hfz56_0 := blk_frozen BK132.out 0
                   have hfz56_1 := blk_frozen BK132.out 1
                   obtain ⟨Ao57, co57, eo57⟩ := Kd.R_slice HO_12.out
                   subst eo57
                   go_wp2_with (first | (go_at_call 32; (with_reducible refine (types_Check.calls _ _ t127 t137 t138 _ ?side1 ?side2 A55.out).mono ?_); (case side1 => repeat (first | exact (Kd.R_reads' HO_12.out).2.2 | (with_reducible refine Kd.C_alloc ?_ _) | (with_reducible refine Kd.C_drewN ?_ _) | (with_reducible refine Kd.C_drew ?_))); (case side2 => exact (Kd.R_reads' HO_12.out).2.1); rintro e w58 ⟨rfl, hb⟩; have n0_ := Aside0.mk (Kd.R_below (by (with_reducible repeat (first | apply Kd.R_alloc | apply Kd.R_drewN | apply Kd.R_drew)); exact HO_12.out) hb); have n1_ := Aside0.mk (blk_below (g := gb132) (o := .cells #[.int .i64 t130, .int .i64 t131] 27 (0, 0)) (by (with_reducible repeat (first | refine blk_drewN ?_ _ | refine blk_drew ?_ | refine blk_alloc ?_ _)); exact BK132.out) hb); have n2_ := Aside0.mk (below_step (by repeat (first | (with_reducible first | exact HB.out | apply below_alloc | apply pw_below_drewN | apply below_drew1 | refine below_set ?_ GE132.out) | exact HB.out)) hb); clear HO_12; clear BK132; clear HB; have HO_12 := n0_; have BK132 := n1_; have HB := n2_; clear n0_ n1_ n2_; (try clear hb); (try clear hb2); (try clear hk); (try clear hi)))
                   go_ret
                   exact ⟨by first | rfl | (simp [errW_none, errW_some] <;> rfl) | (simp only [← hji17]; first | rfl | (simp [errW_none, errW_some] <;> rfl)) | (simp [*, errW_none, errW_some] <;> rfl), by repeat (first | (with_reducible first | exact HB.out | apply below_alloc | apply pw_below_drewN | apply below_drew1 | refine below_set ?_ GE132.out) | exact HB.out)⟩
                  ·rw [if_neg c54] at H
                   have c54b0 : (t130 == 0 && (t131 == 0)) = false := by simpa using c54
                   (try (have c54b1 : decide (t130 = 0 && (t131 == 0)) = false := by simpa using c54))
                   (try (have c54b2 : (t130 == 0 && (t131 == 0)) = false := by simpa using c54))
                   (try (have c54b3 : ¬ (t130 = 0 && (t131 == 0)) := by simpa using c54))
                   clear c54
                   obtain rfl := Option.some.inj H
                   have hcz59_0 : wc.cell? ⟨gb132, 0, none⟩ = some (.int .i64 t130) := (blk_cell BK132.out 0).trans rfl
                   have hcz59_1 : wc.cell? ⟨gb132, 1, none⟩ = some (.int .i64 t131) := (blk_cell BK132.out 1).trans rfl
                   have hfz59_0 := blk_frozen BK132.out 0
                   have hfz59_1 := blk_frozen BK132.out 1
                   go_wp2
                   go_ret
                   exact ⟨by first | rfl | (simp [errW_none, errW_some] <;> rfl) | (simp only [← hji17]; first | rfl | (simp [errW_none, errW_some] <;> rfl)) | (simp [*, errW_none, errW_some] <;> rfl), by repeat (first | (with_reducible first | exact HB.out | apply below_alloc | apply pw_below_drewN | apply below_drew1 | refine below_set ?_ GE132.out) | exact HB.out)⟩
                ·replace c39 := Bool.eq_false_iff.mpr c39
                 subst c39
                 have H1 : (if ji17 > 8 then (if (t130 == 0 && (t131 == 0)) = true then ((types_Check.f t127).bind fun bt139 => (some ((bt139.1 == 0 && (bt139.2 == 0)) == false))) else (some false)) else (if (t130 == 0 && (t131 == 0)) = true then ((types_Check.f t127).bind fun bt141 => (some ((bt141.1 == 0 && (bt141.2 == 0)) == false))) else (some false))) = some r := by rw [if_neg (show ¬ (false = true) by decide)] at H; exact H
                 clear H
                 have H := H1
                 clear H1
                 by_cases c60 : ji17 > 8
                 ·rw [if_pos c60] at H
                  have c60b0 : decide (8 < ji17) = true := decide_eq_true c60
                  clear c60
                  by_cases c61 : (t130 == 0 && (t131 == 0)) = true
                  ·rw [if_pos c61] at H
                   have c61b0 : (t130 == 0 && (t131 == 0)) = true := c61
                   (try (have c61b1 : decide (t130 = 0 && (t131 == 0)) = true := by simpa using c61))
                   (try (have c61b2 : (t130 == 0 && (t131 == 0)) = true := by simpa using c61))
                   clear c61
                   replace H := Option.bind_eq_some_iff.mp H
                   obtain ⟨⟨t139, t140⟩, A620, H⟩ := H
                   try dsimp only at H
                   have A62 := Aside0.mk A620
                   clear A620
                   obtain rfl := Option.some.inj H
                   have hcz63_0 : wc.cell? ⟨gb132, 0, none⟩ = some (.int .i64 t130) := (blk_cell BK132.out 0).trans rfl
                   have hcz63_1 : wc.cell? ⟨gb132, 1, none⟩ = some (.int .i64 t131) := (blk_cell BK132.out 1).trans rfl
                   have hfz63_0 := blk_frozen BK132.out 0
                   have hfz63_1 := blk_frozen BK132.out 1
                   obtain ⟨Ao64, co64, eo64⟩ := Kd.R_slice HO_12.out
                   subst eo64
                   go_wp2_with (first | (go_at_call 32; (with_reducible refine (types_Check.calls _ _ t127 t139 t140 _ ?side1 ?side2 A62.out).mono ?_); (case side1 => repeat (first | exact (Kd.R_reads' HO_12.out).2.2 | (with_reducible refine Kd.C_alloc ?_ _) | (with_reducible refine Kd.C_drewN ?_ _) | (with_reducible refine Kd.C_drew ?_))); (case side2 => exact (Kd.R_reads' HO_12.out).2.1); rintro e w65 ⟨rfl, hb⟩; have n0_ := Aside0.mk (Kd.R_below (by (with_reducible repeat (first | apply Kd.R_alloc | apply Kd.R_drewN | apply Kd.R_drew)); exact HO_12.out) hb); have n1_ := Aside0.mk (blk_below (g := gb132) (o := .cells #[.int .i64 t130, .int .i64 t131] 27 (0, 0)) (by (with_reducible repeat (first | refine blk_drewN ?_ _ | refine blk_drew ?_ | refine blk_alloc ?_ _)); exact BK132.out) hb); have n2_ := Aside0.mk (below_step (by repeat (first | (with_reducible first | exact HB.out | apply below_alloc | apply pw_below_drewN | apply below_drew1 | refine below_set ?_ GE132.out) | exact HB.out)) hb); clear HO_12; clear BK132; clear HB; have HO_12 := n0_; have BK132 := n1_; have HB := n2_; clear n0_ n1_ n2_; (try clear hb); (try clear hb2); (try clear hk); (try clear hi)))
                   go_ret
                   exact ⟨by first | rfl | (simp [errW_none, errW_some] <;> rfl) | (simp only [← hji17]; first | rfl | (simp [errW_none, errW_some] <;> rfl)) | (simp [*, errW_none, errW_some] <;> rfl), by repeat (first | (with_reducible first | exact HB.out | apply below_alloc | apply pw_below_drewN | apply below_drew1 | refine below_set ?_ GE132.out) | exact HB.out)⟩
                  ·rw [if_neg c61] at H
                   have c61b0 : (t130 == 0 && (t131 == 0)) = false := by simpa using c61
                   (try (have c61b1 : decide (t130 = 0 && (t131 == 0)) = false := by simpa using c61))
                   (try (have c61b2 : (t130 == 0 && (t131 == 0)) = false := by simpa using c61))
                   (try (have c61b3 : ¬ (t130 = 0 && (t131 == 0)) := by simpa using c61))
                   clear c61
                   obtain rfl := Option.some.inj H
                   have hcz66_0 : wc.cell? ⟨gb132, 0, none⟩ = some (.int .i64 t130) := (blk_cell BK132.out 0).trans rfl
                   have hcz66_1 : wc.cell? ⟨gb132, 1, none⟩ = some (.int .i64 t131) := (blk_cell BK132.out 1).trans rfl
                   have hfz66_0 := blk_frozen BK132.out 0
                   have hfz66_1 := blk_frozen BK132.out 1
                   go_wp2
                   go_ret
                   exact ⟨by first | rfl | (simp [errW_none, errW_some] <;> rfl) | (simp only [← hji17]; first | rfl | (simp [errW_none, errW_some] <;> rfl)) | (simp [*, errW_none, errW_some] <;> rfl), by repeat (first | (with_reducible first | exact HB.out | apply below_alloc | apply pw_below_drewN | apply below_drew1 | refine below_set ?_ GE132.out) | exact HB.out)⟩
                 ·rw [if_neg c60] at H
                  have c60b0 : decide (8 < ji17) = false := decide_eq_false c60
                  clear c60
                  by_cases c67 : (t130 == 0 && (t131 == 0)) = true
                  ·rw [if_pos c67] at H
                   have c67b0 : (t130 == 0 && (t131 == 0)) = true := c67
                   (try (have c67b1 : decide (t130 = 0 && (t131 == 0)) = true := by simpa using c67))
                   (try (have c67b2 : (t130 == 0 && (t131 == 0)) = true := by simpa using c67))
                   clear c67
                   replace H := Option.bind_eq_some_iff.mp H
                   obtain ⟨⟨t141, t142⟩, A680, H⟩ := H
                   try dsimp only at H
                   have A68 := Aside0.mk A680
                   clear A680
                   obtain rfl := Option.some.inj H
                   have hcz69_0 : wc.cell? ⟨gb132, 0, none⟩ = some (.int .i64 t130) := (blk_cell BK132.out 0).trans rfl
                   have hcz69_1 : wc.cell? ⟨gb132, 1, none⟩ = some (.int .i64 t131) := (blk_cell BK132.out 1).trans rfl
                   have hfz69_0 := blk_frozen BK132.out 0
                   have hfz69_1 := blk_frozen BK132.out 1
                   obtain ⟨Ao70, co70, eo70⟩ := Kd.R_slice HO_12.out
                   subst eo70
                   go_wp2_with (first | (go_at_call 32; (with_reducible refine (types_Check.calls _ _ t127 t141 t142 _ ?side1 ?side2 A68.out).mono ?_); (case side1 => repeat (first | exact (Kd.R_reads' HO_12.out).2.2 | (with_reducible refine Kd.C_alloc ?_ _) | (with_reducible refine Kd.C_drewN ?_ _) | (with_reducible refine Kd.C_drew ?_))); (case side2 => exact (Kd.R_reads' HO_12.out).2.1); rintro e w71 ⟨rfl, hb⟩; have n0_ := Aside0.mk (Kd.R_below (by (with_reducible repeat (first | apply Kd.R_alloc | apply Kd.R_drewN | apply Kd.R_drew)); exact HO_12.out) hb); have n1_ := Aside0.mk (blk_below (g := gb132) (o := .cells #[.int .i64 t130, .int .i64 t131] 27 (0, 0)) (by (with_reducible repeat (first | refine blk_drewN ?_ _ | refine blk_drew ?_ | refine blk_alloc ?_ _)); exact BK132.out) hb); have n2_ := Aside0.mk (below_step (by repeat (first | (with_reducible first | exact HB.out | apply below_alloc | apply pw_below_drewN | apply below_drew1 | refine below_set ?_ GE132.out) | exact HB.out)) hb); clear HO_12; clear BK132; clear HB; have HO_12 := n0_; have BK132 := n1_; have HB := n2_; clear n0_ n1_ n2_; (try clear hb); (try clear hb2); (try clear hk); (try clear hi)))
                   go_ret
                   exact ⟨by first | rfl | (simp [errW_none, errW_some] <;> rfl) | (simp only [← hji17]; first | rfl | (simp [errW_none, errW_some] <;> rfl)) | (simp [*, errW_none, errW_some] <;> rfl), by repeat (first | (with_reducible first | exact HB.out | apply below_alloc | apply pw_below_drewN | apply below_drew1 | refine below_set ?_ GE132.out) | exact HB.out)⟩
                  ·rw [if_neg c67] at H
                   have c67b0 : (t130 == 0 && (t131 == 0)) = false := by simpa using c67
                   (try (have c67b1 : decide (t130 = 0 && (t131 == 0)) = false := by simpa using c67))
                   (try (have c67b2 : (t130 == 0 && (t131 == 0)) = false := by simpa using c67))
                   (try (have c67b3 : ¬ (t130 = 0 && (t131 == 0)) := by simpa using c67))
                   clear c67
                   obtain rfl := Option.some.inj H
                   have hcz72_0 : wc.cell? ⟨gb132, 0, none⟩ = some (.int .i64 t130) := (blk_cell BK132.out 0).trans rfl
                   have hcz72_1 : wc.cell? ⟨gb132, 1, none⟩ = some (.int .i64 t131) := (blk_cell BK132.out 1).trans rfl
                   have hfz72_0 := blk_frozen BK132.out 0
                   have hfz72_1 := blk_frozen BK132.out 1
                   go_wp2
                   go_ret
                   exact ⟨by first | rfl | (simp [errW_none, errW_some] <;> rfl) | (simp only [← hji17]; first | rfl | (simp [errW_none, errW_some] <;> rfl)) | (simp [*, errW_none, errW_some] <;> rfl), by repeat (first | (with_reducible first | exact HB.out | apply below_alloc | apply pw_below_drewN | apply below_drew1 | refine below_set ?_ GE132.out) | exact HB.out)⟩
               ·rw [if_neg c38] at H
                have c38b0 : decide (ji17 < 7) = false := decide_eq_false c38
                clear c38
                by_cases c73 : ji17 > 8
                ·rw [if_pos c73] at H
                 have c73b0 : decide (8 < ji17) = true := decide_eq_true c73
                 clear c73
                 by_cases c74 : x14_22 = true
                 ·subst c74
                  have H1 : (if (t130 == 0 && (t131 == 0)) = true then ((types_Check.f t127).bind fun bt143 => (some ((bt143.1 == 0 && (bt143.2 == 0)) == a0))) else (some false)) = some r := by rw [if_pos rfl] at H; exact H
                  clear H
                  have H := H1
                  clear H1
                  by_cases c75 : (t130 == 0 && (t131 == 0)) = true
                  ·rw [if_pos c75] at H
                   have c75b0 : (t130 == 0 && (t131 == 0)) = true := c75
                   (try (have c75b1 : decide (t130 = 0 && (t131 == 0)) = true := by simpa using c75))
                   (try (have c75b2 : (t130 == 0 && (t131 == 0)) = true := by simpa using c75))
                   clear c75
                   replace H := Option.bind_eq_some_iff.mp H
                   obtain ⟨⟨t143, t144⟩, A760, H⟩ := H
                   try dsimp only at H
                   have A76 := Aside0.mk A760
                   clear A760
                   obtain rfl := Option.some.inj H
                   have hcz77_0 : wc.cell? ⟨gb132, 0, none⟩ = some (.int .i64 t130) := (blk_cell BK132.out 0).trans rfl
                   have hcz77_1 : wc.cell? ⟨gb132, 1, none⟩ = some (.int .i64 t131) := (blk_cell BK132.out 1).trans rfl
                   have hfz77_0 := blk_frozen BK132.out 0
                   have hfz77_1 := blk_frozen BK132.out 1
                   obtain ⟨Ao78, co78, eo78⟩ := Kd.R_slice HO_12.out
                   subst eo78
                   go_wp2_with (first | (go_at_call 32; (with_reducible refine (types_Check.calls _ _ t127 t143 t144 _ ?side1 ?side2 A76.out).mono ?_); (case side1 => repeat (first | exact (Kd.R_reads' HO_12.out).2.2 | (with_reducible refine Kd.C_alloc ?_ _) | (with_reducible refine Kd.C_drewN ?_ _) | (with_reducible refine Kd.C_drew ?_))); (case side2 => exact (Kd.R_reads' HO_12.out).2.1); rintro e w79 ⟨rfl, hb⟩; have n0_ := Aside0.mk (Kd.R_below (by (with_reducible repeat (first | apply Kd.R_alloc | apply Kd.R_drewN | apply Kd.R_drew)); exact HO_12.out) hb); have n1_ := Aside0.mk (blk_below (g := gb132) (o := .cells #[.int .i64 t130, .int .i64 t131] 27 (0, 0)) (by (with_reducible repeat (first | refine blk_drewN ?_ _ | refine blk_drew ?_ | refine blk_alloc ?_ _)); exact BK132.out) hb); have n2_ := Aside0.mk (below_step (by repeat (first | (with_reducible first | exact HB.out | apply below_alloc | apply pw_below_drewN | apply below_drew1 | refine below_set ?_ GE132.out) | exact HB.out)) hb); clear HO_12; clear BK132; clear HB; have HO_12 := n0_; have BK132 := n1_; have HB := n2_; clear n0_ n1_ n2_; (try clear hb); (try clear hb2); (try clear hk); (try clear hi)))
                   go_ret
                   exact ⟨by first | rfl | (simp [errW_none, errW_some] <;> rfl) | (simp only [← hji17]; first | rfl | (simp [errW_none, errW_some] <;> rfl)) | (simp [*, errW_none, errW_some] <;> rfl), by repeat (first | (with_reducible first | exact HB.out | apply below_alloc | apply pw_below_drewN | apply below_drew1 | refine below_set ?_ GE132.out) | exact HB.out)⟩
                  ·rw [if_neg c75] at H
                   have c75b0 : (t130 == 0 && (t131 == 0)) = false := by simpa using c75
                   (try (have c75b1 : decide (t130 = 0 && (t131 == 0)) = false := by simpa using c75))
                   (try (have c75b2 : (t130 == 0 && (t131 == 0)) = false := by simpa using c75))
                   (try (have c75b3 : ¬ (t130 = 0 && (t131 == 0)) := by simpa using c75))
                   clear c75
                   obtain rfl := Option.some.inj H
                   have hcz80_0 : wc.cell? ⟨gb132, 0, none⟩ = some (.int .i64 t130) := (blk_cell BK132.out 0).trans rfl
                   have hcz80_1 : wc.cell? ⟨gb132, 1, none⟩ = some (.int .i64 t131) := (blk_cell BK132.out 1).trans rfl
                   have hfz80_0 := blk_frozen BK132.out 0
                   have hfz80_1 := blk_frozen BK132.out 1
                   go_wp2
                   go_ret
                   exact ⟨by first | rfl | (simp [errW_none, errW_some] <;> rfl) | (simp only [← hji17]; first | rfl | (simp [errW_none, errW_some] <;> rfl)) | (simp [*, errW_none, errW_some] <;> rfl), by repeat (first | (with_reducible first | exact HB.out | apply below_alloc | apply pw_below_drewN | apply below_drew1 | refine below_set ?_ GE132.out) | exact HB.out)⟩
                 ·replace c74 := Bool.eq_false_iff.mpr c74
                  subst c74
                  have H1 : (if (t130 == 0 && (t131 == 0)) = true then ((types_Check.f t127).bind fun bt145 => (some ((bt145.1 == 0 && (bt145.2 == 0)) == false))) else (some false)) = some r := by rw [if_neg (show ¬ (false = true) by decide)] at H; exact H
                  clear H
                  have H := H1
                  clear H1
                  by_cases c81 : (t130 == 0 && (t131 == 0)) = true
                  ·rw [if_pos c81] at H
                   have c81b0 : (t130 == 0 && (t131 == 0)) = true := c81
                   (try (have c81b1 : decide (t130 = 0 && (t131 == 0)) = true := by simpa using c81))
                   (try (have c81b2 : (t130 == 0 && (t131 == 0)) = true := by simpa using c81))
                   clear c81
                   replace H := Option.bind_eq_some_iff.mp H
                   obtain ⟨⟨t145, t146⟩, A820, H⟩ := H
                   try dsimp only at H
                   have A82 := Aside0.mk A820
                   clear A820
                   obtain rfl := Option.some.inj H
                   have hcz83_0 : wc.cell? ⟨gb132, 0, none⟩ = some (.int .i64 t130) := (blk_cell BK132.out 0).trans rfl
                   have hcz83_1 : wc.cell? ⟨gb132, 1, none⟩ = some (.int .i64 t131) := (blk_cell BK132.out 1).trans rfl
                   have hfz83_0 := blk_frozen BK132.out 0
                   have hfz83_1 := blk_frozen BK132.out 1
                   obtain ⟨Ao84, co84, eo84⟩ := Kd.R_slice HO_12.out
                   subst eo84
                   go_wp2_with (first | (go_at_call 32; (with_reducible refine (types_Check.calls _ _ t127 t145 t146 _ ?side1 ?side2 A82.out).mono ?_); (case side1 => repeat (first | exact (Kd.R_reads' HO_12.out).2.2 | (with_reducible refine Kd.C_alloc ?_ _) | (with_reducible refine Kd.C_drewN ?_ _) | (with_reducible refine Kd.C_drew ?_))); (case side2 => exact (Kd.R_reads' HO_12.out).2.1); rintro e w85 ⟨rfl, hb⟩; have n0_ := Aside0.mk (Kd.R_below (by (with_reducible repeat (first | apply Kd.R_alloc | apply Kd.R_drewN | apply Kd.R_drew)); exact HO_12.out) hb); have n1_ := Aside0.mk (blk_below (g := gb132) (o := .cells #[.int .i64 t130, .int .i64 t131] 27 (0, 0)) (by (with_reducible repeat (first | refine blk_drewN ?_ _ | refine blk_drew ?_ | refine blk_alloc ?_ _)); exact BK132.out) hb); have n2_ := Aside0.mk (below_step (by repeat (first | (with_reducible first | exact HB.out | apply below_alloc | apply pw_below_drewN | apply below_drew1 | refine below_set ?_ GE132.out) | exact HB.out)) hb); clear HO_12; clear BK132; clear HB; have HO_12 := n0_; have BK132 := n1_; have HB := n2_; clear n0_ n1_ n2_; (try clear hb); (try clear hb2); (try clear hk); (try clear hi)))
                   go_ret
                   exact ⟨by first | rfl | (simp [errW_none, errW_some] <;> rfl) | (simp only [← hji17]; first | rfl | (simp [errW_none, errW_some] <;> rfl)) | (simp [*, errW_none, errW_some] <;> rfl), by repeat (first | (with_reducible first | exact HB.out | apply below_alloc | apply pw_below_drewN | apply below_drew1 | refine below_set ?_ GE132.out) | exact HB.out)⟩
                  ·rw [if_neg c81] at H
                   have c81b0 : (t130 == 0 && (t131 == 0)) = false := by simpa using c81
                   (try (have c81b1 : decide (t130 = 0 && (t131 == 0)) = false := by simpa using c81))
                   (try (have c81b2 : (t130 == 0 && (t131 == 0)) = false := by simpa using c81))
                   (try (have c81b3 : ¬ (t130 = 0 && (t131 == 0)) := by simpa using c81))
                   clear c81
                   obtain rfl := Option.some.inj H
                   have hcz86_0 : wc.cell? ⟨gb132, 0, none⟩ = some (.int .i64 t130) := (blk_cell BK132.out 0).trans rfl
                   have hcz86_1 : wc.cell? ⟨gb132, 1, none⟩ = some (.int .i64 t131) := (blk_cell BK132.out 1).trans rfl
                   have hfz86_0 := blk_frozen BK132.out 0
                   have hfz86_1 := blk_frozen BK132.out 1
                   go_wp2
                   go_ret
                   exact ⟨by first | rfl | (simp [errW_none, errW_some] <;> rfl) | (simp only [← hji17]; first | rfl | (simp [errW_none, errW_some] <;> rfl)) | (simp [*, errW_none, errW_some] <;> rfl), by repeat (first | (with_reducible first | exact HB.out | apply below_alloc | apply pw_below_drewN | apply below_drew1 | refine below_set ?_ GE132.out) | exact HB.out)⟩
                ·rw [if_neg c73] at H
                 have c73b0 : decide (8 < ji17) = false := decide_eq_false c73
                 clear c73
                 by_cases c87 : (t130 == 0 && (t131 == 0)) = true
                 ·rw [if_pos c87] at H
                  have c87b0 : (t130 == 0 && (t131 == 0)) = true := c87
                  (try (have c87b1 : decide (t130 = 0 && (t131 == 0)) = true := by simpa using c87))
                  (try (have c87b2 : (t130 == 0 && (t131 == 0)) = true := by simpa using c87))
                  clear c87
                  replace H := Option.bind_eq_some_iff.mp H
                  obtain ⟨⟨t147, t148⟩, A880, H⟩ := H
                  try dsimp only at H
                  have A88 := Aside0.mk A880
                  clear A880
                  obtain rfl := Option.some.inj H
                  have hcz89_0 : wc.cell? ⟨gb132, 0, none⟩ = some (.int .i64 t130) := (blk_cell BK132.out 0).trans rfl
                  have hcz89_1 : wc.cell? ⟨gb132, 1, none⟩ = some (.int .i64 t131) := (blk_cell BK132.out 1).trans rfl
                  have hfz89_0 := blk_frozen BK132.out 0
                  have hfz89_1 := blk_frozen BK132.out 1
                  obtain ⟨Ao90, co90, eo90⟩ := Kd.R_slice HO_12.out
                  subst eo90
                  go_wp2_with (first | (go_at_call 32; (with_reducible refine (types_Check.calls _ _ t127 t147 t148 _ ?side1 ?side2 A88.out).mono ?_); (case side1 => repeat (first | exact (Kd.R_reads' HO_12.out).2.2 | (with_reducible refine Kd.C_alloc ?_ _) | (with_reducible refine Kd.C_drewN ?_ _) | (with_reducible refine Kd.C_drew ?_))); (case side2 => exact (Kd.R_reads' HO_12.out).2.1); rintro e w91 ⟨rfl, hb⟩; have n0_ := Aside0.mk (Kd.R_below (by (with_reducible repeat (first | apply Kd.R_alloc | apply Kd.R_drewN | apply Kd.R_drew)); exact HO_12.out) hb); have n1_ := Aside0.mk (blk_below (g := gb132) (o := .cells #[.int .i64 t130, .int .i64 t131] 27 (0, 0)) (by (with_reducible repeat (first | refine blk_drewN ?_ _ | refine blk_drew ?_ | refine blk_alloc ?_ _)); exact BK132.out) hb); have n2_ := Aside0.mk (below_step (by repeat (first | (with_reducible first | exact HB.out | apply below_alloc | apply pw_below_drewN | apply below_drew1 | refine below_set ?_ GE132.out) | exact HB.out)) hb); clear HO_12; clear BK132; clear HB; have HO_12 := n0_; have BK132 := n1_; have HB := n2_; clear n0_ n1_ n2_; (try clear hb); (try clear hb2); (try clear hk); (try clear hi)))
                  go_ret
                  exact ⟨by first | rfl | (simp [errW_none, errW_some] <;> rfl) | (simp only [← hji17]; first | rfl | (simp [errW_none, errW_some] <;> rfl)) | (simp [*, errW_none, errW_some] <;> rfl), by repeat (first | (with_reducible first | exact HB.out | apply below_alloc | apply pw_below_drewN | apply below_drew1 | refine below_set ?_ GE132.out) | exact HB.out)⟩
                 ·rw [if_neg c87] at H
                  have c87b0 : (t130 == 0 && (t131 == 0)) = false := by simpa using c87
                  (try (have c87b1 : decide (t130 = 0 && (t131 == 0)) = false := by simpa using c87))
                  (try (have c87b2 : (t130 == 0 && (t131 == 0)) = false := by simpa using c87))
                  (try (have c87b3 : ¬ (t130 = 0 && (t131 == 0)) := by simpa using c87))
                  clear c87
                  obtain rfl := Option.some.inj H
                  have hcz92_0 : wc.cell? ⟨gb132, 0, none⟩ = some (.int .i64 t130) := (blk_cell BK132.out 0).trans rfl
                  have hcz92_1 : wc.cell? ⟨gb132, 1, none⟩ = some (.int .i64 t131) := (blk_cell BK132.out 1).trans rfl
                  have hfz92_0 := blk_frozen BK132.out 0
                  have hfz92_1 := blk_frozen BK132.out 1
                  go_wp2
                  go_ret
                  exact ⟨by first | rfl | (simp [errW_none, errW_some] <;> rfl) | (simp only [← hji17]; first | rfl | (simp [errW_none, errW_some] <;> rfl)) | (simp [*, errW_none, errW_some] <;> rfl), by repeat (first | (with_reducible first | exact HB.out | apply below_alloc | apply pw_below_drewN | apply below_drew1 | refine below_set ?_ GE132.out) | exact HB.out)⟩
            ·rw [if_neg c21] at H
             exact absurd H (by simp)
           ·rw [if_neg c20] at H
            exact absurd H (by simp)
          ·rw [if_neg c19] at H
           exact absurd H (by simp)
         ·rw [if_neg c18] at H
          exact absurd H (by simp)
        ·rw [if_neg c16] at H
         exact absurd H (by simp)
       ·rw [if_neg c15] at H
        exact absurd H (by simp)
      ·rw [if_neg c13] at H
       exact absurd H (by simp)
     ·rw [if_neg c12] at H
      exact absurd H (by simp)
    ·rw [if_neg c10] at H
     exact absurd H (by simp)
   ·rw [if_neg c9] at H
    exact absurd H (by simp)
 ·replace c6 := Bool.eq_false_iff.mpr c6
  subst c6
  have H1 : (some false) = some r := by rw [if_neg (show ¬ (false = true) by decide)] at H; exact H
  clear H
  have H := H1
  clear H1
  obtain rfl := Option.some.inj H
  go_enter Tryd.func10, Tryd.ntmps10
  go_wp2_with (first | ((with_reducible refine gate_callee (f := 31) rfl ?_); refine goesL_ (some 15) rfl rfl Tryd.func31 (by kernel_rfl) rfl #[] rfl (by (try simp only [List.map_toArray, List.map_cons, List.map_nil]); first | done | rfl | (simp only [List.length_drop, List.length_take]; rfl)) ?_; (with_reducible refine (girandolelaw05_awake.calls  false _ A5.out ?side1).mono ?_); (case side1 => exact Tabs.below HT.out (by repeat (first | (with_reducible first | exact HB.out | apply below_alloc | apply pw_below_drewN | apply below_drew1) | exact HB.out))); rintro e w93 ⟨rfl, hb⟩; refine ⟨_, rfl, ?_⟩; have n0_ := Aside0.mk (below_step (by repeat (first | (with_reducible first | exact HB.out | apply below_alloc | apply pw_below_drewN | apply below_drew1) | exact HB.out)) hb); clear HB; have HB := n0_; clear n0_; (try clear hb); (try clear hb2); (try clear hk); (try clear hi)))
  go_ret
  exact ⟨by first | rfl | (simp [errW_none, errW_some] <;> rfl) | (simp [*, errW_none, errW_some] <;> rfl), by repeat (first | (with_reducible first | exact HB.out | apply below_alloc | apply pw_below_drewN | apply below_drew1) | exact HB.out)⟩
def girandolelaw05_TypesRight.Pure : Prop := ∀ (a0 : Bool) (a1 : Bool) (a2 : Bool) (a3 : Int), (Lit.int .i64 a3).wf = true → ∃ k, girandolelaw05_TypesRight.f k a0 a1 a2 a3 = some true
theorem girandolelaw05_TypesRight.walk (P : girandolelaw05_TypesRight.Pure) (a0 : Bool) (a1 : Bool) (a2 : Bool) (a3 : Int) (w : World) (w3 : (Lit.int .i64 a3).wf = true) (hT : Tabs w) :
  Calls Tryd.prog 10 #[.bool a0, .bool a1, .bool a2, .int .i64 a3] w fun e w' => e = .returned (.bool true) ∧ Below w.heap.size w w' := by
 obtain ⟨k, h⟩ := P a0 a1 a2 a3 w3
 refine (girandolelaw05_TypesRight.calls k a0 a1 a2 a3 true w h hT).mono ?_
 rintro e w' ⟨rfl, hd⟩
 exact ⟨rfl, hd⟩

end Go.Proofs.YtjafllnbgfcchaaDoor.XTA
