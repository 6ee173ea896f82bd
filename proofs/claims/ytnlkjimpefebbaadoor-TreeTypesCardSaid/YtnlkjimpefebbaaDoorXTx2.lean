-- Written by a program of this session (wip/xprint) out of the translation.
import Derived.Test.YtnlkjimpefebbaaDoorXTx0
import Derived.Test.YtnlkjimpefebbaaDoorXTx1
namespace Go.Proofs.YtnlkjimpefebbaaDoor.XT
open Go.RowKit Go.Proofs.YtnlkjimpefebbaaDoorW.PrintWords Go.Proofs.YtnlkjimpefebbaaDoorW.PrintLast Go.Proofs.YtnlkjimpefebbaaDoorW.PrintMore
attribute [local go_sem] max2_int min2_int max_two min_two max_three min_three max_four min_four   -- for this text's walks alone
set_option linter.unusedVariables false
set_option linter.unusedSimpArgs false

/-! ### a group: tree_at, tree_neg, tree_binary, tree_list, tree_Text -/
mutual
def tree_at.f : Nat → Int → Int → Int → ByteArray → Bool → List (S51) → Int → Option (ByteArray)
  | 0, _, _, _, _, _, _, _ => none
  | k + 1, a0_0, a0_1, a0_2, a0_3, a0_4, l0_5, a1 => (tree_level.f k a0_0 a0_1 a0_2 a0_3 a0_4 l0_5).bind fun t104 => (if t104 < a1 then ((tree_Text.f k a0_0 a0_1 a0_2 a0_3 a0_4 l0_5).bind fun t105 => (if 1 + t105.size ≤ 9223372036854775807 then (if ((⟨#[40]⟩ : ByteArray) ++ t105).size + 1 ≤ 9223372036854775807 then (some (((⟨#[40]⟩ : ByteArray) ++ t105) ++ (⟨#[41]⟩ : ByteArray))) else (none)) else (none))) else ((tree_Text.f k a0_0 a0_1 a0_2 a0_3 a0_4 l0_5).bind fun t106 => (some t106)))
def tree_neg.f : Nat → Int → Int → Int → ByteArray → Bool → List (S51) → Option (ByteArray)
  | 0, _, _, _, _, _, _ => none
  | k + 1, a0_0, a0_1, a0_2, a0_3, a0_4, l0_5 => (tree_at.f k a0_0 a0_1 a0_2 a0_3 a0_4 l0_5 8).bind fun t108 => (if a0_0 = 1 then ((tree_Text.f k a0_0 a0_1 a0_2 a0_3 a0_4 l0_5).bind fun t109 => (if 2 + t109.size ≤ 9223372036854775807 then (if ((⟨#[45, 40]⟩ : ByteArray) ++ t109).size + 1 ≤ 9223372036854775807 then (some (((⟨#[45, 40]⟩ : ByteArray) ++ t109) ++ (⟨#[41]⟩ : ByteArray))) else (none)) else (none))) else (if 0 < (t108.size : Int) then (if (bt t108 0) = 45 then ((tree_Text.f k a0_0 a0_1 a0_2 a0_3 a0_4 l0_5).bind fun t110 => (if 2 + t110.size ≤ 9223372036854775807 then (if ((⟨#[45, 40]⟩ : ByteArray) ++ t110).size + 1 ≤ 9223372036854775807 then (some (((⟨#[45, 40]⟩ : ByteArray) ++ t110) ++ (⟨#[41]⟩ : ByteArray))) else (none)) else (none))) else (if 1 + t108.size ≤ 9223372036854775807 then (some ((⟨#[45]⟩ : ByteArray) ++ t108)) else (none))) else (none)))
def tree_binary.f : Nat → Int → Int → Int → ByteArray → Bool → List (S51) → Option (ByteArray)
  | 0, _, _, _, _, _, _ => none
  | k + 1, a0_0, a0_1, a0_2, a0_3, a0_4, l0_5 => (tree_level.f k a0_0 a0_1 a0_2 a0_3 a0_4 l0_5).bind fun t112 => (if t112 = 5 then (if 0 < (l0_5.length : Int) then ((tree_at.f k ((rd_T51 l0_5 0).f0) ((rd_T51 l0_5 0).f1) ((rd_T51 l0_5 0).f2) ((rd_T51 l0_5 0).f3) ((rd_T51 l0_5 0).f4) ((rd_T51 l0_5 0).f5) 6).bind fun t114 => (if t114.size + 1 ≤ 9223372036854775807 then (if (t114 ++ (⟨#[32]⟩ : ByteArray)).size + a0_3.size ≤ 9223372036854775807 then (if ((t114 ++ (⟨#[32]⟩ : ByteArray)) ++ a0_3).size + 1 ≤ 9223372036854775807 then (if 1 < (l0_5.length : Int) then ((tree_at.f k ((rd_T51 l0_5 1).f0) ((rd_T51 l0_5 1).f1) ((rd_T51 l0_5 1).f2) ((rd_T51 l0_5 1).f3) ((rd_T51 l0_5 1).f4) ((rd_T51 l0_5 1).f5) (wrap64 (t112 + 1))).bind fun t116 => (if (((t114 ++ (⟨#[32]⟩ : ByteArray)) ++ a0_3) ++ (⟨#[32]⟩ : ByteArray)).size + t116.size ≤ 9223372036854775807 then (some ((((t114 ++ (⟨#[32]⟩ : ByteArray)) ++ a0_3) ++ (⟨#[32]⟩ : ByteArray)) ++ t116)) else (none))) else (none)) else (none)) else (none)) else (none))) else (none)) else (if 0 < (l0_5.length : Int) then ((tree_at.f k ((rd_T51 l0_5 0).f0) ((rd_T51 l0_5 0).f1) ((rd_T51 l0_5 0).f2) ((rd_T51 l0_5 0).f3) ((rd_T51 l0_5 0).f4) ((rd_T51 l0_5 0).f5) t112).bind fun t118 => (if t118.size + 1 ≤ 9223372036854775807 then (if (t118 ++ (⟨#[32]⟩ : ByteArray)).size + a0_3.size ≤ 9223372036854775807 then (if ((t118 ++ (⟨#[32]⟩ : ByteArray)) ++ a0_3).size + 1 ≤ 9223372036854775807 then (if 1 < (l0_5.length : Int) then ((tree_at.f k ((rd_T51 l0_5 1).f0) ((rd_T51 l0_5 1).f1) ((rd_T51 l0_5 1).f2) ((rd_T51 l0_5 1).f3) ((rd_T51 l0_5 1).f4) ((rd_T51 l0_5 1).f5) (wrap64 (t112 + 1))).bind fun t120 => (if (((t118 ++ (⟨#[32]⟩ : ByteArray)) ++ a0_3) ++ (⟨#[32]⟩ : ByteArray)).size + t120.size ≤ 9223372036854775807 then (some ((((t118 ++ (⟨#[32]⟩ : ByteArray)) ++ a0_3) ++ (⟨#[32]⟩ : ByteArray)) ++ t120)) else (none))) else (none)) else (none)) else (none)) else (none))) else (none)))
def tree_list.l0 : Nat → List ByteArray → List (S51) → Int → Int → Option (ByteArray)
  | 0, _, _, _, _ => none
  | k + 1, x3, x6, x7, x8 => if x8 < x7 then (if 0 ≤ x8 then (if x8 < (x6.length : Int) then ((tree_Text.f k ((rd_T51 x6 x8).f0) ((rd_T51 x6 x8).f1) ((rd_T51 x6 x8).f2) ((rd_T51 x6 x8).f3) ((rd_T51 x6 x8).f4) ((rd_T51 x6 x8).f5)).bind fun t123 => (if x3.length < 8796093022208 then (tree_list.l0 k (x3 ++ [t123]) x6 x7 (wrap64 (x8 + 1))) else (none))) else (none)) else (none)) else ((strings_Join.f x3 (⟨#[44, 32]⟩ : ByteArray)).bind fun t127 => (some t127))
def tree_list.f : Nat → List (S51) → Option (ByteArray)
  | 0, _ => none
  | k + 1, l0 => tree_list.l0 k ([] : List ByteArray) l0 (l0.length : Int) 0
def tree_Text.f : Nat → Int → Int → Int → ByteArray → Bool → List (S51) → Option (ByteArray)
  | 0, _, _, _, _, _, _ => none
  | k + 1, a0_0, a0_1, a0_2, a0_3, a0_4, l0_5 => if a0_0 = 1 then ((strconv_FormatInt.f a0_2 10).bind fun t129 => (some t129)) else (if a0_0 = 2 then ((strconv_FormatBool.f (a0_2 == 1)).bind fun t130 => (some t130)) else (if a0_0 = 3 then (some a0_3) else (if a0_0 = 4 then (if 0 < (l0_5.length : Int) then ((tree_neg.f k ((rd_T51 l0_5 0).f0) ((rd_T51 l0_5 0).f1) ((rd_T51 l0_5 0).f2) ((rd_T51 l0_5 0).f3) ((rd_T51 l0_5 0).f4) ((rd_T51 l0_5 0).f5)).bind fun t132 => (some t132)) else (none)) else (if a0_0 = 5 then (if 0 < (l0_5.length : Int) then ((tree_at.f k ((rd_T51 l0_5 0).f0) ((rd_T51 l0_5 0).f1) ((rd_T51 l0_5 0).f2) ((rd_T51 l0_5 0).f3) ((rd_T51 l0_5 0).f4) ((rd_T51 l0_5 0).f5) 4).bind fun t134 => (if 4 + t134.size ≤ 9223372036854775807 then (some ((⟨#[110, 111, 116, 32]⟩ : ByteArray) ++ t134)) else (none))) else (none)) else (if a0_0 = 6 then ((tree_binary.f k a0_0 a0_1 a0_2 a0_3 a0_4 l0_5).bind fun t135 => (some t135)) else (if a0_0 = 7 then (if 0 < (l0_5.length : Int) then ((tree_Text.f k ((rd_T51 l0_5 0).f0) ((rd_T51 l0_5 0).f1) ((rd_T51 l0_5 0).f2) ((rd_T51 l0_5 0).f3) ((rd_T51 l0_5 0).f4) ((rd_T51 l0_5 0).f5)).bind fun t137 => (if 3 + t137.size ≤ 9223372036854775807 then (if ((⟨#[105, 102, 32]⟩ : ByteArray) ++ t137).size + 6 ≤ 9223372036854775807 then (if 1 < (l0_5.length : Int) then ((tree_Text.f k ((rd_T51 l0_5 1).f0) ((rd_T51 l0_5 1).f1) ((rd_T51 l0_5 1).f2) ((rd_T51 l0_5 1).f3) ((rd_T51 l0_5 1).f4) ((rd_T51 l0_5 1).f5)).bind fun t139 => (if (((⟨#[105, 102, 32]⟩ : ByteArray) ++ t137) ++ (⟨#[32, 116, 104, 101, 110, 32]⟩ : ByteArray)).size + t139.size ≤ 9223372036854775807 then (if ((((⟨#[105, 102, 32]⟩ : ByteArray) ++ t137) ++ (⟨#[32, 116, 104, 101, 110, 32]⟩ : ByteArray)) ++ t139).size + 6 ≤ 9223372036854775807 then (if 2 < (l0_5.length : Int) then ((tree_Text.f k ((rd_T51 l0_5 2).f0) ((rd_T51 l0_5 2).f1) ((rd_T51 l0_5 2).f2) ((rd_T51 l0_5 2).f3) ((rd_T51 l0_5 2).f4) ((rd_T51 l0_5 2).f5)).bind fun t141 => (if (((((⟨#[105, 102, 32]⟩ : ByteArray) ++ t137) ++ (⟨#[32, 116, 104, 101, 110, 32]⟩ : ByteArray)) ++ t139) ++ (⟨#[32, 101, 108, 115, 101, 32]⟩ : ByteArray)).size + t141.size ≤ 9223372036854775807 then (some ((((((⟨#[105, 102, 32]⟩ : ByteArray) ++ t137) ++ (⟨#[32, 116, 104, 101, 110, 32]⟩ : ByteArray)) ++ t139) ++ (⟨#[32, 101, 108, 115, 101, 32]⟩ : ByteArray)) ++ t141)) else (none))) else (none)) else (none)) else (none))) else (none)) else (none)) else (none))) else (none)) else (if a0_0 = 8 then (if 0 < (l0_5.length : Int) then ((tree_at.f k ((rd_T51 l0_5 0).f0) ((rd_T51 l0_5 0).f1) ((rd_T51 l0_5 0).f2) ((rd_T51 l0_5 0).f3) ((rd_T51 l0_5 0).f4) ((rd_T51 l0_5 0).f5) 2).bind fun t143 => (if t143.size + 4 ≤ 9223372036854775807 then (if 1 < (l0_5.length : Int) then ((tree_at.f k ((rd_T51 l0_5 1).f0) ((rd_T51 l0_5 1).f1) ((rd_T51 l0_5 1).f2) ((rd_T51 l0_5 1).f3) ((rd_T51 l0_5 1).f4) ((rd_T51 l0_5 1).f5) 1).bind fun t145 => (if (t143 ++ (⟨#[32, 45, 62, 32]⟩ : ByteArray)).size + t145.size ≤ 9223372036854775807 then (some ((t143 ++ (⟨#[32, 45, 62, 32]⟩ : ByteArray)) ++ t145)) else (none))) else (none)) else (none))) else (none)) else (if a0_0 = 9 then (if 0 < (l0_5.length : Int) then ((tree_Text.f k ((rd_T51 l0_5 0).f0) ((rd_T51 l0_5 0).f1) ((rd_T51 l0_5 0).f2) ((rd_T51 l0_5 0).f3) ((rd_T51 l0_5 0).f4) ((rd_T51 l0_5 0).f5)).bind fun t147 => (if t147.size + 5 ≤ 9223372036854775807 then (if 1 < (l0_5.length : Int) then ((tree_at.f k ((rd_T51 l0_5 1).f0) ((rd_T51 l0_5 1).f1) ((rd_T51 l0_5 1).f2) ((rd_T51 l0_5 1).f3) ((rd_T51 l0_5 1).f4) ((rd_T51 l0_5 1).f5) 1).bind fun t149 => (if (t147 ++ (⟨#[32, 102, 98, 121, 32]⟩ : ByteArray)).size + t149.size ≤ 9223372036854775807 then (some ((t147 ++ (⟨#[32, 102, 98, 121, 32]⟩ : ByteArray)) ++ t149)) else (none))) else (none)) else (none))) else (none)) else (if a0_0 = 10 then (if 0 < (l0_5.length : Int) then ((tree_at.f k ((rd_T51 l0_5 0).f0) ((rd_T51 l0_5 0).f1) ((rd_T51 l0_5 0).f2) ((rd_T51 l0_5 0).f3) ((rd_T51 l0_5 0).f4) ((rd_T51 l0_5 0).f5) 8).bind fun t151 => (if 4 + t151.size ≤ 9223372036854775807 then (some ((⟨#[112, 114, 101, 32]⟩ : ByteArray) ++ t151)) else (none))) else (none)) else (if a0_0 = 11 then (if 0 < (l0_5.length : Int) then ((tree_at.f k ((rd_T51 l0_5 0).f0) ((rd_T51 l0_5 0).f1) ((rd_T51 l0_5 0).f2) ((rd_T51 l0_5 0).f3) ((rd_T51 l0_5 0).f4) ((rd_T51 l0_5 0).f5) 9).bind fun t153 => ((tree_clock.f a0_3 a0_4).bind fun t154 => (if t153.size + t154.size ≤ 9223372036854775807 then (some (t153 ++ t154)) else (none)))) else (none)) else (if a0_0 = 12 then (if 6 + a0_3.size ≤ 9223372036854775807 then (if ((⟨#[109, 101, 114, 103, 101, 32]⟩ : ByteArray) ++ a0_3).size + 2 ≤ 9223372036854775807 then (if 0 < (l0_5.length : Int) then ((tree_Text.f k ((rd_T51 l0_5 0).f0) ((rd_T51 l0_5 0).f1) ((rd_T51 l0_5 0).f2) ((rd_T51 l0_5 0).f3) ((rd_T51 l0_5 0).f4) ((rd_T51 l0_5 0).f5)).bind fun t156 => (if (((⟨#[109, 101, 114, 103, 101, 32]⟩ : ByteArray) ++ a0_3) ++ (⟨#[32, 40]⟩ : ByteArray)).size + t156.size ≤ 9223372036854775807 then (if ((((⟨#[109, 101, 114, 103, 101, 32]⟩ : ByteArray) ++ a0_3) ++ (⟨#[32, 40]⟩ : ByteArray)) ++ t156).size + 3 ≤ 9223372036854775807 then (if 1 < (l0_5.length : Int) then ((tree_Text.f k ((rd_T51 l0_5 1).f0) ((rd_T51 l0_5 1).f1) ((rd_T51 l0_5 1).f2) ((rd_T51 l0_5 1).f3) ((rd_T51 l0_5 1).f4) ((rd_T51 l0_5 1).f5)).bind fun t158 => (if (((((⟨#[109, 101, 114, 103, 101, 32]⟩ : ByteArray) ++ a0_3) ++ (⟨#[32, 40]⟩ : ByteArray)) ++ t156) ++ (⟨#[41, 32, 40]⟩ : ByteArray)).size + t158.size ≤ 9223372036854775807 then (if ((((((⟨#[109, 101, 114, 103, 101, 32]⟩ : ByteArray) ++ a0_3) ++ (⟨#[32, 40]⟩ : ByteArray)) ++ t156) ++ (⟨#[41, 32, 40]⟩ : ByteArray)) ++ t158).size + 1 ≤ 9223372036854775807 then (some (((((((⟨#[109, 101, 114, 103, 101, 32]⟩ : ByteArray) ++ a0_3) ++ (⟨#[32, 40]⟩ : ByteArray)) ++ t156) ++ (⟨#[41, 32, 40]⟩ : ByteArray)) ++ t158) ++ (⟨#[41]⟩ : ByteArray))) else (none)) else (none))) else (none)) else (none)) else (none))) else (none)) else (none)) else (none)) else (if a0_0 = 13 then (if a0_3.size + 1 ≤ 9223372036854775807 then ((tree_list.f k l0_5).bind fun t159 => (if (a0_3 ++ (⟨#[40]⟩ : ByteArray)).size + t159.size ≤ 9223372036854775807 then (if ((a0_3 ++ (⟨#[40]⟩ : ByteArray)) ++ t159).size + 1 ≤ 9223372036854775807 then (some (((a0_3 ++ (⟨#[40]⟩ : ByteArray)) ++ t159) ++ (⟨#[41]⟩ : ByteArray))) else (none)) else (none))) else (none)) else (if (l0_5.length : Int) = 0 then (if 6 + a0_3.size ≤ 9223372036854775807 then (some ((⟨#[97, 119, 97, 105, 116, 32]⟩ : ByteArray) ++ a0_3)) else (none)) else (if 6 + a0_3.size ≤ 9223372036854775807 then (if ((⟨#[97, 119, 97, 105, 116, 32]⟩ : ByteArray) ++ a0_3).size + 8 ≤ 9223372036854775807 then ((tree_list.f k l0_5).bind fun t160 => (if (((⟨#[97, 119, 97, 105, 116, 32]⟩ : ByteArray) ++ a0_3) ++ (⟨#[32, 97, 102, 116, 101, 114, 32, 40]⟩ : ByteArray)).size + t160.size ≤ 9223372036854775807 then (if ((((⟨#[97, 119, 97, 105, 116, 32]⟩ : ByteArray) ++ a0_3) ++ (⟨#[32, 97, 102, 116, 101, 114, 32, 40]⟩ : ByteArray)) ++ t160).size + 1 ≤ 9223372036854775807 then (some (((((⟨#[97, 119, 97, 105, 116, 32]⟩ : ByteArray) ++ a0_3) ++ (⟨#[32, 97, 102, 116, 101, 114, 32, 40]⟩ : ByteArray)) ++ t160) ++ (⟨#[41]⟩ : ByteArray))) else (none)) else (none))) else (none)) else (none)))))))))))))))
end
theorem tree_at.mono_g : ∀ k, (∀ y0 y1 y2 y3 y4 y5 y6, LeO (tree_at.f k y0 y1 y2 y3 y4 y5 y6) (tree_at.f (k + 1) y0 y1 y2 y3 y4 y5 y6)) ∧ (∀ y0 y1 y2 y3 y4 y5, LeO (tree_neg.f k y0 y1 y2 y3 y4 y5) (tree_neg.f (k + 1) y0 y1 y2 y3 y4 y5)) ∧ (∀ y0 y1 y2 y3 y4 y5, LeO (tree_binary.f k y0 y1 y2 y3 y4 y5) (tree_binary.f (k + 1) y0 y1 y2 y3 y4 y5)) ∧ (∀ y0, LeO (tree_list.f k y0) (tree_list.f (k + 1) y0)) ∧ (∀ y0 y1 y2 y3, LeO (tree_list.l0 k y0 y1 y2 y3) (tree_list.l0 (k + 1) y0 y1 y2 y3)) ∧ (∀ y0 y1 y2 y3 y4 y5, LeO (tree_Text.f k y0 y1 y2 y3 y4 y5) (tree_Text.f (k + 1) y0 y1 y2 y3 y4 y5))
  | 0 => ⟨fun _ _ _ _ _ _ _ r h => by simp [tree_at.f] at h, fun _ _ _ _ _ _ r h => by simp [tree_neg.f] at h, fun _ _ _ _ _ _ r h => by simp [tree_binary.f] at h, fun _ r h => by simp [tree_list.f] at h, fun _ _ _ _ r h => by simp [tree_list.l0] at h, fun _ _ _ _ _ _ r h => by simp [tree_Text.f] at h⟩
  | k + 1 => by
    obtain ⟨ih0, ih1, ih2, ih3, ih4, ih5⟩ := tree_at.mono_g k
    refine ⟨?_, ?_, ?_, ?_, ?_, ?_⟩
    · intro y0 y1 y2 y3 y4 y5 y6
      unfold tree_at.f
      repeat' first
      | (with_reducible exact ih0 _ _ _ _ _ _ _)
      | (with_reducible exact ih1 _ _ _ _ _ _)
      | (with_reducible exact ih2 _ _ _ _ _ _)
      | (with_reducible exact ih3 _)
      | (with_reducible exact ih4 _ _ _ _)
      | (with_reducible exact ih5 _ _ _ _ _ _)
      | (with_reducible exact tree_level.mono _ _ _ _ _ _ _)
      | (with_reducible exact LeO.refl _)
      | (with_reducible exact LeO.none _)
      | (with_reducible refine LeO.ite ?_ ?_)
      | (with_reducible refine LeO.bind ?_ (fun _ => ?_))
      | exact ih0 _ _ _ _ _ _ _
      | exact ih1 _ _ _ _ _ _
      | exact ih2 _ _ _ _ _ _
      | exact ih3 _
      | exact ih4 _ _ _ _
      | exact ih5 _ _ _ _ _ _
      | exact tree_level.mono _ _ _ _ _ _ _
      | exact LeO.none _
      | refine LeO.ite ?_ ?_
      | refine LeO.bind ?_ (fun _ => ?_)
    · intro y0 y1 y2 y3 y4 y5
      unfold tree_neg.f
      repeat' first
      | (with_reducible exact ih0 _ _ _ _ _ _ _)
      | (with_reducible exact ih1 _ _ _ _ _ _)
      | (with_reducible exact ih2 _ _ _ _ _ _)
      | (with_reducible exact ih3 _)
      | (with_reducible exact ih4 _ _ _ _)
      | (with_reducible exact ih5 _ _ _ _ _ _)
      | (with_reducible exact tree_level.mono _ _ _ _ _ _ _)
      | (with_reducible exact LeO.refl _)
      | (with_reducible exact LeO.none _)
      | (with_reducible refine LeO.ite ?_ ?_)
      | (with_reducible refine LeO.bind ?_ (fun _ => ?_))
      | exact ih0 _ _ _ _ _ _ _
      | exact ih1 _ _ _ _ _ _
      | exact ih2 _ _ _ _ _ _
      | exact ih3 _
      | exact ih4 _ _ _ _
      | exact ih5 _ _ _ _ _ _
      | exact tree_level.mono _ _ _ _ _ _ _
      | exact LeO.none _
      | refine LeO.ite ?_ ?_
      | refine LeO.bind ?_ (fun _ => ?_)
    · intro y0 y1 y2 y3 y4 y5
      unfold tree_binary.f
      repeat' first
      | (with_reducible exact ih0 _ _ _ _ _ _ _)
      | (with_reducible exact ih1 _ _ _ _ _ _)
      | (with_reducible exact ih2 _ _ _ _ _ _)
      | (with_reducible exact ih3 _)
      | (with_reducible exact ih4 _ _ _ _)
      | (with_reducible exact ih5 _ _ _ _ _ _)
      | (with_reducible exact tree_level.mono _ _ _ _ _ _ _)
      | (with_reducible exact LeO.refl _)
      | (with_reducible exact LeO.none _)
      | (with_reducible refine LeO.ite ?_ ?_)
      | (with_reducible refine LeO.bind ?_ (fun _ => ?_))
      | exact ih0 _ _ _ _ _ _ _
      | exact ih1 _ _ _ _ _ _
      | exact ih2 _ _ _ _ _ _
      | exact ih3 _
      | exact ih4 _ _ _ _
      | exact ih5 _ _ _ _ _ _
      | exact tree_level.mono _ _ _ _ _ _ _
      | exact LeO.none _
      | refine LeO.ite ?_ ?_
      | refine LeO.bind ?_ (fun _ => ?_)
    · intro y0
      unfold tree_list.f
      repeat' first
      | (with_reducible exact ih0 _ _ _ _ _ _ _)
      | (with_reducible exact ih1 _ _ _ _ _ _)
      | (with_reducible exact ih2 _ _ _ _ _ _)
      | (with_reducible exact ih3 _)
      | (with_reducible exact ih4 _ _ _ _)
      | (with_reducible exact ih5 _ _ _ _ _ _)
      | (with_reducible exact tree_level.mono _ _ _ _ _ _ _)
      | (with_reducible exact LeO.refl _)
      | (with_reducible exact LeO.none _)
      | (with_reducible refine LeO.ite ?_ ?_)
      | (with_reducible refine LeO.bind ?_ (fun _ => ?_))
      | exact ih0 _ _ _ _ _ _ _
      | exact ih1 _ _ _ _ _ _
      | exact ih2 _ _ _ _ _ _
      | exact ih3 _
      | exact ih4 _ _ _ _
      | exact ih5 _ _ _ _ _ _
      | exact tree_level.mono _ _ _ _ _ _ _
      | exact LeO.none _
      | refine LeO.ite ?_ ?_
      | refine LeO.bind ?_ (fun _ => ?_)
    · intro y0 y1 y2 y3
      unfold tree_list.l0
      repeat' first
      | (with_reducible exact ih0 _ _ _ _ _ _ _)
      | (with_reducible exact ih1 _ _ _ _ _ _)
      | (with_reducible exact ih2 _ _ _ _ _ _)
      | (with_reducible exact ih3 _)
      | (with_reducible exact ih4 _ _ _ _)
      | (with_reducible exact ih5 _ _ _ _ _ _)
      | (with_reducible exact tree_level.mono _ _ _ _ _ _ _)
      | (with_reducible exact LeO.refl _)
      | (with_reducible exact LeO.none _)
      | (with_reducible refine LeO.ite ?_ ?_)
      | (with_reducible refine LeO.bind ?_ (fun _ => ?_))
      | exact ih0 _ _ _ _ _ _ _
      | exact ih1 _ _ _ _ _ _
      | exact ih2 _ _ _ _ _ _
      | exact ih3 _
      | exact ih4 _ _ _ _
      | exact ih5 _ _ _ _ _ _
      | exact tree_level.mono _ _ _ _ _ _ _
      | exact LeO.none _
      | refine LeO.ite ?_ ?_
      | refine LeO.bind ?_ (fun _ => ?_)
    · intro y0 y1 y2 y3 y4 y5
      unfold tree_Text.f
      repeat' first
      | (with_reducible exact ih0 _ _ _ _ _ _ _)
      | (with_reducible exact ih1 _ _ _ _ _ _)
      | (with_reducible exact ih2 _ _ _ _ _ _)
      | (with_reducible exact ih3 _)
      | (with_reducible exact ih4 _ _ _ _)
      | (with_reducible exact ih5 _ _ _ _ _ _)
      | (with_reducible exact tree_level.mono _ _ _ _ _ _ _)
      | (with_reducible exact LeO.refl _)
      | (with_reducible exact LeO.none _)
      | (with_reducible refine LeO.ite ?_ ?_)
      | (with_reducible refine LeO.bind ?_ (fun _ => ?_))
      | exact ih0 _ _ _ _ _ _ _
      | exact ih1 _ _ _ _ _ _
      | exact ih2 _ _ _ _ _ _
      | exact ih3 _
      | exact ih4 _ _ _ _
      | exact ih5 _ _ _ _ _ _
      | exact tree_level.mono _ _ _ _ _ _ _
      | exact LeO.none _
      | refine LeO.ite ?_ ?_
      | refine LeO.bind ?_ (fun _ => ?_)
theorem tree_at.mono : ∀ a0 a1 a2 a3 a4 a5 a6 k, LeO (tree_at.f k a0 a1 a2 a3 a4 a5 a6) (tree_at.f (k + 1) a0 a1 a2 a3 a4 a5 a6) := by
  intro a0 a1 a2 a3 a4 a5 a6 k
  exact (tree_at.mono_g k).1 a0 a1 a2 a3 a4 a5 a6
theorem tree_neg.mono : ∀ a0 a1 a2 a3 a4 a5 k, LeO (tree_neg.f k a0 a1 a2 a3 a4 a5) (tree_neg.f (k + 1) a0 a1 a2 a3 a4 a5) := by
  intro a0 a1 a2 a3 a4 a5 k
  exact (tree_at.mono_g k).2.1 a0 a1 a2 a3 a4 a5
theorem tree_binary.mono : ∀ a0 a1 a2 a3 a4 a5 k, LeO (tree_binary.f k a0 a1 a2 a3 a4 a5) (tree_binary.f (k + 1) a0 a1 a2 a3 a4 a5) := by
  intro a0 a1 a2 a3 a4 a5 k
  exact (tree_at.mono_g k).2.2.1 a0 a1 a2 a3 a4 a5
theorem tree_list.mono : ∀ a0 k, LeO (tree_list.f k a0) (tree_list.f (k + 1) a0) := by
  intro a0 k
  exact (tree_at.mono_g k).2.2.2.1 a0
theorem tree_Text.mono : ∀ a0 a1 a2 a3 a4 a5 k, LeO (tree_Text.f k a0 a1 a2 a3 a4 a5) (tree_Text.f (k + 1) a0 a1 a2 a3 a4 a5) := by
  intro a0 a1 a2 a3 a4 a5 k
  exact (tree_at.mono_g k).2.2.2.2.2 a0 a1 a2 a3 a4 a5
abbrev tree_at.Stmt (k : Nat) : Prop := ∀ (a0_0 : Int) (a0_1 : Int) (a0_2 : Int) (a0_3 : ByteArray) (a0_4 : Bool) (A0_5 : Option Addr) (c0_5 : Nat) (l0_5 : List (S51)) (a1 : Int) (r : ByteArray) (w : World) (hr0_5 : Kd.C k51 w A0_5 l0_5.length l0_5) (hc0_5 : l0_5.length ≤ c0_5) (h : tree_at.f k a0_0 a0_1 a0_2 a0_3 a0_4 l0_5 a1 = some r) (hT : Tabs w),
    Calls Tryd.prog 70 #[.agg #[.int .i64 a0_0, .int .i64 a0_1, .int .i64 a0_2, .string a0_3, .bool a0_4, .slice A0_5 l0_5.length c0_5], .int .i64 a1] w fun e w' => e = .returned (.string r) ∧ Below w.heap.size w w'
abbrev tree_neg.Stmt (k : Nat) : Prop := ∀ (a0_0 : Int) (a0_1 : Int) (a0_2 : Int) (a0_3 : ByteArray) (a0_4 : Bool) (A0_5 : Option Addr) (c0_5 : Nat) (l0_5 : List (S51)) (r : ByteArray) (w : World) (hr0_5 : Kd.C k51 w A0_5 l0_5.length l0_5) (hc0_5 : l0_5.length ≤ c0_5) (h : tree_neg.f k a0_0 a0_1 a0_2 a0_3 a0_4 l0_5 = some r) (hT : Tabs w),
    Calls Tryd.prog 69 #[.agg #[.int .i64 a0_0, .int .i64 a0_1, .int .i64 a0_2, .string a0_3, .bool a0_4, .slice A0_5 l0_5.length c0_5]] w fun e w' => e = .returned (.string r) ∧ Below w.heap.size w w'
abbrev tree_binary.Stmt (k : Nat) : Prop := ∀ (a0_0 : Int) (a0_1 : Int) (a0_2 : Int) (a0_3 : ByteArray) (a0_4 : Bool) (A0_5 : Option Addr) (c0_5 : Nat) (l0_5 : List (S51)) (r : ByteArray) (w : World) (hr0_5 : Kd.C k51 w A0_5 l0_5.length l0_5) (hc0_5 : l0_5.length ≤ c0_5) (h : tree_binary.f k a0_0 a0_1 a0_2 a0_3 a0_4 l0_5 = some r) (hT : Tabs w),
    Calls Tryd.prog 71 #[.agg #[.int .i64 a0_0, .int .i64 a0_1, .int .i64 a0_2, .string a0_3, .bool a0_4, .slice A0_5 l0_5.length c0_5]] w fun e w' => e = .returned (.string r) ∧ Below w.heap.size w w'
abbrev tree_list.Stmt (k : Nat) : Prop := ∀ (A0 : Option Addr) (c0 : Nat) (l0 : List (S51)) (r : ByteArray) (w : World) (hr0 : Kd.C k51 w A0 l0.length l0) (hc0 : l0.length ≤ c0) (h : tree_list.f k l0 = some r) (hT : Tabs w),
    Calls Tryd.prog 73 #[.slice A0 l0.length c0] w fun e w' => e = .returned (.string r) ∧ Below w.heap.size w w'
abbrev tree_Text.Stmt (k : Nat) : Prop := ∀ (a0_0 : Int) (a0_1 : Int) (a0_2 : Int) (a0_3 : ByteArray) (a0_4 : Bool) (A0_5 : Option Addr) (c0_5 : Nat) (l0_5 : List (S51)) (r : ByteArray) (w : World) (hr0_5 : Kd.C k51 w A0_5 l0_5.length l0_5) (hc0_5 : l0_5.length ≤ c0_5) (h : tree_Text.f k a0_0 a0_1 a0_2 a0_3 a0_4 l0_5 = some r) (hT : Tabs w),
    Calls Tryd.prog 29 #[.agg #[.int .i64 a0_0, .int .i64 a0_1, .int .i64 a0_2, .string a0_3, .bool a0_4, .slice A0_5 l0_5.length c0_5]] w fun e w' => e = .returned (.string r) ∧ Below w.heap.size w w'

/-! ### tree_at: function 70 -/
set_option maxHeartbeats 8000000 in
set_option maxRecDepth 100000 in
theorem tree_at.step (k : Nat) (ih_70 : ∀ m, m < k → tree_at.Stmt m) (ih_69 : ∀ m, m < k → tree_neg.Stmt m) (ih_71 : ∀ m, m < k → tree_binary.Stmt m) (ih_73 : ∀ m, m < k → tree_list.Stmt m) (ih_29 : ∀ m, m < k → tree_Text.Stmt m) : ∀ (a0_0 : Int) (a0_1 : Int) (a0_2 : Int) (a0_3 : ByteArray) (a0_4 : Bool) (A0_5 : Option Addr) (c0_5 : Nat) (l0_5 : List (S51)) (a1 : Int) (r : ByteArray) (w : World) (hr0_5 : Kd.C k51 w A0_5 l0_5.length l0_5) (hc0_5 : l0_5.length ≤ c0_5) (h : tree_at.f k a0_0 a0_1 a0_2 a0_3 a0_4 l0_5 a1 = some r) (hT : Tabs w),
  Calls Tryd.prog 70 #[.agg #[.int .i64 a0_0, .int .i64 a0_1, .int .i64 a0_2, .string a0_3, .bool a0_4, .slice A0_5 l0_5.length c0_5], .int .i64 a1] w fun e w' => e = .returned (.string r) ∧ Below w.heap.size w w' := by
 intro a0_0 a0_1 a0_2 a0_3 a0_4 A0_5 c0_5 l0_5 a1 r w hr0_5 hc0_5 h hT
 cases k with
 | zero => exact absurd h (by simp [tree_at.f])
 | succ k =>
 simp only [tree_at.f] at h
 have HT := Aside0.mk hT
 clear hT
 have hu51 := Tryd.underlying51
 have HR0_5 := Aside0.mk hr0_5
 have HC0_5 := Aside0.mk hc0_5
 clear hr0_5 hc0_5
 have HB := Aside0.mk (Below.refl w.heap.size w)
 have H : ((tree_level.f k a0_0 a0_1 a0_2 a0_3 a0_4 l0_5).bind fun t104 => (if t104 < a1 then ((tree_Text.f k a0_0 a0_1 a0_2 a0_3 a0_4 l0_5).bind fun t105 => (if 1 + t105.size ≤ 9223372036854775807 then (if ((⟨#[40]⟩ : ByteArray) ++ t105).size + 1 ≤ 9223372036854775807 then (some (((⟨#[40]⟩ : ByteArray) ++ t105) ++ (⟨#[41]⟩ : ByteArray))) else (none)) else (none))) else ((tree_Text.f k a0_0 a0_1 a0_2 a0_3 a0_4 l0_5).bind fun t106 => (some t106)))) = some r := h
 clear h
 replace H := Option.bind_eq_some_iff.mp H
 obtain ⟨t104, A30, H⟩ := H
 replace H : (if t104 < a1 then ((tree_Text.f k a0_0 a0_1 a0_2 a0_3 a0_4 l0_5).bind fun t105 => (if 1 + t105.size ≤ 9223372036854775807 then (if ((⟨#[40]⟩ : ByteArray) ++ t105).size + 1 ≤ 9223372036854775807 then (some (((⟨#[40]⟩ : ByteArray) ++ t105) ++ (⟨#[41]⟩ : ByteArray))) else (none)) else (none))) else ((tree_Text.f k a0_0 a0_1 a0_2 a0_3 a0_4 l0_5).bind fun t106 => (some t106))) = some r := H
 have A3 := Aside0.mk A30
 clear A30
 by_cases c4 : t104 < a1
 ·rw [if_pos c4] at H
  have c4b0 : decide (t104 < a1) = true := decide_eq_true c4
  clear c4
  replace H := Option.bind_eq_some_iff.mp H
  obtain ⟨t105, A50, H⟩ := H
  replace H : (if 1 + t105.size ≤ 9223372036854775807 then (if ((⟨#[40]⟩ : ByteArray) ++ t105).size + 1 ≤ 9223372036854775807 then (some (((⟨#[40]⟩ : ByteArray) ++ t105) ++ (⟨#[41]⟩ : ByteArray))) else (none)) else (none)) = some r := H
  have A5 := Aside0.mk A50
  clear A50
  by_cases c6 : 1 + t105.size ≤ 9223372036854775807
  ·rw [if_pos c6] at H
   have c6b0 := eq_true c6
   have c6b1 : decide (1 + t105.size ≤ 9223372036854775807) = true := decide_eq_true c6
   try have c6b2 : (9223372036854775807 < 1 + t105.size) = False := eq_false (Nat.not_lt.2 c6)
   by_cases c7 : ((⟨#[40]⟩ : ByteArray) ++ t105).size + 1 ≤ 9223372036854775807
   ·rw [if_pos c7] at H
    have c7b0 := eq_true c7
    have c7b1 : decide (((⟨#[40]⟩ : ByteArray) ++ t105).size + 1 ≤ 9223372036854775807) = true := decide_eq_true c7
    try have c7b2 : (9223372036854775807 < ((⟨#[40]⟩ : ByteArray) ++ t105).size + 1) = False := eq_false (Nat.not_lt.2 c7)
    try have c7b9 : (9223372036854775807 < 1 + t105.size + 1) = False := eq_false (by have h_ := c7; simp only [ByteArray.size_append] at h_; exact Nat.not_lt.2 h_)
    obtain rfl := Option.some.inj H
    go_enter Tryd.func70, Tryd.ntmps70
    go_wp2_with (first | ((with_reducible refine gate_dst (N := 2) rfl ?_); refine box_event ?hg (N := 2) ?hd (cs := #[.int .i64 a0_0, .int .i64 a0_1, .int .i64 a0_2, .string a0_3, .bool a0_4, .slice A0_5 l0_5.length c0_5]) (t := 51) ?hr ?_; (case hd => rfl); (case hg => rfl); (case hr => first | (go_simp; done) | (go_simp; rfl)); intro gb103 hg w8 hbox hb; have n0_ := Aside0.mk (below_step (by repeat (first | (with_reducible first | exact HB.out | apply below_alloc | apply pw_below_drewN | apply below_drew1) | exact HB.out)) hb); have n1_ := Aside0.mk (hbox); have n2_ := Aside0.mk ((by rw [hg]; exact (below_size (by repeat (first | (with_reducible first | exact HB.out | apply below_alloc | apply pw_below_drewN | apply below_drew1) | exact HB.out))) : w.heap.size ≤ gb103)); have n3_ := Aside0.mk ((by rw [hg]; exact (below_size (by repeat (first | (with_reducible first | exact HB.out | apply below_alloc | apply pw_below_drewN | apply below_drew1) | exact HB.out))) : w.heap.size ≤ gb103)); clear HB; have HB := n0_; have BK103 := n1_; have GW103 := n2_; have GE103 := n3_; clear n0_ n1_ n2_ n3_; clear hb hbox hg; have hcz9_0 : w8.cell? ⟨gb103, 0, none⟩ = some (.int .i64 a0_0) := (blk_cell BK103.out 0).trans rfl; have hcz9_1 : w8.cell? ⟨gb103, 1, none⟩ = some (.int .i64 a0_1) := (blk_cell BK103.out 1).trans rfl; have hcz9_2 : w8.cell? ⟨gb103, 2, none⟩ = some (.int .i64 a0_2) := (blk_cell BK103.out 2).trans rfl; have hcz9_3 : w8.cell? ⟨gb103, 3, none⟩ = some (.string a0_3) := (blk_cell BK103.out 3).trans rfl; have hcz9_4 : w8.cell? ⟨gb103, 4, none⟩ = some (.bool a0_4) := (blk_cell BK103.out 4).trans rfl; have hcz9_5 : w8.cell? ⟨gb103, 5, none⟩ = some (.slice A0_5 l0_5.length c0_5) := (blk_cell BK103.out 5).trans rfl; have hfz9_0 := blk_frozen BK103.out 0; have hfz9_1 := blk_frozen BK103.out 1; have hfz9_2 := blk_frozen BK103.out 2; have hfz9_3 := blk_frozen BK103.out 3; have hfz9_4 := blk_frozen BK103.out 4; have hfz9_5 := blk_frozen BK103.out 5) | ((with_reducible refine gate_callee (f := 106) rfl ?_); refine goesL_ (some 6) rfl rfl Tryd.func106 (by kernel_rfl) rfl #[.agg #[.int .i64 a0_0, .int .i64 a0_1, .int .i64 a0_2, .string a0_3, .bool a0_4, .slice A0_5 l0_5.length c0_5]] rfl (by (try simp only [List.map_toArray, List.map_cons, List.map_nil]); first | done | rfl | (simp only [List.length_drop, List.length_take]; rfl)) ?_; (with_reducible refine (tree_level.calls k a0_0 a0_1 a0_2 a0_3 a0_4 _ _ l0_5 t104 _ ?side1 ?side2 A3.out).mono ?_); (case side1 => repeat (first | exact (Kd.C_below HR0_5.out HB.out) | (with_reducible refine Kd.C_alloc ?_ _) | (with_reducible refine Kd.C_drewN ?_ _) | (with_reducible refine Kd.C_drew ?_))); (case side2 => exact HC0_5.out); rintro e w10 ⟨rfl, hb⟩; refine ⟨_, rfl, ?_⟩; have n0_ := Aside0.mk (blk_below (g := gb103) (o := .cells #[.int .i64 a0_0, .int .i64 a0_1, .int .i64 a0_2, .string a0_3, .bool a0_4, .slice A0_5 l0_5.length c0_5] 51 (0, 0)) (by (with_reducible repeat (first | refine blk_drewN ?_ _ | refine blk_drew ?_ | refine blk_alloc ?_ _)); exact BK103.out) hb); have n1_ := Aside0.mk (below_step (by repeat (first | (with_reducible first | exact HB.out | apply below_alloc | apply pw_below_drewN | apply below_drew1 | refine below_set ?_ GE103.out) | exact HB.out)) hb); clear BK103; clear HB; have BK103 := n0_; have HB := n1_; clear n0_ n1_; (try clear hb); (try clear hb2); (try clear hk); (try clear hi); have hcz11_0 : w10.cell? ⟨gb103, 0, none⟩ = some (.int .i64 a0_0) := (blk_cell BK103.out 0).trans rfl; have hcz11_1 : w10.cell? ⟨gb103, 1, none⟩ = some (.int .i64 a0_1) := (blk_cell BK103.out 1).trans rfl; have hcz11_2 : w10.cell? ⟨gb103, 2, none⟩ = some (.int .i64 a0_2) := (blk_cell BK103.out 2).trans rfl; have hcz11_3 : w10.cell? ⟨gb103, 3, none⟩ = some (.string a0_3) := (blk_cell BK103.out 3).trans rfl; have hcz11_4 : w10.cell? ⟨gb103, 4, none⟩ = some (.bool a0_4) := (blk_cell BK103.out 4).trans rfl; have hcz11_5 : w10.cell? ⟨gb103, 5, none⟩ = some (.slice A0_5 l0_5.length c0_5) := (blk_cell BK103.out 5).trans rfl; have hfz11_0 := blk_frozen BK103.out 0; have hfz11_1 := blk_frozen BK103.out 1; have hfz11_2 := blk_frozen BK103.out 2; have hfz11_3 := blk_frozen BK103.out 3; have hfz11_4 := blk_frozen BK103.out 4; have hfz11_5 := blk_frozen BK103.out 5) | ((with_reducible refine gate_callee (f := 29) rfl ?_); refine goesL_ (some 10) rfl rfl Tryd.func29 (by kernel_rfl) rfl #[.agg #[.int .i64 a0_0, .int .i64 a0_1, .int .i64 a0_2, .string a0_3, .bool a0_4, .slice A0_5 l0_5.length c0_5]] rfl (by (try simp only [List.map_toArray, List.map_cons, List.map_nil]); first | done | rfl | (simp only [List.length_drop, List.length_take]; rfl)) ?_; (with_reducible refine (ih_29 k (by omega) a0_0 a0_1 a0_2 a0_3 a0_4 _ _ l0_5 t105 _ ?side1 ?side2 A5.out ?side3).mono ?_); (case side1 => repeat (first | exact (Kd.C_below HR0_5.out HB.out) | (with_reducible refine Kd.C_alloc ?_ _) | (with_reducible refine Kd.C_drewN ?_ _) | (with_reducible refine Kd.C_drew ?_))); (case side2 => exact HC0_5.out); (case side3 => exact Tabs.below HT.out (by repeat (first | (with_reducible first | exact HB.out | apply below_alloc | apply pw_below_drewN | apply below_drew1 | refine below_set ?_ GE103.out) | exact HB.out))); rintro e w12 ⟨rfl, hb⟩; refine ⟨_, rfl, ?_⟩; have n0_ := Aside0.mk (blk_below (g := gb103) (o := .cells #[.int .i64 a0_0, .int .i64 a0_1, .int .i64 a0_2, .string a0_3, .bool a0_4, .slice A0_5 l0_5.length c0_5] 51 (0, 0)) (by (with_reducible repeat (first | refine blk_drewN ?_ _ | refine blk_drew ?_ | refine blk_alloc ?_ _)); exact BK103.out) hb); have n1_ := Aside0.mk (below_step (by repeat (first | (with_reducible first | exact HB.out | apply below_alloc | apply pw_below_drewN | apply below_drew1 | refine below_set ?_ GE103.out) | exact HB.out)) hb); clear BK103; clear HB; have BK103 := n0_; have HB := n1_; clear n0_ n1_; (try clear hb); (try clear hb2); (try clear hk); (try clear hi)))
    go_ret
    exact ⟨by first | rfl | (simp [errW_none, errW_some] <;> rfl) | (simp [*, errW_none, errW_some] <;> rfl), by repeat (first | (with_reducible first | exact HB.out | apply below_alloc | apply pw_below_drewN | apply below_drew1 | refine below_set ?_ GE103.out) | exact HB.out)⟩
   ·rw [if_neg c7] at H
    exact absurd H (by simp)
  ·rw [if_neg c6] at H
   exact absurd H (by simp)
 ·rw [if_neg c4] at H
  have c4b0 : decide (t104 < a1) = false := decide_eq_false c4
  clear c4
  replace H := Option.bind_eq_some_iff.mp H
  obtain ⟨t106, A130, H⟩ := H
  replace H : (some t106) = some r := H
  have A13 := Aside0.mk A130
  clear A130
  obtain rfl := Option.some.inj H
  go_enter Tryd.func70, Tryd.ntmps70
  go_wp2_with (first | ((with_reducible refine gate_dst (N := 2) rfl ?_); refine box_event ?hg (N := 2) ?hd (cs := #[.int .i64 a0_0, .int .i64 a0_1, .int .i64 a0_2, .string a0_3, .bool a0_4, .slice A0_5 l0_5.length c0_5]) (t := 51) ?hr ?_; (case hd => rfl); (case hg => rfl); (case hr => first | (go_simp; done) | (go_simp; rfl)); intro gb103 hg w14 hbox hb; have n0_ := Aside0.mk (below_step (by repeat (first | (with_reducible first | exact HB.out | apply below_alloc | apply pw_below_drewN | apply below_drew1) | exact HB.out)) hb); have n1_ := Aside0.mk (hbox); have n2_ := Aside0.mk ((by rw [hg]; exact (below_size (by repeat (first | (with_reducible first | exact HB.out | apply below_alloc | apply pw_below_drewN | apply below_drew1) | exact HB.out))) : w.heap.size ≤ gb103)); have n3_ := Aside0.mk ((by rw [hg]; exact (below_size (by repeat (first | (with_reducible first | exact HB.out | apply below_alloc | apply pw_below_drewN | apply below_drew1) | exact HB.out))) : w.heap.size ≤ gb103)); clear HB; have HB := n0_; have BK103 := n1_; have GW103 := n2_; have GE103 := n3_; clear n0_ n1_ n2_ n3_; clear hb hbox hg; have hcz15_0 : w14.cell? ⟨gb103, 0, none⟩ = some (.int .i64 a0_0) := (blk_cell BK103.out 0).trans rfl; have hcz15_1 : w14.cell? ⟨gb103, 1, none⟩ = some (.int .i64 a0_1) := (blk_cell BK103.out 1).trans rfl; have hcz15_2 : w14.cell? ⟨gb103, 2, none⟩ = some (.int .i64 a0_2) := (blk_cell BK103.out 2).trans rfl; have hcz15_3 : w14.cell? ⟨gb103, 3, none⟩ = some (.string a0_3) := (blk_cell BK103.out 3).trans rfl; have hcz15_4 : w14.cell? ⟨gb103, 4, none⟩ = some (.bool a0_4) := (blk_cell BK103.out 4).trans rfl; have hcz15_5 : w14.cell? ⟨gb103, 5, none⟩ = some (.slice A0_5 l0_5.length c0_5) := (blk_cell BK103.out 5).trans rfl; have hfz15_0 := blk_frozen BK103.out 0; have hfz15_1 := blk_frozen BK103.out 1; have hfz15_2 := blk_frozen BK103.out 2; have hfz15_3 := blk_frozen BK103.out 3; have hfz15_4 := blk_frozen BK103.out 4; have hfz15_5 := blk_frozen BK103.out 5) | ((with_reducible refine gate_callee (f := 106) rfl ?_); refine goesL_ (some 6) rfl rfl Tryd.func106 (by kernel_rfl) rfl #[.agg #[.int .i64 a0_0, .int .i64 a0_1, .int .i64 a0_2, .string a0_3, .bool a0_4, .slice A0_5 l0_5.length c0_5]] rfl (by (try simp only [List.map_toArray, List.map_cons, List.map_nil]); first | done | rfl | (simp only [List.length_drop, List.length_take]; rfl)) ?_; (with_reducible refine (tree_level.calls k a0_0 a0_1 a0_2 a0_3 a0_4 _ _ l0_5 t104 _ ?side1 ?side2 A3.out).mono ?_); (case side1 => repeat (first | exact (Kd.C_below HR0_5.out HB.out) | (with_reducible refine Kd.C_alloc ?_ _) | (with_reducible refine Kd.C_drewN ?_ _) | (with_reducible refine Kd.C_drew ?_))); (case side2 => exact HC0_5.out); rintro e w16 ⟨rfl, hb⟩; refine ⟨_, rfl, ?_⟩; have n0_ := Aside0.mk (blk_below (g := gb103) (o := .cells #[.int .i64 a0_0, .int .i64 a0_1, .int .i64 a0_2, .string a0_3, .bool a0_4, .slice A0_5 l0_5.length c0_5] 51 (0, 0)) (by (with_reducible repeat (first | refine blk_drewN ?_ _ | refine blk_drew ?_ | refine blk_alloc ?_ _)); exact BK103.out) hb); have n1_ := Aside0.mk (below_step (by repeat (first | (with_reducible first | exact HB.out | apply below_alloc | apply pw_below_drewN | apply below_drew1 | refine below_set ?_ GE103.out) | exact HB.out)) hb); clear BK103; clear HB; have BK103 := n0_; have HB := n1_; clear n0_ n1_; (try clear hb); (try clear hb2); (try clear hk); (try clear hi); have hcz17_0 : w16.cell? ⟨gb103, 0, none⟩ = some (.int .i64 a0_0) := (blk_cell BK103.out 0).trans rfl; have hcz17_1 : w16.cell? ⟨gb103, 1, none⟩ = some (.int .i64 a0_1) := (blk_cell BK103.out 1).trans rfl; have hcz17_2 : w16.cell? ⟨gb103, 2, none⟩ = some (.int .i64 a0_2) := (blk_cell BK103.out 2).trans rfl; have hcz17_3 : w16.cell? ⟨gb103, 3, none⟩ = some (.string a0_3) := (blk_cell BK103.out 3).trans rfl; have hcz17_4 : w16.cell? ⟨gb103, 4, none⟩ = some (.bool a0_4) := (blk_cell BK103.out 4).trans rfl; have hcz17_5 : w16.cell? ⟨gb103, 5, none⟩ = some (.slice A0_5 l0_5.length c0_5) := (blk_cell BK103.out 5).trans rfl; have hfz17_0 := blk_frozen BK103.out 0; have hfz17_1 := blk_frozen BK103.out 1; have hfz17_2 := blk_frozen BK103.out 2; have hfz17_3 := blk_frozen BK103.out 3; have hfz17_4 := blk_frozen BK103.out 4; have hfz17_5 := blk_frozen BK103.out 5) | ((with_reducible refine gate_callee (f := 29) rfl ?_); refine goesL_ (some 14) rfl rfl Tryd.func29 (by kernel_rfl) rfl #[.agg #[.int .i64 a0_0, .int .i64 a0_1, .int .i64 a0_2, .string a0_3, .bool a0_4, .slice A0_5 l0_5.length c0_5]] rfl (by (try simp only [List.map_toArray, List.map_cons, List.map_nil]); first | done | rfl | (simp only [List.length_drop, List.length_take]; rfl)) ?_; (with_reducible refine (ih_29 k (by omega) a0_0 a0_1 a0_2 a0_3 a0_4 _ _ l0_5 t106 _ ?side1 ?side2 A13.out ?side3).mono ?_); (case side1 => repeat (first | exact (Kd.C_below HR0_5.out HB.out) | (with_reducible refine Kd.C_alloc ?_ _) | (with_reducible refine Kd.C_drewN ?_ _) | (with_reducible refine Kd.C_drew ?_))); (case side2 => exact HC0_5.out); (case side3 => exact Tabs.below HT.out (by repeat (first | (with_reducible first | exact HB.out | apply below_alloc | apply pw_below_drewN | apply below_drew1 | refine below_set ?_ GE103.out) | exact HB.out))); rintro e w18 ⟨rfl, hb⟩; refine ⟨_, rfl, ?_⟩; have n0_ := Aside0.mk (blk_below (g := gb103) (o := .cells #[.int .i64 a0_0, .int .i64 a0_1, .int .i64 a0_2, .string a0_3, .bool a0_4, .slice A0_5 l0_5.length c0_5] 51 (0, 0)) (by (with_reducible repeat (first | refine blk_drewN ?_ _ | refine blk_drew ?_ | refine blk_alloc ?_ _)); exact BK103.out) hb); have n1_ := Aside0.mk (below_step (by repeat (first | (with_reducible first | exact HB.out | apply below_alloc | apply pw_below_drewN | apply below_drew1 | refine below_set ?_ GE103.out) | exact HB.out)) hb); clear BK103; clear HB; have BK103 := n0_; have HB := n1_; clear n0_ n1_; (try clear hb); (try clear hb2); (try clear hk); (try clear hi)))
  go_ret
  exact ⟨by first | rfl | (simp [errW_none, errW_some] <;> rfl) | (simp [*, errW_none, errW_some] <;> rfl), by repeat (first | (with_reducible first | exact HB.out | apply below_alloc | apply pw_below_drewN | apply below_drew1 | refine below_set ?_ GE103.out) | exact HB.out)⟩

/-! ### tree_neg: function 69 -/
set_option maxHeartbeats 8000000 in
set_option maxRecDepth 100000 in
theorem tree_neg.step (k : Nat) (ih_70 : ∀ m, m < k → tree_at.Stmt m) (ih_69 : ∀ m, m < k → tree_neg.Stmt m) (ih_71 : ∀ m, m < k → tree_binary.Stmt m) (ih_73 : ∀ m, m < k → tree_list.Stmt m) (ih_29 : ∀ m, m < k → tree_Text.Stmt m) : ∀ (a0_0 : Int) (a0_1 : Int) (a0_2 : Int) (a0_3 : ByteArray) (a0_4 : Bool) (A0_5 : Option Addr) (c0_5 : Nat) (l0_5 : List (S51)) (r : ByteArray) (w : World) (hr0_5 : Kd.C k51 w A0_5 l0_5.length l0_5) (hc0_5 : l0_5.length ≤ c0_5) (h : tree_neg.f k a0_0 a0_1 a0_2 a0_3 a0_4 l0_5 = some r) (hT : Tabs w),
  Calls Tryd.prog 69 #[.agg #[.int .i64 a0_0, .int .i64 a0_1, .int .i64 a0_2, .string a0_3, .bool a0_4, .slice A0_5 l0_5.length c0_5]] w fun e w' => e = .returned (.string r) ∧ Below w.heap.size w w' := by
 intro a0_0 a0_1 a0_2 a0_3 a0_4 A0_5 c0_5 l0_5 r w hr0_5 hc0_5 h hT
 cases k with
 | zero => exact absurd h (by simp [tree_neg.f])
 | succ k =>
 simp only [tree_neg.f] at h
 have HT := Aside0.mk hT
 clear hT
 have hu51 := Tryd.underlying51
 have HR0_5 := Aside0.mk hr0_5
 have HC0_5 := Aside0.mk hc0_5
 clear hr0_5 hc0_5
 have HB := Aside0.mk (Below.refl w.heap.size w)
 have H : ((tree_at.f k a0_0 a0_1 a0_2 a0_3 a0_4 l0_5 8).bind fun t108 => (if a0_0 = 1 then ((tree_Text.f k a0_0 a0_1 a0_2 a0_3 a0_4 l0_5).bind fun t109 => (if 2 + t109.size ≤ 9223372036854775807 then (if ((⟨#[45, 40]⟩ : ByteArray) ++ t109).size + 1 ≤ 9223372036854775807 then (some (((⟨#[45, 40]⟩ : ByteArray) ++ t109) ++ (⟨#[41]⟩ : ByteArray))) else (none)) else (none))) else (if 0 < (t108.size : Int) then (if (bt t108 0) = 45 then ((tree_Text.f k a0_0 a0_1 a0_2 a0_3 a0_4 l0_5).bind fun t110 => (if 2 + t110.size ≤ 9223372036854775807 then (if ((⟨#[45, 40]⟩ : ByteArray) ++ t110).size + 1 ≤ 9223372036854775807 then (some (((⟨#[45, 40]⟩ : ByteArray) ++ t110) ++ (⟨#[41]⟩ : ByteArray))) else (none)) else (none))) else (if 1 + t108.size ≤ 9223372036854775807 then (some ((⟨#[45]⟩ : ByteArray) ++ t108)) else (none))) else (none)))) = some r := h
 clear h
 replace H := Option.bind_eq_some_iff.mp H
 obtain ⟨t108, A20, H⟩ := H
 replace H : (if a0_0 = 1 then ((tree_Text.f k a0_0 a0_1 a0_2 a0_3 a0_4 l0_5).bind fun t109 => (if 2 + t109.size ≤ 9223372036854775807 then (if ((⟨#[45, 40]⟩ : ByteArray) ++ t109).size + 1 ≤ 9223372036854775807 then (some (((⟨#[45, 40]⟩ : ByteArray) ++ t109) ++ (⟨#[41]⟩ : ByteArray))) else (none)) else (none))) else (if 0 < (t108.size : Int) then (if (bt t108 0) = 45 then ((tree_Text.f k a0_0 a0_1 a0_2 a0_3 a0_4 l0_5).bind fun t110 => (if 2 + t110.size ≤ 9223372036854775807 then (if ((⟨#[45, 40]⟩ : ByteArray) ++ t110).size + 1 ≤ 9223372036854775807 then (some (((⟨#[45, 40]⟩ : ByteArray) ++ t110) ++ (⟨#[41]⟩ : ByteArray))) else (none)) else (none))) else (if 1 + t108.size ≤ 9223372036854775807 then (some ((⟨#[45]⟩ : ByteArray) ++ t108)) else (none))) else (none))) = some r := H
 have A2 := Aside0.mk A20
 clear A20
 by_cases c3 : a0_0 = 1
 ·rw [if_pos c3] at H
  have c3b0 : (a0_0 == 1) = true := beq_iff_eq.mpr c3
  have c3b1 : (a0_0 != 1) = false := bne_eq_false_iff_eq.mpr c3
  clear c3
  replace H := Option.bind_eq_some_iff.mp H
  obtain ⟨t109, A40, H⟩ := H
  replace H : (if 2 + t109.size ≤ 9223372036854775807 then (if ((⟨#[45, 40]⟩ : ByteArray) ++ t109).size + 1 ≤ 9223372036854775807 then (some (((⟨#[45, 40]⟩ : ByteArray) ++ t109) ++ (⟨#[41]⟩ : ByteArray))) else (none)) else (none)) = some r := H
  have A4 := Aside0.mk A40
  clear A40
  by_cases c5 : 2 + t109.size ≤ 9223372036854775807
  ·rw [if_pos c5] at H
   have c5b0 := eq_true c5
   have c5b1 : decide (2 + t109.size ≤ 9223372036854775807) = true := decide_eq_true c5
   try have c5b2 : (9223372036854775807 < 2 + t109.size) = False := eq_false (Nat.not_lt.2 c5)
   by_cases c6 : ((⟨#[45, 40]⟩ : ByteArray) ++ t109).size + 1 ≤ 9223372036854775807
   ·rw [if_pos c6] at H
    have c6b0 := eq_true c6
    have c6b1 : decide (((⟨#[45, 40]⟩ : ByteArray) ++ t109).size + 1 ≤ 9223372036854775807) = true := decide_eq_true c6
    try have c6b2 : (9223372036854775807 < ((⟨#[45, 40]⟩ : ByteArray) ++ t109).size + 1) = False := eq_false (Nat.not_lt.2 c6)
    try have c6b9 : (9223372036854775807 < 2 + t109.size + 1) = False := eq_false (by have h_ := c6; simp only [ByteArray.size_append] at h_; exact Nat.not_lt.2 h_)
    obtain rfl := Option.some.inj H
    go_enter Tryd.func69, Tryd.ntmps69
    go_wp2_with (first | ((with_reducible refine gate_dst (N := 1) rfl ?_); refine box_event ?hg (N := 1) ?hd (cs := #[.int .i64 a0_0, .int .i64 a0_1, .int .i64 a0_2, .string a0_3, .bool a0_4, .slice A0_5 l0_5.length c0_5]) (t := 51) ?hr ?_; (case hd => rfl); (case hg => rfl); (case hr => first | (go_simp; done) | (go_simp; rfl)); intro gb107 hg w7 hbox hb; have n0_ := Aside0.mk (below_step (by repeat (first | (with_reducible first | exact HB.out | apply below_alloc | apply pw_below_drewN | apply below_drew1) | exact HB.out)) hb); have n1_ := Aside0.mk (hbox); have n2_ := Aside0.mk ((by rw [hg]; exact (below_size (by repeat (first | (with_reducible first | exact HB.out | apply below_alloc | apply pw_below_drewN | apply below_drew1) | exact HB.out))) : w.heap.size ≤ gb107)); have n3_ := Aside0.mk ((by rw [hg]; exact (below_size (by repeat (first | (with_reducible first | exact HB.out | apply below_alloc | apply pw_below_drewN | apply below_drew1) | exact HB.out))) : w.heap.size ≤ gb107)); clear HB; have HB := n0_; have BK107 := n1_; have GW107 := n2_; have GE107 := n3_; clear n0_ n1_ n2_ n3_; clear hb hbox hg; have hcz8_0 : w7.cell? ⟨gb107, 0, none⟩ = some (.int .i64 a0_0) := (blk_cell BK107.out 0).trans rfl; have hcz8_1 : w7.cell? ⟨gb107, 1, none⟩ = some (.int .i64 a0_1) := (blk_cell BK107.out 1).trans rfl; have hcz8_2 : w7.cell? ⟨gb107, 2, none⟩ = some (.int .i64 a0_2) := (blk_cell BK107.out 2).trans rfl; have hcz8_3 : w7.cell? ⟨gb107, 3, none⟩ = some (.string a0_3) := (blk_cell BK107.out 3).trans rfl; have hcz8_4 : w7.cell? ⟨gb107, 4, none⟩ = some (.bool a0_4) := (blk_cell BK107.out 4).trans rfl; have hcz8_5 : w7.cell? ⟨gb107, 5, none⟩ = some (.slice A0_5 l0_5.length c0_5) := (blk_cell BK107.out 5).trans rfl; have hfz8_0 := blk_frozen BK107.out 0; have hfz8_1 := blk_frozen BK107.out 1; have hfz8_2 := blk_frozen BK107.out 2; have hfz8_3 := blk_frozen BK107.out 3; have hfz8_4 := blk_frozen BK107.out 4; have hfz8_5 := blk_frozen BK107.out 5) | ((with_reducible refine gate_callee (f := 70) rfl ?_); refine goesL_ (some 5) rfl rfl Tryd.func70 (by kernel_rfl) rfl #[.agg #[.int .i64 a0_0, .int .i64 a0_1, .int .i64 a0_2, .string a0_3, .bool a0_4, .slice A0_5 l0_5.length c0_5], .int .i64 8] rfl (by (try simp only [List.map_toArray, List.map_cons, List.map_nil]); first | done | rfl | (simp only [List.length_drop, List.length_take]; rfl)) ?_; (with_reducible refine (ih_70 k (by omega) a0_0 a0_1 a0_2 a0_3 a0_4 _ _ l0_5 8 t108 _ ?side1 ?side2 A2.out ?side3).mono ?_); (case side1 => repeat (first | exact (Kd.C_below HR0_5.out HB.out) | (with_reducible refine Kd.C_alloc ?_ _) | (with_reducible refine Kd.C_drewN ?_ _) | (with_reducible refine Kd.C_drew ?_))); (case side2 => exact HC0_5.out); (case side3 => exact Tabs.below HT.out (by repeat (first | (with_reducible first | exact HB.out | apply below_alloc | apply pw_below_drewN | apply below_drew1 | refine below_set ?_ GE107.out) | exact HB.out))); rintro e w9 ⟨rfl, hb⟩; refine ⟨_, rfl, ?_⟩; have n0_ := Aside0.mk (blk_below (g := gb107) (o := .cells #[.int .i64 a0_0, .int .i64 a0_1, .int .i64 a0_2, .string a0_3, .bool a0_4, .slice A0_5 l0_5.length c0_5] 51 (0, 0)) (by (with_reducible repeat (first | refine blk_drewN ?_ _ | refine blk_drew ?_ | refine blk_alloc ?_ _)); exact BK107.out) hb); have n1_ := Aside0.mk (below_step (by repeat (first | (with_reducible first | exact HB.out | apply below_alloc | apply pw_below_drewN | apply below_drew1 | refine below_set ?_ GE107.out) | exact HB.out)) hb); clear BK107; clear HB; have BK107 := n0_; have HB := n1_; clear n0_ n1_; (try clear hb); (try clear hb2); (try clear hk); (try clear hi); have hcz10_0 : w9.cell? ⟨gb107, 0, none⟩ = some (.int .i64 a0_0) := (blk_cell BK107.out 0).trans rfl; have hcz10_1 : w9.cell? ⟨gb107, 1, none⟩ = some (.int .i64 a0_1) := (blk_cell BK107.out 1).trans rfl; have hcz10_2 : w9.cell? ⟨gb107, 2, none⟩ = some (.int .i64 a0_2) := (blk_cell BK107.out 2).trans rfl; have hcz10_3 : w9.cell? ⟨gb107, 3, none⟩ = some (.string a0_3) := (blk_cell BK107.out 3).trans rfl; have hcz10_4 : w9.cell? ⟨gb107, 4, none⟩ = some (.bool a0_4) := (blk_cell BK107.out 4).trans rfl; have hcz10_5 : w9.cell? ⟨gb107, 5, none⟩ = some (.slice A0_5 l0_5.length c0_5) := (blk_cell BK107.out 5).trans rfl; have hfz10_0 := blk_frozen BK107.out 0; have hfz10_1 := blk_frozen BK107.out 1; have hfz10_2 := blk_frozen BK107.out 2; have hfz10_3 := blk_frozen BK107.out 3; have hfz10_4 := blk_frozen BK107.out 4; have hfz10_5 := blk_frozen BK107.out 5) | ((with_reducible refine gate_callee (f := 29) rfl ?_); refine goesL_ (some 15) rfl rfl Tryd.func29 (by kernel_rfl) rfl #[.agg #[.int .i64 a0_0, .int .i64 a0_1, .int .i64 a0_2, .string a0_3, .bool a0_4, .slice A0_5 l0_5.length c0_5]] rfl (by (try simp only [List.map_toArray, List.map_cons, List.map_nil]); first | done | rfl | (simp only [List.length_drop, List.length_take]; rfl)) ?_; (with_reducible refine (ih_29 k (by omega) a0_0 a0_1 a0_2 a0_3 a0_4 _ _ l0_5 t109 _ ?side1 ?side2 A4.out ?side3).mono ?_); (case side1 => repeat (first | exact (Kd.C_below HR0_5.out HB.out) | (with_reducible refine Kd.C_alloc ?_ _) | (with_reducible refine Kd.C_drewN ?_ _) | (with_reducible refine Kd.C_drew ?_))); (case side2 => exact HC0_5.out); (case side3 => exact Tabs.below HT.out (by repeat (first | (with_reducible first | exact HB.out | apply below_alloc | apply pw_below_drewN | apply below_drew1 | refine below_set ?_ GE107.out) | exact HB.out))); rintro e w11 ⟨rfl, hb⟩; refine ⟨_, rfl, ?_⟩; have n0_ := Aside0.mk (blk_below (g := gb107) (o := .cells #[.int .i64 a0_0, .int .i64 a0_1, .int .i64 a0_2, .string a0_3, .bool a0_4, .slice A0_5 l0_5.length c0_5] 51 (0, 0)) (by (with_reducible repeat (first | refine blk_drewN ?_ _ | refine blk_drew ?_ | refine blk_alloc ?_ _)); exact BK107.out) hb); have n1_ := Aside0.mk (below_step (by repeat (first | (with_reducible first | exact HB.out | apply below_alloc | apply pw_below_drewN | apply below_drew1 | refine below_set ?_ GE107.out) | exact HB.out)) hb); clear BK107; clear HB; have BK107 := n0_; have HB := n1_; clear n0_ n1_; (try clear hb); (try clear hb2); (try clear hk); (try clear hi)))
    go_ret
    exact ⟨by first | rfl | (simp [errW_none, errW_some] <;> rfl) | (simp [*, errW_none, errW_some] <;> rfl), by repeat (first | (with_reducible first | exact HB.out | apply below_alloc | apply pw_below_drewN | apply below_drew1 | refine below_set ?_ GE107.out) | exact HB.out)⟩
   ·rw [if_neg c6] at H
    exact absurd H (by simp)
  ·rw [if_neg c5] at H
   exact absurd H (by simp)
 ·rw [if_neg c3] at H
  have c3b0 : (a0_0 == 1) = false := beq_eq_false_iff_ne.mpr c3
  have c3b1 : (a0_0 != 1) = true := bne_iff_ne.mpr c3
  by_cases c12 : 0 < (t108.size : Int)
  ·rw [if_pos c12] at H
   have c12b0 : decide (0 < (t108.size : Int)) = true := decide_eq_true c12
   have c12b1 : decide (0 < t108.size) = true := decide_eq_true (by omega)
   clear c12
   by_cases c14 : (bt t108 0) = 45
   ·rw [if_pos c14] at H
    have c14b0 : ((bt t108 0) == 45) = true := beq_iff_eq.mpr c14
    have c14b1 : ((bt t108 0) != 45) = false := bne_eq_false_iff_eq.mpr c14
    clear c14
    replace H := Option.bind_eq_some_iff.mp H
    obtain ⟨t110, A150, H⟩ := H
    replace H : (if 2 + t110.size ≤ 9223372036854775807 then (if ((⟨#[45, 40]⟩ : ByteArray) ++ t110).size + 1 ≤ 9223372036854775807 then (some (((⟨#[45, 40]⟩ : ByteArray) ++ t110) ++ (⟨#[41]⟩ : ByteArray))) else (none)) else (none)) = some r := H
    have A15 := Aside0.mk A150
    clear A150
    by_cases c16 : 2 + t110.size ≤ 9223372036854775807
    ·rw [if_pos c16] at H
     have c16b0 := eq_true c16
     have c16b1 : decide (2 + t110.size ≤ 9223372036854775807) = true := decide_eq_true c16
     try have c16b2 : (9223372036854775807 < 2 + t110.size) = False := eq_false (Nat.not_lt.2 c16)
     by_cases c17 : ((⟨#[45, 40]⟩ : ByteArray) ++ t110).size + 1 ≤ 9223372036854775807
     ·rw [if_pos c17] at H
      have c17b0 := eq_true c17
      have c17b1 : decide (((⟨#[45, 40]⟩ : ByteArray) ++ t110).size + 1 ≤ 9223372036854775807) = true := decide_eq_true c17
      try have c17b2 : (9223372036854775807 < ((⟨#[45, 40]⟩ : ByteArray) ++ t110).size + 1) = False := eq_false (Nat.not_lt.2 c17)
      try have c17b9 : (9223372036854775807 < 2 + t110.size + 1) = False := eq_false (by have h_ := c17; simp only [ByteArray.size_append] at h_; exact Nat.not_lt.2 h_)
      obtain rfl := Option.some.inj H
      go_enter Tryd.func69, Tryd.ntmps69
      go_wp2_with (first | ((with_reducible refine gate_dst (N := 1) rfl ?_); refine box_event ?hg (N := 1) ?hd (cs := #[.int .i64 a0_0, .int .i64 a0_1, .int .i64 a0_2, .string a0_3, .bool a0_4, .slice A0_5 l0_5.length c0_5]) (t := 51) ?hr ?_; (case hd => rfl); (case hg => rfl); (case hr => first | (go_simp; done) | (go_simp; rfl)); intro gb107 hg w18 hbox hb; have n0_ := Aside0.mk (below_step (by repeat (first | (with_reducible first | exact HB.out | apply below_alloc | apply pw_below_drewN | apply below_drew1) | exact HB.out)) hb); have n1_ := Aside0.mk (hbox); have n2_ := Aside0.mk ((by rw [hg]; exact (below_size (by repeat (first | (with_reducible first | exact HB.out | apply below_alloc | apply pw_below_drewN | apply below_drew1) | exact HB.out))) : w.heap.size ≤ gb107)); have n3_ := Aside0.mk ((by rw [hg]; exact (below_size (by repeat (first | (with_reducible first | exact HB.out | apply below_alloc | apply pw_below_drewN | apply below_drew1) | exact HB.out))) : w.heap.size ≤ gb107)); clear HB; have HB := n0_; have BK107 := n1_; have GW107 := n2_; have GE107 := n3_; clear n0_ n1_ n2_ n3_; clear hb hbox hg; have hcz19_0 : w18.cell? ⟨gb107, 0, none⟩ = some (.int .i64 a0_0) := (blk_cell BK107.out 0).trans rfl; have hcz19_1 : w18.cell? ⟨gb107, 1, none⟩ = some (.int .i64 a0_1) := (blk_cell BK107.out 1).trans rfl; have hcz19_2 : w18.cell? ⟨gb107, 2, none⟩ = some (.int .i64 a0_2) := (blk_cell BK107.out 2).trans rfl; have hcz19_3 : w18.cell? ⟨gb107, 3, none⟩ = some (.string a0_3) := (blk_cell BK107.out 3).trans rfl; have hcz19_4 : w18.cell? ⟨gb107, 4, none⟩ = some (.bool a0_4) := (blk_cell BK107.out 4).trans rfl; have hcz19_5 : w18.cell? ⟨gb107, 5, none⟩ = some (.slice A0_5 l0_5.length c0_5) := (blk_cell BK107.out 5).trans rfl; have hfz19_0 := blk_frozen BK107.out 0; have hfz19_1 := blk_frozen BK107.out 1; have hfz19_2 := blk_frozen BK107.out 2; have hfz19_3 := blk_frozen BK107.out 3; have hfz19_4 := blk_frozen BK107.out 4; have hfz19_5 := blk_frozen BK107.out 5) | ((with_reducible refine gate_callee (f := 70) rfl ?_); refine goesL_ (some 5) rfl rfl Tryd.func70 (by kernel_rfl) rfl #[.agg #[.int .i64 a0_0, .int .i64 a0_1, .int .i64 a0_2, .string a0_3, .bool a0_4, .slice A0_5 l0_5.length c0_5], .int .i64 8] rfl (by (try simp only [List.map_toArray, List.map_cons, List.map_nil]); first | done | rfl | (simp only [List.length_drop, List.length_take]; rfl)) ?_; (with_reducible refine (ih_70 k (by omega) a0_0 a0_1 a0_2 a0_3 a0_4 _ _ l0_5 8 t108 _ ?side1 ?side2 A2.out ?side3).mono ?_); (case side1 => repeat (first | exact (Kd.C_below HR0_5.out HB.out) | (with_reducible refine Kd.C_alloc ?_ _) | (with_reducible refine Kd.C_drewN ?_ _) | (with_reducible refine Kd.C_drew ?_))); (case side2 => exact HC0_5.out); (case side3 => exact Tabs.below HT.out (by repeat (first | (with_reducible first | exact HB.out | apply below_alloc | apply pw_below_drewN | apply below_drew1 | refine below_set ?_ GE107.out) | exact HB.out))); rintro e w20 ⟨rfl, hb⟩; refine ⟨_, rfl, ?_⟩; have n0_ := Aside0.mk (blk_below (g := gb107) (o := .cells #[.int .i64 a0_0, .int .i64 a0_1, .int .i64 a0_2, .string a0_3, .bool a0_4, .slice A0_5 l0_5.length c0_5] 51 (0, 0)) (by (with_reducible repeat (first | refine blk_drewN ?_ _ | refine blk_drew ?_ | refine blk_alloc ?_ _)); exact BK107.out) hb); have n1_ := Aside0.mk (below_step (by repeat (first | (with_reducible first | exact HB.out | apply below_alloc | apply pw_below_drewN | apply below_drew1 | refine below_set ?_ GE107.out) | exact HB.out)) hb); clear BK107; clear HB; have BK107 := n0_; have HB := n1_; clear n0_ n1_; (try clear hb); (try clear hb2); (try clear hk); (try clear hi); have hcz21_0 : w20.cell? ⟨gb107, 0, none⟩ = some (.int .i64 a0_0) := (blk_cell BK107.out 0).trans rfl; have hcz21_1 : w20.cell? ⟨gb107, 1, none⟩ = some (.int .i64 a0_1) := (blk_cell BK107.out 1).trans rfl; have hcz21_2 : w20.cell? ⟨gb107, 2, none⟩ = some (.int .i64 a0_2) := (blk_cell BK107.out 2).trans rfl; have hcz21_3 : w20.cell? ⟨gb107, 3, none⟩ = some (.string a0_3) := (blk_cell BK107.out 3).trans rfl; have hcz21_4 : w20.cell? ⟨gb107, 4, none⟩ = some (.bool a0_4) := (blk_cell BK107.out 4).trans rfl; have hcz21_5 : w20.cell? ⟨gb107, 5, none⟩ = some (.slice A0_5 l0_5.length c0_5) := (blk_cell BK107.out 5).trans rfl; have hfz21_0 := blk_frozen BK107.out 0; have hfz21_1 := blk_frozen BK107.out 1; have hfz21_2 := blk_frozen BK107.out 2; have hfz21_3 := blk_frozen BK107.out 3; have hfz21_4 := blk_frozen BK107.out 4; have hfz21_5 := blk_frozen BK107.out 5; have p13 : 0 ≤ (0 : Int) := (by omega); have q13 : 0 < t108.size := (by have : (0 : Int) < (t108.size : Int) := of_decide_eq_true (by first | (with_reducible assumption) | assumption); omega); have hx13 : ∀ h : 0 < t108.size, ((t108[0]'h).toNat : Int) = bt t108 0 := bt_at t108 0; clear p13; have qi13 : (0 < (t108.size : Int)) = True := eq_true (of_decide_eq_true (by first | (with_reducible assumption) | assumption)); replace q13 := eq_true q13) | ((with_reducible refine gate_callee (f := 29) rfl ?_); refine goesL_ (some 15) rfl rfl Tryd.func29 (by kernel_rfl) rfl #[.agg #[.int .i64 a0_0, .int .i64 a0_1, .int .i64 a0_2, .string a0_3, .bool a0_4, .slice A0_5 l0_5.length c0_5]] rfl (by (try simp only [List.map_toArray, List.map_cons, List.map_nil]); first | done | rfl | (simp only [List.length_drop, List.length_take]; rfl)) ?_; (with_reducible refine (ih_29 k (by omega) a0_0 a0_1 a0_2 a0_3 a0_4 _ _ l0_5 t110 _ ?side1 ?side2 A15.out ?side3).mono ?_); (case side1 => repeat (first | exact (Kd.C_below HR0_5.out HB.out) | (with_reducible refine Kd.C_alloc ?_ _) | (with_reducible refine Kd.C_drewN ?_ _) | (with_reducible refine Kd.C_drew ?_))); (case side2 => exact HC0_5.out); (case side3 => exact Tabs.below HT.out (by repeat (first | (with_reducible first | exact HB.out | apply below_alloc | apply pw_below_drewN | apply below_drew1 | refine below_set ?_ GE107.out) | exact HB.out))); rintro e w22 ⟨rfl, hb⟩; refine ⟨_, rfl, ?_⟩; have n0_ := Aside0.mk (blk_below (g := gb107) (o := .cells #[.int .i64 a0_0, .int .i64 a0_1, .int .i64 a0_2, .string a0_3, .bool a0_4, .slice A0_5 l0_5.length c0_5] 51 (0, 0)) (by (with_reducible repeat (first | refine blk_drewN ?_ _ | refine blk_drew ?_ | refine blk_alloc ?_ _)); exact BK107.out) hb); have n1_ := Aside0.mk (below_step (by repeat (first | (with_reducible first | exact HB.out | apply below_alloc | apply pw_below_drewN | apply below_drew1 | refine below_set ?_ GE107.out) | exact HB.out)) hb); clear BK107; clear HB; have BK107 := n0_; have HB := n1_; clear n0_ n1_; (try clear hb); (try clear hb2); (try clear hk); (try clear hi)))
      go_ret
      exact ⟨by first | rfl | (simp [errW_none, errW_some] <;> rfl) | (simp [*, errW_none, errW_some] <;> rfl), by repeat (first | (with_reducible first | exact HB.out | apply below_alloc | apply pw_below_drewN | apply below_drew1 | refine below_set ?_ GE107.out) | exact HB.out)⟩
     ·rw [if_neg c17] at H
      exact absurd H (by simp)
    ·rw [if_neg c16] at H
     exact absurd H (by simp)
   ·rw [if_neg c14] at H
    have c14b0 : ((bt t108 0) == 45) = false := beq_eq_false_iff_ne.mpr c14
    have c14b1 : ((bt t108 0) != 45) = true := bne_iff_ne.mpr c14
    by_cases c23 : 1 + t108.size ≤ 9223372036854775807
    ·rw [if_pos c23] at H
     have c23b0 := eq_true c23
     have c23b1 : decide (1 + t108.size ≤ 9223372036854775807) = true := decide_eq_true c23
     try have c23b2 : (9223372036854775807 < 1 + t108.size) = False := eq_false (Nat.not_lt.2 c23)
     obtain rfl := Option.some.inj H
     go_enter Tryd.func69, Tryd.ntmps69
     go_wp2_with (first | ((with_reducible refine gate_dst (N := 1) rfl ?_); refine box_event ?hg (N := 1) ?hd (cs := #[.int .i64 a0_0, .int .i64 a0_1, .int .i64 a0_2, .string a0_3, .bool a0_4, .slice A0_5 l0_5.length c0_5]) (t := 51) ?hr ?_; (case hd => rfl); (case hg => rfl); (case hr => first | (go_simp; done) | (go_simp; rfl)); intro gb107 hg w24 hbox hb; have n0_ := Aside0.mk (below_step (by repeat (first | (with_reducible first | exact HB.out | apply below_alloc | apply pw_below_drewN | apply below_drew1) | exact HB.out)) hb); have n1_ := Aside0.mk (hbox); have n2_ := Aside0.mk ((by rw [hg]; exact (below_size (by repeat (first | (with_reducible first | exact HB.out | apply below_alloc | apply pw_below_drewN | apply below_drew1) | exact HB.out))) : w.heap.size ≤ gb107)); have n3_ := Aside0.mk ((by rw [hg]; exact (below_size (by repeat (first | (with_reducible first | exact HB.out | apply below_alloc | apply pw_below_drewN | apply below_drew1) | exact HB.out))) : w.heap.size ≤ gb107)); clear HB; have HB := n0_; have BK107 := n1_; have GW107 := n2_; have GE107 := n3_; clear n0_ n1_ n2_ n3_; clear hb hbox hg; have hcz25_0 : w24.cell? ⟨gb107, 0, none⟩ = some (.int .i64 a0_0) := (blk_cell BK107.out 0).trans rfl; have hcz25_1 : w24.cell? ⟨gb107, 1, none⟩ = some (.int .i64 a0_1) := (blk_cell BK107.out 1).trans rfl; have hcz25_2 : w24.cell? ⟨gb107, 2, none⟩ = some (.int .i64 a0_2) := (blk_cell BK107.out 2).trans rfl; have hcz25_3 : w24.cell? ⟨gb107, 3, none⟩ = some (.string a0_3) := (blk_cell BK107.out 3).trans rfl; have hcz25_4 : w24.cell? ⟨gb107, 4, none⟩ = some (.bool a0_4) := (blk_cell BK107.out 4).trans rfl; have hcz25_5 : w24.cell? ⟨gb107, 5, none⟩ = some (.slice A0_5 l0_5.length c0_5) := (blk_cell BK107.out 5).trans rfl; have hfz25_0 := blk_frozen BK107.out 0; have hfz25_1 := blk_frozen BK107.out 1; have hfz25_2 := blk_frozen BK107.out 2; have hfz25_3 := blk_frozen BK107.out 3; have hfz25_4 := blk_frozen BK107.out 4; have hfz25_5 := blk_frozen BK107.out 5) | ((with_reducible refine gate_callee (f := 70) rfl ?_); refine goesL_ (some 5) rfl rfl Tryd.func70 (by kernel_rfl) rfl #[.agg #[.int .i64 a0_0, .int .i64 a0_1, .int .i64 a0_2, .string a0_3, .bool a0_4, .slice A0_5 l0_5.length c0_5], .int .i64 8] rfl (by (try simp only [List.map_toArray, List.map_cons, List.map_nil]); first | done | rfl | (simp only [List.length_drop, List.length_take]; rfl)) ?_; (with_reducible refine (ih_70 k (by omega) a0_0 a0_1 a0_2 a0_3 a0_4 _ _ l0_5 8 t108 _ ?side1 ?side2 A2.out ?side3).mono ?_); (case side1 => repeat (first | exact (Kd.C_below HR0_5.out HB.out) | (with_reducible refine Kd.C_alloc ?_ _) | (with_reducible refine Kd.C_drewN ?_ _) | (with_reducible refine Kd.C_drew ?_))); (case side2 => exact HC0_5.out); (case side3 => exact Tabs.below HT.out (by repeat (first | (with_reducible first | exact HB.out | apply below_alloc | apply pw_below_drewN | apply below_drew1 | refine below_set ?_ GE107.out) | exact HB.out))); rintro e w26 ⟨rfl, hb⟩; refine ⟨_, rfl, ?_⟩; have n0_ := Aside0.mk (blk_below (g := gb107) (o := .cells #[.int .i64 a0_0, .int .i64 a0_1, .int .i64 a0_2, .string a0_3, .bool a0_4, .slice A0_5 l0_5.length c0_5] 51 (0, 0)) (by (with_reducible repeat (first | refine blk_drewN ?_ _ | refine blk_drew ?_ | refine blk_alloc ?_ _)); exact BK107.out) hb); have n1_ := Aside0.mk (below_step (by repeat (first | (with_reducible first | exact HB.out | apply below_alloc | apply pw_below_drewN | apply below_drew1 | refine below_set ?_ GE107.out) | exact HB.out)) hb); clear BK107; clear HB; have BK107 := n0_; have HB := n1_; clear n0_ n1_; (try clear hb); (try clear hb2); (try clear hk); (try clear hi); have hcz27_0 : w26.cell? ⟨gb107, 0, none⟩ = some (.int .i64 a0_0) := (blk_cell BK107.out 0).trans rfl; have hcz27_1 : w26.cell? ⟨gb107, 1, none⟩ = some (.int .i64 a0_1) := (blk_cell BK107.out 1).trans rfl; have hcz27_2 : w26.cell? ⟨gb107, 2, none⟩ = some (.int .i64 a0_2) := (blk_cell BK107.out 2).trans rfl; have hcz27_3 : w26.cell? ⟨gb107, 3, none⟩ = some (.string a0_3) := (blk_cell BK107.out 3).trans rfl; have hcz27_4 : w26.cell? ⟨gb107, 4, none⟩ = some (.bool a0_4) := (blk_cell BK107.out 4).trans rfl; have hcz27_5 : w26.cell? ⟨gb107, 5, none⟩ = some (.slice A0_5 l0_5.length c0_5) := (blk_cell BK107.out 5).trans rfl; have hfz27_0 := blk_frozen BK107.out 0; have hfz27_1 := blk_frozen BK107.out 1; have hfz27_2 := blk_frozen BK107.out 2; have hfz27_3 := blk_frozen BK107.out 3; have hfz27_4 := blk_frozen BK107.out 4; have hfz27_5 := blk_frozen BK107.out 5; have p13 : 0 ≤ (0 : Int) := (by omega); have q13 : 0 < t108.size := (by have : (0 : Int) < (t108.size : Int) := of_decide_eq_true (by first | (with_reducible assumption) | assumption); omega); have hx13 : ∀ h : 0 < t108.size, ((t108[0]'h).toNat : Int) = bt t108 0 := bt_at t108 0; clear p13; have qi13 : (0 < (t108.size : Int)) = True := eq_true (of_decide_eq_true (by first | (with_reducible assumption) | assumption)); replace q13 := eq_true q13))
     go_ret
     exact ⟨by first | rfl | (simp [errW_none, errW_some] <;> rfl) | (simp [*, errW_none, errW_some] <;> rfl), by repeat (first | (with_reducible first | exact HB.out | apply below_alloc | apply pw_below_drewN | apply below_drew1 | refine below_set ?_ GE107.out) | exact HB.out)⟩
    ·rw [if_neg c23] at H
     exact absurd H (by simp)
  ·rw [if_neg c12] at H
   exact absurd H (by simp)

end Go.Proofs.YtnlkjimpefebbaaDoor.XT
