/- The law TypesAwaits over lists: a future with at most 10 values ahead fits just if all are of one type, and they are at most 8. -/
import Derived.Test.YtjafllnbgfcchaaDoorZAXTBx3
import Derived.Test.YtjafllnbgfcchaaDoorZAAwA
import Derived.Test.YtjafllnbgfcchaaDoorZAAwB
import Derived.Test.YtjafllnbgfcchaaDoorZAAwC
import Derived.Test.YtjafllnbgfcchaaDoorZAAwD
namespace Go.Proofs.YtjafllnbgfcchaaDoor.Pure
set_option linter.unusedVariables false
set_option linter.unusedSimpArgs false
open Go Go.RowKit Go.Proofs.YtjafllnbgfcchaaDoor.XTB Go.Proofs.YtjafllnbgfcchaaDoor.XK Go.Proofs.YtjafllnbgfcchaaDoorW.PrintWords Go.Proofs.YtjafllnbgfcchaaDoorW.PrintLast
theorem told8 (a0 a1 : Bool) (m : Fin 256) : told a0 a1 (bls 8 m.val) = true := by
 by_cases h0 : m.val < 128
 ·have e : 0 + (m.val - 0) = m.val := by omega
  exact (congrArg (fun q => told a0 a1 (bls 8 q)) e).symm.trans (told8_0 a0 a1 ⟨m.val - 0, by have := m.isLt; omega⟩)
 have e : 128 + (m.val - 128) = m.val := by omega
 exact (congrArg (fun q => told a0 a1 (bls 8 q)) e).symm.trans (told8_1 a0 a1 ⟨m.val - 128, by have := m.isLt; omega⟩)
theorem told9 (a0 a1 : Bool) (m : Fin 512) : told a0 a1 (bls 9 m.val) = true := by
 by_cases h0 : m.val < 128
 ·have e : 0 + (m.val - 0) = m.val := by omega
  exact (congrArg (fun q => told a0 a1 (bls 9 q)) e).symm.trans (told9_0 a0 a1 ⟨m.val - 0, by have := m.isLt; omega⟩)
 by_cases h1 : m.val < 256
 ·have e : 128 + (m.val - 128) = m.val := by omega
  exact (congrArg (fun q => told a0 a1 (bls 9 q)) e).symm.trans (told9_1 a0 a1 ⟨m.val - 128, by have := m.isLt; omega⟩)
 by_cases h2 : m.val < 384
 ·have e : 256 + (m.val - 256) = m.val := by omega
  exact (congrArg (fun q => told a0 a1 (bls 9 q)) e).symm.trans (told9_2 a0 a1 ⟨m.val - 256, by have := m.isLt; omega⟩)
 have e : 384 + (m.val - 384) = m.val := by omega
 exact (congrArg (fun q => told a0 a1 (bls 9 q)) e).symm.trans (told9_3 a0 a1 ⟨m.val - 384, by have := m.isLt; omega⟩)
theorem told10 (a0 a1 : Bool) (m : Fin 1024) : told a0 a1 (bls 10 m.val) = true := by
 by_cases h0 : m.val < 128
 ·have e : 0 + (m.val - 0) = m.val := by omega
  exact (congrArg (fun q => told a0 a1 (bls 10 q)) e).symm.trans (told10_0 a0 a1 ⟨m.val - 0, by have := m.isLt; omega⟩)
 by_cases h1 : m.val < 256
 ·have e : 128 + (m.val - 128) = m.val := by omega
  exact (congrArg (fun q => told a0 a1 (bls 10 q)) e).symm.trans (told10_1 a0 a1 ⟨m.val - 128, by have := m.isLt; omega⟩)
 by_cases h2 : m.val < 384
 ·have e : 256 + (m.val - 256) = m.val := by omega
  exact (congrArg (fun q => told a0 a1 (bls 10 q)) e).symm.trans (told10_2 a0 a1 ⟨m.val - 256, by have := m.isLt; omega⟩)
 by_cases h3 : m.val < 512
 ·have e : 384 + (m.val - 384) = m.val := by omega
  exact (congrArg (fun q => told a0 a1 (bls 10 q)) e).symm.trans (told10_3 a0 a1 ⟨m.val - 384, by have := m.isLt; omega⟩)
 by_cases h4 : m.val < 640
 ·have e : 512 + (m.val - 512) = m.val := by omega
  exact (congrArg (fun q => told a0 a1 (bls 10 q)) e).symm.trans (told10_4 a0 a1 ⟨m.val - 512, by have := m.isLt; omega⟩)
 by_cases h5 : m.val < 768
 ·have e : 640 + (m.val - 640) = m.val := by omega
  exact (congrArg (fun q => told a0 a1 (bls 10 q)) e).symm.trans (told10_5 a0 a1 ⟨m.val - 640, by have := m.isLt; omega⟩)
 by_cases h6 : m.val < 896
 ·have e : 768 + (m.val - 768) = m.val := by omega
  exact (congrArg (fun q => told a0 a1 (bls 10 q)) e).symm.trans (told10_6 a0 a1 ⟨m.val - 768, by have := m.isLt; omega⟩)
 have e : 896 + (m.val - 896) = m.val := by omega
 exact (congrArg (fun q => told a0 a1 (bls 10 q)) e).symm.trans (told10_7 a0 a1 ⟨m.val - 896, by have := m.isLt; omega⟩)
theorem told_all (a0 a1 : Bool) (ts : List Bool) (h : ts.length ≤ 10) : told a0 a1 ts = true := by
 obtain ⟨e, hc⟩ := bls_code ts
 obtain ⟨n, hn⟩ : ∃ n, ts.length = n := ⟨_, rfl⟩
 rw [hn] at e hc h
 rw [← e]
 match n, h, hc with
 | 0, _, hc => exact told0 a0 a1 ⟨code ts, hc⟩
 | 1, _, hc => exact told1 a0 a1 ⟨code ts, hc⟩
 | 2, _, hc => exact told2 a0 a1 ⟨code ts, hc⟩
 | 3, _, hc => exact told3 a0 a1 ⟨code ts, hc⟩
 | 4, _, hc => exact told4 a0 a1 ⟨code ts, hc⟩
 | 5, _, hc => exact told5 a0 a1 ⟨code ts, hc⟩
 | 6, _, hc => exact told6 a0 a1 ⟨code ts, hc⟩
 | 7, _, hc => exact told7 a0 a1 ⟨code ts, hc⟩
 | 8, _, hc => exact told8 a0 a1 ⟨code ts, hc⟩
 | 9, _, hc => exact told9 a0 a1 ⟨code ts, hc⟩
 | 10, _, hc => exact told10 a0 a1 ⟨code ts, hc⟩
 | n + 11, h, _ => omega
theorem check_of (a0 a1 : Bool) (ts : List Bool) (h : ts.length ≤ 10) : ∃ l rest f, PX.program (12 * (textT a0 a1 ts).length + 10) (textT a0 a1 ts) = .ok l rest ∧ Ct.check 100 (l.map Ct.rN0) = some f ∧ (f.2 == 0) = (fits a0 a1 ts && a0) := by
 have h1 := told_all a0 a1 ts h
 unfold told at h1
 split at h1
 ·rename_i l rest hp
  split at h1
  ·rename_i f hc
   exact ⟨l, rest, f, hp, hc, by simpa using h1⟩
  ·cases h1
 ·cases h1
theorem word_f (b : Bool) : girandolelaw05_TypesAwaits_1.f b = some (ba (wB b)) := by cases b <;> rfl
theorem wB_len (b : Bool) : (wB b).length ≤ 4 := by cases b <;> decide
theorem ba_list (l : List UInt8) : (ba l).toList = l := by
 rw [Fnd.toList_data]
 simp [ba]
theorem size_lit (a : Array UInt8) : (⟨a⟩ : ByteArray).size = a.size := rfl
theorem commas_len : ∀ ts : List Bool, (PX.commasB (ts.map litB)).length ≤ 6 * ts.length
 | [] => Nat.zero_le _
 | [t] => by
  show (litB t).length ≤ 6
  cases t <;> decide
 | t :: y :: r => by
  have ih := commas_len (y :: r)
  have e : PX.commasB ((t :: y :: r).map litB) = litB t ++ 44 :: 32 :: PX.commasB ((y :: r).map litB) := rfl
  rw [e, List.length_append, List.length_cons, List.length_cons]
  rw [List.length_cons] at ih ⊢
  have : (litB t).length ≤ 4 := by cases t <;> decide
  rw [List.length_cons]
  omega
theorem aft_len (ts : List Bool) (h : ts.length ≤ 10) : (aft ts).length ≤ 100 := by
 unfold aft
 split
 ·exact Nat.zero_le _
 ·have := commas_len ts
  simp only [PX.parB, List.length_cons, List.length_append, List.length_nil]
  omega
theorem text_len (a0 a1 : Bool) (ts : List Bool) (h : ts.length ≤ 10) : (text a0 a1 ts).length ≤ 4000 := by
 have h1 := aft_len ts h
 have h2 : ∀ a0 a1, (tx1 a0 a1).length ≤ 200 := by decide
 have h3 : ∀ a0, (tx2 a0).length ≤ 200 := by decide
 have := h2 a0 a1
 have := h3 a0
 unfold text
 rw [List.length_append, List.length_append]
 omega
theorem parse_ok (a0 a1 : Bool) (ts : List Bool) (h : ts.length ≤ 10) : ∃ ns r, parse_Program.f (ba (text a0 a1 ts)) = some (ns, 0, 0) ∧ types_Check.f ns = some r ∧ (r.1 == 0 && r.2 == 0) = (fits a0 a1 ts && a0) := by
 obtain ⟨l', rest, f, hp, hf, he⟩ := check_of a0 a1 ts h
 obtain ⟨toks, r, h1, h2, h3, h4⟩ := Ct.canon2 (text_len a0 a1 ts h) (text_lx a0 a1 ts) hp hf
 refine ⟨l'.map (Px.realN toks), r, ?_, h3, h4.trans he⟩
 unfold parse_Program.f
 rw [if_pos (by rw [ba_size]; exact text_len a0 a1 ts h), show (ba (text a0 a1 ts)).data.toList = text a0 a1 ts from by simp [ba], h1]
 dsimp only
 rw [h2]
theorem j2_ok (k : Nat) (a0 a1 : Bool) (ts : List Bool) (h : ts.length ≤ 10) : girandolelaw05_TypesAwaits.j2 (k + 1) a0 a1 (ba (aft ts)) (fits a0 a1 ts) = some true := by
 obtain ⟨ns, r, h1, h2, h3⟩ := parse_ok a0 a1 ts h
 have ha := aft_len ts h
 have hw0 := wB_len a0
 have hw1 := wB_len a1
 have ht : ba (text a0 a1 ts) = (((((((((⟨#[110, 111, 100, 101, 32, 102, 40, 41, 32, 114, 101, 116, 117, 114, 110, 115, 32, 40, 121, 58, 32]⟩ : ByteArray) ++ ba (wB a1)) ++ (⟨#[41, 32, 118, 97, 114, 32, 117, 58, 32, 102, 117, 116, 117, 114, 101, 32]⟩ : ByteArray)) ++ ba (wB a0)) ++ (⟨#[59, 32, 108, 101, 116, 32, 117, 32, 61, 32, 97, 115, 121, 110, 99, 32, 103, 40, 41, 59, 32, 121, 32, 61, 32, 97, 119, 97, 105, 116, 32, 117]⟩ : ByteArray)) ++ ba (aft ts)) ++ (⟨#[59, 32, 116, 101, 108, 32, 110, 111, 100, 101, 32, 103, 40, 41, 32, 114, 101, 116, 117, 114, 110, 115, 32, 40, 120, 58, 32]⟩ : ByteArray)) ++ ba (wB a0)) ++ (⟨#[41, 32, 108, 101, 116, 32, 120, 32, 61, 32, 48, 32, 60, 32, 49, 59, 32, 116, 101, 108]⟩ : ByteArray)) := by
  apply ByteArray.ext
  simp [ByteArray.data_append, ba, text, tx1, tx2]
 rw [girandolelaw05_TypesAwaits.j2]
 simp only [word_f, Option.bind_some]
 repeat rw [if_pos (by simp only [ByteArray.size_append, ba_size, size_lit, List.size_toArray, List.length_cons, List.length_nil]; omega)]
 rw [← ht, h1, Option.bind_some]
 show (if (!((0 : Int) == 0) || !((0 : Int) == 0)) = true then _ else _) = _
 rw [if_neg (by decide)]
 show (types_Check.f ns).bind _ = _
 rw [h2, Option.bind_some]
 show (if fits a0 a1 ts = true then some ((r.1 == 0 && r.2 == 0) == a0) else some ((r.1 == 0 && r.2 == 0) == false)) = some true
 rw [h3]
 cases fits a0 a1 ts <;> cases a0 <;> rfl
def part (ts : List Bool) : PX.B := if ts.isEmpty then [] else 32 :: ([97, 102, 116, 101, 114] ++ 32 :: 40 :: PX.commasB (ts.map litB))
theorem aft_part (ts : List Bool) : aft ts = part ts ++ (if ts.isEmpty then [] else [41]) := by
 unfold aft part PX.parB
 cases ts <;> simp
theorem commas_snoc : ∀ (ts : List Bool) (t : Bool), PX.commasB ((ts ++ [t]).map litB) = (if ts.isEmpty then [] else PX.commasB (ts.map litB) ++ [44, 32]) ++ litB t
 | [], t => by
  rfl
 | [y], t => by
  show litB y ++ 44 :: 32 :: litB t = (litB y ++ [44, 32]) ++ litB t
  rw [List.append_assoc]
  rfl
 | y :: z :: r, t => by
  have ih := commas_snoc (z :: r) t
  show litB y ++ 44 :: 32 :: PX.commasB (((z :: r) ++ [t]).map litB) = ((litB y ++ 44 :: 32 :: PX.commasB ((z :: r).map litB)) ++ [44, 32]) ++ litB t
  rw [ih]
  simp
theorem part_snoc (ts : List Bool) (t : Bool) : part (ts ++ [t]) = (if ts.isEmpty then 32 :: ([97, 102, 116, 101, 114] ++ [32, 40]) else part ts ++ [44, 32]) ++ litB t := by
 unfold part
 rw [commas_snoc]
 cases ts <;> simp
theorem part_len (ts : List Bool) (h : ts.length ≤ 10) : (part ts).length ≤ 100 := by
 have := aft_len ts h
 rw [aft_part, List.length_append] at this
 omega
theorem l0_ok (a0 a1 : Bool) (ts : List Bool) (hl : ts.length ≤ 10) : ∀ d i : Nat, ts.length = i + d → girandolelaw05_TypesAwaits.l0 (d + 2) a0 a1 (ba (part (ts.take i))) (((a0 == a1) && decide (ts.length ≤ 8)) && (ts.take i).all (· == a0)) ts (ts.length : Int) (i : Int) = some true
 | 0, i, hd => by
  have e : ts.take i = ts := List.take_of_length_le (by omega)
  rw [e, girandolelaw05_TypesAwaits.l0, if_neg (by omega)]
  have hf : (((a0 == a1) && decide (ts.length ≤ 8)) && ts.all (· == a0)) = fits a0 a1 ts := rfl
  rw [hf]
  have hp := aft_part ts
  cases ts with
  | nil =>
   rw [if_pos (show (ba (part [])).toList = [] from ba_list _)]
   exact j2_ok 0 a0 a1 [] hl
  | cons t r =>
   have hn : ¬ ((ba (part (t :: r))).toList = ([] : List UInt8)) := by
    rw [show (ba (part (t :: r))).toList = part (t :: r) from ba_list _]
    intro h
    unfold part at h
    cases h
   have hpl := part_len (t :: r) hl
   rw [if_neg hn, if_pos (by rw [ba_size]; omega)]
   have e9 : ba (part (t :: r)) ++ (⟨#[41]⟩ : ByteArray) = ba (aft (t :: r)) := by
    rw [hp, ← ba_append]
    rfl
   rw [e9]
   exact j2_ok 0 a0 a1 (t :: r) hl
 | d + 1, i, hd => by
  have hi : i < ts.length := by omega
  have ih := l0_ok a0 a1 ts hl d (i + 1) (by omega)
  have hpl := part_len (ts.take i) (by rw [List.length_take]; omega)
  have hr : rdOf false ts (i : Int) = ts[i] := by
   unfold rdOf
   simp [hi]
  have hw : wrap64 ((i : Int) + 1) = ((i + 1 : Nat) : Int) := by unfold wrap64; omega
  have ht : ts.take (i + 1) = ts.take i ++ [ts[i]] := by rw [List.take_succ_eq_append_getElem hi]
  rw [ht, part_snoc, List.all_append] at ih
  simp only [List.all_cons, List.all_nil, Bool.and_true] at ih
  rw [← Bool.and_assoc] at ih
  rw [girandolelaw05_TypesAwaits.l0, if_pos (by omega), if_pos (by omega), if_pos (by omega), hr, hw]
  generalize hX : (((a0 == a1) && decide (ts.length ≤ 8)) && (ts.take i).all (· == a0)) = X at ih ⊢
  generalize hT : ts[i] = t at ih ⊢
  by_cases h0 : i = 0
  ·subst h0
   rw [if_pos (show ((0 : Nat) : Int) = 0 from rfl)]
   rw [List.take_zero] at ih
   have e : ∀ s : PX.B, (⟨#[32, 97, 102, 116, 101, 114, 32, 40]⟩ : ByteArray) ++ ba s = ba (32 :: ([97, 102, 116, 101, 114] ++ [32, 40]) ++ s) := fun s => ba_append [32, 97, 102, 116, 101, 114, 32, 40] s
   rw [show (if ([] : List Bool).isEmpty = true then 32 :: ([97, 102, 116, 101, 114] ++ [32, 40]) else part [] ++ [44, 32]) ++ litB t = 32 :: ([97, 102, 116, 101, 114] ++ [32, 40]) ++ litB t from rfl, ← e] at ih
   cases t <;> cases X <;> exact ih
  ·have hne : (ts.take i).isEmpty = false := by
    cases hx : ts.take i with
    | nil => rw [List.take_eq_nil_iff] at hx; rcases hx with h | h; exact absurd h h0; rw [h] at hi; simp at hi
    | cons _ _ => rfl
   rw [if_neg (by omega)]
   rw [hne] at ih
   rw [show (if false = true then 32 :: ([97, 102, 116, 101, 114] ++ [32, 40]) else part (ts.take i) ++ [44, 32]) = part (ts.take i) ++ [44, 32] from rfl, ← ba_append, ← ba_append] at ih
   have z1 : (ba (part (ts.take i))).size + 2 ≤ 9223372036854775807 := by rw [ba_size]; omega
   have z2 : ∀ q, q ≤ 4 → (ba (part (ts.take i)) ++ (⟨#[44, 32]⟩ : ByteArray)).size + q ≤ 9223372036854775807 := fun q hq => by
    simp only [ByteArray.size_append, ba_size, size_lit, List.size_toArray, List.length_cons, List.length_nil]
    omega
   rw [if_pos z1]
   cases t
   ·rw [if_neg (by decide), if_pos (z2 1 (by decide))]
    cases X <;> exact ih
   ·rw [if_pos rfl, if_pos (z2 4 (by decide))]
    cases X <;> exact ih
theorem awake_ok : girandolelaw05_awake.f = some true := by decide +kernel
theorem TypesAwaits (a0 a1 : Bool) (l2 : List Bool) : ∃ k, girandolelaw05_TypesAwaits.f k a0 a1 l2 = some true := by
 obtain ⟨m, hm⟩ : ∃ m : Nat, mn (l2.length : Int) 10 = (m : Int) := ⟨(mn (l2.length : Int) 10).toNat, by unfold mn; split <;> omega⟩
 have hmn : (m : Int) ≤ 10 ∧ (m : Int) ≤ (l2.length : Int) := by rw [← hm]; unfold mn; split <;> omega
 have hlen : (l2.take m).length = m := by rw [List.length_take]; omega
 have hl : (l2.take m).length ≤ 10 := by omega
 refine ⟨(l2.take m).length + 2 + 1, ?_⟩
 have h := l0_ok a0 a1 (l2.take m) hl (l2.take m).length 0 (by omega)
 unfold girandolelaw05_TypesAwaits.f
 rw [awake_ok, Option.bind_some, if_pos rfl, hm, if_pos (by omega), if_pos (by omega), show ((m : Int)).toNat = m from by omega]
 simp only [List.take_zero, List.all_nil, Bool.and_true] at h
 have e8 : decide (((l2.take m).length : Int) ≤ 8) = decide ((l2.take m).length ≤ 8) := by
  congr 1
  exact propext ⟨fun h => by omega, fun h => by omega⟩
 cases ha : (a0 == a1) with
 | true =>
  rw [if_pos rfl, e8]
  rw [ha, Bool.true_and] at h
  exact h
 | false =>
  rw [if_neg (by decide)]
  rw [ha, Bool.false_and] at h
  exact h
end Go.Proofs.YtjafllnbgfcchaaDoor.Pure
