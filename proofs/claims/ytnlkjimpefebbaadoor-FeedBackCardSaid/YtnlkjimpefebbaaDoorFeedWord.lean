/- Words of values: the feed's and its reference's, as printed, are one. -/
import Derived.Test.YtnlkjimpefebbaaDoorXFFx10
import Derived.Test.YtnlkjimpefebbaaDoorFeedEv
namespace Go.Proofs.YtnlkjimpefebbaaDoor.FE
set_option linter.unusedVariables false
set_option linter.unusedSimpArgs false
open Go Go.RowKit Go.Proofs.YtnlkjimpefebbaaDoor.XFF Go.Proofs.YtnlkjimpefebbaaDoor.FP Go.Proofs.YtnlkjimpefebbaaDoor.Fl Go.Proofs.YtnlkjimpefebbaaDoorW.PrintWords Go.Proofs.YtnlkjimpefebbaaDoorW.PrintLast Go.Proofs.YtnlkjimpefebbaaDoorW.PrintMore
theorem B_append (a b : List UInt8) : B a ++ B b = B (a ++ b) := by
  apply ByteArray.ext
  simp [B]
theorem dec_len : ∀ (k u : Nat), u < 10 ^ (k + 1) → (Lib.decDigits u).length ≤ k + 1 := by
  intro k
  induction k with
  | zero =>
    intro u h
    rw [Lib.decDigits, dif_pos (by omega)]
    simp
  | succ k ih =>
    intro u h
    rw [Lib.decDigits]
    split
    · simp
    · have h2 : u / 10 < 10 ^ (k + 1) := by
        rw [Nat.pow_succ] at h
        omega
      have := ih _ h2
      simp
      omega
theorem dec_20 (u : Nat) (h : u ≤ 9223372036854775808) : (Lib.decDigits u).length ≤ 20 := dec_len 19 u (by omega)
theorem ten : ∀ i : Fin 10, (([48, 49, 50, 51, 52, 53, 54, 55, 56, 57] : List UInt8).drop i.val).take 1 = [UInt8.ofNat (48 + i.val)] := by decide +kernel
theorem ten_at (n : Nat) (h : n < 10) : (⟨#[48, 49, 50, 51, 52, 53, 54, 55, 56, 57]⟩ : ByteArray).extract n (n + 1) = B [UInt8.ofNat (48 + n)] := by
  rw [ext_B]
  have := ten ⟨n, h⟩
  simp only at this
  rw [Nat.add_sub_cancel_left]
  exact congrArg B this
theorem digits_nat : ∀ (n : Nat), n ≤ 9223372036854775807 → Ev (fun k => girandoleref02_Digits.f k (n : Int)) (B (Lib.decDigits n)) := by
  intro n
  induction n using Nat.strongRecOn with
  | _ n ih =>
    intro hn
    by_cases h : n < 10
    · refine Ev.step (f := fun _ => some _) (fun k => ?_) (Ev.now _)
      have hw : wrap64 ((n : Int) + 1) = ((n + 1 : Nat) : Int) := w1 n (by omega)
      simp only [girandoleref02_Digits.f]
      rw [if_neg (by omega), if_pos (by omega), if_pos (by omega), hw, if_pos (by omega), if_pos (by omega), Int.toNat_natCast, Int.toNat_natCast, ten_at n h, Lib.decDigits_one h]
    · have h1 := ih (n / 10) (by omega) (by omega)
      have hd : Int.tdiv (n : Int) 10 = ((n / 10 : Nat) : Int) := by rw [Int.tdiv_eq_ediv_of_nonneg (by omega)]; omega
      have hm : Int.tmod (n : Int) 10 = ((n % 10 : Nat) : Int) := by rw [Int.tmod_eq_emod_of_nonneg (by omega)]; omega
      have hl := dec_20 (n / 10) (by omega)
      have hw : wrap64 (((n % 10 : Nat) : Int) + 1) = ((n % 10 + 1 : Nat) : Int) := w1 _ (by omega)
      have hwd : wrap64 ((n / 10 : Nat) : Int) = ((n / 10 : Nat) : Int) := wrap_in _ (by omega)
      refine Ev.step (f := fun k => (girandoleref02_Digits.f k ((n / 10 : Nat) : Int)).bind fun t => if t.size + 1 ≤ 9223372036854775807 then some (t ++ B [UInt8.ofNat (48 + n % 10)]) else none) (fun k => ?_) (Ev.bind h1 ?_)
      · simp only [girandoleref02_Digits.f]
        rw [if_neg (by omega), if_neg (by omega), hd, hm, hwd, hw]
        have e1 : (0 : Int) ≤ ((n % 10 : Nat) : Int) := by omega
        have e2 : ((n % 10 : Nat) : Int) ≤ ((n % 10 + 1 : Nat) : Int) := by omega
        have e3 : ((n % 10 + 1 : Nat) : Int) ≤ 10 := by omega
        simp only [if_pos e1, if_pos e2, if_pos e3, Int.toNat_natCast, ten_at (n % 10) (by omega)]
        rfl
      · refine Ev.congr (f := fun _ => some _) (fun k => ?_) (Ev.now _)
        rw [if_pos (by rw [B_size]; omega), B_append]
        conv => rhs; rw [Lib.decDigits, dif_neg h]
theorem digits_neg : ∀ (n : Nat), 1 ≤ n → n ≤ 9223372036854775808 → Ev (fun k => girandoleref02_Digits.f k (-(n : Int))) (B (45 :: Lib.decDigits n)) := by
  intro n
  induction n using Nat.strongRecOn with
  | _ n ih =>
    intro h1 hn
    by_cases h : n < 10
    · have h2 := digits_nat n (by omega)
      have hw : wrap64 (- -(n : Int)) = (n : Int) := by rw [wrap_in _ (by omega)]; omega
      have hl := dec_20 n (by omega)
      refine Ev.step (f := fun k => (girandoleref02_Digits.f k (n : Int)).bind fun t => if 1 + t.size ≤ 9223372036854775807 then some ((⟨#[45]⟩ : ByteArray) ++ t) else none) (fun k => ?_) (Ev.bind h2 ?_)
      · simp only [girandoleref02_Digits.f]
        rw [if_pos (by omega), if_pos (by omega), hw]
      · refine Ev.congr (f := fun _ => some _) (fun k => ?_) (Ev.now _)
        rw [if_pos (by rw [B_size]; omega)]
        exact congrArg some (B_append [45] _)
    · have hq := ih (n / 10) (by omega) (by omega) (by omega)
      have hr := digits_nat (n % 10) (by omega)
      have hd : Int.tdiv (-(n : Int)) 10 = -((n / 10 : Nat) : Int) := by rw [Int.neg_tdiv, Int.tdiv_eq_ediv_of_nonneg (by omega)]; omega
      have hm : Int.tmod (-(n : Int)) 10 = -((n % 10 : Nat) : Int) := by rw [Int.neg_tmod, Int.tmod_eq_emod_of_nonneg (by omega)]; omega
      have hwd : wrap64 (-((n / 10 : Nat) : Int)) = -((n / 10 : Nat) : Int) := wrap_in _ (by omega)
      have hwm : wrap64 (- -((n % 10 : Nat) : Int)) = ((n % 10 : Nat) : Int) := by rw [wrap_in _ (by omega)]; omega
      have hl := dec_20 (n / 10) (by omega)
      have hl2 := dec_20 (n % 10) (by omega)
      refine Ev.step (f := fun k => (girandoleref02_Digits.f k (-((n / 10 : Nat) : Int))).bind fun t => (girandoleref02_Digits.f k ((n % 10 : Nat) : Int)).bind fun u => if t.size + u.size ≤ 9223372036854775807 then some (t ++ u) else none) (fun k => ?_) (Ev.bind hq (Ev.bind hr ?_))
      · simp only [girandoleref02_Digits.f]
        rw [if_pos (by omega), if_neg (by omega), hd, hm, hwd, hwm]
      · refine Ev.congr (f := fun _ => some _) (fun k => ?_) (Ev.now _)
        rw [if_pos (by rw [B_size, B_size]; simp; omega), B_append]
        conv => rhs; rw [Lib.decDigits, dif_neg h]
        rw [Lib.decDigits_one (show n % 10 < 10 by omega)]
        rfl
theorem digits_ev (a : Int) (h0 : -9223372036854775808 ≤ a) (h1 : a ≤ 9223372036854775807) : Ev (fun k => girandoleref02_Digits.f k a) (B (Lib.itoa a)) := by
  unfold Lib.itoa
  by_cases h : a < 0
  · rw [if_pos h]
    have := digits_neg a.natAbs (by omega) (by omega)
    have e : -(a.natAbs : Int) = a := by omega
    rw [e] at this
    exact this
  · rw [if_neg h]
    have := digits_nat a.toNat (by omega)
    have e : (a.toNat : Int) = a := by omega
    rw [e] at this
    exact this
def word (b : Bool) (v : Int) : List UInt8 := if b = true then (if v = 0 then [102, 97, 108, 115, 101] else [116, 114, 117, 101]) else Lib.itoa v
theorem itoa_len (a : Int) (h0 : -9223372036854775808 ≤ a) (h1 : a ≤ 9223372036854775807) : (Lib.itoa a).length ≤ 21 := by
  unfold Lib.itoa
  split
  · have := dec_20 a.natAbs (by omega)
    simp
    omega
  · have := dec_20 a.toNat (by omega)
    omega
theorem word_len (b : Bool) (a : Int) (h0 : -9223372036854775808 ≤ a) (h1 : a ≤ 9223372036854775807) : (word b a).length ≤ 21 := by
  unfold word
  split
  · split <;> decide
  · exact itoa_len a h0 h1
theorem ref_word_ev (b : Bool) (a : Int) (h0 : -9223372036854775808 ≤ a) (h1 : a ≤ 9223372036854775807) : Ev (fun k => girandoleref20_word.f k a b) (B (word b a)) := by
  unfold word
  by_cases hb : b = true
  · rw [if_pos hb]
    refine Ev.congr (f := fun _ => some _) (fun k => ?_) (Ev.now _)
    unfold girandoleref20_word.f
    rw [if_pos hb]
    split <;> rfl
  · rw [if_neg hb]
    refine Ev.congr (f := fun k => (girandoleref02_Digits.f k a).bind fun t => some t) (fun k => ?_) (Ev.bind (digits_ev a h0 h1) (Ev.now _))
    unfold girandoleref20_word.f
    rw [if_neg hb]
theorem feed_word_f (b : Bool) (a : Int) (h0 : -9223372036854775808 ≤ a) (h1 : a ≤ 9223372036854775807) : feed_word.f a b = some (B (word b a)) := by
  unfold feed_word.f word
  by_cases hb : b = true
  · rw [if_pos hb, if_pos hb]
    by_cases ha : a = 0
    · subst ha; decide
    · have : (a != 0) = true := bne_iff_ne.2 ha
      rw [this, if_neg ha]
      decide
  · rw [if_neg hb, if_neg hb]
    unfold strconv_FormatInt.f
    rw [if_pos ⟨rfl, h0, h1⟩]
    rfl
theorem join_len (sep : List UInt8) (m : Nat) : ∀ (xs : List (List UInt8)), (∀ x ∈ xs, x.length ≤ m) → (Lib.join xs sep).length ≤ xs.length * (m + sep.length) := by
  intro xs
  induction xs with
  | nil => intro _; simp [Lib.join]
  | cons x r ih =>
    intro h
    have hx := h x (List.mem_cons_self ..)
    have hr := ih (fun y hy => h y (List.mem_cons_of_mem _ hy))
    cases r with
    | nil =>
      have e : Lib.join [x] sep = x := by simp [Lib.join, List.intercalate]
      rw [e]
      simp
      omega
    | cons y r =>
      have e : Lib.join (x :: y :: r) sep = x ++ sep ++ Lib.join (y :: r) sep := by simp [Lib.join, List.intercalate]
      rw [e]
      simp only [List.length_append, List.length_cons, Nat.succ_mul] at hr ⊢
      omega
theorem join_f (ws : List (List UInt8)) (hn : ws.length ≤ 1000000) (hw : ∀ w ∈ ws, w.length ≤ 1000000) : strings_Join.f (ws.map B) (⟨#[32]⟩ : ByteArray) = some (B (Lib.join ws [32])) := by
  have e : (ws.map B).map (fun x => x.data.toList) = ws := by
    rw [List.map_map]
    exact List.map_id'' (fun x => rfl) ws
  unfold strings_Join.f
  have h := join_len [32] 1000000 ws hw
  have h2 : ws.length * (1000000 + 1) ≤ 1000000 * (1000000 + 1) := Nat.mul_le_mul_right _ hn
  rw [e, if_pos ⟨by simpa using hn, by simp only [List.length_singleton] at h; exact Nat.le_trans h (by omega)⟩]
  rfl
end Go.Proofs.YtnlkjimpefebbaaDoor.FE
