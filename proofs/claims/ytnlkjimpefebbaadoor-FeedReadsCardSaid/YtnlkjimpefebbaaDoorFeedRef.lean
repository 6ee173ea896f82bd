/- The feed's reference, as printed, comes to the feed's plain answer. -/
import Derived.Test.YtnlkjimpefebbaaDoorXFFx5
import Derived.Test.YtnlkjimpefebbaaDoorFeedEv
import Derived.Test.YtnlkjimpefebbaaDoorFeedPlain
namespace Go.Proofs.YtnlkjimpefebbaaDoor.FE
set_option linter.unusedVariables false
set_option linter.unusedSimpArgs false
open Go Go.RowKit Go.Proofs.YtnlkjimpefebbaaDoor.XFF Go.Proofs.YtnlkjimpefebbaaDoor.FP Go.Proofs.YtnlkjimpefebbaaDoor.Fl Go.Proofs.YtnlkjimpefebbaaDoorW.PrintWords Go.Proofs.YtnlkjimpefebbaaDoorW.PrintLast Go.Proofs.YtnlkjimpefebbaaDoorW.PrintMore
theorem ref_split_loop (c : UInt8) (s : ByteArray) (hs : s.size ≤ 1000000) : ∀ d i fr out, s.size - i = d → i ≤ s.size → fr ≤ i → out.length ≤ i →
    Ev (fun k => girandoleref20_split.l0 k s (c.toNat : Int) out (fr : Int) (i : Int)) (out ++ (sp c ((s.data.toList.drop fr).take (i - fr)) (s.data.toList.drop i)).map B) := by
  intro d
  induction d with
  | zero =>
    intro i fr out hd hi hf ho
    have hi : i = s.size := by omega
    have hn : s.data.toList.drop i = [] := by rw [List.drop_eq_nil_iff, ← size_list]; omega
    rw [hn]
    refine Ev.step (f := fun k => girandoleref20_split.l0 k s (c.toNat : Int) (out ++ [B ((s.data.toList.drop fr).take (i - fr))]) ((i + 1 : Nat) : Int) ((i + 1 : Nat) : Int)) (fun k => ?_) ?_
    · simp only [girandoleref20_split.l0]
      rw [if_pos (by omega), if_pos (by omega), if_pos (by omega), if_pos (by omega), if_pos (by omega), w1 i (by omega), ext_B]
      rfl
    · refine Ev.step (f := fun _ => some _) (fun k => ?_) (Ev.now _)
      simp only [girandoleref20_split.l0]
      rw [if_neg (by omega)]
      simp [sp]
  | succ d ih =>
    intro i fr out hd hi hf ho
    have hlt : i < s.size := by omega
    have hl : i < s.data.toList.length := by rw [← size_list]; exact hlt
    have hx : s.data.toList[i]'hl = s[i] := rfl
    rw [List.drop_eq_getElem_cons hl, hx, sp]
    by_cases hc : s[i] = c
    · rw [if_pos hc]
      have h1 := ih (i + 1) (i + 1) (out ++ [B ((s.data.toList.drop fr).take (i - fr))]) (by omega) (by omega) (by omega) (by simp; omega)
      refine Ev.step (f := fun k => girandoleref20_split.l0 k s (c.toNat : Int) (out ++ [B ((s.data.toList.drop fr).take (i - fr))]) ((i + 1 : Nat) : Int) ((i + 1 : Nat) : Int)) (fun k => ?_) ?_
      · simp only [girandoleref20_split.l0]
        rw [if_pos (by omega), if_neg (by omega), if_pos (by omega), if_pos (by omega), bt_i s i hlt, if_pos (by rw [hc]), if_pos (by omega), if_pos (by omega), if_pos (by omega), w1 i (by omega), ext_B]
        rfl
      · simpa using h1
    · rw [if_neg hc]
      have h1 := ih (i + 1) fr out (by omega) (by omega) (by omega) (by omega)
      have e : (s.data.toList.drop fr).take (i + 1 - fr) = (s.data.toList.drop fr).take (i - fr) ++ [s[i]] := by
        have e1 : i + 1 - fr = (i - fr) + 1 := by omega
        have e2 : (s.data.toList.drop fr)[i - fr]? = some s[i] := by
          rw [List.getElem?_drop, show fr + (i - fr) = i from by omega, List.getElem?_eq_getElem hl, hx]
        rw [e1, List.take_add_one, e2]
        rfl
      rw [e] at h1
      refine Ev.step (f := fun k => girandoleref20_split.l0 k s (c.toNat : Int) out (fr : Int) ((i + 1 : Nat) : Int)) (fun k => ?_) h1
      simp only [girandoleref20_split.l0]
      rw [if_pos (by omega), if_neg (by omega), if_pos (by omega), if_pos (by omega), bt_i s i hlt, if_neg (by
        intro h
        apply hc
        rw [← UInt8.toNat_inj]
        omega), w1 i (by omega)]
theorem ref_split (c : UInt8) (s : ByteArray) (hs : s.size ≤ 1000000) : Ev (fun k => girandoleref20_split.f k s (c.toNat : Int)) ((sp c [] s.data.toList).map B) := by
  have h := ref_split_loop c s hs _ 0 0 [] rfl (by omega) (by omega) (by simp)
  simp only [List.nil_append, List.drop_zero, Nat.sub_zero, List.take_zero] at h
  exact h
/-- What the reference's loop makes of digits. -/
def refgo : List UInt8 → Int → Bool → Option (Int × Bool)
  | [], n, o => some (n, o)
  | c :: r, n, o => if isDig c = true then (if o = true then refgo r n true else if n < -922337203685477580 then refgo r n true else if n = -922337203685477580 ∧ 8 < (c.toNat : Int) - 48 then refgo r n true else refgo r (10 * n - ((c.toNat : Int) - 48)) false) else none
theorem refgo_bad : ∀ (d : List UInt8) (n : Int) (o : Bool), d.all isDig = false → refgo d n o = none := by
  intro d
  induction d with
  | nil => intro n o h; cases h
  | cons c r ih =>
    intro n o h
    rw [refgo]
    by_cases hc : isDig c = true
    · have hr : r.all isDig = false := by rw [List.all_cons, hc] at h; simpa using h
      rw [if_pos hc]
      repeat' split
      all_goals exact ih _ _ hr
    · rw [if_neg hc]
theorem refgo_true : ∀ (d : List UInt8) (n : Int), d.all isDig = true → refgo d n true = some (n, true) := by
  intro d
  induction d with
  | nil => intro n h; rfl
  | cons c r ih =>
    intro n h
    rw [List.all_cons, Bool.and_eq_true] at h
    rw [refgo, if_pos h.1, if_pos rfl]
    exact ih n h.2
theorem refgo_dig : ∀ (d : List UInt8) (acc : Nat), d.all isDig = true → acc ≤ 9223372036854775808 →
    (val acc d ≤ 9223372036854775808 → refgo d (-(acc : Int)) false = some (-(val acc d : Int), false)) ∧ (¬ val acc d ≤ 9223372036854775808 → ∃ n, refgo d (-(acc : Int)) false = some (n, true)) := by
  intro d
  induction d with
  | nil => intro acc h ha; exact ⟨fun _ => rfl, fun hn => absurd ha hn⟩
  | cons c r ih =>
    intro acc h ha
    rw [List.all_cons, Bool.and_eq_true] at h
    have hd := dig_nat h.1
    have e : val acc (c :: r) = val (acc * 10 + (c.toNat - 48)) r := rfl
    have hg := val_ge r (acc * 10 + (c.toNat - 48))
    rw [e, refgo, if_pos h.1, if_neg (by decide)]
    by_cases h1 : (-(acc : Int)) < -922337203685477580
    · rw [if_pos h1]
      exact ⟨fun hv => by omega, fun _ => ⟨_, refgo_true r _ h.2⟩⟩
    · rw [if_neg h1]
      by_cases h2 : (-(acc : Int)) = -922337203685477580 ∧ 8 < (c.toNat : Int) - 48
      · rw [if_pos h2]
        exact ⟨fun hv => by omega, fun _ => ⟨_, refgo_true r _ h.2⟩⟩
      · rw [if_neg h2]
        have h3 : acc * 10 + (c.toNat - 48) ≤ 9223372036854775808 := by omega
        have e2 : 10 * (-(acc : Int)) - ((c.toNat : Int) - 48) = -((acc * 10 + (c.toNat - 48) : Nat) : Int) := by omega
        rw [e2]
        exact ih _ h.2 h3
def fin (x0 x4 : ByteArray) : Option (Int × Bool) → Int × Int
  | none => (0, 1)
  | some (n, o) => if x4.toList = x0.toList then (if n = (-9223372036854775808) then (0, 3) else if o = true then (0, 3) else (wrap64 (-n), 0)) else if o = true then (0, 3) else (n, 0)
theorem number_loop (x0 x4 : ByteArray) (hs : x4.size ≤ 1000000) : ∀ d i n o, x4.size - i = d → i ≤ x4.size → n ≤ 0 → -9223372036854775808 ≤ n →
    Ev (fun k => girandoleref20_number.l0 k x0 x4 n o (i : Int)) (fin x0 x4 (refgo (x4.data.toList.drop i) n o)) := by
  intro d
  induction d with
  | zero =>
    intro i n o hd hi h0 h1
    have hn : x4.data.toList.drop i = [] := by rw [List.drop_eq_nil_iff, ← size_list]; omega
    rw [hn, refgo]
    refine Ev.step (f := fun _ => some _) (fun k => ?_) (Ev.now _)
    simp only [girandoleref20_number.l0]
    rw [if_neg (by omega)]
    unfold fin
    split <;> split <;> simp_all
    split <;> simp_all
  | succ d ih =>
    intro i n o hd hi h0 h1
    have hlt : i < x4.size := by omega
    have hl : i < x4.data.toList.length := by rw [← size_list]; exact hlt
    have hx : x4.data.toList[i]'hl = x4[i] := rfl
    rw [List.drop_eq_getElem_cons hl, hx, refgo]
    obtain ⟨c, hc⟩ : ∃ c, x4[i] = c := ⟨_, rfl⟩
    rw [hc]
    have hbt : bt x4 (i : Int) = (c.toNat : Int) := by rw [bt_i x4 i hlt, hc]
    have hw := w1 i (by omega)
    by_cases hd2 : isDig c = true
    · have hc2 := dig_nat hd2
      rw [if_pos hd2]
      refine Ev.step (f := fun k => girandoleref20_number.j4 k x0 x4 n o (i : Int) false) (fun k => ?_) ?_
      · simp only [girandoleref20_number.l0]
        rw [if_pos (by omega), if_pos (by omega), if_neg (by rw [hbt]; omega), hbt]
        have : decide ((c.toNat : Int) > 57) = false := by rw [decide_eq_false_iff_not]; omega
        rw [this]
      · have hmod : ((c.toNat : Int) - 48) % 256 = (c.toNat : Int) - 48 := by omega
        by_cases ho : o = true
        · rw [if_pos ho]
          refine Ev.step (f := fun k => girandoleref20_number.l0 k x0 x4 n true ((i + 1 : Nat) : Int)) (fun k => ?_) (ih (i + 1) n true (by omega) (by omega) h0 h1)
          simp only [girandoleref20_number.j4]
          rw [if_neg (by decide), if_pos (by omega), if_pos (by omega), if_pos ho, hw]
        · rw [if_neg ho]
          by_cases ha : n < -922337203685477580
          · rw [if_pos ha]
            refine Ev.step (f := fun k => girandoleref20_number.l0 k x0 x4 n true ((i + 1 : Nat) : Int)) (fun k => ?_) (ih (i + 1) n true (by omega) (by omega) h0 h1)
            simp only [girandoleref20_number.j4]
            rw [if_neg (by decide), if_pos (by omega), if_pos (by omega), if_neg ho, if_pos ha, hw]
          · rw [if_neg ha]
            have hw10 : wrap64 (wrap64 (10 * n) - ((c.toNat : Int) - 48)) = 10 * n - ((c.toNat : Int) - 48) ∨ (n = -922337203685477580 ∧ 8 < (c.toNat : Int) - 48) := by
              by_cases hq : n = -922337203685477580 ∧ 8 < (c.toNat : Int) - 48
              · exact .inr hq
              · left
                rw [wrap_in (10 * n) (by omega), wrap_in _ (by omega)]
            by_cases hb : n = -922337203685477580
            · by_cases h8 : 8 < (c.toNat : Int) - 48
              · rw [if_pos ⟨hb, h8⟩]
                refine Ev.step (f := fun k => girandoleref20_number.l0 k x0 x4 n true ((i + 1 : Nat) : Int)) (fun k => ?_) (ih (i + 1) n true (by omega) (by omega) h0 h1)
                simp only [girandoleref20_number.j4]
                rw [if_neg (by decide), if_pos (by omega), if_pos (by omega), if_neg ho, if_neg ha, if_pos hb, hbt, hmod, if_pos h8, hw]
                have : decide ((c.toNat : Int) - 48 > 8) = true := by rw [decide_eq_true_eq]; exact h8
                rw [this]
              · rw [if_neg (fun h => h8 h.2)]
                refine Ev.step (f := fun k => girandoleref20_number.l0 k x0 x4 (10 * n - ((c.toNat : Int) - 48)) false ((i + 1 : Nat) : Int)) (fun k => ?_) (ih (i + 1) _ false (by omega) (by omega) (by omega) (by omega))
                simp only [girandoleref20_number.j4]
                rw [if_neg (by decide), if_pos (by omega), if_pos (by omega), if_neg ho, if_neg ha, if_pos hb, hbt, hmod, if_neg h8, hw, hw10.resolve_right (fun h => h8 h.2)]
                have : decide ((c.toNat : Int) - 48 > 8) = false := by rw [decide_eq_false_iff_not]; exact h8
                rw [this]
            · rw [if_neg (fun h => hb h.1)]
              refine Ev.step (f := fun k => girandoleref20_number.l0 k x0 x4 (10 * n - ((c.toNat : Int) - 48)) false ((i + 1 : Nat) : Int)) (fun k => ?_) (ih (i + 1) _ false (by omega) (by omega) (by omega) (by omega))
              simp only [girandoleref20_number.j4]
              rw [if_neg (by decide), if_pos (by omega), if_pos (by omega), if_neg ho, if_neg ha, if_neg hb, hbt, hmod, hw, hw10.resolve_right (fun h => hb h.1)]
    · rw [if_neg hd2]
      have hbad : ¬ (48 ≤ c.toNat ∧ c.toNat ≤ 57) := by
        intro h
        apply hd2
        simp only [isDig, Bool.and_eq_true, decide_eq_true_eq, UInt8.le_iff_toNat_le]
        exact h
      refine Ev.step (f := fun k => girandoleref20_number.j4 k x0 x4 n o (i : Int) true) (fun k => ?_) ?_
      · simp only [girandoleref20_number.l0]
        rw [if_pos (by omega), if_pos (by omega), hbt]
        by_cases h48 : (c.toNat : Int) < 48
        · rw [if_pos h48]
        · rw [if_neg h48]
          have : decide ((c.toNat : Int) > 57) = true := by rw [decide_eq_true_eq]; omega
          rw [this]
      · refine Ev.step (f := fun _ => some _) (fun k => ?_) (Ev.now _)
        simp only [girandoleref20_number.j4]
        rw [if_pos trivial]
        rfl
theorem val_zero (neg : Bool) (d l : List UInt8) (h1 : d ≠ []) (h2 : ¬ (d.head? = some 48 ∧ l ≠ [48])) (hl : (neg = true ∧ l = 45 :: d) ∨ (neg = false ∧ l = d)) :
    fin (B l) (B d) (refgo d 0 false) = num neg d l := by
  by_cases hall : d.all isDig = true
  · have hn : num neg d l = ends neg (val 0 d) := by
      unfold num
      rw [if_neg]
      rintro (h | h | h)
      · exact h1 h
      · rw [hall] at h; cases h
      · exact h2 h
    rw [hn]
    have hr := refgo_dig d 0 hall (by omega)
    simp only [Int.natCast_zero, Int.neg_zero] at hr
    rcases hl with ⟨rfl, rfl⟩ | ⟨rfl, rfl⟩
    · have hne : ¬ (B d).toList = (B (45 :: d)).toList := by
        rw [B_list, B_list]
        intro h
        have := congrArg List.length h
        simp at this
      by_cases hv : val 0 d ≤ 9223372036854775808
      · rw [hr.1 hv]
        unfold fin ends
        simp only [if_neg hne, if_pos hv, if_true]
        simp
      · obtain ⟨n, hn2⟩ := hr.2 hv
        rw [hn2]
        unfold fin ends
        simp only [if_neg hne, if_neg hv, if_true]
    · by_cases hv : val 0 l ≤ 9223372036854775808
      · rw [hr.1 hv]
        unfold fin ends
        simp only [if_true]
        by_cases hx : val 0 l = 9223372036854775808
        · rw [hx]
          simp
        · have hlt : val 0 l < 9223372036854775808 := by omega
          have h3 : ¬ -(val 0 l : Int) = -9223372036854775808 := by omega
          have h4 : wrap64 (- -(val 0 l : Int)) = (val 0 l : Int) := by rw [wrap_in _ (by omega)]; omega
          rw [if_neg h3, if_neg (by decide), h4, if_neg (by decide), if_pos hlt]
      · obtain ⟨n, hn2⟩ := hr.2 hv
        rw [hn2]
        unfold fin ends
        have hlt : ¬ val 0 l < 9223372036854775808 := by omega
        simp only [if_true, if_neg hlt, Bool.false_eq_true, if_false]
        split <;> rfl
  · have hbad : d.all isDig = false := by simpa using hall
    rw [refgo_bad d 0 false hbad]
    unfold num
    rw [if_pos (.inr (.inl hbad))]
    rfl
theorem number_j1 (neg : Bool) (d l : List UInt8) (hs : d.length ≤ 1000000) (hl : (neg = true ∧ l = 45 :: d) ∨ (neg = false ∧ l = d)) :
    Ev (fun k => girandoleref20_number.j1 k (B l) (B d)) (num neg d l) := by
  have bad : ∀ x4, Ev (fun k => girandoleref20_number.j2 k (B l) x4 true) (0, 1) := by
    intro x4
    refine Ev.step (f := fun _ => some _) (fun k => ?_) (Ev.now _)
    simp only [girandoleref20_number.j2]
    rw [if_pos trivial]
  by_cases he : d = []
  · have hn : num neg d l = (0, 1) := by unfold num; rw [if_pos (.inl he)]
    rw [hn]
    refine Ev.step (f := fun k => girandoleref20_number.j2 k (B l) (B d) true) (fun k => ?_) (bad _)
    simp only [girandoleref20_number.j1]
    rw [if_pos (by rw [B_list]; exact he)]
  · obtain ⟨c, r, rfl⟩ : ∃ c r, d = c :: r := by cases d with | nil => exact absurd rfl he | cons c r => exact ⟨c, r, rfl⟩
    have hb0 : bt (B (c :: r)) 0 = (c.toNat : Int) := by
      exact bt_i (B (c :: r)) 0 (by rw [B_size]; simp)
    have hsz : (0 : Int) < ((B (c :: r)).size : Int) := by rw [B_size]; simp
    by_cases h0 : c = 48 ∧ l ≠ [48]
    · have hn : num neg (c :: r) l = (0, 1) := by unfold num; rw [if_pos (.inr (.inr ⟨by rw [h0.1]; rfl, h0.2⟩))]
      rw [hn]
      refine Ev.step (f := fun k => girandoleref20_number.j2 k (B l) (B (c :: r)) true) (fun k => ?_) (bad _)
      simp only [girandoleref20_number.j1]
      rw [if_neg (by rw [B_list]; exact he), if_pos hsz, hb0, if_pos (by rw [h0.1]; rfl), B_list, bne_iff_ne.2 h0.2]
    · have h2 : ¬ ((c :: r).head? = some 48 ∧ l ≠ [48]) := by
        rintro ⟨h, h'⟩
        exact h0 ⟨Option.some.inj h, h'⟩
      rw [← val_zero neg (c :: r) l he h2 hl]
      have hloop := number_loop (B l) (B (c :: r)) (by rw [B_size]; exact hs) _ 0 0 false rfl (by omega) (by omega) (by omega)
      simp only [B_data, List.drop_zero] at hloop
      have hj2 : Ev (fun k => girandoleref20_number.j2 k (B l) (B (c :: r)) false) (fin (B l) (B (c :: r)) (refgo (c :: r) 0 false)) := by
        refine Ev.step (f := fun k => girandoleref20_number.l0 k (B l) (B (c :: r)) 0 false 0) (fun k => ?_) hloop
        simp only [girandoleref20_number.j2]
        rw [if_neg (by decide)]
      refine Ev.step (f := fun k => girandoleref20_number.j2 k (B l) (B (c :: r)) false) (fun k => ?_) hj2
      simp only [girandoleref20_number.j1]
      rw [if_neg (by rw [B_list]; exact he), if_pos hsz, hb0]
      by_cases h48 : c = 48
      · have hl48 : l = [48] := Classical.byContradiction fun h => h0 ⟨h48, h⟩
        rw [if_pos (by rw [h48]; rfl), B_list, hl48]
        rfl
      · rw [if_neg (by
          intro h
          apply h48
          rw [← UInt8.toNat_inj]
          have : (48 : UInt8).toNat = 48 := rfl
          omega)]
theorem number_ev (s : ByteArray) (hs : s.size ≤ 1000000) : Ev (fun k => girandoleref20_number.f k s) (numF s.data.toList) := by
  obtain ⟨l, rfl⟩ : ∃ l, s = B l := ⟨s.data.toList, (data_B s).symm⟩
  rw [B_data]
  rw [B_size] at hs
  cases l with
  | nil =>
    rw [num_plain [] (by simp)]
    refine Ev.congr (f := fun k => girandoleref20_number.j0 k (B []) (B []) false) (fun k => ?_) ?_
    · simp only [girandoleref20_number.f]
      rw [if_neg (by rw [B_size]; simp)]
    · refine Ev.step (f := fun k => girandoleref20_number.j1 k (B []) (B [])) (fun k => ?_) (number_j1 false [] [] (by simp) (.inr ⟨rfl, rfl⟩))
      simp only [girandoleref20_number.j0]
      rw [if_neg (by decide)]
  | cons c r =>
    have hb0 : bt (B (c :: r)) 0 = (c.toNat : Int) := by
      exact bt_i (B (c :: r)) 0 (by rw [B_size]; simp)
    have hsz : (0 : Int) < ((B (c :: r)).size : Int) := by rw [B_size]; simp
    by_cases hc : c = 45
    · subst hc
      rw [num_minus r]
      refine Ev.congr (f := fun k => girandoleref20_number.j0 k (B (45 :: r)) (B (45 :: r)) true) (fun k => ?_) ?_
      · simp only [girandoleref20_number.f]
        rw [if_pos hsz, if_pos hsz, hb0]
        rfl
      · refine Ev.step (f := fun k => girandoleref20_number.j1 k (B (45 :: r)) (B r)) (fun k => ?_) (number_j1 true r (45 :: r) (by simp at hs; omega) (.inl ⟨rfl, rfl⟩))
        simp only [girandoleref20_number.j0]
        rw [if_pos trivial, if_pos (by omega), ext_B]
        simp [B_data, B_size]
    · rw [num_plain (c :: r) (by intro h; exact hc (Option.some.inj h))]
      refine Ev.congr (f := fun k => girandoleref20_number.j0 k (B (c :: r)) (B (c :: r)) false) (fun k => ?_) ?_
      · simp only [girandoleref20_number.f]
        have : ((c.toNat : Int) == 45) = false := by
          rw [beq_eq_false_iff_ne]
          intro h
          apply hc
          rw [← UInt8.toNat_inj]
          have : (45 : UInt8).toNat = 45 := rfl
          omega
        rw [if_pos hsz, if_pos hsz, hb0, this]
      · refine Ev.step (f := fun k => girandoleref20_number.j1 k (B (c :: r)) (B (c :: r))) (fun k => ?_) (number_j1 false (c :: r) (c :: r) hs (.inr ⟨rfl, rfl⟩))
        simp only [girandoleref20_number.j0]
        rw [if_neg (by decide)]
theorem ref_value_ev (b : Bool) (w : List UInt8) (h : w.length ≤ 1000000) : Ev (fun k => girandoleref20_value.f k (B w) b) (valP b w) := by
  unfold valP
  by_cases hb : b = true
  · rw [if_pos hb]
    refine Ev.congr (f := fun _ => some _) (fun k => ?_) (Ev.now _)
    unfold girandoleref20_value.f
    rw [B_list, if_pos hb]
    split
    · rfl
    · split <;> rfl
  · rw [if_neg hb]
    have h1 := number_ev (B w) (by rw [B_size]; exact h)
    refine Ev.congr (f := fun k => (girandoleref20_number.f k (B w)).bind fun t => some (t.1, t.2)) (fun k => ?_) (Ev.bind h1 (Ev.now _))
    unfold girandoleref20_value.f
    rw [if_neg hb]
theorem ref_row_loop (L : List S84) (ws : List (List UInt8)) (hw : ∀ w ∈ ws, w.length ≤ 1000000) (hn : ws.length ≤ 1000001) : ∀ d i out, ws.length - i = d → i ≤ ws.length → out.length = i → i ≤ L.length →
    Ev (fun k => girandoleref20_row.l0 k L out (ws.map B) (ws.length : Int) (i : Int)) (rowgo ((L.map (fun x : S84 => x.f2)).drop i) (ws.drop i) out) := by
  intro d
  induction d with
  | zero =>
    intro i out hd hi ho hL
    rw [List.drop_eq_nil_iff.2 (show ws.length ≤ i by omega)]
    refine Ev.step (f := fun _ => some _) (fun k => ?_) (Ev.now _)
    simp only [girandoleref20_row.l0]
    rw [if_neg (by omega)]
    by_cases h : i < L.length
    · rw [if_pos (by omega), List.drop_eq_getElem_cons (show i < (L.map (fun x : S84 => x.f2)).length by simpa using h), rowgo]
    · rw [if_neg (by omega), List.drop_eq_nil_iff.2 (by simp; omega), rowgo]
  | succ d ih =>
    intro i out hd hi ho hL
    have hlt : i < ws.length := by omega
    rw [List.drop_eq_getElem_cons hlt]
    by_cases h : i < L.length
    · rw [List.drop_eq_getElem_cons (show i < (L.map (fun x : S84 => x.f2)).length by simpa using h), rowgo, List.getElem_map]
      have hv := ref_value_ev L[i].f2 ws[i] (hw _ (List.getElem_mem _))
      by_cases he : (valP L[i].f2 ws[i]).2 = 0
      · rw [if_pos he]
        refine Ev.step (f := fun k => (girandoleref20_value.f k (B ws[i]) L[i].f2).bind fun t => if t.2 = 0 then girandoleref20_row.l0 k L (out ++ [t.1]) (ws.map B) (ws.length : Int) ((i + 1 : Nat) : Int) else some ([], t.2)) (fun k => ?_) (Ev.bind hv ?_)
        · simp only [girandoleref20_row.l0]
          rw [if_pos (by omega), if_pos (by omega), if_pos (by simp; omega), if_neg (by omega), if_pos (by omega), rdB ws i hlt, rd84 L i h]
          simp only [if_pos (show out.length < 17592186044416 by omega), w1 i (by omega)]
        · simp only [if_pos he]
          exact ih (i + 1) _ (by omega) (by omega) (by simp; omega) (by omega)
      · rw [if_neg he]
        refine Ev.step (f := fun k => (girandoleref20_value.f k (B ws[i]) L[i].f2).bind fun t => if t.2 = 0 then girandoleref20_row.l0 k L (out ++ [t.1]) (ws.map B) (ws.length : Int) ((i + 1 : Nat) : Int) else some ([], t.2)) (fun k => ?_) (Ev.bind hv ?_)
        · simp only [girandoleref20_row.l0]
          rw [if_pos (by omega), if_pos (by omega), if_pos (by simp; omega), if_neg (by omega), if_pos (by omega), rdB ws i hlt, rd84 L i h]
          simp only [if_pos (show out.length < 17592186044416 by omega), w1 i (by omega)]
        · simp only [if_neg he]
          exact Ev.now _
    · rw [List.drop_eq_nil_iff.2 (show (L.map (fun x : S84 => x.f2)).length ≤ i by simp; omega), rowgo]
      refine Ev.step (f := fun _ => some _) (fun k => ?_) (Ev.now _)
      simp only [girandoleref20_row.l0]
      rw [if_pos (by omega), if_pos (by omega), if_pos (by simp; omega), if_pos (by omega)]
theorem ref_row_ev (L : List S84) (line : List UInt8) (hl : line.length ≤ 1000000) : Ev (fun k => girandoleref20_row.f k L (B line)) (rowP (L.map (fun x : S84 => x.f2)) line) := by
  obtain ⟨h1, h2⟩ := sp_len 32 line []
  unfold rowP
  by_cases hL : L = []
  · subst hL
    rw [List.map_nil, if_pos rfl]
    refine Ev.congr (f := fun _ => some _) (fun k => ?_) (Ev.now _)
    unfold girandoleref20_row.f
    rw [if_pos (show ((([] : List S84).length : Nat) : Int) = 0 from rfl), B_list]
    split <;> rfl
  · rw [if_neg (by simpa using hL)]
    have h3 := ref_row_loop L (sp 32 [] line) (fun w hw => by have := h2 w hw; simp at this; omega) (by omega) _ 0 [] rfl (by omega) rfl (by omega)
    simp only [List.drop_zero] at h3
    have hsp := ref_split 32 (B line) (by rw [B_size]; exact hl)
    have : ¬ (L.length : Int) = 0 := by
      intro h
      apply hL
      apply List.eq_nil_of_length_eq_zero
      omega
    refine Ev.congr (f := fun k => (girandoleref20_split.f k (B line) 32).bind fun t => girandoleref20_row.l0 k L [] t (t.length : Int) 0) (fun k => ?_) (Ev.bind hsp ?_)
    · unfold girandoleref20_row.f
      rw [if_neg this]
    · rw [B_data]
      simp only [List.length_map]
      exact h3
theorem ref_loop (z0 : ByteArray) (z1 : Int) (L z3 z4 : List S84) (z5 : List S131) (ws : List (List UInt8)) (hw : ∀ w ∈ ws, w.length ≤ 1000000) (hn : ws.length ≤ 1000001) : ∀ d i out, ws.length - i = d → i ≤ ws.length → out.length ≤ 200 →
    Ev (fun k => girandoleref20_Parse.l0 k out (ws.map B) (ws.length : Int) (i : Int) z0 z1 L z3 z4 z5) (pgo (L.map (fun x : S84 => x.f2)) (ws.drop i) i out) := by
  intro d
  induction d with
  | zero =>
    intro i out hd hi ho
    rw [List.drop_eq_nil_iff.2 (show ws.length ≤ i by omega), pgo]
    refine Ev.step (f := fun _ => some _) (fun k => ?_) (Ev.now _)
    simp only [girandoleref20_Parse.l0]
    rw [if_neg (by omega)]
  | succ d ih =>
    intro i out hd hi ho
    have hlt : i < ws.length := by omega
    rw [List.drop_eq_getElem_cons hlt, pgo]
    have hwi := w1 i (by omega)
    by_cases he : ws[i] = []
    · rw [if_pos he]
      refine Ev.step (f := fun k => girandoleref20_Parse.l0 k out (ws.map B) (ws.length : Int) ((i + 1 : Nat) : Int) z0 z1 L z3 z4 z5) (fun k => ?_) (ih (i + 1) out (by omega) (by omega) ho)
      simp only [girandoleref20_Parse.l0]
      rw [if_pos (by omega), if_pos (by omega), if_pos (by simp; omega), rdB ws i hlt, B_list, if_pos he, hwi]
    · rw [if_neg he]
      by_cases hm : out.length = 200
      · rw [if_pos hm]
        refine Ev.step (f := fun _ => some _) (fun k => ?_) (Ev.now _)
        simp only [girandoleref20_Parse.l0]
        rw [if_pos (by omega), if_pos (by omega), if_pos (by simp; omega), rdB ws i hlt, B_list, if_neg he, if_pos (by omega)]
      · rw [if_neg hm]
        have hr := ref_row_ev L ws[i] (hw _ (List.getElem_mem _))
        by_cases hz : (rowP (L.map (fun x : S84 => x.f2)) ws[i]).2 = 0
        · rw [if_pos hz]
          refine Ev.step (f := fun k => (girandoleref20_row.f k L (B ws[i])).bind fun t => if t.2 = 0 then girandoleref20_Parse.l0 k (out ++ [t.1]) (ws.map B) (ws.length : Int) ((i + 1 : Nat) : Int) z0 z1 L z3 z4 z5 else some ([], (i : Int), t.2)) (fun k => ?_) (Ev.bind hr ?_)
          · simp only [girandoleref20_Parse.l0]
            rw [if_pos (by omega), if_pos (by omega), if_pos (by simp; omega), rdB ws i hlt, B_list, if_neg he, if_neg (by omega)]
            simp only [if_pos (show out.length < 5864062014805 by omega), hwi]
          · simp only [if_pos hz]
            exact ih (i + 1) _ (by omega) (by omega) (by simp; omega)
        · rw [if_neg hz]
          refine Ev.step (f := fun k => (girandoleref20_row.f k L (B ws[i])).bind fun t => if t.2 = 0 then girandoleref20_Parse.l0 k (out ++ [t.1]) (ws.map B) (ws.length : Int) ((i + 1 : Nat) : Int) z0 z1 L z3 z4 z5 else some ([], (i : Int), t.2)) (fun k => ?_) (Ev.bind hr ?_)
          · simp only [girandoleref20_Parse.l0]
            rw [if_pos (by omega), if_pos (by omega), if_pos (by simp; omega), rdB ws i hlt, B_list, if_neg he, if_neg (by omega)]
            simp only [if_pos (show out.length < 5864062014805 by omega), hwi]
          · simp only [if_neg hz]
            exact Ev.now _
theorem ref_ev (z0 : ByteArray) (z1 : Int) (L z3 z4 : List S84) (z5 : List S131) (text : ByteArray) (hl : text.size ≤ 1000000) : Ev (fun k => girandoleref20_Parse.f k z0 z1 L z3 z4 z5 text) (parseP (L.map (fun x : S84 => x.f2)) text.data.toList) := by
  obtain ⟨h1, h2⟩ := sp_len 10 text.data.toList []
  have hsp := ref_split 10 text hl
  rw [size_list] at hl
  have h3 := ref_loop z0 z1 L z3 z4 z5 (sp 10 [] text.data.toList) (fun w hw => by have := h2 w hw; simp only [List.length_nil] at this; omega) (by omega) _ 0 [] rfl (by omega) (by simp)
  simp only [List.drop_zero] at h3
  refine Ev.congr (f := fun k => (girandoleref20_split.f k text 10).bind fun t => girandoleref20_Parse.l0 k [] t (t.length : Int) 0 z0 z1 L z3 z4 z5) (fun k => ?_) (Ev.bind hsp ?_)
  · rfl
  · simp only [List.length_map]
    exact h3
end Go.Proofs.YtnlkjimpefebbaaDoor.FE
