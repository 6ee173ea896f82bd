/- The law FeedBack over numbers and lists: any values, told in rows, are read again. -/
import Derived.Test.YtnlkjimpefebbaaDoorXFFx9
import Derived.Test.YtnlkjimpefebbaaDoorXFFx10
import Derived.Test.YtnlkjimpefebbaaDoorFeedDecl
import Derived.Test.YtnlkjimpefebbaaDoorFeedWord
namespace Go.Proofs.YtnlkjimpefebbaaDoor.Back
set_option linter.unusedVariables false
set_option linter.unusedSimpArgs false
open Go Go.RowKit Go.Proofs.YtnlkjimpefebbaaDoor.XFF Go.Proofs.YtnlkjimpefebbaaDoor.FE Go.Proofs.YtnlkjimpefebbaaDoor.FP Go.Proofs.YtnlkjimpefebbaaDoor.Fl Go.Proofs.YtnlkjimpefebbaaDoorW.PrintWords Go.Proofs.YtnlkjimpefebbaaDoorW.PrintLast
theorem dec_dig : ∀ n, (Lib.decDigits n).all isDig = true := by
  intro n
  induction n using Nat.strongRecOn with
  | _ n ih =>
    have one : ∀ i : Fin 10, isDig (UInt8.ofNat (48 + i.val)) = true := by decide +kernel
    rw [Lib.decDigits]
    split
    · rename_i h
      have := one ⟨n, h⟩
      simpa using this
    · rw [List.all_append, ih (n / 10) (by omega)]
      have := one ⟨n % 10, by omega⟩
      simpa using this
theorem dec_ne (n : Nat) : Lib.decDigits n ≠ [] := by
  rw [Lib.decDigits]
  split <;> simp
theorem val_dec : ∀ n, val 0 (Lib.decDigits n) = n := by
  intro n
  induction n using Nat.strongRecOn with
  | _ n ih =>
    have one : ∀ i : Fin 10, (UInt8.ofNat (48 + i.val)).toNat - 48 = i.val := by decide +kernel
    rw [Lib.decDigits]
    split
    · rename_i h
      have := one ⟨n, h⟩
      simp only at this
      simp [val]
      omega
    · have h1 := ih (n / 10) (by omega)
      have := one ⟨n % 10, by omega⟩
      simp only at this
      unfold val at h1 ⊢
      rw [List.foldl_append, h1]
      simp only [List.foldl_cons, List.foldl_nil, this]
      omega
theorem dec_head : ∀ n, n ≠ 0 → (Lib.decDigits n).head? ≠ some 48 := by
  intro n
  induction n using Nat.strongRecOn with
  | _ n ih =>
    intro hn
    have one : ∀ i : Fin 10, i.val ≠ 0 → UInt8.ofNat (48 + i.val) ≠ 48 := by decide +kernel
    rw [Lib.decDigits]
    split
    · rename_i h
      have := one ⟨n, h⟩ hn
      simpa using this
    · have h1 := ih (n / 10) (by omega) (by omega)
      intro e
      apply h1
      rw [List.head?_append] at e
      cases hx : (Lib.decDigits (n / 10)).head? with
      | none =>
        exfalso
        rw [List.head?_eq_none_iff] at hx
        exact dec_ne _ hx
      | some c => rw [hx] at e; simpa using e
theorem num_itoa (v : Int) (h0 : -9223372036854775808 ≤ v) (h1 : v ≤ 9223372036854775807) : numF (Lib.itoa v) = (v, 0) := by
  unfold Lib.itoa
  by_cases h : v < 0
  · rw [if_pos h, num_minus]
    unfold num
    rw [if_neg]
    · unfold ends
      rw [val_dec, if_pos rfl, if_pos (by omega)]
      have : -(v.natAbs : Int) = v := by omega
      rw [this]
    · rintro (h2 | h2 | h2)
      · exact dec_ne _ h2
      · rw [dec_dig] at h2; cases h2
      · exact dec_head _ (by omega) h2.1
  · rw [if_neg h]
    have hd := dec_dig v.toNat
    have hh : (Lib.decDigits v.toNat).head? ≠ some 45 := by
      intro e
      cases hx : Lib.decDigits v.toNat with
      | nil => rw [hx] at e; cases e
      | cons c r =>
        rw [hx] at e hd
        obtain rfl : c = 45 := Option.some.inj e
        rw [List.all_cons] at hd
        simp [isDig] at hd
    rw [num_plain _ hh]
    unfold num
    rw [if_neg]
    · unfold ends
      rw [val_dec, if_neg (by decide), if_pos (by omega)]
      have : (v.toNat : Int) = v := by omega
      rw [this]
    · rintro (h2 | h2 | h2)
      · exact dec_ne _ h2
      · rw [dec_dig] at h2; cases h2
      · by_cases hz : v.toNat = 0
        · apply h2.2
          rw [hz, Lib.decDigits_one (by decide)]
          rfl
        · exact dec_head _ hz h2.1
/-- Bytes above the blank. -/
def hi (l : List UInt8) : Bool := l.all (fun c => 33 ≤ c)
theorem dig_hi {l : List UInt8} (h : l.all isDig = true) : hi l = true := by
  unfold hi
  rw [List.all_eq_true] at h ⊢
  intro c hc
  have := dig_nat (h c hc)
  simp only [decide_eq_true_eq, UInt8.le_iff_toNat_le]
  have e : (33 : UInt8).toNat = 33 := rfl
  omega
theorem word_hi (b : Bool) (v : Int) : hi (word b v) = true := by
  unfold word
  split
  · split <;> decide
  · unfold Lib.itoa
    split
    · have := dig_hi (dec_dig v.natAbs)
      unfold hi at this ⊢
      rw [List.all_cons, this]
      decide
    · exact dig_hi (dec_dig _)
theorem word_ne (b : Bool) (v : Int) : word b v ≠ [] := by
  unfold word
  split
  · split <;> decide
  · unfold Lib.itoa
    split
    · simp
    · exact dec_ne _
theorem not_mem {l : List UInt8} (h : hi l = true) (c : UInt8) (hc : c.toNat ≤ 32) : c ∉ l := by
  intro hm
  unfold hi at h
  rw [List.all_eq_true] at h
  have := h c hm
  simp only [decide_eq_true_eq, UInt8.le_iff_toNat_le] at this
  have e : (33 : UInt8).toNat = 33 := rfl
  omega
theorem sp_skip (c : UInt8) : ∀ (l acc r : List UInt8), c ∉ l → sp c acc (l ++ r) = sp c (acc ++ l) r := by
  intro l
  induction l with
  | nil => intro acc r _; simp
  | cons x l ih =>
    intro acc r h
    rw [List.cons_append, sp, if_neg (fun e => h (by rw [e]; exact List.mem_cons_self ..)), ih _ _ (fun hm => h (List.mem_cons_of_mem _ hm))]
    simp
theorem join_cons (sep x y : List UInt8) (r : List (List UInt8)) : Lib.join (x :: y :: r) sep = x ++ (sep ++ Lib.join (y :: r) sep) := by simp [Lib.join, List.intercalate]
theorem join_one (sep x : List UInt8) : Lib.join [x] sep = x := by simp [Lib.join, List.intercalate]
theorem sp_join (c : UInt8) : ∀ (r : List (List UInt8)) (x : List UInt8), (∀ w ∈ x :: r, c ∉ w) → sp c [] (Lib.join (x :: r) [c]) = x :: r := by
  intro r
  induction r with
  | nil =>
    intro x h
    have := sp_skip c x [] [] (h x (List.mem_cons_self ..))
    simp only [List.append_nil, List.nil_append] at this
    rw [join_one, this, sp]
  | cons y r ih =>
    intro x h
    rw [join_cons, sp_skip c x [] _ (h x (List.mem_cons_self ..)), List.singleton_append, sp, if_pos rfl, ih y (fun w hw => h w (List.mem_cons_of_mem _ hw))]
    simp
theorem sp_join2 (c : UInt8) : ∀ (r : List (List UInt8)) (x : List UInt8), (∀ w ∈ x :: r, c ∉ w) → sp c [] (Lib.join (x :: r) [c, c]) = x :: r.flatMap (fun y => [[], y]) := by
  intro r
  induction r with
  | nil =>
    intro x h
    have := sp_skip c x [] [] (h x (List.mem_cons_self ..))
    simp only [List.append_nil, List.nil_append] at this
    rw [join_one, this, sp]
    rfl
  | cons y r ih =>
    intro x h
    rw [join_cons, sp_skip c x [] _ (h x (List.mem_cons_self ..))]
    show sp c ([] ++ x) (c :: c :: Lib.join (y :: r) [c, c]) = _
    rw [sp, if_pos rfl, sp, if_pos rfl, ih y (fun w hw => h w (List.mem_cons_of_mem _ hw))]
    simp
/-- A row's values: as many as types, truths as 0 or 1. -/
def fx (b : Bool) (v : Int) : Int := if b = true then Go.bits .and .i64 v 1 else v
def vals (ts : List Bool) (r : List Int) : List Int := (List.range ts.length).map fun i => fx (ts.getD i false) (r.getD i 0)
def wordsL (ts : List Bool) (r : List Int) : List (List UInt8) := (List.range ts.length).map fun i => word (ts.getD i false) (r.getD i 0)
theorem take_map_range {α : Type} (f : Nat → α) (n i : Nat) (h : i < n) : ((List.range n).map f).take (i + 1) = ((List.range n).map f).take i ++ [f i] := by
  rw [List.take_add_one, List.getElem?_map, List.getElem?_range h]
  rfl
theorem rd_in (r : List Int) (i : Nat) (h : i < r.length) : rd r (i : Int) = r.getD i 0 := by simp [rd, h]
theorem getD_out (r : List Int) (i : Nat) (h : ¬ i < r.length) : r.getD i 0 = 0 := by simp [List.getD, List.getElem?_eq_none (Nat.le_of_not_lt h)]
theorem d84_at (ts : List Bool) (i : Nat) (h : i < ts.length) : (rd_T84 (ts.map d84) (i : Int)).f2 = ts.getD i false := by
  rw [rd84 _ i (by simpa using h)]
  simp [d84, h]
theorem o88_at (ts : List Bool) (i : Nat) (h : i < ts.length) : (rd_T88 ((ts.map d84).map o88) (i : Int)).f2.f0 = ts.getD i false := by
  rw [rd88 _ i (by simpa using h)]
  simp [d84, o88, h]
theorem and_1 (x : Int) : Go.bits .and .i64 x 1 = 0 ∨ Go.bits .and .i64 x 1 = 1 := by
  have h1 : (BitVec.ofInt 64 x &&& BitVec.ofInt 64 1).toNat ≤ 1 := by
    rw [BitVec.toNat_and]
    have := @Nat.and_le_right (BitVec.ofInt 64 x).toNat (BitVec.ofInt 64 1).toNat
    have e : (BitVec.ofInt 64 1).toNat = 1 := by decide
    omega
  unfold Go.bits
  show IntKind.i64.wrap (((BitVec.ofInt 64 x &&& BitVec.ofInt 64 1).toNat : Nat) : Int) = 0 ∨ IntKind.i64.wrap (((BitVec.ofInt 64 x &&& BitVec.ofInt 64 1).toNat : Nat) : Int) = 1
  rw [IntKind.wrap_i64]
  omega
def inR (x : Int) : Prop := -9223372036854775808 ≤ x ∧ x ≤ 9223372036854775807
theorem getD_in {r : List Int} (h : ∀ x ∈ r, inR x) (i : Nat) : inR (r.getD i 0) := by
  by_cases hi : i < r.length
  · have e : r.getD i 0 = r[i] := by simp [hi]
    rw [e]
    exact h _ (List.getElem_mem hi)
  · rw [getD_out r i hi]
    exact ⟨by decide, by decide⟩
theorem fx_in (b : Bool) (v : Int) (h : inR v) : inR (fx b v) := by
  unfold fx
  split
  · rcases and_1 v with e | e <;> rw [e] <;> exact ⟨by decide, by decide⟩
  · exact h
theorem vals_in (ts : List Bool) (r : List Int) (h : ∀ x ∈ r, inR x) : ∀ x ∈ vals ts r, inR x := by
  intro x hx
  obtain ⟨i, _, rfl⟩ := List.mem_map.1 hx
  exact fx_in _ _ (getD_in h i)
theorem vals_at (ts : List Bool) (r : List Int) (i : Nat) (h : i < ts.length) : (vals ts r).getD i 0 = fx (ts.getD i false) (r.getD i 0) := by
  simp [vals, h]
theorem valP_word (b : Bool) (v : Int) (h : inR v) : valP b (word b (fx b v)) = (fx b v, 0) := by
  unfold valP
  by_cases hb : b = true
  · subst hb
    unfold word fx
    rw [if_pos rfl, if_pos rfl, if_pos rfl]
    rcases and_1 v with e | e <;> rw [e] <;> decide
  · have e1 : word b (fx b v) = Lib.itoa v := by unfold word fx; rw [if_neg hb, if_neg hb]
    have e2 : fx b v = v := by unfold fx; rw [if_neg hb]
    rw [if_neg hb, e1, e2]
    exact num_itoa v h.1 h.2
theorem row_loop (ts : List Bool) (hts : ts.length ≤ 5) (r : List Int) : ∀ d i, ts.length - i = d → i ≤ ts.length →
    Ev (fun k => girandolelaw11_Row.l0 k r ((vals ts r).take i) (ts.map d84) (ts.length : Int) (i : Int)) (vals ts r) := by
  intro d
  induction d with
  | zero =>
    intro i hd hi
    refine Ev.step (f := fun _ => some _) (fun k => ?_) (Ev.now _)
    simp only [girandolelaw11_Row.l0]
    rw [if_neg (by omega), List.take_of_length_le (by simp [vals]; omega)]
  | succ d ih =>
    intro i hd hi
    have h : i < ts.length := by omega
    have h1 := ih (i + 1) (by omega) (by omega)
    have e := take_map_range (fun i => fx (ts.getD i false) (r.getD i 0)) ts.length i h
    have e' : (vals ts r).take (i + 1) = (vals ts r).take i ++ [fx (ts.getD i false) (r.getD i 0)] := e
    rw [e'] at h1
    have hlen : ((vals ts r).take i).length < 17592186044416 := by simp [vals]; omega
    refine Ev.step (fun k => ?_) h1
    simp only [girandolelaw11_Row.l0]
    rw [if_pos (by omega), if_pos (by omega), if_pos (by simp; omega), d84_at ts i h, w1 i (by omega)]
    by_cases hr : i < r.length
    · rw [if_pos (by omega), rd_in r i hr]
      by_cases hb : ts.getD i false = true
      · rw [if_pos hb, if_pos hlen]; simp only [fx, if_pos hb]
      · rw [if_neg hb, if_pos hlen]; simp only [fx, if_neg hb]
    · rw [if_neg (by omega), getD_out r i hr]
      by_cases hb : ts.getD i false = true
      · rw [if_pos hb, if_pos hlen]; simp only [fx, if_pos hb]
      · rw [if_neg hb, if_pos hlen]; simp only [fx, if_neg hb]
theorem row_ev (ts : List Bool) (hts : ts.length ≤ 5) (r : List Int) : Ev (fun k => girandolelaw11_Row.f k (⟨#[]⟩ : ByteArray) 0 (ts.map d84) [] [] [] r) (vals ts r) := by
  refine Ev.congr (fun k => ?_) (row_loop ts hts r _ 0 rfl (by omega))
  unfold girandolelaw11_Row.f
  rw [List.length_map]
  rfl
/-- A row's line. -/
def line (ts : List Bool) (r : List Int) : List UInt8 := if ts = [] then [46] else Lib.join (wordsL ts r) [32]
theorem words_len (ts : List Bool) (r : List Int) (h : ∀ x ∈ r, inR x) : ∀ w ∈ wordsL ts r, w.length ≤ 21 := by
  intro w hw
  obtain ⟨i, _, rfl⟩ := List.mem_map.1 hw
  exact word_len _ _ (getD_in h i).1 (getD_in h i).2
theorem frow_loop (ts : List Bool) (hts : ts.length ≤ 5) (r : List Int) (hr : ∀ x ∈ r, inR x) : ∀ d i, ts.length - i = d → i ≤ ts.length →
    Ev (fun k => feed_Row.l0 k r (((wordsL ts r).take i).map B) ((ts.map d84).map o88) (ts.length : Int) (i : Int)) (B (Lib.join (wordsL ts r) [32])) := by
  intro d
  induction d with
  | zero =>
    intro i hd hi
    have hj := join_f (wordsL ts r) (by simp [wordsL]; omega) (fun w hw => by have := words_len ts r hr w hw; omega)
    refine Ev.step (f := fun _ => some _) (fun k => ?_) (Ev.now _)
    simp only [feed_Row.l0]
    rw [if_neg (by omega), List.take_of_length_le (by simp [wordsL]; omega), hj]
    rfl
  | succ d ih =>
    intro i hd hi
    have h : i < ts.length := by omega
    have h1 := ih (i + 1) (by omega) (by omega)
    have e := take_map_range (fun i => word (ts.getD i false) (r.getD i 0)) ts.length i h
    have e' : (wordsL ts r).take (i + 1) = (wordsL ts r).take i ++ [word (ts.getD i false) (r.getD i 0)] := e
    rw [e', List.map_append] at h1
    have hlen : (((wordsL ts r).take i).map B).length < 8796093022208 := by simp [wordsL]; omega
    have hw := feed_word_f (ts.getD i false) (r.getD i 0) (getD_in hr i).1 (getD_in hr i).2
    refine Ev.step (fun k => ?_) h1
    simp only [feed_Row.l0]
    rw [if_pos (by omega), if_pos (by omega), if_pos (by simp; omega), o88_at ts i h, w1 i (by omega)]
    by_cases hri : i < r.length
    · rw [if_pos (by omega), rd_in r i hri, hw, Option.bind_some, if_pos hlen]
      rfl
    · rw [getD_out r i hri] at hw ⊢
      rw [if_neg (by omega), hw, Option.bind_some, if_pos hlen]
      rfl
theorem frow_ev (ts : List Bool) (hts : ts.length ≤ 5) (r : List Int) (hr : ∀ x ∈ r, inR x) : Ev (fun k => feed_Row.f k ((ts.map d84).map o88) r) (B (line ts r)) := by
  unfold line
  by_cases h : ts = []
  · subst h
    rw [if_pos rfl]
    exact Ev.congr (fun k => rfl) (Ev.now _)
  · rw [if_neg h]
    refine Ev.congr (fun k => ?_) (frow_loop ts hts r hr _ 0 rfl (by omega))
    have hn : ¬ (((ts.map d84).map o88).length : Int) = 0 := by
      intro e
      apply h
      apply List.eq_nil_of_length_eq_zero
      simp at e
      rw [e]
      rfl
    unfold feed_Row.f
    rw [if_neg hn, List.length_map, List.length_map]
    rfl
theorem join_snoc (sep w : List UInt8) : ∀ (r : List (List UInt8)) (x : List UInt8), Lib.join (x :: r ++ [w]) sep = Lib.join (x :: r) sep ++ sep ++ w := by
  intro r
  induction r with
  | nil => intro x; rw [List.singleton_append, join_cons, join_one, join_one]; simp
  | cons y r ih =>
    intro x
    rw [List.cons_append, List.cons_append, join_cons, ← List.cons_append, ih y, join_cons]
    simp
theorem rrow_loop (ts : List Bool) (hts : ts.length ≤ 5) (r : List Int) (hr : ∀ x ∈ r, inR x) : ∀ d i, ts.length - i = d → i ≤ ts.length →
    Ev (fun k => girandoleref20_Row.l0 k r (B (Lib.join ((wordsL ts r).take i) [32])) (ts.map d84) (ts.length : Int) (i : Int)) (B (Lib.join (wordsL ts r) [32])) := by
  intro d
  induction d with
  | zero =>
    intro i hd hi
    refine Ev.step (f := fun _ => some _) (fun k => ?_) (Ev.now _)
    simp only [girandoleref20_Row.l0]
    rw [if_neg (by omega), List.take_of_length_le (by simp [wordsL]; omega)]
  | succ d ih =>
    intro i hd hi
    have h : i < ts.length := by omega
    have h1 := ih (i + 1) (by omega) (by omega)
    have e := take_map_range (fun i => word (ts.getD i false) (r.getD i 0)) ts.length i h
    have e' : (wordsL ts r).take (i + 1) = (wordsL ts r).take i ++ [word (ts.getD i false) (r.getD i 0)] := e
    rw [e'] at h1
    have hw := ref_word_ev (ts.getD i false) (r.getD i 0) (getD_in hr i).1 (getD_in hr i).2
    have hwl := word_len (ts.getD i false) (r.getD i 0) (getD_in hr i).1 (getD_in hr i).2
    have hjl : (Lib.join ((wordsL ts r).take i) [32]).length ≤ 1000 := by
      have hl := join_len [32] 21 ((wordsL ts r).take i) (fun w hw => words_len ts r hr w (List.mem_of_mem_take hw))
      have h2 : ((wordsL ts r).take i).length ≤ 5 := by simp [wordsL]; omega
      have h3 : ((wordsL ts r).take i).length * (21 + [32].length) ≤ 5 * (21 + ([32] : List UInt8).length) := Nat.mul_le_mul_right _ h2
      simp only [List.length_singleton] at h3 hl
      omega
    have hw0 : ∀ (hri : ¬ i < r.length), word (ts.getD i false) 0 = word (ts.getD i false) (r.getD i 0) := fun hri => by rw [getD_out r i hri]
    by_cases hi0 : i = 0
    · subst hi0
      have ej : Lib.join ((wordsL ts r).take 0 ++ [word (ts.getD 0 false) (r.getD 0 0)]) [32] = Lib.join ((wordsL ts r).take 0) [32] ++ word (ts.getD 0 false) (r.getD 0 0) := by
        rw [List.take_zero, List.nil_append, join_one]
        rfl
      rw [ej, ← B_append] at h1
      refine Ev.step (f := fun k => (girandoleref20_word.f k (r.getD 0 0) (ts.getD 0 false)).bind fun t => if (B (Lib.join ((wordsL ts r).take 0) [32])).size + t.size ≤ 9223372036854775807 then girandoleref20_Row.l0 k r (B (Lib.join ((wordsL ts r).take 0) [32]) ++ t) (ts.map d84) (ts.length : Int) ((0 + 1 : Nat) : Int) else none) (fun k => ?_) (Ev.bind hw ?_)
      · simp only [girandoleref20_Row.l0]
        rw [if_pos (by omega), if_pos (by omega), if_pos (by simp; omega), d84_at ts 0 h, w1 0 (by omega)]
        by_cases hri : 0 < r.length
        · rw [if_pos (by omega), if_neg (by omega), rd_in r 0 hri]
        · rw [if_neg (by omega), if_neg (by omega), getD_out r 0 hri]
      · refine Ev.congr (fun k => ?_) h1
        rw [if_pos (by rw [B_size, B_size]; omega)]
    · obtain ⟨y, q, hq⟩ : ∃ y q, (wordsL ts r).take i = y :: q := by
        cases hx : (wordsL ts r).take i with
        | nil =>
          exfalso
          have hl : ((wordsL ts r).take i).length = i := by simp [wordsL]; omega
          rw [hx] at hl
          simp at hl
          omega
        | cons y q => exact ⟨y, q, rfl⟩
      have ej : Lib.join ((wordsL ts r).take i ++ [word (ts.getD i false) (r.getD i 0)]) [32] = Lib.join ((wordsL ts r).take i) [32] ++ [32] ++ word (ts.getD i false) (r.getD i 0) := by
        rw [hq]
        exact join_snoc _ _ _ _
      rw [ej, ← B_append, ← B_append] at h1
      have hb32 : (B [32] : ByteArray) = ⟨#[32]⟩ := rfl
      rw [hb32] at h1
      refine Ev.step (f := fun k => (girandoleref20_word.f k (r.getD i 0) (ts.getD i false)).bind fun t => if (B (Lib.join ((wordsL ts r).take i) [32]) ++ (⟨#[32]⟩ : ByteArray)).size + t.size ≤ 9223372036854775807 then girandoleref20_Row.l0 k r ((B (Lib.join ((wordsL ts r).take i) [32]) ++ (⟨#[32]⟩ : ByteArray)) ++ t) (ts.map d84) (ts.length : Int) ((i + 1 : Nat) : Int) else none) (fun k => ?_) (Ev.bind hw ?_)
      · simp only [girandoleref20_Row.l0]
        rw [if_pos (by omega), if_pos (by omega), if_pos (by simp; omega), d84_at ts i h, w1 i (by omega)]
        by_cases hri : i < r.length
        · rw [if_pos (by omega), if_pos (by omega), if_pos (by rw [B_size]; omega), rd_in r i hri]
        · rw [if_neg (by omega), if_pos (by omega), if_pos (by rw [B_size]; omega), getD_out r i hri]
      · refine Ev.congr (fun k => ?_) h1
        have e1 : (⟨#[32]⟩ : ByteArray).size = 1 := rfl
        rw [if_pos (by rw [ByteArray.size_append, B_size, B_size, e1]; omega)]
theorem rrow_ev (ts : List Bool) (hts : ts.length ≤ 5) (r : List Int) (hr : ∀ x ∈ r, inR x) : Ev (fun k => girandoleref20_Row.f k (ts.map d84) r) (B (line ts r)) := by
  unfold line
  by_cases h : ts = []
  · subst h
    rw [if_pos rfl]
    exact Ev.congr (fun k => rfl) (Ev.now _)
  · rw [if_neg h]
    refine Ev.congr (fun k => ?_) (rrow_loop ts hts r hr _ 0 rfl (by omega))
    have hn : ¬ ((ts.map d84).length : Int) = 0 := by
      intro e
      apply h
      apply List.eq_nil_of_length_eq_zero
      simp at e
      rw [e]
      rfl
    unfold girandoleref20_Row.f
    rw [if_neg hn, List.length_map]
    rfl
theorem rowgo_back (ts : List Bool) (vs : List Int) (ws : List (List UInt8)) (h1 : vs.length = ts.length) (h2 : ws.length = ts.length) (h : ∀ (i : Nat) (hi : i < ts.length), valP (ts[i]) (ws[i]'(by omega)) = (vs[i]'(by omega), 0)) :
    ∀ d i out, ts.length - i = d → i ≤ ts.length → rowgo (ts.drop i) (ws.drop i) out = (out ++ vs.drop i, 0) := by
  intro d
  induction d with
  | zero =>
    intro i out hd hi
    rw [List.drop_eq_nil_iff.2 (by omega), List.drop_eq_nil_iff.2 (by omega), List.drop_eq_nil_iff.2 (by omega), rowgo]
    simp
  | succ d ih =>
    intro i out hd hi
    have hi' : i < ts.length := by omega
    rw [List.drop_eq_getElem_cons hi', List.drop_eq_getElem_cons (show i < ws.length by omega), List.drop_eq_getElem_cons (show i < vs.length by omega), rowgo, h i hi', if_pos rfl, ih (i + 1) _ (by omega) (by omega)]
    simp
theorem line_back (ts : List Bool) (r : List Int) (hr : ∀ x ∈ r, inR x) : rowP ts (line ts (vals ts r)) = (vals ts r, 0) := by
  unfold rowP line
  by_cases h : ts = []
  · subst h
    rfl
  · rw [if_neg h, if_neg h]
    have hne : wordsL ts (vals ts r) ≠ [] := by
      intro e
      apply h
      have := congrArg List.length e
      simp only [wordsL, List.length_map, List.length_range, List.length_nil] at this
      exact List.eq_nil_of_length_eq_zero this
    obtain ⟨y, q, hq⟩ : ∃ y q, wordsL ts (vals ts r) = y :: q := by
      cases hx : wordsL ts (vals ts r) with
      | nil => exact absurd hx hne
      | cons y q => exact ⟨y, q, rfl⟩
    have hsp : sp 32 [] (Lib.join (wordsL ts (vals ts r)) [32]) = wordsL ts (vals ts r) := by
      rw [hq]
      refine sp_join 32 q y (fun w hw => ?_)
      rw [← hq] at hw
      obtain ⟨i, _, rfl⟩ := List.mem_map.1 hw
      exact not_mem (word_hi _ _) 32 (by decide)
    rw [hsp]
    have hb := rowgo_back ts (vals ts r) (wordsL ts (vals ts r)) (by simp [vals]) (by simp [wordsL]) (fun i hi => by
      have e1 : (wordsL ts (vals ts r))[i]'(by simp [wordsL]; omega) = word (ts.getD i false) ((vals ts r).getD i 0) := by simp [wordsL]
      have e2 : (vals ts r)[i]'(by simp [vals]; omega) = fx (ts.getD i false) (r.getD i 0) := by simp [vals]
      have e3 : ts[i] = ts.getD i false := by simp [hi]
      rw [e1, e2, e3, vals_at ts r i hi]
      exact valP_word _ _ (getD_in hr i)) _ 0 [] rfl (by omega)
    simpa using hb
theorem line_no (ts : List Bool) (r : List Int) : (10 : UInt8) ∉ line ts r ∧ line ts r ≠ [] := by
  unfold line
  split
  · exact ⟨by decide, by decide⟩
  · rename_i h
    obtain ⟨y, q, hq⟩ : ∃ y q, wordsL ts r = y :: q := by
      cases hx : wordsL ts r with
      | nil =>
        exfalso
        apply h
        have := congrArg List.length hx
        simp only [wordsL, List.length_map, List.length_range, List.length_nil] at this
        exact List.eq_nil_of_length_eq_zero this
      | cons y q => exact ⟨y, q, rfl⟩
    have hall : ∀ w ∈ y :: q, hi w = true ∧ w ≠ [] := by
      intro w hw
      rw [← hq] at hw
      obtain ⟨i, _, rfl⟩ := List.mem_map.1 hw
      exact ⟨word_hi _ _, word_ne _ _⟩
    rw [hq]
    clear hq
    have key : ∀ (q : List (List UInt8)) (y : List UInt8), (∀ w ∈ y :: q, hi w = true ∧ w ≠ []) → (10 : UInt8) ∉ Lib.join (y :: q) [32] ∧ Lib.join (y :: q) [32] ≠ [] := by
      intro q
      induction q with
      | nil =>
        intro y hy
        rw [join_one]
        have := hy y (List.mem_cons_self ..)
        exact ⟨not_mem this.1 10 (by decide), this.2⟩
      | cons z q ih =>
        intro y hy
        have h1 := hy y (List.mem_cons_self ..)
        have h2 := ih z (fun w hw => hy w (List.mem_cons_of_mem _ hw))
        rw [join_cons]
        refine ⟨?_, by simp⟩
        intro hm
        rcases List.mem_append.1 hm with hm | hm
        · exact not_mem h1.1 10 (by decide) hm
        · rcases List.mem_append.1 hm with hm | hm
          · revert hm; decide
          · exact h2.1 hm
    exact key q y hall
theorem pgo_back (ts : List Bool) : ∀ (rs : List (List Int)) (i : Nat) (out : List (List Int)), (∀ r ∈ rs, ∀ x ∈ r, inR x) → out.length + rs.length ≤ 200 →
    pgo ts ((rs.map fun r => line ts (vals ts r)).flatMap (fun y => [[], y])) i out = (out ++ rs.map (vals ts), -1, 0) := by
  intro rs
  induction rs with
  | nil => intro i out _ _; simp [pgo]
  | cons r rs ih =>
    intro i out h hl
    have hr := line_back ts r (h r (List.mem_cons_self ..))
    simp only [List.length_cons] at hl
    simp only [List.map_cons, List.flatMap_cons, List.cons_append, List.nil_append]
    rw [pgo, if_pos rfl, pgo, if_neg (line_no _ _).2, if_neg (by omega), hr, if_pos rfl, ih _ _ (fun q hq => h q (List.mem_cons_of_mem _ hq)) (by simp; omega)]
    simp
theorem parse_back (ts : List Bool) (rs : List (List Int)) (h : ∀ r ∈ rs, ∀ x ∈ r, inR x) (hl : rs.length ≤ 10) : parseP ts (Lib.join (rs.map fun r => line ts (vals ts r)) [10, 10]) = (rs.map (vals ts), -1, 0) := by
  unfold parseP
  cases rs with
  | nil => rfl
  | cons r rs =>
    rw [List.map_cons, sp_join2 10 _ _ (by
      intro w hw
      rw [← List.map_cons (f := fun r => line ts (vals ts r))] at hw
      obtain ⟨q, _, rfl⟩ := List.mem_map.1 hw
      exact (line_no _ _).1)]
    simp only [List.length_cons] at hl
    have hr := line_back ts r (h r (List.mem_cons_self ..))
    have h2 := pgo_back ts rs 1 [vals ts r] (fun q hq => h q (List.mem_cons_of_mem _ hq)) (by simp; omega)
    rw [pgo, if_neg (line_no _ _).2, if_neg (by simp), hr, if_pos rfl]
    simpa using h2
end Go.Proofs.YtnlkjimpefebbaaDoor.Back
