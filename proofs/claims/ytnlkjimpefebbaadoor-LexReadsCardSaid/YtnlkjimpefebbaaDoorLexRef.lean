/- The document's lexer (reference 1), as printed, comes to the plain lexer's answer. -/
import Derived.Test.YtnlkjimpefebbaaDoorXLexBx4
import Derived.Test.YtnlkjimpefebbaaDoorLexPlain
namespace Go.Proofs.YtnlkjimpefebbaaDoor.LR
set_option linter.unusedVariables false
set_option linter.unusedSimpArgs false
open Go Go.RowKit Go.Proofs.YtnlkjimpefebbaaDoor.XLexB Go.Proofs.YtnlkjimpefebbaaDoorW.PrintWords Go.Proofs.YtnlkjimpefebbaaDoorW.PrintLast Go.Proofs.YtnlkjimpefebbaaDoorW.PrintMore

theorem w1 (i : Nat) (h : i ≤ 100000) : wrap64 ((i : Int) + 1) = ((i + 1 : Nat) : Int) := by unfold wrap64; omega
theorem w2 (i : Nat) (h : i ≤ 100000) : wrap64 ((i : Int) + 2) = ((i + 2 : Nat) : Int) := by unfold wrap64; omega
theorem wa (i j : Nat) (h : i ≤ 100000) (h2 : j ≤ 100000) : wrap64 ((i : Int) + (j : Int)) = ((i + j : Nat) : Int) := by unfold wrap64; omega
theorem bt_i (s : ByteArray) (i : Nat) (h : i < s.size) : bt s (i : Int) = ((s[i]'h).toNat : Int) := by
  unfold bt
  simp [h]
def cl (c : UInt8) : Int := if LX.letter c then 1 else if LX.digit c then 2 else if LX.blank c then 3 else 0
theorem class_all : ∀ n : Fin 256, girandoleref01_class.f 4 (n.val : Int) = some (cl (UInt8.ofNat n.val)) := by decide +kernel
theorem class_ev (c : UInt8) : Ev (fun k => girandoleref01_class.f k (c.toNat : Int)) (cl c) := by
  have h := class_all ⟨c.toNat, c.toNat_lt⟩
  simp only at h
  rw [UInt8.ofNat_toNat] at h
  exact Ev.of (fun k => girandoleref01_class.mono _ k) h
theorem cl3 (c : UInt8) : cl c = 3 ↔ LX.blank c = true := by
  have : ∀ n : Fin 256, (cl (UInt8.ofNat n.val) = 3) = (LX.blank (UInt8.ofNat n.val) = true) := by decide +kernel
  have h := this ⟨c.toNat, c.toNat_lt⟩
  simp only [UInt8.ofNat_toNat] at h
  rw [h]
theorem cl1 (c : UInt8) : cl c = 1 ↔ LX.letter c = true := by
  unfold cl
  split
  · simp [*]
  · split
    · simp [*]
    · split <;> simp [*]
theorem cl2 (c : UInt8) : cl c = 2 ↔ (LX.letter c = false ∧ LX.digit c = true) := by
  unfold cl
  split
  · simp [*]
  · split
    · simp [*]
    · split <;> simp [*]
theorem digit_letter (c : UInt8) (h : LX.digit c = true) : LX.letter c = false := by
  have : ∀ n : Fin 256, LX.digit (UInt8.ofNat n.val) = true → LX.letter (UInt8.ofNat n.val) = false := by decide +kernel
  have h2 := this ⟨c.toNat, c.toNat_lt⟩
  simp only [UInt8.ofNat_toNat] at h2
  exact h2 h
theorem ext2 (s : ByteArray) (i : Nat) (h : i + 1 < s.size) : (s.extract i (i + 2)).toList = [s[i], s[i + 1]] := by
  rw [toList_data, Lx.extract_list, dcons s i (by omega), dcons s (i + 1) h, show i + 2 - i = 2 from by omega]
  rfl
theorem skip_ev (s : ByteArray) (hs : s.size ≤ 4000) : ∀ d i, s.size - i = d → i ≤ s.size →
    Ev (fun k => girandoleref01_skip.l0 k s (i : Int)) ((sk false s i : Nat) : Int) ∧ Ev (fun k => girandoleref01_skip.l1 k s (i : Int)) ((sk true s i : Nat) : Int) := by
  intro d
  induction d with
  | zero =>
    intro i hd hi
    have hi' : i = s.size := by omega
    have e0 : Ev (fun k => girandoleref01_skip.l0 k s (i : Int)) ((sk false s i : Nat) : Int) := by
      refine Ev.step (f := fun _ => some (i : Int)) (fun k => ?_) ?_
      · simp only [girandoleref01_skip.l0]
        rw [if_neg (by omega)]
      · have : sk false s i = i := by unfold sk; rw [dnil s i (by omega)]; simp [LX.skip]; omega
        rw [this]
        exact Ev.now _
    refine ⟨e0, ?_⟩
    refine Ev.step (f := fun k => girandoleref01_skip.l0 k s (i : Int)) (fun k => ?_) ?_
    · simp only [girandoleref01_skip.l1]
      rw [if_neg (by omega)]
    · have : sk true s i = sk false s i := by unfold sk; rw [dnil s i (by omega)]; rfl
      rw [this]
      exact e0
  | succ d ih =>
    intro i hd hi
    have hlt : i < s.size := by omega
    obtain ⟨ih0, ih1⟩ := ih (i + 1) (by omega) (by omega)
    have hc := dcons s i hlt
    have e1 : s[i] ≠ 10 → Ev (fun k => girandoleref01_skip.l1 k s (i : Int)) ((sk true s i : Nat) : Int) := by
      intro h10
      refine Ev.step (f := fun k => girandoleref01_skip.l1 k s ((i + 1 : Nat) : Int)) (fun k => ?_) ?_
      · simp only [girandoleref01_skip.l1]
        rw [if_pos (by omega), if_pos (by omega), bt_i s i hlt, if_neg, w1 i (by omega)]
        intro e
        apply h10
        rw [← UInt8.toNat_inj]
        have : (UInt8.toNat 10) = 10 := rfl
        omega
      · have : sk true s i = sk true s (i + 1) := by
          unfold sk
          rw [hc]
          simp only [LX.skip]
          rw [if_neg (by simpa using h10)]
        rw [this]
        exact ih1
    have e0 : Ev (fun k => girandoleref01_skip.l0 k s (i : Int)) ((sk false s i : Nat) : Int) := by
      by_cases hb : LX.blank s[i] = true
      · refine Ev.step (f := fun k => (girandoleref01_class.f k (s[i].toNat : Int)).bind fun t => if t = 3 then girandoleref01_skip.l0 k s ((i + 1 : Nat) : Int) else (if (wrap64 ((i : Int) + 1)) < (s.size : Int) then (if (i : Int) ≤ (wrap64 ((i : Int) + 2)) then (if (wrap64 ((i : Int) + 2)) ≤ (s.size : Int) then (girandoleref01_skip.j1 k s i ((s.extract (i : Int).toNat ((wrap64 ((i : Int) + 2)) : Int).toNat).toList == ([45, 45] : List UInt8))) else (none)) else (none)) else (girandoleref01_skip.j1 k s i false))) (fun k => ?_) ?_
        · simp only [girandoleref01_skip.l0]
          rw [if_pos (by omega), if_pos (by omega), bt_i s i hlt, w1 i (by omega)]
        · refine Ev.bind (class_ev s[i]) ?_
          simp only [(cl3 s[i]).2 hb, if_true]
          have : sk false s i = sk false s (i + 1) := by
            unfold sk
            rw [hc, LX.skip_blank _ _ hb]
          rw [this]
          exact ih0
      · have h3 : ¬ cl s[i] = 3 := fun e => hb ((cl3 s[i]).1 e)
        have stay : ∀ {b : Bool}, b = false → LX.skip false (s.data.toList.drop i) = s.data.toList.drop i → Ev (fun k => girandoleref01_skip.j1 k s (i : Int) b) ((sk false s i : Nat) : Int) := by
          intro b hbf hsk
          subst hbf
          refine Ev.step (f := fun _ => some (i : Int)) (fun k => by simp [girandoleref01_skip.j1]) ?_
          have : sk false s i = i := by unfold sk; rw [hsk, dlen]; omega
          rw [this]
          exact Ev.now _
        by_cases h2 : i + 1 < s.size
        · refine Ev.step (f := fun k => (girandoleref01_class.f k (s[i].toNat : Int)).bind fun t => if t = 3 then girandoleref01_skip.l0 k s ((i + 1 : Nat) : Int) else girandoleref01_skip.j1 k s (i : Int) ((s.extract i (i + 2)).toList == ([45, 45] : List UInt8))) (fun k => ?_) ?_
          · simp only [girandoleref01_skip.l0]
            rw [if_pos (by omega), if_pos (by omega), bt_i s i hlt, w1 i (by omega), w2 i (by omega)]
            simp only [Int.toNat_natCast]
            rw [if_pos (by omega : ((i + 1 : Nat) : Int) < (s.size : Int)), if_pos (by omega : (i : Int) ≤ ((i + 2 : Nat) : Int)), if_pos (by omega : ((i + 2 : Nat) : Int) ≤ (s.size : Int))]
          · refine Ev.bind (class_ev s[i]) ?_
            simp only [h3, if_false]
            rw [ext2 s i h2]
            have hc2 := dcons s (i + 1) h2
            by_cases hd2 : s[i] = 45 ∧ s[i + 1] = 45
            · have hj : ([s[i], s[i + 1]] == ([45, 45] : List UInt8)) = true := by simp [hd2]
              rw [hj]
              refine Ev.step (f := fun k => girandoleref01_skip.l1 k s (i : Int)) (fun k => by simp [girandoleref01_skip.j1]) ?_
              have hx := e1 (by rw [hd2.1]; decide)
              have : sk false s i = sk true s i := by
                unfold sk
                rw [hc, hc2, hd2.1, hd2.2]
                simp [LX.skip, LX.blank]
              rw [this]
              exact hx
            · have hj : ([s[i], s[i + 1]] == ([45, 45] : List UInt8)) = false := by simpa using hd2
              refine stay hj ?_
              refine LX.skip_other _ ?_ ?_
              · intro c r e
                rw [hc] at e
                obtain ⟨rfl, _⟩ := List.cons.inj e
                simpa using hb
              · rw [hc, hc2]
                cases hp : List.isPrefixOf [45, 45] (s[i] :: s[i + 1] :: List.drop (i + 1 + 1) s.data.toList) with
                | false => rfl
                | true =>
                  simp [List.isPrefixOf] at hp
                  exact absurd ⟨hp.1.symm, hp.2.symm⟩ hd2
        · refine Ev.step (f := fun k => (girandoleref01_class.f k (s[i].toNat : Int)).bind fun t => if t = 3 then girandoleref01_skip.l0 k s ((i + 1 : Nat) : Int) else girandoleref01_skip.j1 k s (i : Int) false) (fun k => ?_) ?_
          · simp only [girandoleref01_skip.l0]
            rw [if_pos (by omega), if_pos (by omega), bt_i s i hlt, w1 i (by omega), if_neg (by omega : ¬ ((i + 1 : Nat) : Int) < (s.size : Int))]
          · refine Ev.bind (class_ev s[i]) ?_
            simp only [h3, if_false]
            refine stay rfl ?_
            refine LX.skip_other _ ?_ ?_
            · intro c r e
              rw [hc] at e
              obtain ⟨rfl, _⟩ := List.cons.inj e
              simpa using hb
            · rw [hc, dnil s (i + 1) (by omega)]
              simp [List.isPrefixOf]
    refine ⟨e0, ?_⟩
    by_cases h10 : s[i] = 10
    · refine Ev.step (f := fun k => girandoleref01_skip.l0 k s (i : Int)) (fun k => ?_) ?_
      · simp only [girandoleref01_skip.l1]
        rw [if_pos (by omega), if_pos (by omega), bt_i s i hlt, if_pos]
        rw [h10]
        rfl
      · have : sk true s i = sk false s i := by
          unfold sk
          rw [hc, h10]
          simp [LX.skip, LX.blank]
        rw [this]
        exact e0
    · exact e1 h10
theorem u64_wrap (n : Int) : IntKind.u64.wrap n = n % 18446744073709551616 := by simp [IntKind.wrap, IntKind.bits, IntKind.signed]
theorem words_ev : Ev (fun k => girandoleref01_Words.f k) (LX.words.map fun b => (⟨b.toArray⟩ : ByteArray)) := by
  refine Ev.of (k := 200) (fun k => girandoleref01_Words.mono k) ?_
  decide +kernel
theorem signs_ev : Ev (fun k => girandoleref01_Signs.f k) (LX.signs.map fun b => (⟨b.toArray⟩ : ByteArray)) := by
  refine Ev.of (k := 60) (fun k => girandoleref01_Signs.mono k) ?_
  decide +kernel
/-- As many as are so, from i on. -/
def tw (p : UInt8 → Bool) (s : ByteArray) (i : Nat) : Nat := i + ((s.data.toList.drop i).takeWhile p).length
theorem tw_next (p : UInt8 → Bool) (s : ByteArray) (i : Nat) (h : i < s.size) (hp : p s[i] = true) : tw p s i = tw p s (i + 1) := by
  unfold tw
  rw [dcons s i h, List.takeWhile_cons, if_pos hp, List.length_cons]
  omega
theorem tw_stop (p : UInt8 → Bool) (s : ByteArray) (i : Nat) (h : i < s.size) (hp : p s[i] = false) : tw p s i = i := by
  unfold tw
  rw [dcons s i h, List.takeWhile_cons, if_neg (by simp [hp])]
  rfl
theorem tw_end (p : UInt8 → Bool) (s : ByteArray) (i : Nat) (h : s.size ≤ i) : tw p s i = i := by
  unfold tw
  rw [dnil s i h]
  rfl
theorem tw_le (p : UInt8 → Bool) (s : ByteArray) (i : Nat) (h : i ≤ s.size) : i ≤ tw p s i ∧ tw p s i ≤ s.size := by
  unfold tw
  have h1 := LX.takeWhile_len p (s.data.toList.drop i)
  rw [dlen] at h1
  omega
theorem tw_text (p : UInt8 → Bool) (s : ByteArray) (i : Nat) : s.extract i (tw p s i) = ⟨((s.data.toList.drop i).takeWhile p).toArray⟩ := by
  have e : (s.extract i (tw p s i)).data.toList = (s.data.toList.drop i).takeWhile p := by
    rw [Lx.extract_list]
    unfold tw
    rw [show i + ((s.data.toList.drop i).takeWhile p).length - i = ((s.data.toList.drop i).takeWhile p).length from by omega]
    have := List.takeWhile_prefix p (l := s.data.toList.drop i)
    exact (List.prefix_iff_eq_take.1 this).symm
  rw [← e]
theorem bt_list (s : ByteArray) (i : Nat) (h : i < s.size) : s.data.toList.drop i = s[i] :: s.data.toList.drop (i + 1) := dcons s i h
theorem num_ev (s : ByteArray) (hs : s.size ≤ 4000) (hd : ∀ c ∈ s.data.toList, LX.digit c = true) : ∀ d i N, s.size - i = d → i ≤ s.size → N ≤ 9223372036854775808 →
    match LX.numGo N (s.data.toList.drop i) with
    | some M => Ev (fun k => girandoleref01_number.l0 k s (N : Int) (i : Int)) ((M : Int), 0)
    | none => ∃ q, Ev (fun k => girandoleref01_number.l0 k s (N : Int) (i : Int)) (q, 3) := by
  intro d
  induction d with
  | zero =>
    intro i N hi hle hN
    rw [dnil s i (by omega)]
    simp only [LX.numGo]
    refine Ev.step (f := fun _ => some ((N : Int), 0)) (fun k => ?_) (Ev.now _)
    simp only [girandoleref01_number.l0]
    rw [if_neg (by omega)]
  | succ d ih =>
    intro i N hi hle hN
    have hlt : i < s.size := by omega
    have hmem : s[i] ∈ s.data.toList := by
      have : s[i] ∈ s.data.toList.drop i := by rw [dcons s i hlt]; exact List.mem_cons_self
      exact List.mem_of_mem_drop this
    have hdg := (Lx.digit_iff s[i]).1 (hd _ hmem)
    obtain ⟨e, he⟩ : ∃ e : Nat, s[i].toNat = e + 48 := ⟨s[i].toNat - 48, by omega⟩
    have he9 : e ≤ 9 := by omega
    rw [Lx.num_step s i N e hlt he]
    have hb : ((bt s (i : Int)) - 48) % 256 = (e : Int) := by rw [bt_i s i hlt, he]; omega
    by_cases hov : (9223372036854775808 - e) / 10 < N
    · rw [if_pos hov]
      refine ⟨0, ?_⟩
      refine Ev.step (f := fun _ => some (0, 3)) (fun k => ?_) (Ev.now _)
      simp only [girandoleref01_number.l0]
      rw [if_pos (by omega)]
      by_cases hN2 : (N : Int) > 922337203685477580
      · rw [if_pos hN2]
      · rw [if_neg hN2, if_pos (by omega), hb]
        have hw : IntKind.u64.wrap (IntKind.u64.wrap (10 * (N : Int)) + (e : Int)) = 10 * (N : Int) + e := by
          rw [u64_wrap, u64_wrap]
          omega
        rw [hw, if_pos (by omega)]
    · rw [if_neg hov]
      have hnext : 10 * N + e ≤ 9223372036854775808 := by omega
      have step : ∀ k, girandoleref01_number.l0 (k + 1) s (N : Int) (i : Int) = girandoleref01_number.l0 k s ((10 * N + e : Nat) : Int) ((i + 1 : Nat) : Int) := by
        intro k
        simp only [girandoleref01_number.l0]
        have hw : IntKind.u64.wrap (IntKind.u64.wrap (10 * (N : Int)) + (e : Int)) = ((10 * N + e : Nat) : Int) := by
          rw [u64_wrap, u64_wrap]
          omega
        rw [if_pos (by omega), if_neg (by omega), if_pos (by omega), hb, hw, if_neg (by omega), w1 i (by omega)]
      have h2 := ih (i + 1) (10 * N + e) (by omega) (by omega) hnext
      cases hgo : LX.numGo (10 * N + e) (s.data.toList.drop (i + 1)) with
      | none =>
        rw [hgo] at h2
        obtain ⟨q, h2⟩ := h2
        exact ⟨q, Ev.step step h2⟩
      | some M =>
        rw [hgo] at h2
        exact Ev.step step h2
theorem number_ev (s : ByteArray) (hs : s.size ≤ 4000) (hp : 0 < s.size) (hd : ∀ c ∈ s.data.toList, LX.digit c = true) :
    if s[0] = 48 ∧ 1 < s.size then Ev (fun k => girandoleref01_number.f k s) (0, 1) else
    match LX.numGo 0 s.data.toList with
    | some M => Ev (fun k => girandoleref01_number.f k s) ((M : Int), 0)
    | none => ∃ q, Ev (fun k => girandoleref01_number.f k s) (q, 3) := by
  have hb0 : bt s 0 = (s[0].toNat : Int) := bt_i s 0 hp
  have h48 : (bt s 0 == 48) = decide (s[0] = 48) := by
    rw [hb0, Bool.eq_iff_iff]
    simp only [beq_iff_eq, decide_eq_true_eq]
    rw [← UInt8.toNat_inj]
    have : UInt8.toNat 48 = 48 := rfl
    omega
  by_cases h : s[0] = 48 ∧ 1 < s.size
  · rw [if_pos h]
    refine Ev.step (f := fun k => girandoleref01_number.f (k + 1) s) (fun k => rfl) ?_
    refine Ev.congr (f := fun _ => some (0, 1)) (fun k => ?_) (Ev.now _)
    unfold girandoleref01_number.f
    rw [if_pos (by omega), if_pos (by omega), h48]
    simp [girandoleref01_number.j0, h.1]
  · rw [if_neg h]
    have hf : ∀ k, girandoleref01_number.f (k + 1) s = girandoleref01_number.l0 k s ((0 : Nat) : Int) ((0 : Nat) : Int) := by
      intro k
      unfold girandoleref01_number.f
      by_cases h1 : 1 < s.size
      · have h0 : ¬ s[0] = 48 := fun e => h ⟨e, h1⟩
        rw [if_pos (by omega), if_pos (by omega), h48]
        simp [girandoleref01_number.j0, h0]
      · rw [if_neg (by omega)]
        simp [girandoleref01_number.j0]
    have h2 := num_ev s hs hd s.size 0 0 (by omega) (by omega) (by omega)
    rw [List.drop_zero] at h2
    cases hgo : LX.numGo 0 s.data.toList with
    | none =>
      rw [hgo] at h2
      obtain ⟨q, h2⟩ := h2
      exact ⟨q, Ev.step hf h2⟩
    | some M =>
      rw [hgo] at h2
      exact Ev.step hf h2
theorem mk_toList (l : List UInt8) : (⟨l.toArray⟩ : ByteArray).toList = l := ByteArray.toList_mk l
theorem rd_mid (pre post : List (List UInt8)) (w : List UInt8) : rdOf ByteArray.empty ((pre ++ w :: post).map fun b => (⟨b.toArray⟩ : ByteArray)) (pre.length : Int) = ⟨w.toArray⟩ := by
  simp [rdOf]
theorem l1_ev (s : ByteArray) (hs : s.size ≤ 4000) (i k1 : Nat) (h1 : i ≤ k1) (h2 : k1 ≤ s.size) (t : List UInt8) (ht : s.extract i k1 = ⟨t.toArray⟩) (hk : k1 = i + t.length) :
    ∀ (post pre : List (List UInt8)), (pre ++ post).length ≤ 1000 → Ev (fun k => girandoleref01_one.l1 k s (i : Int) (k1 : Int) ((pre ++ post).map fun b => (⟨b.toArray⟩ : ByteArray)) ((pre ++ post).length : Int) (pre.length : Int))
      (if post.contains t then (3, (i : Int), (⟨t.toArray⟩ : ByteArray), 0, (k1 : Int), 0) else if t.length > 30 then (0, 0, (⟨#[]⟩ : ByteArray), 0, (k1 : Int), 3) else (1, (i : Int), (⟨t.toArray⟩ : ByteArray), 0, (k1 : Int), 0)) := by
  intro post
  induction post with
  | nil =>
    intro pre hp
    refine Ev.step (f := fun _ => some (if t.length > 30 then (0, 0, (⟨#[]⟩ : ByteArray), 0, (k1 : Int), 3) else (1, (i : Int), (⟨t.toArray⟩ : ByteArray), 0, (k1 : Int), 0))) (fun k => ?_) ?_
    · simp only [girandoleref01_one.l1, List.append_nil]
      have hw : wrap64 ((k1 : Int) - (i : Int)) = (t.length : Int) := by unfold wrap64; omega
      rw [if_neg (by omega), hw]
      simp only [Int.toNat_natCast, ht]
      by_cases hb : t.length > 30
      · rw [if_pos (by omega), if_pos hb]
      · rw [if_neg (by omega), if_pos (by omega), if_pos (by omega), if_pos (by omega), if_neg hb]
    · simp
      exact Ev.now _
  | cons w post ih =>
    intro pre hp
    have hl : (pre ++ w :: post).length = pre.length + post.length + 1 := by simp; omega
    have step : ∀ k, girandoleref01_one.l1 (k + 1) s (i : Int) (k1 : Int) ((pre ++ w :: post).map fun b => (⟨b.toArray⟩ : ByteArray)) ((pre ++ w :: post).length : Int) (pre.length : Int) =
        if w = t then some (3, (i : Int), (⟨w.toArray⟩ : ByteArray), 0, (k1 : Int), 0) else girandoleref01_one.l1 k s (i : Int) (k1 : Int) ((pre ++ w :: post).map fun b => (⟨b.toArray⟩ : ByteArray)) ((pre ++ w :: post).length : Int) ((pre.length + 1 : Nat) : Int) := by
      intro k
      simp only [girandoleref01_one.l1]
      rw [if_pos (by omega), if_pos (by omega), if_pos (by rw [List.length_map]; omega), if_pos (by omega), if_pos (by omega), if_pos (by omega), rd_mid]
      simp only [Int.toNat_natCast, ht, mk_toList]
      rw [w1 pre.length (by omega)]
    by_cases hw : w = t
    · subst hw
      refine Ev.step (f := fun _ => some (3, (i : Int), (⟨w.toArray⟩ : ByteArray), 0, (k1 : Int), 0)) (fun k => by rw [step, if_pos rfl]) ?_
      simp
      exact Ev.now _
    · refine Ev.step (f := fun k => girandoleref01_one.l1 k s (i : Int) (k1 : Int) ((pre ++ w :: post).map fun b => (⟨b.toArray⟩ : ByteArray)) ((pre ++ w :: post).length : Int) ((pre.length + 1 : Nat) : Int)) (fun k => by rw [step, if_neg hw]) ?_
      have := ih (pre ++ [w]) (by simpa using hp)
      rw [List.append_assoc, List.singleton_append, show (pre ++ [w]).length = pre.length + 1 from by simp] at this
      have hc : (w :: post).contains t = post.contains t := by
        rw [List.contains_cons]
        have : (t == w) = false := by simpa using fun e : t = w => hw e.symm
        simp [this]
      rw [hc]
      exact this
theorem pre_iff (s : ByteArray) (hs : s.size ≤ 4000) (i : Nat) (hi : i ≤ s.size) (w : List UInt8) : (w.isPrefixOf (s.data.toList.drop i)) = true ↔ (i + w.length ≤ s.size ∧ (s.extract i (i + w.length)).toList = w) := by
  rw [List.isPrefixOf_iff_prefix, toList_data, Lx.extract_list, show i + w.length - i = w.length from by omega]
  constructor
  · intro h
    have h1 := h.length_le
    rw [dlen] at h1
    exact ⟨by omega, (List.prefix_iff_eq_take.1 h).symm⟩
  · rintro ⟨h1, h2⟩
    rw [List.prefix_iff_eq_take]
    exact h2.symm
def sres (i : Nat) : Option (List UInt8) → Int × Int × ByteArray × Int × Int × Int
  | some w => (4, (i : Int), (⟨w.toArray⟩ : ByteArray), 0, ((i + w.length : Nat) : Int), 0)
  | none => (0, 0, (⟨#[]⟩ : ByteArray), 0, (i : Int), 1)
theorem l3_ev (s : ByteArray) (hs : s.size ≤ 4000) (i : Nat) (hi : i < s.size) :
    ∀ (post pre : List (List UInt8)), (∀ w ∈ post, w.length ≤ 2) → (pre ++ post).length ≤ 1000 → Ev (fun k => girandoleref01_one.l3 k s (i : Int) (i : Int) ((pre ++ post).map fun b => (⟨b.toArray⟩ : ByteArray)) ((pre ++ post).length : Int) (pre.length : Int))
      (sres i (post.find? (fun w => w.isPrefixOf (s.data.toList.drop i)))) := by
  intro post
  induction post with
  | nil =>
    intro pre _ hp
    refine Ev.step (f := fun _ => some (0, 0, (⟨#[]⟩ : ByteArray), 0, (i : Int), 1)) (fun k => ?_) (Ev.now _)
    simp only [girandoleref01_one.l3, List.append_nil]
    rw [if_neg (by omega)]
  | cons w post ih =>
    intro pre h2 hp
    have hl : (pre ++ w :: post).length = pre.length + post.length + 1 := by simp; omega
    have hw2 := h2 w List.mem_cons_self
    have hsz : (⟨w.toArray⟩ : ByteArray).size = w.length := by simp [ByteArray.size]
    have step : ∀ k, girandoleref01_one.l3 (k + 1) s (i : Int) (i : Int) ((pre ++ w :: post).map fun b => (⟨b.toArray⟩ : ByteArray)) ((pre ++ w :: post).length : Int) (pre.length : Int) =
        if w.isPrefixOf (s.data.toList.drop i) = true then some (4, (i : Int), (⟨w.toArray⟩ : ByteArray), 0, ((i + w.length : Nat) : Int), 0) else girandoleref01_one.l3 k s (i : Int) (i : Int) ((pre ++ w :: post).map fun b => (⟨b.toArray⟩ : ByteArray)) ((pre ++ w :: post).length : Int) ((pre.length + 1 : Nat) : Int) := by
      intro k
      simp only [girandoleref01_one.l3]
      rw [if_pos (by omega), if_pos (by omega), if_pos (by rw [List.length_map]; omega), rd_mid, hsz, wa i w.length (by omega) (by omega)]
      simp only [Int.toNat_natCast, mk_toList]
      rw [w1 pre.length (by omega)]
      have hpi := pre_iff s hs i (by omega) w
      by_cases hb : i + w.length ≤ s.size
      · rw [if_pos (by omega), if_pos (by omega), if_pos (by omega)]
        by_cases he : (s.extract i (i + w.length)).toList = w
        · rw [if_pos he, if_pos (hpi.2 ⟨hb, he⟩)]
        · rw [if_neg he, if_neg (fun h => he (hpi.1 h).2)]
      · rw [if_neg (by omega), if_neg (fun h => hb (hpi.1 h).1)]
    rw [List.find?_cons]
    cases hpf : w.isPrefixOf (s.data.toList.drop i) with
    | true =>
      refine Ev.step (f := fun _ => some (4, (i : Int), (⟨w.toArray⟩ : ByteArray), 0, ((i + w.length : Nat) : Int), 0)) (fun k => by rw [step, if_pos hpf]) (Ev.now _)
    | false =>
      refine Ev.step (f := fun k => girandoleref01_one.l3 k s (i : Int) (i : Int) ((pre ++ w :: post).map fun b => (⟨b.toArray⟩ : ByteArray)) ((pre ++ w :: post).length : Int) ((pre.length + 1 : Nat) : Int)) (fun k => by rw [step, if_neg (by simp [hpf])]) ?_
      have := ih (pre ++ [w]) (fun x hx => h2 x (List.mem_cons_of_mem _ hx)) (by simpa using hp)
      rw [List.append_assoc, List.singleton_append, show (pre ++ [w]).length = pre.length + 1 from by simp] at this
      exact this
theorem word_cl (c : UInt8) : LX.word c = true ↔ (cl c = 1 ∨ cl c = 2) := by
  unfold LX.word
  rw [Bool.or_eq_true, cl1, cl2]
  cases LX.letter c <;> simp
theorem l0_ev (s : ByteArray) (hs : s.size ≤ 4000) (i : Nat) (r : Int × Int × ByteArray × Int × Int × Int) : ∀ d j, s.size - j = d → j ≤ s.size →
    Ev (fun k => girandoleref01_one.j1 k s (i : Int) ((tw LX.word s j : Nat) : Int)) r → Ev (fun k => girandoleref01_one.l0 k s (i : Int) (j : Int)) r := by
  intro d
  induction d with
  | zero =>
    intro j hd hj h
    rw [tw_end _ _ _ (by omega)] at h
    refine Ev.step (fun k => ?_) h
    simp only [girandoleref01_one.l0]
    rw [if_neg (by omega)]
  | succ d ih =>
    intro j hd hj h
    have hlt : j < s.size := by omega
    refine Ev.step (f := fun k => (girandoleref01_class.f k (s[j].toNat : Int)).bind fun t => if t = 1 then girandoleref01_one.l0 k s (i : Int) ((j + 1 : Nat) : Int) else if t = 2 then girandoleref01_one.l0 k s (i : Int) ((j + 1 : Nat) : Int) else girandoleref01_one.j1 k s (i : Int) (j : Int)) (fun k => ?_) ?_
    · simp only [girandoleref01_one.l0]
      rw [if_pos (by omega), if_pos (by omega), bt_i s j hlt, w1 j (by omega)]
    · refine Ev.bind (class_ev s[j]) ?_
      by_cases hw : LX.word s[j] = true
      · have hn := ih (j + 1) (by omega) (by omega) (by rw [← tw_next _ _ _ hlt hw]; exact h)
        rcases (word_cl _).1 hw with e | e
        · simp only [e, if_true]; exact hn
        · simp only [e]; exact hn
      · have h1 : ¬ cl s[j] = 1 := fun e => hw ((word_cl _).2 (.inl e))
        have h2 : ¬ cl s[j] = 2 := fun e => hw ((word_cl _).2 (.inr e))
        simp only [h1, h2, if_false]
        rw [tw_stop _ _ _ hlt (by simpa using hw)] at h
        exact h
theorem l2_ev (s : ByteArray) (hs : s.size ≤ 4000) (i : Nat) (r : Int × Int × ByteArray × Int × Int × Int) : ∀ d j, s.size - j = d → i ≤ j → j ≤ s.size →
    Ev (fun k => (girandoleref01_number.f k (s.extract i (tw LX.digit s j))).bind fun b => some (2, (i : Int), s.extract i (tw LX.digit s j), b.1, ((tw LX.digit s j : Nat) : Int), b.2)) r → Ev (fun k => girandoleref01_one.l2 k s (i : Int) (j : Int)) r := by
  intro d
  induction d with
  | zero =>
    intro j hd hij hj h
    rw [tw_end _ _ _ (by omega)] at h
    refine Ev.step (fun k => ?_) h
    simp only [girandoleref01_one.l2]
    rw [if_neg (by omega), if_pos (by omega), if_pos (by omega), if_pos (by omega)]
    simp only [Int.toNat_natCast]
  | succ d ih =>
    intro j hd hij hj h
    have hlt : j < s.size := by omega
    refine Ev.step (f := fun k => (girandoleref01_class.f k (s[j].toNat : Int)).bind fun t => if t = 2 then girandoleref01_one.l2 k s (i : Int) ((j + 1 : Nat) : Int) else (girandoleref01_number.f k (s.extract i j)).bind fun b => some (2, (i : Int), s.extract i j, b.1, (j : Int), b.2)) (fun k => ?_) ?_
    · simp only [girandoleref01_one.l2]
      rw [if_pos (by omega), if_pos (by omega), bt_i s j hlt, w1 j (by omega), if_pos (by omega), if_pos (by omega), if_pos (by omega)]
      simp only [Int.toNat_natCast]
    · refine Ev.bind (class_ev s[j]) ?_
      by_cases hw : LX.digit s[j] = true
      · have e : cl s[j] = 2 := (cl2 _).2 ⟨digit_letter _ hw, hw⟩
        simp only [e, if_true]
        exact ih (j + 1) (by omega) (by omega) (by omega) (by rw [← tw_next _ _ _ hlt hw]; exact h)
      · have h2 : ¬ cl s[j] = 2 := fun e => hw ((cl2 _).1 e).2
        simp only [h2, if_false]
        rw [tw_stop _ _ _ hlt (by simpa using hw)] at h
        exact h
theorem tw_all (p : UInt8 → Bool) (l : List UInt8) : ∀ c ∈ l.takeWhile p, p c = true := by
  induction l with
  | nil => simp
  | cons a r ih =>
    rw [List.takeWhile_cons]
    split
    · intro c hc
      rcases List.mem_cons.1 hc with rfl | hc
      · assumption
      · exact ih c hc
    · simp
theorem one_ev (s : ByteArray) (hs : s.size ≤ 4000) (i : Nat) (hi : i < s.size) : ∃ q : Int × Int × ByteArray × Int × Int × Int, Ev (fun k => girandoleref01_one.f k s (i : Int)) q ∧
    match LX.one (s.data.toList.drop i) with
    | .ok (kind, t, n) => q = ((kind : Int), (i : Int), (⟨t.toArray⟩ : ByteArray), (n : Int), ((i + t.length : Nat) : Int), 0)
    | .error c => q.2.2.2.2.2 = (c : Int) := by
  have hc := dcons s i hi
  have hf : ∀ k, girandoleref01_one.f k s (i : Int) = (girandoleref01_class.f k (s[i].toNat : Int)).bind fun t => if t = 1 then girandoleref01_one.l0 k s (i : Int) (i : Int) else if t = 2 then girandoleref01_one.l2 k s (i : Int) (i : Int) else (girandoleref01_Signs.f k).bind fun t => girandoleref01_one.l3 k s (i : Int) (i : Int) t (t.length : Int) 0 := by
    intro k
    unfold girandoleref01_one.f
    rw [if_pos (by omega), if_pos (by omega), bt_i s i hi]
  by_cases hl : LX.letter s[i] = true
  · have e := (cl1 _).2 hl
    rw [Lx.one_word _ _ _ hc hl]
    generalize ht : (s.data.toList.drop i).takeWhile LX.word = t
    have hk : tw LX.word s i = i + t.length := by unfold tw; rw [ht]
    have htx : s.extract i (i + t.length) = ⟨t.toArray⟩ := by rw [← hk, tw_text, ht]
    have hle := tw_le LX.word s i (by omega)
    refine ⟨(if LX.words.contains t then (3, (i : Int), (⟨t.toArray⟩ : ByteArray), 0, ((i + t.length : Nat) : Int), 0) else if t.length > 30 then (0, 0, (⟨#[]⟩ : ByteArray), 0, ((i + t.length : Nat) : Int), 3) else (1, (i : Int), (⟨t.toArray⟩ : ByteArray), 0, ((i + t.length : Nat) : Int), 0)), Ev.congr hf (Ev.bind (class_ev s[i]) ?_), ?_⟩
    · simp only [e, if_true]
      refine l0_ev s hs i _ (s.size - i) i rfl (by omega) ?_
      rw [hk]
      refine Ev.step (f := fun k => (girandoleref01_Words.f k).bind fun t_1 => girandoleref01_one.l1 k s (i : Int) ((i + t.length : Nat) : Int) t_1 (t_1.length : Int) 0) (fun k => by simp only [girandoleref01_one.j1]) ?_
      refine Ev.bind words_ev ?_
      have := l1_ev s hs i (i + t.length) (by omega) (by omega) t htx rfl LX.words [] (by decide)
      simpa using this
    · by_cases h1 : LX.words.contains t = true
      · simp only [h1, if_true]; rfl
      · simp only [h1, if_false]
        by_cases h2 : t.length > 30
        · simp [h2]
        · simp [h2]
  · have hl' : LX.letter s[i] = false := by simpa using hl
    by_cases hd : LX.digit s[i] = true
    · have e := (cl2 _).2 ⟨hl', hd⟩
      rw [Lx.one_digit _ _ _ hc hl' hd]
      generalize ht : (s.data.toList.drop i).takeWhile LX.digit = t
      have hk : tw LX.digit s i = i + t.length := by unfold tw; rw [ht]
      have htx : s.extract i (i + t.length) = ⟨t.toArray⟩ := by rw [← hk, tw_text, ht]
      have hle := tw_le LX.digit s i (by omega)
      have hpos : 0 < t.length := by
        rw [← ht, hc, List.takeWhile_cons, if_pos hd]
        simp
      have hsz : (⟨t.toArray⟩ : ByteArray).size = t.length := by simp [ByteArray.size]
      have hn := number_ev ⟨t.toArray⟩ (by omega) (by omega) (by
        intro c hc2
        exact tw_all LX.digit (s.data.toList.drop i) c (by rw [ht]; simpa using hc2))
      have h0 : (⟨t.toArray⟩ : ByteArray)[0]'(by omega) = s[i] := by
        have h1 : t[0]? = some s[i] := by rw [← ht, hc, List.takeWhile_cons, if_pos hd]; rfl
        have h2 : t[0]'hpos = s[i] := by rw [List.getElem?_eq_getElem hpos] at h1; exact Option.some.inj h1
        rw [← h2]
        rfl
      have red : ∀ q2 : Int × Int, Ev (fun k => girandoleref01_number.f k (⟨t.toArray⟩ : ByteArray)) q2 → Ev (fun k => girandoleref01_one.f k s (i : Int)) (2, (i : Int), (⟨t.toArray⟩ : ByteArray), q2.1, ((i + t.length : Nat) : Int), q2.2) := by
        intro q2 hq
        refine Ev.congr hf (Ev.bind (class_ev s[i]) ?_)
        simp only [e]
        refine l2_ev s hs i _ (s.size - i) i rfl (by omega) (by omega) ?_
        rw [hk, htx]
        exact Ev.bind hq (Ev.now _)
      rw [h0] at hn
      have hcond : (s[i] = 48 ∧ 1 < (⟨t.toArray⟩ : ByteArray).size) ↔ (s[i] == 48 && decide (t.length > 1)) = true := by rw [hsz]; simp
      by_cases hz : (s[i] == 48 && decide (t.length > 1)) = true
      · rw [if_pos (hcond.2 hz)] at hn
        refine ⟨_, red _ hn, ?_⟩
        rw [if_pos hz]
        rfl
      · rw [if_neg (fun h => hz (hcond.1 h))] at hn
        rw [if_neg hz]
        simp only at hn
        cases hg : LX.numGo 0 t with
        | none =>
          rw [hg] at hn
          obtain ⟨q, hn⟩ := hn
          exact ⟨_, red _ hn, rfl⟩
        | some M =>
          rw [hg] at hn
          exact ⟨_, red _ hn, rfl⟩
    · have hd' : LX.digit s[i] = false := by simpa using hd
      have e1 : ¬ cl s[i] = 1 := fun e => hl ((cl1 _).1 e)
      have e2 : ¬ cl s[i] = 2 := fun e => hd ((cl2 _).1 e).2
      rw [Lx.one_sign _ _ _ hc hl' hd']
      refine ⟨(sres i (LX.signs.find? (fun w => w.isPrefixOf (s.data.toList.drop i)))), Ev.congr hf (Ev.bind (class_ev s[i]) ?_), ?_⟩
      · simp only [e1, e2, if_false]
        refine Ev.bind signs_ev ?_
        have := l3_ev s hs i hi LX.signs [] (by decide) (by decide)
        simpa using this
      · cases hfd : LX.signs.find? (fun w => w.isPrefixOf (s.data.toList.drop i)) with
        | none => rfl
        | some w => rfl
def tok35 (t : LX.Tok) : S35 := ⟨t.kind, t.at_, ⟨t.text.toArray⟩, t.n⟩
def fin (acc : List S35) : Except (Nat × Nat) (List LX.Tok) → List S35 × Int × Int
  | .ok r => (acc ++ r.map tok35, 0, 0)
  | .error (k, c) => ([], (c : Int), (k : Int))
theorem all_ev (s : ByteArray) (hs : s.size ≤ 4000) : ∀ d k acc, s.size - k = d → k ≤ s.size → acc.length ≤ k →
    Ev (fun n => girandoleref01_All.l0 n s acc ((sk false s k : Nat) : Int)) (fin acc (Lx.from_ s k)) := by
  intro d
  induction d using Nat.strongRecOn with
  | _ d ih =>
    intro k acc hd hk hacc
    obtain ⟨hsk, hle1, hle2⟩ := sk_drop s k hk
    by_cases hend : sk false s k = s.size
    · rw [Lx.from_end s k (by rw [hsk, hend])]
      refine Ev.step (f := fun _ => some (acc ++ [tok35 ⟨5, s.size, [], 0⟩], 0, 0)) (fun n => ?_) (Ev.now _)
      simp only [girandoleref01_All.l0]
      rw [if_neg (by omega), if_pos (by omega)]
      rfl
    · have hlt : sk false s k < s.size := by omega
      obtain ⟨q, hq, hm⟩ := one_ev s hs (sk false s k) hlt
      cases hone : LX.one (s.data.toList.drop (sk false s k)) with
      | error c =>
        rw [hone] at hm
        rw [Lx.from_err s k (sk false s k) c hsk hlt hone]
        have hc0 := Lx.one_err _ _ hone
        refine Ev.step (f := fun n => (girandoleref01_one.f n s ((sk false s k : Nat) : Int)).bind fun b => if b.2.2.2.2.2 = 0 then (if acc.length < 3518437208883 then ((girandoleref01_skip.f n s b.2.2.2.2.1).bind fun t => girandoleref01_All.l0 n s (acc ++ [(⟨b.1, b.2.1, b.2.2.1, b.2.2.2.1⟩ : S35)]) t) else none) else some (([] : List S35), b.2.2.2.2.2, ((sk false s k : Nat) : Int))) (fun n => ?_) ?_
        · simp only [girandoleref01_All.l0]
          rw [if_pos (by omega)]
        · refine Ev.bind hq ?_
          simp only at hm
          have hne : ¬ (q.2.2.2.2.2 = 0) := by omega
          simp only [hne, if_false]
          rw [hm]
          exact Ev.now _
      | ok p =>
        obtain ⟨kind, t, m⟩ := p
        rw [hone] at hm
        simp only at hm
        subst hm
        have hp := LX.one_pos _ _ _ _ hone
        rw [dlen] at hp
        rw [Lx.from_tok s k (sk false s k) kind m t hsk hlt hle1 hone]
        have hn := ih (s.size - (sk false s k + t.length)) (by omega) (sk false s k + t.length) (acc ++ [tok35 ⟨kind, sk false s k, t, m⟩]) rfl (by omega) (by simp; omega)
        have hfin : fin acc ((Lx.from_ s (sk false s k + t.length)).map (⟨kind, sk false s k, t, m⟩ :: ·)) = fin (acc ++ [tok35 ⟨kind, sk false s k, t, m⟩]) (Lx.from_ s (sk false s k + t.length)) := by
          cases Lx.from_ s (sk false s k + t.length) with
          | ok r => simp [fin, Except.map]
          | error e => rfl
        rw [hfin]
        refine Ev.step (f := fun n => (girandoleref01_one.f n s ((sk false s k : Nat) : Int)).bind fun b => if b.2.2.2.2.2 = 0 then (if acc.length < 3518437208883 then ((girandoleref01_skip.f n s b.2.2.2.2.1).bind fun t => girandoleref01_All.l0 n s (acc ++ [(⟨b.1, b.2.1, b.2.2.1, b.2.2.2.1⟩ : S35)]) t) else none) else some (([] : List S35), b.2.2.2.2.2, ((sk false s k : Nat) : Int))) (fun n => ?_) ?_
        · simp only [girandoleref01_All.l0]
          rw [if_pos (by omega)]
        · refine Ev.bind hq ?_
          have hacc2 : acc.length < 3518437208883 := by omega
          simp only [if_true, hacc2]
          exact Ev.bind (skip_ev s hs _ (sk false s k + t.length) rfl (by omega)).1 hn
theorem ref_ev (s : ByteArray) (hs : s.size ≤ 4000) : Ev (fun n => girandoleref01_All.f n s) (fin [] (LX.all s.data.toList)) := by
  rw [Lx.all_from s hs]
  refine Ev.congr (f := fun n => (girandoleref01_skip.f n s ((0 : Nat) : Int)).bind fun t => girandoleref01_All.l0 n s ([] : List S35) t) (fun n => ?_) (Ev.bind (skip_ev s hs _ 0 rfl (by omega)).1 (all_ev s hs _ 0 [] rfl (by omega) (by simp)))
  unfold girandoleref01_All.f
  rw [if_neg (by omega)]
  rfl
end Go.Proofs.YtnlkjimpefebbaaDoor.LR
