/- The law LexJoins over numbers and lists: words with blanks between are read one by one. -/
import Derived.Test.YtnlkjimpefebbaaDoorXLexCx5
import Derived.Test.YtnlkjimpefebbaaDoorLexPlain
namespace Go.Proofs.YtnlkjimpefebbaaDoor.Pure
open Go Go.RowKit Go.Proofs.YtnlkjimpefebbaaDoor.XLexC Go.Proofs.YtnlkjimpefebbaaDoor.LR Go.Proofs.YtnlkjimpefebbaaDoorW.PrintWords Go.Proofs.YtnlkjimpefebbaaDoorW.PrintLast
namespace Joins
theorem w1 (i : Nat) (h : i ≤ 100000) : wrap64 ((i : Int) + 1) = ((i + 1 : Nat) : Int) := by unfold wrap64; omega
theorem wa (i j : Nat) (h : i ≤ 100000) (h2 : j ≤ 100000) : wrap64 ((i : Int) + (j : Int)) = ((i + j : Nat) : Int) := by unfold wrap64; omega
theorem awake_ok : girandolelaw01_awake.f = some true := by decide +kernel
theorem rd36 (r : List LX.Tok) (i : Nat) (h : i < r.length) : rd_T36 (r.map lex_All.tok) (i : Int) = lex_All.tok r[i] := by
  simp [rd_T36, h]
theorem size_mk (t : List UInt8) : (⟨t.toArray⟩ : ByteArray).size = t.length := by simp [ByteArray.size]
theorem mk_toList (l : List UInt8) : (⟨l.toArray⟩ : ByteArray).toList = l := ByteArray.toList_mk l
theorem and_mask (i : Nat) (hi : i ≤ 62) (x : Int) : Go.bits .and .i64 x (((2 ^ i - 1 : Nat)) : Int) = x % ((2 ^ i : Nat) : Int) := by
  have hp : 2 ^ i ≤ 2 ^ 62 := Nat.pow_le_pow_right (by decide) hi
  have hp0 : 0 < 2 ^ i := Nat.pow_pos (by decide)
  have h1 : (BitVec.ofInt 64 x &&& BitVec.ofInt 64 ((2 ^ i - 1 : Nat) : Int)).toNat = (x % 18446744073709551616).toNat % 2 ^ i := by
    rw [BitVec.toNat_and, BitVec.ofInt_natCast, BitVec.toNat_ofNat, Nat.mod_eq_of_lt (a := 2 ^ i - 1) (by omega), Nat.and_two_pow_sub_one_eq_mod, BitVec.toNat_ofInt]
    rfl
  have h2 : ((x % 18446744073709551616).toNat % 2 ^ i : Nat) < 2 ^ i := Nat.mod_lt _ hp0
  have h3 : (((x % 18446744073709551616).toNat % 2 ^ i : Nat) : Int) = x % ((2 ^ i : Nat) : Int) := by
    rw [Int.natCast_emod, Int.toNat_of_nonneg (Int.emod_nonneg _ (by decide))]
    apply Int.emod_emod_of_dvd
    have : (18446744073709551616 : Int) = ((2 ^ 64 : Nat) : Int) := by decide
    rw [this]
    exact Int.natCast_dvd_natCast.2 (Nat.pow_dvd_pow 2 (by omega))
  unfold Go.bits
  show IntKind.i64.wrap (((BitVec.ofInt 64 x &&& BitVec.ofInt 64 ((2 ^ i - 1 : Nat) : Int)).toNat : Nat) : Int) = _
  rw [h1, IntKind.wrap_i64, ← h3]
  omega
theorem and_65535 (x : Int) : Go.bits .and .i64 x 65535 = x % 65536 := and_mask 16 (by decide) x
theorem and_3 (x : Int) : Go.bits .and .i64 x 3 = x % 4 := and_mask 2 (by decide) x
def bts (l : List (List UInt8)) : List ByteArray := l.map fun b => (⟨b.toArray⟩ : ByteArray)
theorem rd_bts (l : List (List UInt8)) (i : Nat) (h : i < l.length) : rdOf ByteArray.empty (bts l) (i : Int) = ⟨(l[i]'h).toArray⟩ := by
  simp [rdOf, bts, h]
theorem loop_ok (r : List LX.Tok) (s : ByteArray) (hs : s.size ≤ 4000) (want : List (List UInt8)) (hl : want.length ≤ 30) (htx : r.map (fun t => t.text) = want ++ [[]]) (hst : ∀ t ∈ r, t.at_ + t.text.length ≤ s.size ∧ (s.extract t.at_ (t.at_ + t.text.length)).toList = t.text) :
    ∀ d i, want.length - i = d → i ≤ want.length → Ev (fun k => girandolelaw01_LexJoins.l1 k s (r.map lex_All.tok) (bts want) (want.length : Int) (i : Int)) true := by
  have hlen : r.length = want.length + 1 := by
    have := congrArg List.length htx
    simpa using this
  intro d
  induction d with
  | zero =>
    intro i hd hi
    refine Ev.step (f := fun _ => some true) (fun k => ?_) (Ev.now _)
    simp only [girandolelaw01_LexJoins.l1]
    rw [if_neg (by omega)]
  | succ d ih =>
    intro i hd hi
    have hlt : i < want.length := by omega
    have hir : i < r.length := by omega
    have hte : (r[i]'hir).text = want[i]'hlt := by
      have h1 : (r.map (fun t => t.text))[i]? = (want ++ [[]])[i]? := by rw [htx]
      rw [List.getElem?_map, List.getElem?_eq_getElem hir, List.getElem?_append_left hlt, List.getElem?_eq_getElem hlt] at h1
      simpa using h1
    obtain ⟨h1, h2⟩ := hst (r[i]'hir) (List.getElem_mem _)
    rw [hte] at h1 h2
    refine Ev.step (fun k => ?_) (ih (i + 1) (by omega) (by omega))
    have f1 : (lex_All.tok r[i]).f1 = (((r[i]'hir).at_ : Nat) : Int) := rfl
    have f2 : (lex_All.tok r[i]).f2 = ⟨(want[i]'hlt).toArray⟩ := by rw [← hte]; rfl
    simp only [girandolelaw01_LexJoins.l1]
    rw [if_pos (by omega), if_pos (by omega), if_pos (by simp [bts]; omega), if_pos (by rw [List.length_map]; omega), rd36 r i hir, rd_bts want i hlt, f1, f2, if_pos rfl, if_pos (by omega), size_mk, wa _ _ (by omega) (by omega), if_pos (by omega), if_pos (by omega)]
    simp only [Int.toNat_natCast, h2, mk_toList]
    rw [if_pos trivial, w1 i (by omega)]
theorem joined_len (L : List (List UInt8 × List UInt8)) (h : ∀ p ∈ L, p.1 ∈ joinWords ∧ p.2 ∈ seps) : (joined L).length ≤ 30 * L.length ∧ L.length ≤ (joined L).length := by
  induction L with
  | nil => simp [joined]
  | cons p L ih =>
    have h1 := ih (fun q hq => h q (List.mem_cons_of_mem _ hq))
    obtain ⟨hw, hq⟩ := h p List.mem_cons_self
    have h2 := (join_ne p.1 hw).2.1
    have h3 : ∀ q ∈ seps, 1 ≤ q.length ∧ q.length ≤ 11 := by decide
    have h4 := h3 p.2 hq
    have : joined (p :: L) = p.1 ++ p.2 ++ joined L := by simp [joined]
    rw [this]
    simp
    omega
theorem end_ok (L : List (List UInt8 × List UInt8)) (h : ∀ p ∈ L, p.1 ∈ joinWords ∧ p.2 ∈ seps) (hL : L.length ≤ 30) :
    Ev (fun k => girandolelaw01_LexJoins.j1 k ⟨(joined L).toArray⟩ (bts (L.map Prod.fst))) true := by
  have hj := joined_len L h
  obtain ⟨r, hr, htx, h5⟩ := join_go (joined L).length L ((joined L).length + 1) h (by omega) (joined L) rfl
  have hs : (⟨(joined L).toArray⟩ : ByteArray).size = (joined L).length := size_mk _
  have hall : LX.all (⟨(joined L).toArray⟩ : ByteArray).data.toList = .ok r := by
    unfold LX.all
    rw [show (⟨(joined L).toArray⟩ : ByteArray).data.toList = joined L from rfl, if_neg (by omega)]
    exact hr
  have hf : lex_All.f ⟨(joined L).toArray⟩ = some (r.map lex_All.tok, 0, 0) := by
    unfold lex_All.f
    rw [if_pos (by omega), hall]
  have hst := stands ⟨(joined L).toArray⟩ r 0 (by omega) ((Lx.all_from _ (by omega)).symm.trans hall)
  have hlen : r.length = L.length + 1 := by
    have := congrArg List.length htx
    simpa using this
  have hwl : (bts (L.map Prod.fst)).length = L.length := by simp [bts]
  have h55 : (r[L.length]'(by omega)).kind = 5 := by
    rw [List.getLast?_eq_getElem?, List.length_map, hlen, List.getElem?_map, List.getElem?_eq_getElem (by omega)] at h5
    simpa using h5
  have hk5 : (lex_All.tok (r[L.length]'(by omega))).f0 = 5 := by
    show (((r[L.length]'(by omega)).kind : Nat) : Int) = 5
    rw [h55]
    rfl
  refine Ev.step (f := fun k => girandolelaw01_LexJoins.j2 k ⟨(joined L).toArray⟩ (bts (L.map Prod.fst)) (r.map lex_All.tok) false) (fun k => ?_) ?_
  · rw [girandolelaw01_LexJoins.j1, hf, Option.bind_some]
    have c1 : ¬ ((!((0 : Int) == 0) || (!((0 : Int) == 0))) = true) := by decide
    have c2 : (((r.map lex_All.tok).length : Nat) : Int) = wrap64 (((bts (L.map Prod.fst)).length : Int) + 1) := by rw [hwl, List.length_map, hlen, w1 _ (by omega)]
    have c3 : (0 : Int) ≤ ((bts (L.map Prod.fst)).length : Int) := by omega
    have c4 : ((bts (L.map Prod.fst)).length : Int) < (((r.map lex_All.tok).length : Nat) : Int) := by rw [hwl, List.length_map, hlen]; omega
    have c5 : (rd_T36 (r.map lex_All.tok) ((bts (L.map Prod.fst)).length : Int)).f0 = 5 := by rw [hwl, rd36 r L.length (by omega)]; exact hk5
    have c6 : ((5 : Int) != 5) = false := by decide
    rw [if_neg c1, if_pos c2, if_pos c3, if_pos c4, c5, c6]
  · refine Ev.step (f := fun k => girandolelaw01_LexJoins.l1 k ⟨(joined L).toArray⟩ (r.map lex_All.tok) (bts (L.map Prod.fst)) ((L.map Prod.fst).length : Int) ((0 : Nat) : Int)) (fun k => ?_) (loop_ok r _ (by omega) (L.map Prod.fst) (by simpa using hL) htx hst _ 0 rfl (by omega))
    simp only [girandolelaw01_LexJoins.j2, Bool.false_eq_true, if_false, hwl, List.length_map, Int.natCast_zero]
theorem join_len : joinWords.length = 46 := by decide +kernel
theorem round_ok (l0 l1 : List Int) : ∀ d i (L : List (List UInt8 × List UInt8)), 30 - i = d → i ≤ 30 → L.length = i → (∀ p ∈ L, p.1 ∈ joinWords ∧ p.2 ∈ seps) →
    Ev (fun k => girandolelaw01_LexJoins.l0 k l0 l1 (bts joinWords) ⟨(joined L).toArray⟩ (bts (L.map Prod.fst)) (i : Int)) true := by
  intro d
  induction d with
  | zero =>
    intro i L hd hi hL h
    refine Ev.step (f := fun k => girandolelaw01_LexJoins.j1 k ⟨(joined L).toArray⟩ (bts (L.map Prod.fst))) (fun k => ?_) (end_ok L h (by omega))
    simp only [girandolelaw01_LexJoins.l0]
    by_cases hlt : (i : Int) < (l0.length : Int)
    · rw [if_pos hlt, if_neg (by omega)]
    · rw [if_neg hlt]
  | succ d ih =>
    intro i L hd hi hL h
    by_cases hlt : (i : Int) < (l0.length : Int)
    · obtain ⟨a, ha, ha2⟩ : ∃ a : Nat, Int.tmod (Go.bits .and .i64 (rd l0 (i : Int)) 65535) 46 = (a : Int) ∧ a < 46 := by
        rw [and_65535]
        refine ⟨(((rd l0 (i : Int)) % 65536).toNat) % 46, ?_, Nat.mod_lt _ (by decide)⟩
        rw [Int.tmod_eq_emod_of_nonneg (by omega)]
        omega
      obtain ⟨b, hb, hb2⟩ : ∃ b : Nat, Go.bits .and .i64 (wrap64 ((i : Int) + (Go.bits .and .i64 (l1.length : Int) 255))) 3 = (b : Int) ∧ b < 4 := by
        rw [and_3]
        exact ⟨((wrap64 ((i : Int) + (Go.bits .and .i64 (l1.length : Int) 255))) % 4).toNat, by omega, by omega⟩
      have hbw : (bts joinWords).length = 46 := by simp [bts, join_len]
      have hbs : seps.length = 4 := rfl
      have hwm : joinWords[a]'(by rw [join_len]; exact ha2) ∈ joinWords := List.getElem_mem _
      have hqm : seps[b]'(by rw [hbs]; exact hb2) ∈ seps := List.getElem_mem _
      obtain ⟨w, hw⟩ : ∃ w, joinWords[a]'(by rw [join_len]; exact ha2) = w := ⟨_, rfl⟩
      obtain ⟨q, hq⟩ : ∃ q, seps[b]'(by rw [hbs]; exact hb2) = q := ⟨_, rfl⟩
      rw [hw] at hwm
      rw [hq] at hqm
      have hj := joined_len L h
      have hw19 := (join_ne w hwm).2.1
      have hq11 := (show ∀ q ∈ seps, 1 ≤ q.length ∧ q.length ≤ 11 by decide) q hqm
      have hn := ih (i + 1) (L ++ [(w, q)]) (by omega) (by omega) (by simp [hL]) (by
        intro p hp
        rcases List.mem_append.1 hp with hp | hp
        · exact h p hp
        · rw [List.mem_singleton.1 hp]
          exact ⟨hwm, hqm⟩)
      refine Ev.step (fun k => ?_) hn
      have r1 : rdOf ByteArray.empty (bts joinWords) (a : Int) = ⟨w.toArray⟩ := by rw [rd_bts joinWords a (by rw [join_len]; exact ha2), hw]
      have r2 : rdOf ByteArray.empty (bts seps) (b : Int) = ⟨q.toArray⟩ := by rw [rd_bts seps b (by rw [hbs]; exact hb2), hq]
      have hlw : (bts (L.map Prod.fst)).length = i := by simp [bts, hL]
      have es : ([(⟨#[32]⟩ : ByteArray), (⟨#[10]⟩ : ByteArray), (⟨#[9, 32]⟩ : ByteArray), (⟨#[32, 45, 45, 32, 120, 32, 60, 62, 32, 55, 10]⟩ : ByteArray)] : List ByteArray) = bts seps := rfl
      have app : ∀ x y : List UInt8, (⟨x.toArray⟩ : ByteArray) ++ (⟨y.toArray⟩ : ByteArray) = ⟨(x ++ y).toArray⟩ := by
        intro x y
        apply ByteArray.ext
        simp [ByteArray.data_append]
      have z1 : (⟨w.toArray⟩ : ByteArray).size + (⟨q.toArray⟩ : ByteArray).size ≤ 9223372036854775807 := by rw [size_mk, size_mk]; omega
      have z2 : (⟨(joined L).toArray⟩ : ByteArray).size + (⟨(w ++ q).toArray⟩ : ByteArray).size ≤ 9223372036854775807 := by rw [size_mk, size_mk]; simp; omega
      simp only [girandolelaw01_LexJoins.l0, Option.bind_some, es]
      rw [if_pos hlt, if_pos (by omega), if_pos (by omega), hbw, if_neg (by decide)]
      rw [show ((46 : Nat) : Int) = 46 from rfl, ha, hb, r1, r2, app]
      rw [if_pos (by omega), if_pos (by omega), if_pos (by omega), if_pos (by omega), if_pos (by simp [bts, hbs]; omega), if_pos z1, if_pos z2, app, w1 i (by omega)]
      congr 1
      · simp [joined]
      · simp [bts]
    · refine Ev.step (f := fun k => girandolelaw01_LexJoins.j1 k ⟨(joined L).toArray⟩ (bts (L.map Prod.fst))) (fun k => ?_) (end_ok L h (by omega))
      simp only [girandolelaw01_LexJoins.l0]
      rw [if_neg hlt]
end Joins
open Joins in
theorem LexJoins : girandolelaw01_LexJoins.Pure := by
  intro l0 l1 _ _ _ _ _ _
  refine Ev.rounds ?_
  refine Ev.congr (f := fun k => girandolelaw01_LexJoins.l0 k l0 l1 (bts joinWords) (⟨#[]⟩ : ByteArray) ([] : List ByteArray) 0) (fun k => ?_) (round_ok l0 l1 30 0 [] rfl (by omega) rfl (by simp))
  unfold girandolelaw01_LexJoins.f
  rw [awake_ok]
  rfl
end Go.Proofs.YtnlkjimpefebbaaDoor.Pure
