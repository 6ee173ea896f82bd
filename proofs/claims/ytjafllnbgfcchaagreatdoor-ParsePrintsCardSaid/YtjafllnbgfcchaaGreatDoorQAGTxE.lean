/- Joined of: TxE, TxN, TxL, PrL. -/
import Derived.Test.YtjafllnbgfcchaaGreatDoorQATxT
import Derived.Test.YtjafllnbgfcchaaGreatDoorQAGPBase
import Derived.Test.YtjafllnbgfcchaaGreatDoorQAGTxD
import Derived.Test.YtjafllnbgfcchaaGreatDoorQAPNdL
import Derived.Test.YtjafllnbgfcchaaGreatDoorQAGPFine
import Derived.Test.YtjafllnbgfcchaaGreatDoorQAPProgT
import Derived.Test.YtjafllnbgfcchaaGreatDoorQAGOw
import Derived.Test.YtjafllnbgfcchaaGreatDoorQAGXPRx0
section
/- What tree.Text gives is the canonical text. -/
namespace Go.Proofs.YtjafllnbgfcchaaGreatDoor.Tx
set_option linter.unusedVariables false
set_option linter.unusedSimpArgs false
open Go Go.RowKit Go.Proofs.YtjafllnbgfcchaaGreatDoor.XK
mutual
def toX : E → PX.Ex
 | ⟨k, _, n, m, o, l⟩ => .mk k.toNat 0 n m.data.toList o (toXs l)
def toXs : List E → List PX.Ex
 | [] => []
 | e :: r => toX e :: toXs r
end
def ba (l : List UInt8) : ByteArray := ⟨l.toArray⟩
theorem ba_size (l : List UInt8) : (ba l).size = l.length := by
 show (ba l).data.size = _
 simp [ba]
theorem ba_append (a b : List UInt8) : ba a ++ ba b = ba (a ++ b) := by
 apply ByteArray.ext
 rw [ByteArray.data_append]
 simp [ba]
theorem ba_data (m : ByteArray) : ba m.data.toList = m := by
 apply ByteArray.ext
 simp [ba]
theorem lvl_of (e : E) : PX.level (toX e) = PX.lvl e.f0.toNat e.f2 e.f3.data.toList := by cases e; rfl
theorem at_eq (e : E) (least : Nat) : atB e least (ba ((PX.textE (toX e)))) = ba ((PX.kbE (toX e)).at_ least) := by
 unfold atB PX.Kb.at_
 show _ = ba (if PX.level (toX e) < least then _ else _)
 rw [lvl_of]
 split
 ·show ba [40] ++ ba ((PX.textE (toX e))) ++ ba [41] = _
  rw [ba_append, ba_append]
  rfl
 ·rfl
theorem at_len (e : E) (least : Nat) : ((PX.textE (toX e))).length ≤ ((PX.kbE (toX e)).at_ least).length := by
 unfold PX.Kb.at_
 split
 ·show _ ≤ (PX.parB ((PX.textE (toX e)))).length
  simp [PX.parB]
  omega
 ·exact Nat.le_refl _
theorem clk_eq (m : ByteArray) (o : Bool) : clkB m o = ba (PX.clockB m.data.toList o) := by
 unfold clkB PX.clockB
 rw [Fnd.toList_data]
 split
 ·rfl
 ·cases o
  ·show ba [32, 119, 104, 101, 110, 32] ++ m = _
   rw [← ba_data m, ba_append, ba_data]
   rfl
  ·show ba [32, 119, 104, 101, 110, 32, 110, 111, 116, 32] ++ m = _
   rw [← ba_data m, ba_append, ba_data]
   rfl
theorem join_eq : ∀ l : List (List UInt8), Lib.join l [44, 32] = PX.commasB l
 | [] => rfl
 | [x] => Lib.join_one x _
 | x :: y :: r => by
  have ih := join_eq (y :: r)
  rw [Lib.join_cons] at ih ⊢
  show _ = x ++ 44 :: 32 :: PX.commasB (y :: r)
  rw [← ih]
  simp [Lib.joinTail]
theorem toXs_map (l : List E) : toXs l = l.map toX := by
 induction l with
 | nil => rfl
 | cons e r ih => rw [toXs, ih]; rfl
theorem list_eq (l : List E) : listB (l.map fun e => ba ((PX.textE (toX e)))) = ba (PX.commasB ((PX.kbsE (toXs l)).map PX.Kb.txt)) := by
 unfold listB
 rw [join_eq, PX.kbsE_eq, toXs_map, List.map_map, List.map_map, List.map_map]
 have e : (fun x : ByteArray => x.data.toList) ∘ (fun e => ba ((PX.textE (toX e)))) = PX.Kb.txt ∘ PX.kbE ∘ toX := by
  funext e
  simp [ba]
  rfl
 rw [e]
 rfl
theorem dig_of {n : Nat} : (48 : UInt8) + n.toUInt8 = UInt8.ofNat (48 + n) := by
 rw [UInt8.ofNat_add]
 rfl
theorem digs_dec : ∀ (k n : Nat), n < 10 ^ (k + 1) → PX.digs (k + 1) n = Lib.decDigits n
 | 0, n, h => by
  rw [PX.digs, Lib.decDigits, if_pos (by omega), dif_pos (by omega), dig_of]
 | k + 1, n, h => by
  rw [PX.digs, Lib.decDigits]
  by_cases hn : n < 10
  ·rw [if_pos hn, dif_pos hn, dig_of]
  ·rw [if_neg hn, dif_neg hn, dig_of, digs_dec k (n / 10) (by rw [Nat.pow_succ] at h; omega)]
theorem num_eq {n : Int} (h0 : -9223372036854775808 ≤ n) (h1 : n ≤ 9223372036854775807) : Lib.itoa n = PX.numB n := by
 unfold Lib.itoa PX.numB PX.digits
 have h : n.natAbs < 10 ^ (19 + 1) := by omega
 split
 ·rw [digs_dec 19 _ h]
 ·rw [digs_dec 19 _ h]
  congr 1
  omega
theorem inv {e : E} {k q : Nat} {n : Int} {m : PX.B} {o : Bool} {xs : List PX.Ex} (hk : 0 < k) (h : toX e = .mk k q n m o xs) : ∃ p l, e = ⟨(k : Int), p, n, ba m, o, l⟩ ∧ toXs l = xs := by
 obtain ⟨f0, f1, f2, f3, f4, f5⟩ := e
 rw [toX] at h
 injection h with h1 h2 h3 h4 h5 h6
 refine ⟨f1, f5, ?_, h6⟩
 rw [← h3, ← h4, ba_data, ← h5]
 congr 1
 omega
theorem inv1 {l : List E} {a : PX.Ex} (h : toXs l = [a]) : ∃ ea, l = [ea] ∧ toX ea = a := by
 match l, h with
 | [ea], h => exact ⟨ea, rfl, by injection h⟩
theorem inv2 {l : List E} {a b : PX.Ex} (h : toXs l = [a, b]) : ∃ ea eb, l = [ea, eb] ∧ toX ea = a ∧ toX eb = b := by
 match l, h with
 | [ea, eb], h =>
  injection h with h1 h2
  injection h2 with h2 h3
  exact ⟨ea, eb, rfl, h1, h2⟩
theorem inv3 {l : List E} {a b c : PX.Ex} (h : toXs l = [a, b, c]) : ∃ ea eb ec, l = [ea, eb, ec] ∧ toX ea = a ∧ toX eb = b ∧ toX ec = c := by
 match l, h with
 | [ea, eb, ec], h =>
  injection h with h1 h2
  injection h2 with h2 h3
  injection h3 with h3 h4
  exact ⟨ea, eb, ec, rfl, h1, h2, h3⟩
theorem f0_pos {e : E} (h : PX.Wf (toX e)) : 0 ≤ e.f0 := by
 obtain ⟨f0, f1, f2, f3, f4, f5⟩ := e
 rw [toX] at h
 show 0 ≤ f0
 have : 0 < f0.toNat := by
  generalize f0.toNat = k at h
  generalize f3.data.toList = mm at h
  generalize toXs f5 = xx at h
  cases h <;> decide
 omega
theorem nm_size {m : PX.B} (h : PX.NameOk m) : (ba m).size ≤ 1000000 := by
 rw [ba_size]
 have := h.2.2.2
 omega
theorem tx_pos {e : E} (h : PX.Wf (toX e)) : 0 < (ba ((PX.textE (toX e)))).size := by
 obtain ⟨c, r, hc, _⟩ := (PX.fst_wf h).hd
 rw [ba_size, hc]
 exact Nat.succ_pos _
theorem mem_of : ∀ (l : List E) {e : E}, e ∈ l → toX e ∈ toXs l := fun l e h => by
 rw [toXs_map]
 exact List.mem_map_of_mem h
theorem commas_len : ∀ (l : List (List UInt8)) (x : List UInt8), x ∈ l → x.length ≤ (PX.commasB l).length
 | [x], y, h => by
  obtain rfl : y = x := by simpa using h
  exact Nat.le_refl _
 | x :: z :: r, y, h => by
  show _ ≤ (x ++ 44 :: 32 :: PX.commasB (z :: r)).length
  rw [List.length_append, List.length_cons, List.length_cons]
  rcases List.mem_cons.1 h with rfl | h
  ·omega
  ·have := commas_len (z :: r) y h
   omega
theorem commas_many : ∀ l : List (List UInt8), (∀ x ∈ l, x ≠ []) → l.length ≤ (PX.commasB l).length
 | [], _ => Nat.zero_le _
 | [x], h => by
  have := List.length_pos_iff.2 (h x (by simp))
  show 1 ≤ x.length
  omega
 | x :: z :: r, h => by
  have := commas_many (z :: r) (fun y hy => h y (List.mem_cons_of_mem _ hy))
  show _ ≤ (x ++ 44 :: 32 :: PX.commasB (z :: r)).length
  rw [List.length_append, List.length_cons, List.length_cons, List.length_cons]
  rw [List.length_cons] at this ⊢
  omega
theorem txt_map (l : List E) : (PX.kbsE (toXs l)).map PX.Kb.txt = l.map (fun e => PX.textE (toX e)) := by
 rw [PX.kbsE_eq, toXs_map, List.map_map, List.map_map]
 rfl
theorem txts_of {w0 : World} (l : List E) (ih : ∀ x ∈ toXs l, ∀ e : E, toX e = x → (PX.textE x).length ≤ 1000000 → TxtIs w0 e (ba (PX.textE x))) (hl : (PX.commasB ((PX.kbsE (toXs l)).map PX.Kb.txt)).length ≤ 1000000) : TxtsIs w0 l (l.map fun e => ba ((PX.textE (toX e)))) := by
 rw [txt_map] at hl
 have h1 : ∀ e ∈ l, TxtIs w0 e (ba ((PX.textE (toX e)))) ∧ (ba ((PX.textE (toX e)))).size ≤ 1000000 := fun e he => by
  have h2 := commas_len (l.map (fun e => PX.textE (toX e))) ((PX.textE (toX e))) (List.mem_map_of_mem he)
  refine ⟨ih _ (mem_of l he) e rfl (by show ((PX.textE (toX e))).length ≤ _; omega), ?_⟩
  rw [ba_size]
  omega
 clear ih hl
 induction l with
 | nil => trivial
 | cons e r ihr => exact ⟨(h1 e (by simp)).1, (h1 e (by simp)).2, ihr (fun y hy => h1 y (List.mem_cons_of_mem _ hy))⟩
theorem len_of (l : List E) (hw : ∀ e ∈ l, PX.Wf (toX e)) (hl : (PX.commasB ((PX.kbsE (toXs l)).map PX.Kb.txt)).length ≤ 1000000) : l.length ≤ 1000000 := by
 rw [txt_map] at hl
 have := commas_many (l.map (fun e => PX.textE (toX e))) (fun x hx => by
  obtain ⟨e, he, rfl⟩ := List.mem_map.1 hx
  obtain ⟨c, r, hc, _⟩ := (PX.fst_wf (hw e he)).hd
  rw [show (PX.textE (toX e)) = c :: r from hc]
  simp)
 rw [List.length_map] at this
 omega
theorem text_is (w0 : World) {x : PX.Ex} (hx : PX.Wf x) : ∀ e : E, toX e = x → (PX.textE x).length ≤ 1000000 → TxtIs w0 e (ba (PX.textE x)) := by
 induction hx with
 | num q n h0 h1 =>
  intro e he hl
  obtain ⟨p, l, rfl, hl2⟩ := inv (by decide) he
  have h := text_k1 (w0 := w0) (l := l) (p := p) (m := ba []) (o := false) h0 h1
  rw [num_eq h0 h1] at h
  exact h
 | truth q n h =>
  intro e he hl
  obtain ⟨p, l, rfl, hl2⟩ := inv (by decide) he
  have h9 := text_k2 (w0 := w0) (l := l) (p := p) (n := n) (m := ba []) (o := false)
  rcases h with rfl | rfl
  ·exact h9
  ·exact h9
 | var q m hm =>
  intro e he hl
  obtain ⟨p, l, rfl, hl2⟩ := inv (by decide) he
  exact text_k3 (w0 := w0) (l := l) (p := p) (n := 0) (m := ba m) (o := false)
 | neg q a ha ih =>
  intro e he hl
  obtain ⟨p, l, rfl, hl2⟩ := inv (by decide) he
  obtain ⟨ea, rfl, rfl⟩ := inv1 hl2
  have hx : PX.textE (.mk 4 q 0 [] false [toX ea]) = 45 :: (if (PX.kbE (toX ea)).kind = 1 ∨ ((PX.kbE (toX ea)).at_ 8).head? = some 45 then PX.parB ((PX.textE (toX ea))) else (PX.kbE (toX ea)).at_ 8) := by rw [PX.textE]; rfl
  have hlen : ((PX.textE (toX ea))).length ≤ 1000000 := by
   rw [hx] at hl
   have := at_len ea 8
   split at hl <;> simp [PX.parB] at hl <;> omega
  have hs : (ba ((PX.textE (toX ea)))).size ≤ 1000000 := by rw [ba_size]; exact hlen
  have hn := neg_walk (ih ea rfl hlen) (f0_pos ha) hs (tx_pos ha)
  have hr : negB ea (ba ((PX.textE (toX ea)))) = ba (PX.textE (.mk 4 q 0 [] false [toX ea])) := by
   rw [hx]
   unfold negB
   rw [at_eq]
   have hc : (ea.f0 = 1 ∨ (ba ((PX.kbE (toX ea)).at_ 8)).data[0]? = some 45) ↔ ((PX.kbE (toX ea)).kind = 1 ∨ ((PX.kbE (toX ea)).at_ 8).head? = some 45) := by
    have e1 : (PX.kbE (toX ea)).kind = ea.f0.toNat := by cases ea; rfl
    have e2 : (ba ((PX.kbE (toX ea)).at_ 8)).data[0]? = ((PX.kbE (toX ea)).at_ 8).head? := by
     show (((PX.kbE (toX ea)).at_ 8).toArray)[0]? = _
     rw [List.getElem?_toArray, List.head?_eq_getElem?]
    rw [e1, e2]
    constructor
    ·rintro (h | h)
     ·exact .inl (by omega)
     ·exact .inr h
    ·rintro (h | h)
     ·exact .inl (by omega)
     ·exact .inr h
   by_cases hcc : (PX.kbE (toX ea)).kind = 1 ∨ ((PX.kbE (toX ea)).at_ 8).head? = some 45
   ·rw [if_pos (hc.2 hcc), if_pos hcc]
    show ba [45, 40] ++ ba ((PX.textE (toX ea))) ++ ba [41] = _
    rw [ba_append, ba_append]
    rfl
   ·rw [if_neg (fun h => hcc (hc.1 h)), if_neg hcc]
    show ba [45] ++ ba _ = _
    rw [ba_append]
    rfl
  rw [← hr]
  exact text_k4 (p := p) (n := 0) (m := ba []) (o := false) rfl hn (by
   rw [hr, ba_size]
   omega)
 | not_ q a ha ih =>
  intro e he hl
  obtain ⟨p, l, rfl, hl2⟩ := inv (by decide) he
  obtain ⟨ea, rfl, rfl⟩ := inv1 hl2
  have hx : PX.textE (.mk 5 q 0 [] false [toX ea]) = [110, 111, 116, 32] ++ (PX.kbE (toX ea)).at_ 4 := by rw [PX.textE]; rfl
  rw [hx] at hl ⊢
  have h1 := at_len ea 4
  simp only [List.length_append, List.length_cons, List.length_nil] at hl
  have ht := text_k5 (p := p) (n := 0) (m := ba []) (o := false) rfl (at_walk (ih ea rfl (by omega)) (f0_pos ha) (by rw [ba_size]; omega) 4) (by rw [at_eq, ba_size]; omega)
  rw [at_eq] at ht
  rw [← ba_append]
  exact ht
 | pre q a ha ih =>
  intro e he hl
  obtain ⟨p, l, rfl, hl2⟩ := inv (by decide) he
  obtain ⟨ea, rfl, rfl⟩ := inv1 hl2
  have hx : PX.textE (.mk 10 q 0 [] false [toX ea]) = [112, 114, 101, 32] ++ (PX.kbE (toX ea)).at_ 8 := by rw [PX.textE]; rfl
  rw [hx] at hl ⊢
  have h1 := at_len ea 8
  simp only [List.length_append, List.length_cons, List.length_nil] at hl
  have ht := text_k10 (p := p) (n := 0) (m := ba []) (o := false) rfl (at_walk (ih ea rfl (by omega)) (f0_pos ha) (by rw [ba_size]; omega) 8) (by rw [at_eq, ba_size]; omega)
  rw [at_eq] at ht
  rw [← ba_append]
  exact ht
 | sign q m a b hm ha hb iha ihb =>
  intro e he hl
  obtain ⟨p, l, rfl, hl2⟩ := inv (by decide) he
  obtain ⟨ea, eb, rfl, rfl, rfl⟩ := inv2 hl2
  have hx : PX.textE (.mk 6 q 0 m false [toX ea, toX eb]) = (PX.kbE (toX ea)).at_ (if PX.signLevel m = 5 then 6 else PX.signLevel m) ++ 32 :: (m ++ 32 :: (PX.kbE (toX eb)).at_ (PX.signLevel m + 1)) := by rw [PX.textE]; rfl
  rw [hx] at hl ⊢
  have h1 := at_len ea (if PX.signLevel m = 5 then 6 else PX.signLevel m)
  have h2 := at_len eb (PX.signLevel m + 1)
  simp only [List.length_append, List.length_cons, List.length_nil] at hl
  have wa := fun k => at_walk (iha ea rfl (by omega)) (f0_pos ha) (by rw [ba_size]; omega) k
  have wb := fun k => at_walk (ihb eb rfl (by omega)) (f0_pos hb) (by rw [ba_size]; omega) k
  have sm : (ba m).size ≤ 1000000 := by rw [ba_size]; omega
  have hd : (ba m).data.toList = m := by simp [ba]
  have hr : ba ((PX.kbE (toX ea)).at_ (if PX.signLevel m = 5 then 6 else PX.signLevel m) ++ 32 :: (m ++ 32 :: (PX.kbE (toX eb)).at_ (PX.signLevel m + 1))) = ba ((PX.kbE (toX ea)).at_ (if PX.signLevel m = 5 then 6 else PX.signLevel m)) ++ (⟨#[32]⟩ : ByteArray) ++ ba m ++ (⟨#[32]⟩ : ByteArray) ++ ba ((PX.kbE (toX eb)).at_ (PX.signLevel m + 1)) := by
   show _ = _ ++ ba [32] ++ _ ++ ba [32] ++ _
   rw [ba_append, ba_append, ba_append, ba_append]
   simp
  rw [hr]
  refine text_k6 (p := p) (n := 0) (m := ba m) (o := false) (a := ea) (b := eb) (ta := ba []) (tb := ba []) rfl ?_
  by_cases h5 : PX.signLevel m = 5
  ·rw [if_pos h5, h5]
   rw [if_pos h5] at hl h1
   rw [h5] at hl h2
   have wa6 := wa 6
   have wb6 := wb 6
   rw [at_eq] at wa6 wb6
   exact bin_5 rfl wa6 (by rw [ba_size]; omega) wb6 (by rw [ba_size]; omega) sm (by rw [hd]; exact h5)
  ·rw [if_neg h5]
   rw [if_neg h5] at hl h1
   have wa6 := wa (PX.signLevel m)
   have wb6 := wb (PX.signLevel m + 1)
   rw [at_eq] at wa6 wb6
   have h100 : PX.signLevel m ≤ 100 := by unfold PX.signLevel; split <;> (try split) <;> (try split) <;> (try split) <;> decide
   exact bin_n (lz := (PX.signLevel m : Int)) rfl wa6 (by rw [ba_size]; omega) wb6 (by rw [ba_size]; omega) sm (by rw [hd]) (by omega) (by omega) (by omega)
 | if_ q a b c ha hb hc iha ihb ihc =>
  intro e he hl
  obtain ⟨p, l, rfl, hl2⟩ := inv (by decide) he
  obtain ⟨ea, eb, ec, rfl, rfl, rfl, rfl⟩ := inv3 hl2
  have hx : PX.textE (.mk 7 q 0 [] false [toX ea, toX eb, toX ec]) = [105, 102, 32] ++ ((PX.textE (toX ea)) ++ ([32, 116, 104, 101, 110, 32] ++ ((PX.textE (toX eb)) ++ ([32, 101, 108, 115, 101, 32] ++ (PX.textE (toX ec)))))) := by rw [PX.textE]; rfl
  rw [hx] at hl ⊢
  simp only [List.length_append, List.length_cons, List.length_nil] at hl
  have ht := text_k7 (p := p) (n := 0) (m := ba []) (o := false) rfl (iha ea rfl (by omega)) (by rw [ba_size]; omega) (ihb eb rfl (by omega)) (by rw [ba_size]; omega) (ihc ec rfl (by omega)) (by rw [ba_size]; omega)
  have hr : ba ([105, 102, 32] ++ ((PX.textE (toX ea)) ++ ([32, 116, 104, 101, 110, 32] ++ ((PX.textE (toX eb)) ++ ([32, 101, 108, 115, 101, 32] ++ (PX.textE (toX ec))))))) = ba [105, 102, 32] ++ ba ((PX.textE (toX ea))) ++ ba [32, 116, 104, 101, 110, 32] ++ ba ((PX.textE (toX eb))) ++ ba [32, 101, 108, 115, 101, 32] ++ ba ((PX.textE (toX ec))) := by
   simp only [ba_append, List.append_assoc]
  rw [hr]
  exact ht
 | arrow q a b ha hb iha ihb =>
  intro e he hl
  obtain ⟨p, l, rfl, hl2⟩ := inv (by decide) he
  obtain ⟨ea, eb, rfl, rfl, rfl⟩ := inv2 hl2
  have hx : PX.textE (.mk 8 q 0 [] false [toX ea, toX eb]) = (PX.kbE (toX ea)).at_ 2 ++ [32, 45, 62, 32] ++ (PX.kbE (toX eb)).at_ 1 := by rw [PX.textE]; rfl
  rw [hx] at hl ⊢
  have h1 := at_len ea 2
  have h2 := at_len eb 1
  simp only [List.length_append, List.length_cons, List.length_nil] at hl
  have ht := text_k8 (p := p) (n := 0) (m := ba []) (o := false) rfl (at_walk (iha ea rfl (by omega)) (f0_pos ha) (by rw [ba_size]; omega) 2) (by rw [at_eq, ba_size]; omega) (at_walk (ihb eb rfl (by omega)) (f0_pos hb) (by rw [ba_size]; omega) 1) (by rw [at_eq, ba_size]; omega)
  rw [at_eq, at_eq] at ht
  rw [← ba_append, ← ba_append]
  exact ht
 | fby q a b hc ha hb iha ihb =>
  intro e he hl
  obtain ⟨p, l, rfl, hl2⟩ := inv (by decide) he
  obtain ⟨ea, eb, rfl, rfl, rfl⟩ := inv2 hl2
  have hx : PX.textE (.mk 9 q 0 [] false [toX ea, toX eb]) = (PX.textE (toX ea)) ++ [32, 102, 98, 121, 32] ++ (PX.kbE (toX eb)).at_ 1 := by rw [PX.textE]; rfl
  rw [hx] at hl ⊢
  have h2 := at_len eb 1
  simp only [List.length_append, List.length_cons, List.length_nil] at hl
  have ht := text_k9 (p := p) (n := 0) (m := ba []) (o := false) rfl (iha ea rfl (by omega)) (by rw [ba_size]; omega) (at_walk (ihb eb rfl (by omega)) (f0_pos hb) (by rw [ba_size]; omega) 1) (by rw [at_eq, ba_size]; omega)
  rw [at_eq] at ht
  rw [← ba_append, ← ba_append]
  exact ht
 | when_ q m o a hm ha ih =>
  intro e he hl
  obtain ⟨p, l, rfl, hl2⟩ := inv (by decide) he
  obtain ⟨ea, rfl, rfl⟩ := inv1 hl2
  have hx : PX.textE (.mk 11 q 0 m o [toX ea]) = (PX.kbE (toX ea)).at_ 9 ++ PX.clockB m o := by rw [PX.textE]; rfl
  rw [hx] at hl ⊢
  have h1 := at_len ea 9
  simp only [List.length_append] at hl
  have ht := text_k11 (p := p) (n := 0) (m := ba m) (o := o) rfl (at_walk (ih ea rfl (by omega)) (f0_pos ha) (by rw [ba_size]; omega) 9) (by rw [at_eq, ba_size]; omega) (clkB_size _ o (nm_size hm)) (clkB_walk (ba m) o (nm_size hm))
  rw [at_eq, clk_eq] at ht
  have hd : (ba m).data.toList = m := by simp [ba]
  rw [hd] at ht
  rw [← ba_append]
  exact ht
 | merge q m a b hm ha hb iha ihb =>
  intro e he hl
  obtain ⟨p, l, rfl, hl2⟩ := inv (by decide) he
  obtain ⟨ea, eb, rfl, rfl, rfl⟩ := inv2 hl2
  have hx : PX.textE (.mk 12 q 0 m false [toX ea, toX eb]) = [109, 101, 114, 103, 101, 32] ++ (m ++ 32 :: (PX.parB ((PX.textE (toX ea))) ++ 32 :: PX.parB ((PX.textE (toX eb))))) := by rw [PX.textE]; rfl
  rw [hx] at hl ⊢
  simp only [List.length_append, List.length_cons, List.length_nil, PX.parB] at hl
  have ht := text_k12 (p := p) (n := 0) (m := ba m) (o := false) rfl (iha ea rfl (by omega)) (by rw [ba_size]; omega) (ihb eb rfl (by omega)) (by rw [ba_size]; omega) (nm_size hm)
  have hr : ba ([109, 101, 114, 103, 101, 32] ++ (m ++ 32 :: (PX.parB ((PX.textE (toX ea))) ++ 32 :: PX.parB ((PX.textE (toX eb)))))) = ba [109, 101, 114, 103, 101, 32] ++ ba m ++ ba [32, 40] ++ ba ((PX.textE (toX ea))) ++ ba [41, 32, 40] ++ ba ((PX.textE (toX eb))) ++ ba [41] := by
   simp only [ba_append]
   simp [PX.parB]
  rw [hr]
  exact ht
 | call q m l hm hw ih =>
  intro e he hl
  obtain ⟨p, el, rfl, hl2⟩ := inv (by decide) he
  subst hl2
  have hx : PX.textE (.mk 13 q 0 m false (toXs el)) = m ++ PX.parB (PX.commasB ((PX.kbsE (toXs el)).map PX.Kb.txt)) := by rw [PX.textE]; rfl
  rw [hx] at hl ⊢
  simp only [List.length_append, List.length_cons, List.length_nil, PX.parB] at hl
  have hj : (listB (el.map fun e => ba ((PX.textE (toX e))))).size ≤ 1000000 := by rw [list_eq, ba_size]; omega
  have ht := text_k13 (p := p) (n := 0) (m := ba m) (o := false) (list_walk (w0 := w0) (l := el) (ts := el.map fun e => ba ((PX.textE (toX e)))) (txts_of el ih (by omega)) (len_of el (fun e he => hw _ (mem_of el he)) (by omega)) hj) hj (nm_size hm)
  rw [list_eq] at ht
  have hr : ba (m ++ PX.parB (PX.commasB ((PX.kbsE (toXs el)).map PX.Kb.txt))) = ba m ++ ba [40] ++ ba (PX.commasB ((PX.kbsE (toXs el)).map PX.Kb.txt)) ++ ba [41] := by
   simp only [ba_append]
   simp [PX.parB]
  rw [hr]
  exact ht
 | await q m l hm hw hc ih =>
  intro e he hl
  obtain ⟨p, el, rfl, hl2⟩ := inv (by decide) he
  subst hl2
  cases el with
  | nil =>
   have hx : PX.textE (.mk 14 q 0 m false (toXs [])) = [97, 119, 97, 105, 116, 32] ++ m := by
    rw [PX.textE]
    show [97, 119, 97, 105, 116, 32] ++ (m ++ []) = _
    rw [List.append_nil]
   rw [hx, ← ba_append]
   exact text_k140 (p := p) (n := 0) (m := ba m) (o := false) (nm_size hm)
  | cons e0 er =>
   have hx : PX.textE (.mk 14 q 0 m false (toXs (e0 :: er))) = [97, 119, 97, 105, 116, 32] ++ (m ++ ([32, 97, 102, 116, 101, 114, 32] ++ PX.parB (PX.commasB ((PX.kbsE (toXs (e0 :: er))).map PX.Kb.txt)))) := by rw [PX.textE]; rfl
   rw [hx] at hl ⊢
   simp only [List.length_append, List.length_cons, List.length_nil, PX.parB] at hl
   have hj : (listB ((e0 :: er).map fun e => ba ((PX.textE (toX e))))).size ≤ 1000000 := by rw [list_eq, ba_size]; omega
   have ht := text_k14 (p := p) (n := 0) (m := ba m) (o := false) (list_walk (w0 := w0) (l := e0 :: er) (ts := (e0 :: er).map fun e => ba ((PX.textE (toX e)))) (txts_of (e0 :: er) ih (by omega)) (len_of (e0 :: er) (fun e he => hw _ (mem_of (e0 :: er) he)) (by omega)) hj) hj (nm_size hm) (Nat.succ_pos _)
   rw [list_eq] at ht
   have hr : ba ([97, 119, 97, 105, 116, 32] ++ (m ++ ([32, 97, 102, 116, 101, 114, 32] ++ PX.parB (PX.commasB ((PX.kbsE (toXs (e0 :: er))).map PX.Kb.txt))))) = ba [97, 119, 97, 105, 116, 32] ++ ba m ++ ba [32, 97, 102, 116, 101, 114, 32, 40] ++ ba (PX.commasB ((PX.kbsE (toXs (e0 :: er))).map PX.Kb.txt)) ++ ba [41] := by
    simp only [ba_append]
    simp [PX.parB]
   rw [hr]
   exact ht
end Go.Proofs.YtjafllnbgfcchaaGreatDoor.Tx
end
section
/- Nodes that were read are printed as their canonical text. -/
namespace Go.Proofs.YtjafllnbgfcchaaGreatDoor.Tx
set_option linter.unusedVariables false
set_option linter.unusedSimpArgs false
open Go Go.RowKit Go.Proofs.YtjafllnbgfcchaaGreatDoorW.PrintWords Go.Proofs.YtjafllnbgfcchaaGreatDoorW.PrintLast Go.Proofs.YtjafllnbgfcchaaGreatDoorW.PrintMore Go.Proofs.YtjafllnbgfcchaaGreatDoor.XK
mutual
theorem toX_real (toks : List LX.Tok) : ∀ e : PX.Ex, toX (Px.real toks e) = PX.unp e
 | .mk k a n m o l => by
  rw [Px.real, toX, PX.unp, toXs_real toks l]
  simp
theorem toXs_real (toks : List LX.Tok) : ∀ l : List PX.Ex, toXs (Px.reals toks l) = PX.unps l
 | [] => rfl
 | e :: r => by rw [Px.reals, toXs, PX.unps, toX_real toks e, toXs_real toks r]
end
theorem isConst_unp (e : PX.Ex) : PX.isConst (PX.unp e) = PX.isConst e := by cases e; rfl
theorem wf_unp {e : PX.Ex} (h : PX.Wf e) : PX.Wf (PX.unp e) := by
 have hs : ∀ l : List PX.Ex, (∀ x ∈ l, PX.Wf (PX.unp x)) → ∀ x ∈ PX.unps l, PX.Wf x := fun l hl x hx => by
  rw [PX.unps_eq] at hx
  obtain ⟨y, hy, rfl⟩ := List.mem_map.1 hx
  exact hl y hy
 have hc : ∀ l : List PX.Ex, (∀ x ∈ l, PX.isConst x = true) → ∀ x ∈ PX.unps l, PX.isConst x = true := fun l hl x hx => by
  rw [PX.unps_eq] at hx
  obtain ⟨y, hy, rfl⟩ := List.mem_map.1 hx
  rw [isConst_unp]
  exact hl y hy
 induction h with
 | num q n h0 h1 => exact .num _ n h0 h1
 | truth q n h => exact .truth _ n h
 | var q m h => exact .var _ m h
 | neg q a _ ih => exact .neg _ _ ih
 | not_ q a _ ih => exact .not_ _ _ ih
 | sign q m a b hm _ _ iha ihb => exact .sign _ m _ _ hm iha ihb
 | if_ q a b c _ _ _ iha ihb ihc => exact .if_ _ _ _ _ iha ihb ihc
 | arrow q a b _ _ iha ihb => exact .arrow _ _ _ iha ihb
 | fby q a b hk _ _ iha ihb => exact .fby _ _ _ (by rw [isConst_unp]; exact hk) iha ihb
 | pre q a _ ih => exact .pre _ _ ih
 | when_ q m o a hm _ ih => exact .when_ _ m o _ hm ih
 | merge q m a b hm _ _ iha ihb => exact .merge _ m _ _ hm iha ihb
 | call q m l hm _ ih => exact .call _ m _ hm (hs l ih)
 | await q m l hm _ hk ih => exact .await _ m _ hm (hs l ih) (hc l hk)
theorem joinB_eq (sep : PX.B) : ∀ l : List PX.B, Lib.join l sep = PX.joinB sep l
 | [] => rfl
 | [x] => Lib.join_one x _
 | x :: y :: r => by
  have ih := joinB_eq sep (y :: r)
  rw [Lib.join_cons] at ih ⊢
  show _ = x ++ sep ++ PX.joinB sep (y :: r)
  rw [← ih]
  simp [Lib.joinTail]
theorem joinT_eq {α : Type} (sep : PX.B) (l : List α) (f : α → PX.B) : joinT (l.map fun x => ba (f x)) (ba sep) = ba (PX.joinB sep (l.map f)) := by
 unfold joinT
 rw [show (ba sep).data.toList = sep by simp [ba], joinB_eq, List.map_map]
 have e : (fun x : ByteArray => x.data.toList) ∘ (fun x => ba (f x)) = f := by
  funext x
  simp [ba]
 rw [e]
 rfl
theorem joinB_many (sep : PX.B) : ∀ l : List PX.B, (∀ x ∈ l, x ≠ []) → l.length ≤ (PX.joinB sep l).length
 | [], _ => Nat.zero_le _
 | [x], h => by
  have := List.length_pos_iff.2 (h x (by simp))
  show 1 ≤ x.length
  omega
 | x :: z :: r, h => by
  have h1 := joinB_many sep (z :: r) (fun y hy => h y (List.mem_cons_of_mem _ hy))
  have h2 := List.length_pos_iff.2 (h x (by simp))
  show _ ≤ (x ++ sep ++ PX.joinB sep (z :: r)).length
  rw [List.length_append, List.length_append, List.length_cons]
  omega
theorem tyT_eq (b f : Bool) : tyT b f = ba (PX.typeB b f) := by cases b <;> cases f <;> rfl
theorem dcT_eq (toks : List LX.Tok) (d : PX.Dc) : dcT (Px.realD toks d) = ba (PX.declB d) := by
 show (ba d.name) ++ (ba [58, 32]) ++ tyT d.bool d.future ++ clkB (ba d.clock) d.off = _
 rw [tyT_eq, clk_eq, show (ba d.clock).data.toList = d.clock by simp [ba], ba_append, ba_append, ba_append]
 rfl
theorem dcs_eq (toks : List LX.Tok) (sep : PX.B) (l : List PX.Dc) : joinT ((l.map (Px.realD toks)).map dcT) (ba sep) = ba (PX.declsB sep l) := by
 rw [List.map_map, show dcT ∘ Px.realD toks = fun d => ba (PX.declB d) from funext (dcT_eq toks), joinT_eq]
 rfl
theorem left_eq (toks : List LX.Tok) (l : List PX.Lf) : leftT (l.map (Px.realL toks)) = ba (PX.leftsB l) := by
 unfold leftT PX.leftsB
 rw [List.length_map, List.map_map, show (fun x : L => x.f0) ∘ Px.realL toks = fun x => ba x.name from rfl, show sepB = ba [44, 32] from rfl, joinT_eq [44, 32] l (fun x => x.name)]
 split
 ·show ba [40] ++ _ ++ ba [41] = _
  rw [ba_append, ba_append]
  rfl
 ·rfl
def tqE (q : Q) : ByteArray := ba (PX.textE (toX q.f2))
theorem tqE_real (toks : List LX.Tok) (q : PX.Eq) : tqE (Px.realQ toks q) = ba (PX.textE q.e) := by
 show ba (PX.textE (toX (Px.real toks q.e))) = _
 rw [toX_real, PX.textE_unp]
theorem eqT_real (toks : List LX.Tok) (q : PX.Eq) : eqT (Px.realQ toks q) (tqE (Px.realQ toks q)) = ba (PX.eqB q) := by
 rw [tqE_real]
 show ba [32, 32] ++ (leftT (q.left.map (Px.realL toks)) ++ (if q.async then ba [32, 61, 32, 97, 115, 121, 110, 99, 32] else ba [32, 61, 32])) ++ ba (PX.textE q.e) ++ ba [59, 10] = _
 rw [left_eq, show (if q.async then ba [32, 61, 32, 97, 115, 121, 110, 99, 32] else ba [32, 61, 32]) = ba (if q.async then [32, 61, 32, 97, 115, 121, 110, 99, 32] else [32, 61, 32]) by split <;> rfl, ba_append, ba_append, ba_append, ba_append]
 rfl
theorem ba_list (l : PX.B) : (ba l).data.toList = l := by simp [ba]
theorem eqsT_real (toks : List LX.Tok) (l : List PX.Eq) : eqsT tqE (l.map (Px.realQ toks)) = PX.eqsB l := by
 induction l with
 | nil => rfl
 | cons q r ih => rw [List.map_cons, eqsT, PX.eqsB, ih, eqT_real, ba_list]
theorem headT_real (toks : List LX.Tok) (n : PX.Nd) : headT (Px.realN toks n) = ba ([110, 111, 100, 101, 32] ++ n.name ++ [40] ++ PX.declsB [44, 32] n.ins ++ [41, 32, 114, 101, 116, 117, 114, 110, 115, 32, 40] ++ PX.declsB [44, 32] n.outs ++ [41, 10]) := by
 show ba [110, 111, 100, 101, 32] ++ ba n.name ++ ba [40] ++ joinT ((n.ins.map (Px.realD toks)).map dcT) (ba [44, 32]) ++ ba [41, 32, 114, 101, 116, 117, 114, 110, 115, 32, 40] ++ joinT ((n.outs.map (Px.realD toks)).map dcT) (ba [44, 32]) ++ ba [41, 10] = _
 rw [dcs_eq, dcs_eq]
 repeat rw [ba_append]
theorem varT_real (toks : List LX.Tok) (n : PX.Nd) : varT (Px.realN toks n) = ba ([118, 97, 114, 32] ++ PX.declsB [59, 32] n.vars ++ [59, 10]) := by
 show ba [118, 97, 114, 32] ++ joinT ((n.vars.map (Px.realD toks)).map dcT) (ba [59, 32]) ++ ba [59, 10] = _
 rw [dcs_eq]
 repeat rw [ba_append]
theorem nodeT_real (toks : List LX.Tok) (n : PX.Nd) : nodeT tqE (Px.realN toks n) = PX.nodeB n := by
 unfold nodeT PX.nodeB
 rw [headT_real, varT_real, ba_list, ba_list, show (Px.realN toks n).f5 = n.eqs.map (Px.realQ toks) from rfl, eqsT_real, show (Px.realN toks n).f4 = n.vars.map (Px.realD toks) from rfl, List.length_map]
 cases n.vars with
 | nil => simp
 | cons d r => simp
theorem nodesT_real (toks : List LX.Tok) (l : List PX.Nd) : nodesT tqE (l.map (Px.realN toks)) = PX.nodesB l := by
 induction l with
 | nil => rfl
 | cons n r ih => rw [List.map_cons, nodesT, PX.nodesB, ih, nodeT_real]
theorem declB_ne {d : PX.Dc} : PX.declB d ≠ [] := by
 unfold PX.declB
 simp
theorem dcs_ok (w0 : World) (toks : List LX.Tok) (sep : PX.B) {l : List PX.Dc} (hw : ∀ d ∈ l, PX.WfD d) (hl : (PX.declsB sep l).length ≤ 1000000) :
  DcsIs w0 (l.map (Px.realD toks)) (ba sep) (joinT ((l.map (Px.realD toks)).map dcT) (ba sep)) ∧ (joinT ((l.map (Px.realD toks)).map dcT) (ba sep)).size ≤ 1000000 := by
 have hz : (joinT ((l.map (Px.realD toks)).map dcT) (ba sep)).size ≤ 1000000 := by
  rw [dcs_eq, ba_size]
  exact hl
 refine ⟨decls_walk (ba sep) ?_ ?_ hz, hz⟩
 ·intro d hd
  obtain ⟨x, hx, rfl⟩ := List.mem_map.1 hd
  refine ⟨nm_size (hw x hx).name, ?_⟩
  show (ba x.clock).size ≤ _
  rcases (hw x hx).clock with h | h
  ·rw [h]
   decide
  ·exact nm_size h
 ·rw [List.length_map]
  have h := joinB_many sep (l.map PX.declB) (fun x hx => by
   obtain ⟨d, hd, rfl⟩ := List.mem_map.1 hx
   exact declB_ne)
  rw [List.length_map] at h
  exact Nat.le_trans h hl
theorem eq_ok (w0 : World) (toks : List LX.Tok) {q : PX.Eq} (hw : PX.WfQ q) (hl : (PX.eqB q).length ≤ 1000000) :
  EqIs w0 (Px.realQ toks q) (eqT (Px.realQ toks q) (tqE (Px.realQ toks q))) ∧ (eqT (Px.realQ toks q) (tqE (Px.realQ toks q))).size ≤ 1000000 := by
 have h1 : (PX.leftsB q.left).length + (PX.textE q.e).length ≤ (PX.eqB q).length := by
  unfold PX.eqB
  simp only [List.length_append]
  omega
 have h2 : (PX.joinB [44, 32] (q.left.map (·.name))).length ≤ (PX.leftsB q.left).length := by
  unfold PX.leftsB PX.parB
  split
  ·simp only [List.length_append, List.length_cons]
   omega
  ·exact Nat.le_refl _
 have h3 := joinB_many [44, 32] (q.left.map (·.name)) (fun x hx => by
  obtain ⟨d, hd, rfl⟩ := List.mem_map.1 hx
  obtain ⟨⟨c, r, hc, _⟩, _⟩ := hw.names d hd
  rw [hc]
  simp)
 rw [List.length_map] at h3
 refine ⟨eq_walk ?_ ?_ ?_ ?_, ?_⟩
 ·have h := text_is w0 (wf_unp hw.e) (Px.real toks q.e) (toX_real toks q.e) (by rw [PX.textE_unp]; omega)
  show TxtIs w0 (Px.real toks q.e) (ba (PX.textE (toX (Px.real toks q.e))))
  rw [toX_real]
  exact h
 ·rw [tqE_real, ba_size]
  omega
 ·show (q.left.map (Px.realL toks)).length ≤ _
  rw [List.length_map]
  omega
 ·show (joinT ((q.left.map (Px.realL toks)).map fun x => x.f0) sepB).size ≤ _
  rw [List.map_map, show (fun x : L => x.f0) ∘ Px.realL toks = fun x => ba x.name from rfl, show sepB = ba [44, 32] from rfl, joinT_eq [44, 32] q.left (fun x => x.name), ba_size]
  have : (PX.joinB [44, 32] (q.left.map fun x => x.name)).length ≤ (PX.leftsB q.left).length := h2
  omega
 ·rw [eqT_real, ba_size]
  exact hl
theorem eqsB_mem : ∀ (l : List PX.Eq) {q : PX.Eq}, q ∈ l → (PX.eqB q).length ≤ (PX.eqsB l).length
 | x :: r, q, h => by
  rw [PX.eqsB, List.length_append]
  rcases List.mem_cons.1 h with rfl | h
  ·omega
  ·have := eqsB_mem r h
   omega
theorem nodesB_mem : ∀ (l : List PX.Nd) {n : PX.Nd}, n ∈ l → (PX.nodeB n).length ≤ (PX.nodesB l).length
 | x :: r, q, h => by
  rw [PX.nodesB, List.length_append]
  rcases List.mem_cons.1 h with rfl | h
  ·omega
  ·have := nodesB_mem r h
   omega
theorem node_ok (w0 : World) (toks : List LX.Tok) {n : PX.Nd} (hw : PX.WfN n) (hl : (PX.nodeB n).length ≤ 1000000) : NodeOk w0 tqE (Px.realN toks n) := by
 have h1 : (PX.declsB [44, 32] n.ins).length + (PX.declsB [44, 32] n.outs).length + (PX.eqsB n.eqs).length ≤ (PX.nodeB n).length := by
  unfold PX.nodeB
  simp only [List.length_append]
  omega
 have h2 : (PX.declsB [59, 32] n.vars).length ≤ (PX.nodeB n).length := by
  unfold PX.nodeB
  cases n.vars with
  | nil => exact Nat.zero_le _
  | cons d r =>
   simp only [List.length_append, List.isEmpty_cons, Bool.false_eq_true, if_false]
   omega
 have hi := dcs_ok w0 toks [44, 32] (fun d hd => (hw.ins d hd).1) (by omega)
 have ho := dcs_ok w0 toks [44, 32] (fun d hd => (hw.outs d hd).1) (by omega)
 have hv := dcs_ok w0 toks [59, 32] hw.vars (by omega)
 refine ⟨hi.1, hi.2, ho.1, ho.2, hv.1, hv.2, nm_size hw.name, ?_⟩
 intro q hq
 obtain ⟨x, hx, rfl⟩ := List.mem_map.1 hq
 have := eqsB_mem n.eqs hx
 exact eq_ok w0 toks (hw.eqs x hx) (by omega)
theorem print_real {w0 : World} (toks : List LX.Tok) {l : List PX.Nd} (A : Option Addr) (c : Nat) (w : World) (hl : Kd.C k50 w0 A l.length (l.map (Px.realN toks))) (hn : ∀ n ∈ l, PX.WfN n) (hlen : (PX.nodesB l).length ≤ 1000000) (hb : Below w0.heap.size w0 w) (hT : Tl.Tabs w) :
  Calls Tryz.prog 16 #[.slice A l.length c] w fun e w' => e = .returned (.string (ba (PX.nodesB l))) ∧ Below w.heap.size w w' := by
 have h := print_walk (tq := tqE) (l := l.map (Px.realN toks)) A c w (by rw [List.length_map]; exact hl) (fun n hn1 => by
  obtain ⟨x, hx, rfl⟩ := List.mem_map.1 hn1
  have := nodesB_mem l hx
  exact node_ok w0 toks (hn x hx) (by omega)) (by rw [nodesT_real]; exact hlen) hb hT
 rw [nodesT_real, List.length_map] at h
 exact h
end Go.Proofs.YtjafllnbgfcchaaGreatDoor.Tx
end
section
/- The canonical text of what was read is not long. -/
namespace Go.Proofs.YtjafllnbgfcchaaGreatDoor.Tx
set_option linter.unusedVariables false
set_option linter.unusedSimpArgs false
open Go Go.RowKit
theorem digs_len : ∀ (k n : Nat), (PX.digs k n).length ≤ k
 | 0, n => Nat.le_refl _
 | k + 1, n => by
  rw [PX.digs]
  split
  ·simp
  ·have := digs_len k (n / 10)
   rw [List.length_append, List.length_singleton]
   omega
theorem numB_len (n : Int) : (PX.numB n).length ≤ 21 := by
 unfold PX.numB PX.digits
 have := digs_len 20 n.natAbs
 split
 ·rw [List.length_cons]
  omega
 ·omega
theorem parB_len (x : PX.B) : (PX.parB x).length = x.length + 2 := by simp [PX.parB]
theorem at_len2 (e : PX.Ex) (least : Nat) : ((PX.kbE e).at_ least).length ≤ (PX.textE e).length + 2 := by
 unfold PX.Kb.at_
 split
 ·rw [parB_len]
  exact Nat.le_refl _
 ·exact Nat.le_add_right _ _
theorem commas_le : ∀ l : List PX.Ex, (∀ x ∈ l, (PX.textE x).length + 2 ≤ 60 * PX.nsz x) → (PX.commasB ((PX.kbsE l).map PX.Kb.txt)).length ≤ 60 * PX.nszs l
 | [], _ => Nat.zero_le _
 | [x], h => by
  have h1 := h x (by simp)
  show (PX.textE x).length ≤ 60 * (PX.nsz x + 0)
  omega
 | x :: y :: r, h => by
  have h1 := h x (by simp)
  have h2 := commas_le (y :: r) (fun z hz => h z (List.mem_cons_of_mem _ hz))
  show (PX.textE x ++ 44 :: 32 :: PX.commasB ((PX.kbsE (y :: r)).map PX.Kb.txt)).length ≤ 60 * (PX.nsz x + PX.nszs (y :: r))
  rw [List.length_append, List.length_cons, List.length_cons]
  omega
theorem nm_len {m : PX.B} (h : PX.NameOk m) : m.length ≤ 30 := h.2.2.2
theorem clockB_len {m : PX.B} (h : m.length ≤ 30) (o : Bool) : (PX.clockB m o).length ≤ 40 := by
 unfold PX.clockB
 split
 ·exact Nat.zero_le _
 ·split
  ·rw [List.length_append]
   show 10 + m.length ≤ 40
   omega
  ·rw [List.length_append]
   show 6 + m.length ≤ 40
   omega
theorem sign_len : ∀ m ∈ PX.allSigns, m.length ≤ 10 := by decide
theorem textE_le {e : PX.Ex} (h : PX.Wf e) : (PX.textE e).length + 2 ≤ 60 * PX.nsz e := by
 induction h with
 | num q n h0 h1 =>
  have := numB_len n
  show (PX.numB n).length + 2 ≤ 60 * (0 + 1)
  omega
 | truth q n h =>
  show (if n = 1 then ([116, 114, 117, 101] : PX.B) else [102, 97, 108, 115, 101]).length + 2 ≤ 60 * (0 + 1)
  split <;> decide
 | var q m h =>
  have := nm_len h
  show m.length + 2 ≤ 60 * (0 + 1)
  omega
 | neg q a _ ih =>
  have := at_len2 a 8
  show (45 :: (if a.kind = 1 ∨ ((PX.kbE a).at_ 8).head? = some 45 then PX.parB (PX.textE a) else (PX.kbE a).at_ 8)).length + 2 ≤ 60 * ((PX.nsz a + 0) + 1)
  rw [List.length_cons]
  split
  ·rw [parB_len]
   omega
  ·omega
 | not_ q a _ ih =>
  have := at_len2 a 4
  show (([110, 111, 116, 32] : PX.B) ++ (PX.kbE a).at_ 4).length + 2 ≤ 60 * ((PX.nsz a + 0) + 1)
  rw [List.length_append]
  simp only [List.length_cons, List.length_nil]
  omega
 | sign q m a b hm _ _ iha ihb =>
  have h1 := at_len2 a (if PX.signLevel m = 5 then 6 else PX.signLevel m)
  have h2 := at_len2 b (PX.signLevel m + 1)
  have h3 := sign_len m hm
  show ((PX.kbE a).at_ (if PX.signLevel m = 5 then 6 else PX.signLevel m) ++ 32 :: (m ++ 32 :: (PX.kbE b).at_ (PX.signLevel m + 1))).length + 2 ≤ 60 * ((PX.nsz a + (PX.nsz b + 0)) + 1)
  simp only [List.length_append, List.length_cons, List.length_nil]
  omega
 | if_ q a b c _ _ _ iha ihb ihc =>
  show (([105, 102, 32] : PX.B) ++ (PX.textE a ++ ([32, 116, 104, 101, 110, 32] ++ (PX.textE b ++ ([32, 101, 108, 115, 101, 32] ++ PX.textE c))))).length + 2 ≤ 60 * ((PX.nsz a + (PX.nsz b + (PX.nsz c + 0))) + 1)
  simp only [List.length_append, List.length_cons, List.length_nil]
  omega
 | arrow q a b _ _ iha ihb =>
  have h1 := at_len2 a 2
  have h2 := at_len2 b 1
  show ((PX.kbE a).at_ 2 ++ ([32, 45, 62, 32] : PX.B) ++ (PX.kbE b).at_ 1).length + 2 ≤ 60 * ((PX.nsz a + (PX.nsz b + 0)) + 1)
  simp only [List.length_append, List.length_cons, List.length_nil]
  omega
 | fby q a b hk _ _ iha ihb =>
  have h2 := at_len2 b 1
  show (PX.textE a ++ ([32, 102, 98, 121, 32] : PX.B) ++ (PX.kbE b).at_ 1).length + 2 ≤ 60 * ((PX.nsz a + (PX.nsz b + 0)) + 1)
  simp only [List.length_append, List.length_cons, List.length_nil]
  omega
 | pre q a _ ih =>
  have := at_len2 a 8
  show (([112, 114, 101, 32] : PX.B) ++ (PX.kbE a).at_ 8).length + 2 ≤ 60 * ((PX.nsz a + 0) + 1)
  simp only [List.length_append, List.length_cons, List.length_nil]
  omega
 | when_ q m o a hm _ ih =>
  have h1 := at_len2 a 9
  have h2 := clockB_len (nm_len hm) o
  show ((PX.kbE a).at_ 9 ++ PX.clockB m o).length + 2 ≤ 60 * ((PX.nsz a + 0) + 1)
  rw [List.length_append]
  omega
 | merge q m a b hm _ _ iha ihb =>
  have h1 := nm_len hm
  show (([109, 101, 114, 103, 101, 32] : PX.B) ++ (m ++ 32 :: (PX.parB (PX.textE a) ++ 32 :: PX.parB (PX.textE b)))).length + 2 ≤ 60 * ((PX.nsz a + (PX.nsz b + 0)) + 1)
  simp only [List.length_append, List.length_cons, List.length_nil, parB_len]
  omega
 | call q m l hm _ ih =>
  have h1 := nm_len hm
  have h2 := commas_le l ih
  show (m ++ PX.parB (PX.commasB ((PX.kbsE l).map PX.Kb.txt))).length + 2 ≤ 60 * (PX.nszs l + 1)
  rw [List.length_append, parB_len]
  omega
 | await q m l hm _ hk ih =>
  have h1 := nm_len hm
  have h2 := commas_le l ih
  show (([97, 119, 97, 105, 116, 32] : PX.B) ++ (m ++ (if (PX.kbsE l).isEmpty then [] else [32, 97, 102, 116, 101, 114, 32] ++ PX.parB (PX.commasB ((PX.kbsE l).map PX.Kb.txt))))).length + 2 ≤ 60 * (PX.nszs l + 1)
  split
  ·simp only [List.length_append, List.length_cons, List.length_nil]
   omega
  ·simp only [List.length_append, List.length_cons, List.length_nil, parB_len]
   omega
theorem join_le (sep : PX.B) (hs : sep.length = 2) (c : Nat) : ∀ l : List PX.B, (∀ x ∈ l, x.length + 2 ≤ c) → (PX.joinB sep l).length ≤ c * l.length
 | [], _ => Nat.zero_le _
 | [x], h => by
  have := h x (by simp)
  show x.length ≤ c * 1
  omega
 | x :: y :: r, h => by
  have h1 := h x (by simp)
  have h2 := join_le sep hs c (y :: r) (fun z hz => h z (List.mem_cons_of_mem _ hz))
  show (x ++ sep ++ PX.joinB sep (y :: r)).length ≤ c * ((y :: r).length + 1)
  rw [List.length_append, List.length_append, Nat.mul_add]
  omega
theorem declB_le {d : PX.Dc} (h : PX.WfD d) : (PX.declB d).length + 2 ≤ 100 := by
 have h1 := nm_len h.name
 have h2 : d.clock.length ≤ 30 := by
  rcases h.clock with h | h
  ·rw [h]
   exact Nat.zero_le _
  ·exact nm_len h
 have h3 := clockB_len h2 d.off
 have h4 : (PX.typeB d.bool d.future).length ≤ 11 := by cases d.bool <;> cases d.future <;> decide
 unfold PX.declB
 simp only [List.length_append, List.length_cons, List.length_nil]
 omega
theorem declsB_le (sep : PX.B) (hs : sep.length = 2) {l : List PX.Dc} (h : ∀ d ∈ l, PX.WfD d) : (PX.declsB sep l).length ≤ 100 * l.length := by
 have := join_le sep hs 100 (l.map PX.declB) (fun x hx => by
  obtain ⟨d, hd, rfl⟩ := List.mem_map.1 hx
  exact declB_le (h d hd))
 rw [List.length_map] at this
 exact this
theorem eqB_le {q : PX.Eq} (h : PX.WfQ q) : (PX.eqB q).length ≤ 100 * PX.szQ q := by
 have h1 := textE_le h.e
 have h2 := join_le [44, 32] rfl 32 (q.left.map (·.name)) (fun x hx => by
  obtain ⟨d, hd, rfl⟩ := List.mem_map.1 hx
  have := nm_len (h.names d hd)
  omega)
 rw [List.length_map] at h2
 have h3 : (PX.leftsB q.left).length ≤ 32 * q.left.length + 2 := by
  unfold PX.leftsB
  split
  ·rw [parB_len]
   omega
  ·omega
 have h4 : (if q.async then ([32, 61, 32, 97, 115, 121, 110, 99, 32] : PX.B) else [32, 61, 32]).length ≤ 9 := by split <;> decide
 unfold PX.eqB PX.szQ
 rw [List.length_append, List.length_append, List.length_append, List.length_append]
 simp only [List.length_cons, List.length_nil]
 omega
theorem eqsB_le : ∀ {l : List PX.Eq}, (∀ q ∈ l, PX.WfQ q) → (PX.eqsB l).length ≤ 100 * (l.map PX.szQ).sum
 | [], _ => Nat.zero_le _
 | q :: r, h => by
  have h1 := eqB_le (h q (by simp))
  have h2 := eqsB_le (l := r) (fun z hz => h z (List.mem_cons_of_mem _ hz))
  rw [PX.eqsB, List.length_append, List.map_cons, List.sum_cons]
  omega
theorem nodeB_le {n : PX.Nd} (h : PX.WfN n) : (PX.nodeB n).length ≤ 100 * PX.szN n := by
 have h0 := nm_len h.name
 have h1 := declsB_le [44, 32] rfl (fun d hd => (h.ins d hd).1)
 have h2 := declsB_le [44, 32] rfl (fun d hd => (h.outs d hd).1)
 have h3 := declsB_le [59, 32] rfl h.vars
 have h4 := eqsB_le h.eqs
 have h5 : (if n.vars.isEmpty then ([] : PX.B) else [118, 97, 114, 32] ++ PX.declsB [59, 32] n.vars ++ [59, 10]).length ≤ 100 * n.vars.length + 6 := by
  split
  ·exact Nat.zero_le _
  ·simp only [List.length_append, List.length_cons, List.length_nil]
   omega
 unfold PX.nodeB PX.szN
 generalize (if n.vars.isEmpty then ([] : PX.B) else [118, 97, 114, 32] ++ PX.declsB [59, 32] n.vars ++ [59, 10]) = V at h5 ⊢
 simp only [List.length_append, List.length_cons, List.length_nil]
 omega
theorem nodesB_le : ∀ {l : List PX.Nd}, (∀ n ∈ l, PX.WfN n) → (PX.nodesB l).length ≤ 100 * (l.map PX.szN).sum
 | [], _ => Nat.zero_le _
 | n :: r, h => by
  have h1 := nodeB_le (h n (by simp))
  have h2 := nodesB_le (l := r) (fun z hz => h z (List.mem_cons_of_mem _ hz))
  rw [PX.nodesB, List.length_append, List.map_cons, List.sum_cons]
  omega
theorem read_small {s : PX.B} {toks : List LX.Tok} {K : Nat} {l : List PX.Nd} {rest : List PX.T} (h : LX.all s = .ok toks) (hp : PX.program K (toks.map tkp) = .ok l rest) : (PX.nodesB l).length ≤ 1000000 := by
 have h1 := nodesB_le (PX.read_nodes h hp).1
 have h2 := PX.program_size hp
 have h3 := (all_ok h).2
 rw [List.length_map] at h2
 omega
end Go.Proofs.YtjafllnbgfcchaaGreatDoor.Tx
end
section
/- The law ParsePrints, walked. -/
namespace Go.Proofs.YtjafllnbgfcchaaGreatDoor.Pr
set_option linter.unusedVariables false
set_option linter.unusedSimpArgs false
open Go Go.RowKit Go.Proofs.YtjafllnbgfcchaaGreatDoorW.PrintWords Go.Proofs.YtjafllnbgfcchaaGreatDoorW.PrintLast Go.Proofs.YtjafllnbgfcchaaGreatDoorW.PrintMore Go.Proofs.YtjafllnbgfcchaaGreatDoor.Lx Go.Proofs.YtjafllnbgfcchaaGreatDoor.XK Go.Proofs.YtjafllnbgfcchaaGreatDoor.XPR Go.Proofs.YtjafllnbgfcchaaGreatDoor.Px Go.Proofs.YtjafllnbgfcchaaGreatDoor.Ck Go.Proofs.YtjafllnbgfcchaaGreatDoor.Ow
attribute [local go_sem ↓] Go.wp_at_zero Go.wp_at_succ
attribute [local go_sem high] eqA27
theorem cut_f (s : ByteArray) : girandolelaw01_Cut.f s 1500 = some (if 1500 < s.size then s.extract 0 1500 else s) := by
 unfold girandolelaw01_Cut.f
 by_cases h : 1500 < s.size
 ·rw [if_pos (by omega), if_pos (by decide), if_pos (by omega), if_pos h]
  rfl
 ·rw [if_neg (by omega), if_neg h]
theorem cut_size (s : ByteArray) : (if 1500 < s.size then s.extract 0 1500 else s).size ≤ 1500 := by
 split
 ·rw [ByteArray.size_extract]
  omega
 ·omega
theorem awake_ok : girandolelaw03_awake.f = some true := by decide +kernel
abbrev ftO (a e : Int) : Obj := .cells #[.int .i64 a, .int .i64 e] 27 (0, 0)
theorem again {s : ByteArray} {toks : List LX.Tok} {l : List PX.Nd} {s' : List PX.T} (h : LX.all s.data.toList = .ok toks) (hp : PX.program (Px.rounds toks) (toks.map Px.tk) = .ok l s') (hs : (Tx.ba (PX.nodesB l)).size ≤ 4000) {n0 : Nat} {e : Ending} {w' : World} (hI : ProgIs (Tx.ba (PX.nodesB l)).data.toList n0 e w') :
  ∃ toks2 l2 A c, e = .returned (.tuple #[.slice A l2.length c, .agg #[.int .i64 0, .int .i64 0]]) ∧ Kd.C k50 w' A l2.length (l2.map (Px.realN toks2)) ∧ (∀ n ∈ l2, PX.WfN n) ∧ PX.nodesB l2 = PX.nodesB l := by
 obtain ⟨hw, hl⟩ := PX.read_nodes h hp
 rw [Tx.ba_size] at hs
 obtain ⟨toks2, l2, h1, h2, h3⟩ := PX.read_canon hs (PX.Lexes.nodes l hw) hl hw
 have h4 := (PX.read_nodes h1 h2).1
 rw [Tx.ba_list] at hI
 unfold ProgIs at hI
 rw [h1] at hI
 dsimp only at hI
 rw [show PX.program (Px.rounds toks2) (toks2.map Px.tk) = _ from h2] at hI
 obtain ⟨v, he, hR⟩ := hI
 obtain ⟨A, c, rfl, _, hC⟩ := Kd.R_reads hR
 rw [List.length_map] at he hC
 exact ⟨toks2, l2, A, c, he, hC, h4, PX.nodesB_sim h3⟩
set_option maxHeartbeats 4000000 in
set_option maxRecDepth 100000 in
theorem law_walk (s0 : ByteArray) (w : World) (hT : XPR.Tabs w) (hT2 : Tl.Tabs w) :
  Calls Tryz.prog 11 #[.string s0] w fun e w' => e = .returned (.bool true) ∧ Below w.heap.size w w' := by
 obtain ⟨s, hs⟩ : ∃ s, (if 1500 < s0.size then s0.extract 0 1500 else s0) = s := ⟨_, rfl⟩
 have hsz := cut_size s0
 have hcut := cut_f s0
 rw [hs] at hsz hcut
 have HC := Lib.hid (And.intro hcut hsz)
 have HT := Lib.hid (And.intro hT hT2)
 have HO := Lib.hid (Ow.start w)
 clear hs hsz hcut hT hT2
 go_enter Tryz.func11, Tryz.ntmps11
 go_wp2_with (fail)
 refine (girandolelaw01_Cut.calls s0 1500 s _ HC.out.1).mono ?_
 rintro e w1 ⟨rfl, hd⟩
 obtain ⟨n1, rfl⟩ := hd
 have HO1 := Lib.hid (HO.out.drewN (n := n1))
 generalize hW1 : World.drewN _ n1 = W1 at HO1 ⊢
 clear hW1 HO
 go_wp2_with (fail)
 refine (girandolelaw03_awake.calls true _ awake_ok (XPR.Tabs.below HT.out.1 HO1.out.bel)).mono ?_
 rintro e w3 ⟨rfl, hb⟩
 have HO3 := Lib.hid (HO1.out.below hb)
 clear hb HO1
 go_wp2_with (fail)
 refine (Px.parseProgram_walk s _ (XPR.Tabs.below HT.out.1 HO3.out.bel) (by have := HC.out.2; omega)).mono ?_
 rintro e w4 ⟨hb, hI⟩
 have HO4 := Lib.hid (HO3.out.below hb)
 have hI2 : (∃ a er, er ≠ 0 ∧ e = .returned (.tuple #[.slice none 0 0, .agg #[.int .i64 a, .int .i64 er]])) ∨ ∃ toks l s' A cp, e = .returned (.tuple #[.slice A l.length cp, .agg #[.int .i64 0, .int .i64 0]]) ∧ Kd.C k50 w4 A l.length (l.map (Px.realN toks)) ∧ LX.all s.data.toList = .ok toks ∧ PX.program (Px.rounds toks) (toks.map Px.tk) = .ok l s' := by
  unfold Px.ProgIs at hI
  cases hx : LX.all s.data.toList with
  | error q =>
   obtain ⟨k, c⟩ := q
   rw [hx] at hI
   exact .inl ⟨_, _, by have := all_err hx; omega, hI⟩
  | ok toks =>
   rw [hx] at hI
   dsimp only at hI
   cases hr : PX.program (Px.rounds toks) (toks.map tk) with
   | out => rw [hr] at hI; exact hI.elim
   | bad q c =>
    rw [hr] at hI
    exact .inl ⟨_, _, by have := PX.Errs.program q c hr; omega, hI⟩
   | ok l s' =>
    rw [hr] at hI
    obtain ⟨v, he, hR⟩ := hI
    obtain ⟨A, cp, rfl, hl, hC⟩ := Kd.R_reads hR
    rw [List.length_map] at he hC
    exact .inr ⟨toks, l, s', A, cp, he, hC, rfl, hr⟩
 clear hI hb
 rcases hI2 with ⟨a, er, her, rfl⟩ | ⟨toks, l, s', A, cp, rfl, hC, hx, hr⟩
 ·have HO5 := Lib.hid (HO4.out.new (q := ftO a er))
  have i0 : (er == 0) = false := beq_eq_false_iff_ne.2 her
  have i1 : (er = 0) = False := eq_false her
  clear her
  go_wp2_with (fail)
  go_ret
  exact ⟨rfl, HO5.out.bel⟩
 ·have HN := Lib.hid (And.intro hC (And.intro hx hr))
  clear hC hx hr
  have HO5 := Lib.hid (HO4.out.newg (g := w4.heap.size) (q := ftO 0 0) rfl)
  go_wp2_with (fail)
  obtain ⟨w5, hw5⟩ : ∃ w5, w4.alloc (ftO 0 0) = w5 := ⟨_, rfl⟩
  have HB5 : Hid (Below w4.heap.size w4 w5) := Lib.hid (by rw [← hw5]; exact below_alloc (Below.refl _ _) _)
  have HS := Lib.hid (Tx.read_small HN.out.2.1 HN.out.2.2)
  have HF := Lib.hid (PX.read_nodes HN.out.2.1 HN.out.2.2)
  rw [show w4.alloc (Obj.cells #[Value.int IntKind.i64 0, Value.int IntKind.i64 0] 27 (0, 0)) = w5 from hw5]
  have HO6 : Hid (Ow w w5 []) := Lib.hid (by rw [← hw5]; exact HO4.out.below (below_alloc (Below.refl _ _) _))
  clear hw5 HO5
  refine (Tx.print_real toks A cp _ HN.out.1 HF.out.1 HS.out HB5.out (Tl.Tabs.below HT.out.2 HO6.out.bel)).mono ?_
  rintro e w6 ⟨rfl, hb⟩
  have HO7 := Lib.hid (HO6.out.below hb)
  clear hb HO6 HB5 HO4 HO3
  obtain ⟨t, ht⟩ : ∃ t, Tx.ba (PX.nodesB l) = t := ⟨_, rfl⟩
  have HX := Lib.hid ht
  rw [ht]
  clear ht
  by_cases hz : 4000 < t.size
  ·have i0 : ((4000 : Int) < (t.size : Int)) = True := eq_true (by omega)
   have i1 : decide ((4000 : Int) < (t.size : Int)) = true := decide_eq_true (by omega)
   clear hz
   go_wp2_with (fail)
   go_ret
   exact ⟨rfl, HO7.out.bel⟩
  ·have i0 : ((4000 : Int) < (t.size : Int)) = False := eq_false (by omega)
   have i1 : decide ((4000 : Int) < (t.size : Int)) = false := decide_eq_false (by omega)
   have HZ : Hid (t.size ≤ 4000) := Lib.hid (by omega)
   clear hz
   go_wp2_with (fail)
   refine (Px.parseProgram_walk t _ (XPR.Tabs.below HT.out.1 HO7.out.bel) HZ.out).mono ?_
   rintro e w8 ⟨hb, hI⟩
   have HO8 := Lib.hid (HO7.out.below hb)
   have hI2 := again HN.out.2.1 HN.out.2.2 (by rw [HX.out]; exact HZ.out) (by rw [HX.out]; exact hI)
   clear hI hb i0 i1
   obtain ⟨toks2, l2, A2, c2, rfl, hC2, hw2, he2⟩ := hI2
   have HM := Lib.hid (And.intro hC2 (And.intro hw2 he2))
   clear hC2 hw2 he2
   go_wp2_with (fail)
   obtain ⟨w9, hw9⟩ : ∃ w9, w8.alloc (ftO 0 0) = w9 := ⟨_, rfl⟩
   have HB9 : Hid (Below w8.heap.size w8 w9) := Lib.hid (by rw [← hw9]; exact below_alloc (Below.refl _ _) _)
   rw [show w8.alloc (Obj.cells #[Value.int IntKind.i64 0, Value.int IntKind.i64 0] 27 (0, 0)) = w9 from hw9]
   have HO9 : Hid (Ow w w9 []) := Lib.hid (by rw [← hw9]; exact HO8.out.below (below_alloc (Below.refl _ _) _))
   clear hw9
   refine (Tx.print_real toks2 A2 c2 _ HM.out.1 HM.out.2.1 (by rw [HM.out.2.2]; exact HS.out) HB9.out (Tl.Tabs.below HT.out.2 HO9.out.bel)).mono ?_
   rintro e w10 ⟨rfl, hb⟩
   have HOA := Lib.hid (HO9.out.below hb)
   have ht2 : Tx.ba (PX.nodesB l2) = t := by rw [HM.out.2.2]; exact HX.out
   rw [ht2]
   clear hb ht2
   go_wp2_with (fail)
   go_ret
   exact ⟨rfl, HOA.out.bel⟩
end Go.Proofs.YtjafllnbgfcchaaGreatDoor.Pr
end
