/- The first node of a name, walked. -/
import Derived.Test.YtjafllnbgfcchaaDoorZFXKx1
import Derived.Lib.Hide
import Derived.Deep.DeepMust
namespace Go.Proofs.YtjafllnbgfcchaaDoor.Fnd
set_option linter.unusedVariables false
set_option linter.unusedSimpArgs false
open Go Go.RowKit Go.Proofs.YtjafllnbgfcchaaDoorW.PrintWords Go.Proofs.YtjafllnbgfcchaaDoorW.PrintLast Go.Proofs.YtjafllnbgfcchaaDoorW.PrintMore Go.Proofs.YtjafllnbgfcchaaDoor.XK
def sameB (a b : ByteArray) : Bool := a.data.toList == b.data.toList
def findN : List S34 → ByteArray → Option S34
 | [], _ => none
 | x :: r, m => if sameB x.f0 m then some x else findN r m
theorem toList_data (s : ByteArray) : s.toList = s.data.toList := by
 obtain ⟨⟨l⟩⟩ := s
 exact ByteArray.toList_mk l
theorem blk_set6' {w : World} {g : Nat} {t : TypeId} {a0 a1 a2 a3 a4 a5 : Value} (h : w.heap[g]? = some (.cells #[a0, a1, a2, a3, a4, a5] t (0, 0))) (v0 v1 v2 v3 v4 v5 : Value) :
  ((((((w.setCell ⟨g, 0, none⟩ v0).setCell ⟨g, 1, none⟩ v1).setCell ⟨g, 2, none⟩ v2).setCell ⟨g, 3, none⟩ v3).setCell ⟨g, 4, none⟩ v4).setCell ⟨g, 5, none⟩ v5).heap[g]? = some (.cells #[v0, v1, v2, v3, v4, v5] t (0, 0)) :=
 blk_put (blk_put (blk_put (blk_put (blk_put (blk_put h 0 v0 rfl) 1 v1 rfl) 2 v2 rfl) 3 v3 rfl) 4 v4 rfl) 5 v5 rfl
theorem below_set6 {n : Nat} {w W : World} {g : Nat} (h : Below n w W) (hg : n ≤ g) (v0 v1 v2 v3 v4 v5 : Value) :
  Below n w ((((((W.setCell ⟨g, 0, none⟩ v0).setCell ⟨g, 1, none⟩ v1).setCell ⟨g, 2, none⟩ v2).setCell ⟨g, 3, none⟩ v3).setCell ⟨g, 4, none⟩ v4).setCell ⟨g, 5, none⟩ v5) :=
 Below.setCell (Below.setCell (Below.setCell (Below.setCell (Below.setCell (Below.setCell h hg _) hg _) hg _) hg _) hg _) hg _
set_option maxHeartbeats 4000000 in
set_option maxRecDepth 100000 in
theorem find_walk (A : Option Addr) (c : Nat) (l : List S34) (m : ByteArray) (w0 w : World) (hb0 : Below w0.heap.size w0 w) (hr : Kd.C k34 w0 A l.length l) (hc : l.length ≤ c) :
  Calls Tryd.prog 86 #[.slice A l.length c, .string m] w fun e w' => Below w.heap.size w w' ∧ match findN l m with
   | some x => ∃ cs, k34.K w0 x cs ∧ e = .returned (.tuple #[.agg cs.toArray, .bool true])
   | none => e = .returned (.tuple #[.agg #[.string ⟨#[]⟩, .int .i64 0, .slice none 0 0, .slice none 0 0, .slice none 0 0, .slice none 0 0], .bool false]) := by
 have hu34 := Tryd.underlying34
 have HR := Lib.hid (And.intro hr (And.intro hc hb0))
 obtain ⟨Q, hQ⟩ : ∃ Q : Ending → World → Prop, Q = fun e w' => Below w.heap.size w w' ∧ match findN l m with
   | some x => ∃ cs, k34.K w0 x cs ∧ e = .returned (.tuple #[.agg cs.toArray, .bool true])
   | none => e = .returned (.tuple #[.agg #[.string ⟨#[]⟩, .int .i64 0, .slice none 0 0, .slice none 0 0, .slice none 0 0, .slice none 0 0], .bool false]) := ⟨_, rfl⟩
 rw [← hQ]
 have HQ := Lib.hid hQ
 clear hr hc hb0 hQ
 go_enter Tryd.func86, Tryd.ntmps86
 go_wp2_with (fail)
 have hB0 := below_alloc (Below.refl w.heap.size w) (Obj.cells #[.string ⟨#[]⟩, .int .i64 0, .slice none 0 0, .slice none 0 0, .slice none 0 0, .slice none 0 0] 34)
 have HB0 := Lib.hid (And.intro hB0 (blk_new w (Obj.cells #[.string ⟨#[]⟩, .int .i64 0, .slice none 0 0, .slice none 0 0, .slice none 0 0, .slice none 0 0] 34)))
 clear hB0
 go_loopg [10] (l.length + 1) (fun m9 u wr => ∃ x : Int, u = .int .i64 x ∧ 0 ≤ x ∧ x ≤ (l.length : Int) ∧ m9 = l.length + 1 - x.toNat ∧ Hid (Below w.heap.size w wr ∧ wr.heap[w.heap.size]? = some (.cells #[.string ⟨#[]⟩, .int .i64 0, .slice none 0 0, .slice none 0 0, .slice none 0 0, .slice none 0 0] 34 (0, 0))) ∧ Hid (findN l m = findN (l.drop x.toNat) m))
 case atStart => exact ⟨0, rfl, Int.le_refl _, by omega, by simp, Lib.hid ⟨HB0.out.1, HB0.out.2⟩, Lib.hid (by simp)⟩
 case round =>
  obtain ⟨x, rfl, h0, h1, rfl, HB, HF⟩ := hrel
  have r0 := blk_cell HB.out.2 0
  have r1 := blk_cell HB.out.2 1
  have r2 := blk_cell HB.out.2 2
  have r3 := blk_cell HB.out.2 3
  have r4 := blk_cell HB.out.2 4
  have r5 := blk_cell HB.out.2 5
  have rf := fun j => blk_frozen HB.out.2 j
  have rl := blk_lt HB.out.2
  rcases Int.lt_or_le x (l.length : Int) with hlt | hge
  ·have c12 : decide (x < (l.length : Int)) = true := decide_eq_true hlt
   have c13 : decide (0 ≤ x) = true := decide_eq_true h0
   obtain ⟨ad, A2, c2, A3, c3, A4, c4, A5, c5, e1, hx0, hx1, hx2, hx3, hx4, hx5, hl⟩ := at_T34 HR.out.1 x h0 hlt
   cases e1
   replace hx0 := (HB.out.1.cell (World.block_lt_of_cell? w _ (pw_cell_below HR.out.2.2 hx0))).trans (pw_cell_below HR.out.2.2 hx0)
   replace hx1 := (HB.out.1.cell (World.block_lt_of_cell? w _ (pw_cell_below HR.out.2.2 hx1))).trans (pw_cell_below HR.out.2.2 hx1)
   replace hx2 := (HB.out.1.cell (World.block_lt_of_cell? w _ (pw_cell_below HR.out.2.2 hx2))).trans (pw_cell_below HR.out.2.2 hx2)
   replace hx3 := (HB.out.1.cell (World.block_lt_of_cell? w _ (pw_cell_below HR.out.2.2 hx3))).trans (pw_cell_below HR.out.2.2 hx3)
   replace hx4 := (HB.out.1.cell (World.block_lt_of_cell? w _ (pw_cell_below HR.out.2.2 hx4))).trans (pw_cell_below HR.out.2.2 hx4)
   replace hx5 := (HB.out.1.cell (World.block_lt_of_cell? w _ (pw_cell_below HR.out.2.2 hx5))).trans (pw_cell_below HR.out.2.2 hx5)
   have HL := Lib.hid hl
   have h0' : (0 ≤ x) = True := eq_true h0
   have hlt' : (x < (l.length : Int)) = True := eq_true hlt
   clear hl
   have hd : l.drop x.toNat = rd_T34 l x :: l.drop (x.toNat + 1) := by
    have hl9 : x.toNat < l.length := by omega
    rw [List.drop_eq_getElem_cons hl9]
    unfold rd_T34
    simp [hl9]
   have HD := Lib.hid hd
   clear hd
   go_wp2_with (fail)
   ·have he : ((rd_T34 l x).f0.toList == m.toList) = true := by assumption
    refine bodyPost_ret (results_ct rfl _ _ w.heap.size 34 _ (0, 0) _ rfl (blk_alloc (blk_set6' HB.out.2 _ _ _ _ _ _) _) Tryd.underlying34 rfl (by kernel_rfl)) rfl ?_
    rw [HQ.out]
    refine ⟨below_alloc (below_set6 HB.out.1 (Nat.le_refl _) _ _ _ _ _ _) _, ?_⟩
    rw [HF.out, HD.out, findN, if_pos (by rw [toList_data, toList_data] at he; exact he)]
    obtain ⟨l2, g2, l3, g3, l4, g4, l5, g5⟩ := HL.out
    exact ⟨_, k34_mk w0 _ l2 g2 l3 g3 l4 g4 l5 g5, rfl⟩
   ·have he : ((rd_T34 l x).f0.toList == m.toList) = false := by assumption
    have hw : wrap64 (x + 1) = x + 1 := by have h9 := HR.out.1.2.1; unfold maxLen at h9; unfold wrap64; omega
    rw [hw]
    go_roundg (l.length + 1 - (x + 1).toNat)
    case measure => omega
    case rel =>
     have hx9 : (x + 1).toNat = x.toNat + 1 := by omega
     refine ⟨x + 1, rfl, by omega, by omega, rfl, Lib.hid ⟨below_alloc HB.out.1 _, blk_alloc HB.out.2 _⟩, Lib.hid ?_⟩
     rw [HF.out, HD.out, findN, if_neg (by rw [toList_data, toList_data] at he; simp only [sameB, he]; decide), hx9]
  ·go_wp2_with (fail)
   have hx : x = (l.length : Int) := by omega
   subst hx
   refine bodyPost_ret (results_ct rfl _ _ w.heap.size 34 _ (0, 0) _ rfl (blk_set6' HB.out.2 _ _ _ _ _ _) Tryd.underlying34 rfl (by kernel_rfl)) rfl ?_
   rw [HQ.out]
   refine ⟨below_set6 HB.out.1 (Nat.le_refl _) _ _ _ _ _ _, ?_⟩
   rw [HF.out]
   simp [findN]
end Go.Proofs.YtjafllnbgfcchaaDoor.Fnd
