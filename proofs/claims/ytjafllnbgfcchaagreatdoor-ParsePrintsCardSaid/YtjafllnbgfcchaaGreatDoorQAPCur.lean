/- The parser's cursor, walked. -/
import Derived.Test.YtjafllnbgfcchaaGreatDoorQAPLib
import Derived.Deep.DrawnRows
namespace Go.Proofs.YtjafllnbgfcchaaGreatDoor.Px
set_option linter.unusedVariables false
set_option linter.unusedSimpArgs false
open Go Go.RowKit Go.Proofs.YtjafllnbgfcchaaGreatDoorW.PrintWords Go.Proofs.YtjafllnbgfcchaaGreatDoorW.PrintLast Go.Proofs.YtjafllnbgfcchaaGreatDoorW.PrintMore Go.Proofs.YtjafllnbgfcchaaGreatDoor.Lx
attribute [local go_sem ↓] Go.wp_at_zero Go.wp_at_succ
def tokA (t : LX.Tok) : Array Value := tokV t.kind t.at_ t.text t.n
set_option maxHeartbeats 4000000 in
theorem peek_walk (p b : Nat) (toks : List LX.Tok) (s : List PX.T) (w : World) (h : PAt w p b toks s) :
  Calls Tryz.prog 44 #[.pointer (some ⟨p, 0, none⟩)] w fun e w' => Below w.heap.size w w' ∧ ∃ t, PX.peek s = tk t ∧ atOf toks s.length = t.at_ ∧ e = .returned (.agg (tokA t)) := by
 have H := Lib.hid h
 clear h
 go_enter Tryz.func44, Tryz.ntmps44
 go_wp2_with (fail)
 generalize hW : w.alloc _ = W
 have hP : PAt W p b toks s := hW ▸ H.out.alloc _
 have hz : W.heap[w.heap.size]? = some (.cells #[.int .i64 0, .int .i64 0, .string ⟨#[]⟩, .int .u64 0] 35 (0, 0)) := by rw [← hW]; exact blk_new w _
 have hB : Below w.heap.size w W := by rw [← hW]; exact below_alloc (Below.refl _ _) _
 obtain ⟨t, c, k, hb, hc, hlt, hkl, ht, hp, hat, _⟩ := hP.head
 obtain ⟨c0, c1, fz⟩ := blk2p hb
 obtain ⟨t0, t1, t2, t3⟩ := hP.row k t ht
 obtain ⟨z0, z1, z2, z3, zf⟩ := TAt.c ⟨hz⟩
 have HP := Lib.hid (And.intro hp (And.intro hat (And.intro hB hz)))
 have hk0 : (0 : Int) ≤ (k : Int) := by omega
 have hk1 : (k : Int) < (toks.length : Int) := by omega
 clear hb hp hat hc hkl ht hP hB hz hW H
 go_region
 all_goals
  go_wp2_with (fail)
  (try simp only [Exit.inBlock, Exit.then])
  refine bodyPost_ret (results_cell_row rfl _ _ w.heap.size 35 (tokA t) (0, 0) _ rfl ?_ Tryz.underlying35 rfl (by kernel_rfl)) rfl ?_
  ·exact blk_drew (blk_set4 HP.out.2.2.2 _ _ _ _)
  ·exact ⟨below_drew (Below.setCell (Below.setCell (Below.setCell (Below.setCell HP.out.2.2.1 (Nat.le_refl _) _) (Nat.le_refl _) _) (Nat.le_refl _) _) (Nat.le_refl _) _), t, HP.out.1, HP.out.2.1, rfl⟩

set_option maxHeartbeats 4000000 in
theorem is_walk (p b g c : Nat) (toks : List LX.Tok) (s : List PX.T) (l : List PX.B) (w : World) (h : PAt w p b toks s) (hl : TextsAt w g l) (hg : g < w.heap.size) (hn : l.length ≤ 100) :
  Calls Tryz.prog 83 #[.pointer (some ⟨p, 0, none⟩), .slice (some ⟨g, 0, none⟩) l.length c] w fun e w' => e = .returned (.bool (PX.is l s)) ∧ Below w.heap.size w w' := by
 have H := Lib.hid h
 have HL := Lib.hid (And.intro hl hg)
 have hn' : (l.length : Int) ≤ 100 := by omega
 clear h hl hg
 go_enter Tryz.func83, Tryz.ntmps83
 go_wp2_with (fail)
 refine (peek_walk p b toks s _ H.out).mono ?_
 rintro e w1 ⟨hb1, t, hp, _, rfl⟩
 have hat1 : ∀ o, Below w.heap.size w (w1.alloc o) := fun o => below_alloc hb1 o
 have hl1 : ∀ o, TextsAt (w1.alloc o) g l := fun o => (HL.out.1.below (hb1) HL.out.2).below (below_alloc (Below.refl _ _) o) (Nat.lt_of_lt_of_le HL.out.2 hb1.size)
 have HP := Lib.hid (And.intro hp (And.intro hat1 hl1))
 clear hp hb1 hat1 hl1
 unfold tokA tokV
 by_cases hk : t.kind = 3 ∨ t.kind = 4
 ·have hk3 : ((t.kind : Int) != 3 && (t.kind : Int) != 4) = false := by
   rcases hk with e | e <;> rw [e] <;> rfl
  have HK := Lib.hid hk
  clear hk
  go_wp2_with (fail)
  all_goals
   generalize hW : w1.alloc _ = W
   have HW := Lib.hid (And.intro (hW ▸ HP.out.2.1 _) (And.intro (hW ▸ HP.out.2.2 _) (show W.heap[w1.heap.size]? = _ from hW ▸ blk_new w1 _)))
   obtain ⟨t0, t1, t2, t3, tf⟩ := blk4 HW.out.2.2
   go_loopw [7, 20] (fun u v wr => ∃ i : Nat, i ≤ l.length ∧ v = .int .i64 i ∧ wr = W ∧ Hid (∀ j (hj : j < l.length), j < i → l[j] ≠ t.text)) (fun _ v _ => l.length - (intOf v).toNat)
   case atStart => exact ⟨0, by omega, rfl, rfl, Lib.hid (fun j _ hj => by omega)⟩
   case round =>
    obtain ⟨i, hi, rfl, rfl, HN⟩ := hrel
    rcases Nat.lt_or_ge i l.length with hlt | hge
    ·have hlt' : (i : Int) < (l.length : Int) := by omega
     have hc := HW.out.2.1 i l[i] (List.getElem?_eq_getElem hlt)
     go_wp2_with (fail)
     ·have he : (l[i] == t.text) = true := by assumption
      go_ret
      refine ⟨Eq.trans (b := Ending.returned (Value.bool _)) rfl (congrArg (fun b => Ending.returned (Value.bool b)) ?_), HW.out.1⟩
      have he2 := eq_of_beq he
      simp only [PX.is, HP.out.1, tk]
      symm
      rw [Bool.and_eq_true, List.contains_iff_mem]
      refine ⟨?_, ?_⟩
      ·rcases HK.out with e | e <;> rw [e] <;> rfl
      ·rw [← he2]
       exact List.getElem_mem _
     ·have he : (l[i] == t.text) = false := by assumption
      refine ⟨⟨i + 1, by omega, by simp, by first | trivial | rfl, Lib.hid (fun j hj hji => ?_)⟩, ?_⟩
      ·rcases Nat.lt_or_ge j i with h1 | h1
       ·exact HN.out j hj h1
       ·obtain rfl : j = i := by omega
        exact fun e => by simp at he; exact he e
      ·simp [intOf]
       omega
    ·obtain rfl : i = l.length := by omega
     go_wp2_with (fail)
     go_ret
     refine ⟨Eq.trans (b := Ending.returned (Value.bool _)) rfl (congrArg (fun b => Ending.returned (Value.bool b)) ?_), HW.out.1⟩
     simp only [PX.is, HP.out.1, tk]
     symm
     rw [Bool.and_eq_false_iff]
     refine Or.inr ?_
     rw [Bool.eq_false_iff]
     intro hc
     rw [List.contains_iff_mem] at hc
     obtain ⟨j, hj, e⟩ := List.mem_iff_getElem.1 hc
     exact HN.out j hj (by omega) e
 ·have hk3 : ((t.kind : Int) == 3) = false := by simp; omega
  have hk4 : ((t.kind : Int) == 4) = false := by simp; omega
  have hk5 : ((t.kind : Int) != 3 && (t.kind : Int) != 4) = true := by simp; omega
  have hk6 : ((t.kind : Int) != 3) = true := by simp; omega
  have hk7 : ((t.kind : Int) != 4) = true := by simp; omega
  have hn3 : ¬ ((t.kind : Int) = 3) := by omega
  have hn4 : ¬ ((t.kind : Int) = 4) := by omega
  have HK := Lib.hid hk
  clear hk
  go_wp2_with (fail)
  go_ret
  refine ⟨Eq.trans (b := Ending.returned (Value.bool _)) rfl (congrArg (fun b => Ending.returned (Value.bool b)) ?_), HP.out.2.1 _⟩
  simp only [PX.is, HP.out.1, tk]
  have h3 : (t.kind == 3) = false := by have := HK.out; simp; omega
  have h4 : (t.kind == 4) = false := by have := HK.out; simp; omega
  rw [h3, h4]
  rfl

set_option maxHeartbeats 4000000 in
theorem fail_walk {α : Type} (p b : Nat) (toks : List LX.Tok) (s : List PX.T) (w : World) (V : World → α → Value → Prop) (h : PAt w p b toks s) :
  Calls Tryz.prog 78 #[.pointer (some ⟨p, 0, none⟩)] w fun e w' => RdIs p b toks w (PX.fail (α := α) s) V e w' := by
 have H := Lib.hid h
 clear h
 obtain ⟨Q, hQ⟩ : ∃ Q, RdIs p b toks w (PX.fail (α := α) s) V = Q := ⟨_, rfl⟩
 rw [show (fun e w' => RdIs p b toks w (PX.fail (α := α) s) V e w') = Q from hQ]
 have HQ := Lib.hid hQ
 clear hQ
 go_enter Tryz.func78, Tryz.ntmps78
 go_wp2_with (fail)
 refine (peek_walk p b toks s _ H.out).mono ?_
 rintro e w1 ⟨hb1, t, hp, hat, rfl⟩
 unfold tokA tokV
 have HP := Lib.hid (And.intro hp (And.intro hb1 hat))
 clear hp hb1 hat
 rcases Nat.decEq t.kind 5 with hk | hk
 ·have hk5 : ((t.kind : Int) == 5) = false := by simp; omega
  have hn5 : ¬ ((t.kind : Int) = 5) := by omega
  have HK := Lib.hid hk
  clear hk
  go_wp2_with (fail)
  rw [← HQ.out]
  have h := RdIs.bad (p := p) (b := b) (toks := toks) (w := w) (V := V) (show PX.Res.bad s.length 1 = PX.fail s by unfold PX.fail; rw [HP.out.1, if_neg (by have := HK.out; simpa [tk] using this)]) (Only.of_below (l := p) (below_alloc HP.out.2.1 (.cells (tokA t) 35)))
  unfold Pan at h
  rw [HP.out.2.2] at h
  exact ⟨rfl, h⟩
 ·have hk5 : ((t.kind : Int) == 5) = true := by simp; omega
  have hn5 : ((t.kind : Int) = 5) := by omega
  have HK := Lib.hid hk
  clear hk
  go_wp2_with (fail)
  rw [← HQ.out]
  have h := RdIs.bad (p := p) (b := b) (toks := toks) (w := w) (V := V) (show PX.Res.bad s.length 2 = PX.fail s by unfold PX.fail; rw [HP.out.1, if_pos (by have := HK.out; simpa [tk] using this)]) (Only.of_below (l := p) (below_alloc HP.out.2.1 (.cells (tokA t) 35)))
  unfold Pan at h
  rw [HP.out.2.2] at h
  unfold tokA tokV at h
  rw [HK.out] at h
  exact ⟨rfl, h⟩

set_option maxHeartbeats 4000000 in
theorem take_walk (p b g c : Nat) (toks : List LX.Tok) (s : List PX.T) (l : List PX.B) (w : World) (h : PAt w p b toks s) (hl : TextsAt w g l) (hg : g < w.heap.size) (hn : l.length ≤ 100) (hgp : g ≠ p) :
  Calls Tryz.prog 128 #[.pointer (some ⟨p, 0, none⟩), .slice (some ⟨g, 0, none⟩) l.length c] w fun e w' => Only p w w' ∧ PAt w' p b toks (if PX.is l s then s.tail else s) ∧ ∃ t, PX.peek s = tk t ∧ atOf toks s.length = t.at_ ∧ e = .returned (.tuple #[.agg (tokA t), .bool (PX.is l s)]) := by
 have H := Lib.hid h
 have HL := Lib.hid (And.intro hl (And.intro hg hgp))
 clear h hl hg hgp
 obtain ⟨Q, hQ⟩ : ∃ Q : Ending → World → Prop, Q = fun e w' => Only p w w' ∧ PAt w' p b toks (if PX.is l s then s.tail else s) ∧ ∃ t, PX.peek s = tk t ∧ atOf toks s.length = t.at_ ∧ e = .returned (.tuple #[.agg (tokA t), .bool (PX.is l s)]) := ⟨_, rfl⟩
 rw [← hQ]
 have HQ := Lib.hid hQ
 clear hQ
 go_enter Tryz.func128, Tryz.ntmps128
 go_wp2_with (fail)
 refine (peek_walk p b toks s _ (H.out.alloc _)).mono ?_
 rintro e w1 ⟨hb1, t, hp, hat, rfl⟩
 have hb1' := below_step (below_alloc (Below.refl w.heap.size w) (.cells #[.int .i64 0, .int .i64 0, .string ⟨#[]⟩, .int .u64 0] 35)) hb1
 have HP := Lib.hid (And.intro hp (And.intro hat (And.intro hb1' ((blk_below (blk_new w _) hb1)))))
 clear hp hb1 hat hb1'
 unfold tokA tokV
 go_wp2_with (fail)
 refine (is_walk p b g c toks s l _ ((H.out.below HP.out.2.2.1).alloc _) ((HL.out.1.below HP.out.2.2.1 HL.out.2.1).below (below_alloc (Below.refl _ _) _) (Nat.lt_of_lt_of_le HL.out.2.1 HP.out.2.2.1.size)) (Nat.lt_of_lt_of_le HL.out.2.1 (below_alloc HP.out.2.2.1 _).size) hn).mono ?_
 rintro e w2 ⟨rfl, hb2⟩
 have hb3 := below_step (below_alloc HP.out.2.2.1 (.cells (tokA t) 35)) hb2
 have hP2 := H.out.below hb3
 have hr2 : w2.heap[w.heap.size]? = _ := blk_below (blk_alloc HP.out.2.2.2 (.cells (tokA t) 35)) hb2
 have ht2 : w2.heap[w1.heap.size]? = _ := blk_below (blk_new w1 (.cells (tokA t) 35)) hb2
 unfold tokA tokV at ht2
 obtain ⟨r0, r1, r2, r3, rf⟩ := blk4 hr2
 obtain ⟨t0, t1, t2, t3, tf⟩ := blk4 ht2
 have HP2 := Lib.hid (And.intro hP2 (And.intro hb3 hr2))
 clear hb2 hb3 hP2 hr2 ht2
 obtain ⟨B, hB⟩ : ∃ B, PX.is l s = B := ⟨_, rfl⟩
 rw [hB]
 cases B with
 | false =>
  go_wp2_with (fail)
  (try simp only [Exit.inBlock, Exit.then])
  refine bodyPost_ret (results_cell_row_tmp rfl _ _ w.heap.size 35 (tokA t) (0, 0) _ rfl (blk_set4 HP2.out.2.2 _ _ _ _) Tryz.underlying35 rfl (by kernel_rfl)) rfl ?_
  rw [HQ.out]
  rw [hB]
  have hne : w.heap.size ≠ p := fun e => by have := H.out.plt; omega
  have hne2 : w.heap.size ≠ b := fun e => by have := H.out.lt; omega
  have hO : ∀ (w' : World) j v, Only p w w' → Only p w (w'.setCell ⟨w.heap.size, j, none⟩ v) := fun w' j v h => h.store (Nat.le_refl _) j v
  have hA : ∀ (w' : World) j v, PAt w' p b toks s → PAt (w'.setCell ⟨w.heap.size, j, none⟩ v) p b toks s := fun w' j v h => h.far _ _ hne hne2
  exact ⟨hO _ _ _ (hO _ _ _ (hO _ _ _ (hO _ _ _ (Only.of_below HP2.out.2.1)))), hA _ _ _ (hA _ _ _ (hA _ _ _ (hA _ _ _ HP2.out.1))), t, HP.out.1, HP.out.2.1, rfl⟩
 | true =>
  obtain ⟨t', c', k, hbk, hc, hlt, hkl, ht, _, _, _⟩ := HP2.out.1.head
  obtain ⟨c0, c1, fz⟩ := blk2p hbk
  have hne : ¬ (w.heap.size = p) := fun e => by have := H.out.plt; omega
  have hne1 : ¬ (w1.heap.size = p) := fun e => by have := H.out.plt; have := HP.out.2.2.1.size; omega
  have hsm := HP2.out.1.few
  have hk9 : (k : Int) + 1 ≤ 9223372036854775807 := by omega
  have HB := Lib.hid hbk
  clear hsm hbk ht hc hlt hkl
  go_wp2_with (fail)
  (try simp only [Exit.inBlock, Exit.then])
  refine bodyPost_ret (results_cell_row_tmp rfl _ _ w.heap.size 35 (tokA t) (0, 0) _ rfl (blk_set4 (blk_far HP2.out.2.2 (p := ⟨p, 1, none⟩) hne _) _ _ _ _) Tryz.underlying35 rfl (by kernel_rfl)) rfl ?_
  rw [HQ.out]
  rw [hB]
  have hne2 : w.heap.size ≠ b := fun e => by have := H.out.lt; omega
  have hO : ∀ (w' : World) j v, Only p w w' → Only p w (w'.setCell ⟨w.heap.size, j, none⟩ v) := fun w' j v h => h.store (Nat.le_refl _) j v
  have hA : ∀ (w' : World) j v, PAt w' p b toks s.tail → PAt (w'.setCell ⟨w.heap.size, j, none⟩ v) p b toks s.tail := fun w' j v h => h.far _ _ hne hne2
  exact ⟨hO _ _ _ (hO _ _ _ (hO _ _ _ (hO _ _ _ ((Only.of_below HP2.out.2.1).put 1 _)))), hA _ _ _ (hA _ _ _ (hA _ _ _ (hA _ _ _ (HP2.out.1.step HB.out (PX.is_kind hB) rfl)))), t, HP.out.1, HP.out.2.1, rfl⟩
def NameV (toks : List LX.Tok) (q : Nat) (m : PX.B) (v : Value) : Prop := ∃ (k : Int) (n : Int), v = .agg #[.int .i64 k, .int .i64 (atOf toks q), .string ⟨m.toArray⟩, .int .u64 n]
set_option maxHeartbeats 4000000 in
theorem name_walk (p b : Nat) (toks : List LX.Tok) (s : List PX.T) (w : World) (h : PAt w p b toks s) :
  Calls Tryz.prog 80 #[.pointer (some ⟨p, 0, none⟩)] w fun e w' => RdIs p b toks w (PX.name s) (fun _ m v => NameV toks s.length m v) e w' := by
 have H := Lib.hid h
 clear h
 obtain ⟨Q, hQ⟩ : ∃ Q, RdIs p b toks w (PX.name s) (fun _ m v => NameV toks s.length m v) = Q := ⟨_, rfl⟩
 rw [show (fun e w' => RdIs p b toks w (PX.name s) (fun _ m v => NameV toks s.length m v) e w') = Q from hQ]
 have HQ := Lib.hid hQ
 clear hQ
 go_enter Tryz.func80, Tryz.ntmps80
 go_wp2_with (fail)
 refine (peek_walk p b toks s _ (H.out.alloc _)).mono ?_
 rintro e w1 ⟨hb1, t, hp, hat, rfl⟩
 have hb1' := below_step (below_alloc (Below.refl w.heap.size w) (.cells #[.int .i64 0, .int .i64 0, .string ⟨#[]⟩, .int .u64 0] 35)) hb1
 have HP := Lib.hid (And.intro hp (And.intro hat (And.intro hb1' ((blk_below (blk_new w _) hb1)))))
 clear hp hb1 hat hb1'
 unfold tokA tokV
 rcases Nat.decEq t.kind 1 with hk | hk
 ·have hk1 : ((t.kind : Int) != 1) = true := by simp; omega
  have hn1 : ¬ ((t.kind : Int) = 1) := by omega
  have HK := Lib.hid hk
  clear hk
  have hF : PX.fail s = PX.name s := by unfold PX.name; rw [HP.out.1, if_neg (by have := HK.out; simpa [tk] using this)]
  go_wp2_with (fail)
  refine (fail_walk p b toks s _ (fun _ m v => NameV toks s.length m v) ((H.out.below HP.out.2.2.1).alloc _)).mono ?_
  rintro e w2 hm
  have hm2 : ∃ q er, PX.Res.bad q er = PX.name s ∧ e = Pan toks q er ∧ Only p w w2 := ⟨_, _, hF, hm.2, (Only.of_below (below_alloc HP.out.2.2.1 _)).trans hm.1⟩
  obtain ⟨q, er, hF2, rfl, hO⟩ := hm2
  unfold Pan
  (try simp only [Exit.inBlock, Exit.then])
  rw [← HQ.out]
  exact ⟨rfl, RdIs.bad hF2 hO⟩
 ·have hk1 : ((t.kind : Int) != 1) = false := by simp; omega
  have hn1 : ((t.kind : Int) = 1) := by omega
  have HK := Lib.hid hk
  clear hk
  have hF : PX.Res.ok t.text s.tail = PX.name s := by unfold PX.name; rw [HP.out.1, if_pos (by have := HK.out; simpa [tk] using this)]; rfl
  have HF := Lib.hid hF
  clear hF
  obtain ⟨t', c', k, hbk, hc, hlt, hkl, ht, _, _, _⟩ := (H.out.below HP.out.2.2.1).head
  have hb2 : ∀ o, (w1.alloc o).heap[p]? = _ := fun o => blk_alloc hbk o
  obtain ⟨c0, c1, fz⟩ := blk2p hbk
  have hne : ¬ (w.heap.size = p) := fun e => by have := H.out.plt; omega
  have hpl : p < w1.heap.size := (H.out.below HP.out.2.2.1).plt
  have hne1 : ¬ (w1.heap.size = p) := by omega
  have hlt1 : w.heap.size < w1.heap.size := blk_lt HP.out.2.2.2
  have hne3 : ¬ (w1.heap.size = w.heap.size) := by omega
  have hsm := H.out.few
  have hk9 : (k : Int) + 1 ≤ 9223372036854775807 := by omega
  have HB := Lib.hid hbk
  obtain ⟨r0, r1, r2, r3, rf⟩ := blk4 HP.out.2.2.2
  clear hsm hbk ht hc hlt hkl hb2
  go_wp2_with (fail)
  (try simp only [Exit.inBlock, Exit.then])
  refine bodyPost_ret (results_cell_row rfl _ _ w.heap.size 35 #[.int .i64 1, .int .i64 t.at_, .string ⟨t.text.toArray⟩, .int .u64 t.n] (0, 0) _ rfl (blk_alloc (blk_set4 (blk_far HP.out.2.2.2 (p := ⟨p, 1, none⟩) hne _) _ _ _ _) _) Tryz.underlying35 rfl (by kernel_rfl)) rfl ?_
  rw [← HQ.out]
  have hbl := H.out.lt
  have hA : PAt (w1.setCell ⟨p, 1, none⟩ (.int .i64 (k + 1))) p b toks s.tail := (H.out.below HP.out.2.2.1).step HB.out (by rw [HP.out.1]; simp [tk, HK.out]) rfl
  have hO : Only p w (w1.setCell ⟨p, 1, none⟩ (.int .i64 (k + 1))) := (Only.of_below HP.out.2.2.1).put 1 _
  refine RdIs.ok HF.out ?_ ?_ ⟨1, t.n, by rw [HP.out.2.1]⟩
  ·repeat (first | with_reducible exact hO | with_reducible apply Only.alloc | (with_reducible apply Only.store'; omega))
  ·repeat (first | with_reducible exact hA | with_reducible apply PAt.alloc | (with_reducible refine PAt.store' ?_ ?_ ?_; omega; omega))

end Go.Proofs.YtjafllnbgfcchaaGreatDoor.Px
