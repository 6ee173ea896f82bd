/- The parser's cursor, walked: what must stand there. -/
import Derived.Test.YtjafllnbgfcchaaGreatDoorQAPCur
namespace Go.Proofs.YtjafllnbgfcchaaGreatDoor.Px
set_option linter.unusedVariables false
set_option linter.unusedSimpArgs false
open Go Go.RowKit Go.Proofs.YtjafllnbgfcchaaGreatDoorW.PrintWords Go.Proofs.YtjafllnbgfcchaaGreatDoorW.PrintLast Go.Proofs.YtjafllnbgfcchaaGreatDoorW.PrintMore Go.Proofs.YtjafllnbgfcchaaGreatDoor.Lx
set_option maxHeartbeats 4000000 in
theorem want_walk (p b g c : Nat) (toks : List LX.Tok) (s : List PX.T) (x : PX.B) (w : World) (h : PAt w p b toks s) (hl : TextsAt w g [x]) (hg : g < w.heap.size) (hgp : g ≠ p) :
  Calls Tryz.prog 79 #[.pointer (some ⟨p, 0, none⟩), .slice (some ⟨g, 0, none⟩) 1 c] w fun e w' => RdIs p b toks w (PX.want x s) (fun _ _ _ => True) e w' := by
 have H := Lib.hid h
 have HL := Lib.hid (And.intro hl (And.intro hg hgp))
 clear h hl hg hgp
 obtain ⟨Q, hQ⟩ : ∃ Q, RdIs p b toks w (PX.want x s) (fun _ _ _ => True) = Q := ⟨_, rfl⟩
 rw [show (fun e w' => RdIs p b toks w (PX.want x s) (fun _ _ _ => True) e w') = Q from hQ]
 have HQ := Lib.hid hQ
 clear hQ
 go_enter Tryz.func79, Tryz.ntmps79
 go_wp2_with (fail)
 refine (peek_walk p b toks s _ (H.out.alloc _)).mono ?_
 rintro e w1 ⟨hb1, t, hp, hat, rfl⟩
 have hb1' := below_step (below_alloc (Below.refl w.heap.size w) (.cells #[.int .i64 0, .int .i64 0, .string ⟨#[]⟩, .int .u64 0] 35)) hb1
 have HP := Lib.hid (And.intro hp (And.intro hat (And.intro hb1' ((blk_below (blk_new w _) hb1)))))
 clear hp hb1 hat hb1'
 unfold tokA tokV
 go_wp2_with (fail)
 generalize hW : w1.alloc _ = W
 have hbW : Below w.heap.size w W := by rw [← hW]; exact below_alloc HP.out.2.2.1 _
 have hlt1 : w.heap.size < w1.heap.size := blk_lt HP.out.2.2.2
 have hWs : W.heap.size = w1.heap.size + 1 := by rw [← hW]; simp
 have HW := Lib.hid (And.intro hbW (And.intro (hW ▸ blk_alloc HP.out.2.2.2 _ : W.heap[w.heap.size]? = _) (And.intro (show W.heap[w1.heap.size]? = _ from hW ▸ blk_new w1 _) (And.intro hlt1 hWs))))
 clear hW hbW hlt1 hWs
 go_loopg [14] 1 (fun m v wr => ∃ i : Nat, v = .int .i64 i ∧ ((i = 0 ∧ m = 1 ∧ wr = W) ∨ (i = 1 ∧ m = 0 ∧ Hid (Only p W wr ∧ PX.is [x] s = true ∧ PAt wr p b toks s.tail))))
 case atStart => exact ⟨0, rfl, .inl ⟨rfl, rfl, rfl⟩⟩
 case round =>
  obtain ⟨i, rfl, hi⟩ := hrel
  rcases hi with ⟨rfl, rfl, rfl⟩ | ⟨rfl, rfl, HR⟩
  ·have hl2 : TextsAt wr g [x] := HL.out.1.below HW.out.1 HL.out.2.1
   have hg0 := hl2 0 x rfl
   have hgl : g < wr.heap.size := Nat.lt_of_lt_of_le HL.out.2.1 HW.out.1.size
   have hpl := H.out.plt
   have hsz := HW.out.2.2.2.2
   have hlt1 := HW.out.2.2.2.1
   have hP0 := Lib.hid (H.out.below HW.out.1)
   have hcr := Lib.hid hl2
   clear hl2
   go_wp2_with (fail)
   refine (take_walk p b (w1.heap.size + 1) 1 toks s [x] _ (hP0.out.alloc _) ?_ (by simp; omega) (by simp) (by omega)).mono ?_
   ·intro j y hj
    match j, hj with
    | 0, hj =>
     obtain rfl := Option.some.inj hj
     rw [← hsz]
     exact blk_cell (blk_new wr _) 0
   rintro e w2 ⟨hO2, hP2, t2, _, _, rfl⟩
   have hO := (Only.of_below (below_alloc (Below.refl wr.heap.size wr) (.cells #[.string ⟨x.toArray⟩] 9))).trans hO2
   have HH := Lib.hid (And.intro hO hP2)
   clear hO hO2 hP2
   obtain ⟨B, hB⟩ : ∃ B, PX.is [x] s = B := ⟨_, rfl⟩
   rw [hB]
   unfold tokA tokV
   cases B with
   | true =>
    have HB := Lib.hid hB
    rw [hB] at HH
    clear hB
    go_wp2_with (fail)
    go_roundg 0
    case measure => omega
    case rel => exact ⟨1, rfl, .inr ⟨rfl, rfl, Lib.hid ⟨HH.out.1.alloc _, HB.out, (show PAt w2 p b toks s.tail from HH.out.2).alloc _⟩⟩⟩
   | false =>
    have HB := Lib.hid hB
    rw [hB] at HH
    clear hB
    go_wp2_with (fail)
    refine (fail_walk p b toks s _ (fun _ (_ : Unit) _ => True) ((show PAt w2 p b toks s from HH.out.2).alloc _)).mono ?_
    rintro e w3 hm
    have hF : PX.fail (α := Unit) s = PX.want x s := by unfold PX.want; rw [if_neg (by simp [HB.out])]
    have hm2 : ∃ q er, PX.Res.bad q er = PX.want x s ∧ e = Pan toks q er ∧ Only p w w3 := ⟨_, _, hF, hm.2, ((Only.of_below HW.out.1).trans (HH.out.1.alloc _)).trans hm.1⟩
    obtain ⟨q, er, hF2, rfl, hO⟩ := hm2
    unfold Pan
    (try simp only [Exit.inBlock, Exit.then])
    rw [← HQ.out]
    exact ⟨rfl, RdIs.bad hF2 hO⟩
  ·have hr := HR.out.1.blk HW.out.2.1 (by have := H.out.plt; omega)
   have ht := HR.out.1.blk HW.out.2.2.1 (by have := H.out.plt; have := HW.out.2.2.2.1; omega)
   obtain ⟨r0, r1, r2, r3, rf⟩ := blk4 hr
   obtain ⟨t0, t1, t2, t3, tf⟩ := blk4 ht
   have HX := Lib.hid hr
   clear hr ht
   go_wp2_with (fail)
   (try simp only [Exit.inBlock, Exit.then])
   refine bodyPost_ret (results_cell_row rfl _ _ w.heap.size 35 (tokA t) (0, 0) _ rfl (blk_set4 HX.out _ _ _ _) Tryz.underlying35 rfl (by kernel_rfl)) rfl ?_
   rw [← HQ.out]
   have hbl := H.out.lt
   have hpl := H.out.plt
   have hO := (Only.of_below HW.out.1).trans HR.out.1
   have hA := HR.out.2.2
   refine RdIs.ok (x := ()) (s' := s.tail) (by unfold PX.want; rw [if_pos HR.out.2.1]) ?_ ?_ trivial
   ·repeat (first | with_reducible exact hO | with_reducible apply Only.alloc | (with_reducible apply Only.store'; omega))
   ·repeat (first | with_reducible exact hA | with_reducible apply PAt.alloc | (with_reducible refine PAt.store' ?_ ?_ ?_; omega; omega))
end Go.Proofs.YtjafllnbgfcchaaGreatDoor.Px
