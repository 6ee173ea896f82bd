/- The lexer's names, walked. -/
import Derived.Test.YtnlkjimpefebbaaDoorLexWords
import Derived.Lib.LaidTab
import Derived.Laws.Rows
import Derived.Laws.ResultCell
namespace Go.Proofs.YtnlkjimpefebbaaDoor.Lx
set_option linter.unusedVariables false
open Go Go.RowKit Go.Proofs.YtnlkjimpefebbaaDoorW.PrintWords Go.Proofs.YtnlkjimpefebbaaDoorW.PrintLast Go.Proofs.YtnlkjimpefebbaaDoorW.PrintMore

set_option maxHeartbeats 4000000 in
theorem name_walk (l k : Nat) (s : ByteArray) (w0 w : World) (hT : Tabs w0) (hb : Below w0.heap.size w0 w) (hl : w0.heap.size ≤ l) (h : LAt w l s k) (hk : k < s.size) (hc : LX.letter s[k] = true) :
    Calls Tryd.prog 96 #[.pointer (some ⟨l, 0, none⟩)] w fun e w' => OneIs l s k w e w' := by
  have H := Lib.hid h
  obtain ⟨c0, c1, fz⟩ := h.c0
  have HT := Lib.hid hT
  have HB := Lib.hid hb
  have b1 := fun o => (h.alloc o).c0.2.1
  have hlt := h.lt
  clear h hT hb
  obtain ⟨Q, hQ⟩ : ∃ Q, OneIs l s k w = Q := ⟨_, rfl⟩
  rw [show (fun e w' => OneIs l s k w e w') = Q from hQ]
  have HQ := Lib.hid hQ
  clear hQ
  go_enter Tryd.func96, Tryd.ntmps96
  go_wp2_with (fail)
  refine (run_word l k s _ ((H.out.alloc _).alloc _)).mono ?_
  rintro e w1 ⟨k1, rfl, hL1, hO1, hk1, hw1⟩
  have hA1 : TAt w1 w.heap.size 0 0 ⟨#[]⟩ 0 := ⟨hO1.blk ((Below.heap_alloc _ _ _ (by simp)).trans (blk_new w _)) (by omega)⟩
  have hB1 : TAt w1 (w.heap.size + 1) 1 k ⟨#[]⟩ 0 := ⟨hO1.blk (heap_alloc2_new w _ _) (by omega)⟩
  have hO : Only l w w1 := (((Only.refl l w).alloc _).alloc _).trans hO1
  clear hO1
  have HH := Lib.hid (And.intro hL1 (And.intro hA1 (And.intro hO (And.intro hk1 hw1))))
  obtain ⟨a0, a1, a2, a3, af⟩ := hA1.c
  obtain ⟨d0, d1, d2, d3, df⟩ := hB1.c
  clear hL1 hO hk1 hw1 hA1
  have HB1 := Lib.hid hB1
  clear hB1
  go_wp2_with (fail)
  have hb2 : Below w0.heap.size w0 w1 := HH.out.2.2.1.below HB.out hl hlt
  have hgb : w0.heap.size ≤ w.heap.size + 1 := by omega
  refine (kept_walk _ _ (HT.out.below (hb2.setCell hgb _))).mono ?_
  rintro e w2 ⟨rfl, hb3⟩
  obtain ⟨t, ht⟩ : ∃ t, s.extract k k1 = t := ⟨_, rfl⟩
  rw [ht] at hb3 ⊢
  clear hb2 hgb a0 a1 a2 a3 af d0 d1 d2 d3 df
  have hA2 : TAt w2 w.heap.size 0 0 ⟨#[]⟩ 0 := (HH.out.2.1.far (by omega) _ _).below hb3
  have hB2 : TAt w2 (w.heap.size + 1) 1 k t 0 := (HB1.out.text t).below hb3
  have hL2 : LAt w2 l s k1 := (HH.out.1.store (by omega) _ _).below hb3
  have hO2 : Only l w w2 := (HH.out.2.2.1.store (by omega) _ _).trans (Only.of_below hb3)
  have HW := Lib.hid (And.intro ht HH.out.2.2.2)
  clear ht hb3 HH HB1
  obtain ⟨a0, a1, a2, a3, af⟩ := hA2.c
  obtain ⟨d0, d1, d2, d3, df⟩ := hB2.c
  have HH := Lib.hid (And.intro hL2 (And.intro hO2 (And.intro hA2 hB2)))
  clear hL2 hO2 hA2 hB2
  go_wp2_with (fail)
  · have hin : t.data.toList ∈ LX.words := by assumption
    (try simp only [Exit.inBlock, Exit.then])
    refine bodyPost_ret (results_cell_row_tmp rfl _ _ w.heap.size 36 (tokV 3 k t.data.toList 0) (0, 0) _ rfl (TAt.struct (a := 3) (b := k) (t := t) (n := 0) (by repeat (first | exact HH.out.2.2.1 | apply TAt.num | apply TAt.text | apply TAt.place | apply TAt.kind | (apply TAt.far'; (show w.heap.size ≠ w.heap.size + 1); omega)))) Tryd.underlying36 rfl (by kernel_rfl)) rfl ?_
    rw [← HQ.out]
    obtain ⟨et, ek⟩ := run_end LX.word HW.out.1 HW.out.2.1 HH.out.1.le HW.out.2.2
    refine ⟨k1, by repeat (first | exact HH.out.1 | (apply LAt.store'; omega)), by repeat (first | exact HH.out.2.1 | (apply Only.store'; omega)), ?_⟩
    rw [one_word _ _ _ (at_head s k hk) hc, et, if_pos (by simpa using hin)]
    exact ⟨by rfl, ek⟩
  · have hin : ¬ t.data.toList ∈ LX.words := by assumption
    have hbig : 30 < (t.size : Int) := by assumption
    (try simp only [Exit.inBlock, Exit.then])
    refine bodyPost_ret (results_cell_row_tmp rfl _ _ w.heap.size 36 (tokV 0 0 [] 0) (0, 0) _ rfl (TAt.struct (a := 0) (b := 0) (t := ⟨#[]⟩) (n := 0) (by repeat (first | exact HH.out.2.2.1 | apply TAt.num | apply TAt.text | apply TAt.place | apply TAt.kind))) Tryd.underlying36 rfl (by kernel_rfl)) rfl ?_
    rw [← HQ.out]
    obtain ⟨et, ek⟩ := run_end LX.word HW.out.1 HW.out.2.1 HH.out.1.le HW.out.2.2
    refine ⟨k1, by repeat (first | exact HH.out.1 | (apply LAt.store'; omega)), by repeat (first | exact HH.out.2.1 | (apply Only.store'; omega)), ?_⟩
    rw [one_word _ _ _ (at_head s k hk) hc, et, if_neg (by simpa using hin), if_pos (by simp; omega)]
    rfl
  · have hin : ¬ t.data.toList ∈ LX.words := by assumption
    have hbig : (t.size : Int) ≤ 30 := by assumption
    (try simp only [Exit.inBlock, Exit.then])
    refine bodyPost_ret (results_cell_row_tmp rfl _ _ w.heap.size 36 (tokV 1 k t.data.toList 0) (0, 0) _ rfl (TAt.struct (a := 1) (b := k) (t := t) (n := 0) (by repeat (first | exact HH.out.2.2.1 | apply TAt.num | apply TAt.text | apply TAt.place | apply TAt.kind))) Tryd.underlying36 rfl (by kernel_rfl)) rfl ?_
    rw [← HQ.out]
    obtain ⟨et, ek⟩ := run_end LX.word HW.out.1 HW.out.2.1 HH.out.1.le HW.out.2.2
    refine ⟨k1, by repeat (first | exact HH.out.1 | (apply LAt.store'; omega)), by repeat (first | exact HH.out.2.1 | (apply Only.store'; omega)), ?_⟩
    rw [one_word _ _ _ (at_head s k hk) hc, et, if_neg (by simpa using hin), if_neg (by simp; omega)]
    exact ⟨by rfl, ek⟩
end Go.Proofs.YtnlkjimpefebbaaDoor.Lx
