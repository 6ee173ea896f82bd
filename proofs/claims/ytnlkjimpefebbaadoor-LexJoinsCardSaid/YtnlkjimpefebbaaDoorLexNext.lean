/- The lexer's next token, walked. -/
import Derived.Test.YtnlkjimpefebbaaDoorLexName
import Derived.Test.YtnlkjimpefebbaaDoorLexNum
import Derived.Test.YtnlkjimpefebbaaDoorLexSign
namespace Go.Proofs.YtnlkjimpefebbaaDoor.Lx
set_option linter.unusedVariables false
open Go Go.RowKit Go.Proofs.YtnlkjimpefebbaaDoorW.PrintWords Go.Proofs.YtnlkjimpefebbaaDoorW.PrintLast Go.Proofs.YtnlkjimpefebbaaDoorW.PrintMore

/-- What next hands back: over the blanks, then the end or one token. -/
def NextIs (l : Nat) (s : ByteArray) (k : Nat) (w : World) (e : Ending) (w' : World) : Prop := ∃ k0 k', LAt w' l s k' ∧ Only l w w' ∧ k ≤ k0 ∧ k0 ≤ s.size ∧ LX.skip false (s.data.toList.drop k) = s.data.toList.drop k0 ∧
  if k0 = s.size then e = .returned (.tuple #[.agg (tokV 5 s.size [] 0), .int .i64 0]) ∧ k' = s.size else
  match LX.one (s.data.toList.drop k0) with
  | .ok (kind, t, n) => e = .returned (.tuple #[.agg (tokV kind k0 t n), .int .i64 0]) ∧ k' = k0 + t.length
  | .error c => e = .returned (.tuple #[.agg (tokV 0 0 [] 0), .int .i64 c])
set_option maxHeartbeats 4000000 in
theorem next_walk (l k : Nat) (s : ByteArray) (w0 w : World) (hT : Tabs w0) (hb : Below w0.heap.size w0 w) (hl : w0.heap.size ≤ l) (h : LAt w l s k) :
    Calls Tryd.prog 62 #[.pointer (some ⟨l, 0, none⟩)] w fun e w' => NextIs l s k w e w' := by
  have H := Lib.hid h
  have HT := Lib.hid hT
  have HB := Lib.hid hb
  have hlt := h.lt
  clear h hT hb
  obtain ⟨Q, hQ⟩ : ∃ Q, NextIs l s k w = Q := ⟨_, rfl⟩
  rw [show (fun e w' => NextIs l s k w e w') = Q from hQ]
  have HQ := Lib.hid hQ
  clear hQ
  go_enter Tryd.func62, Tryd.ntmps62
  go_wp2_with (fail)
  refine (blanks_walk l k s _ (H.out.alloc _)).mono ?_
  rintro e w1 ⟨rfl, k0, hL1, hO1, hk0, hskip⟩
  have hA1 : TAt w1 w.heap.size 0 0 ⟨#[]⟩ 0 := ⟨hO1.blk (blk_new w _) (by omega)⟩
  have hO : Only l w w1 := ((Only.refl l w).alloc _).trans hO1
  clear hO1
  have HH := Lib.hid (And.intro hL1 (And.intro hA1 (And.intro hO (And.intro hk0 hskip))))
  obtain ⟨c0, c1, fz⟩ := hL1.c0
  obtain ⟨a0, a1, a2, a3, af⟩ := hA1.c
  have hle := hL1.le
  clear hL1 hO hk0 hskip hA1
  rcases Nat.lt_or_ge k0 s.size with hlt2 | hge
  · have hb : decide (k0 = s.size) = false := by simp; omega
    have hb2 : (k0 : Int) < (s.size : Int) := by omega
    clear a0 a1 a2 a3 af
    go_wp2_with (fail)
    go_quiet (fail)
    go_wp2_with (fail)
    go_quiet (first | (go_at_call 95; refine (letter_walk _ _).mono ?_; rintro e w1 ⟨rfl, rfl⟩; exact ⟨rfl, _, rfl⟩))
    go_wp2_with (fail)
    · have hc : LX.letter s[k0] = true := by assumption
      refine (name_walk l k0 s w0 _ HT.out (pw_below_drewN (HH.out.2.2.1.below HB.out hl hlt) _) hl (HH.out.1.drewN _) hlt2 hc).mono ?_
      rintro e w2 ⟨k', hL2, hO2, hm⟩
      have hA2 : TAt w2 w.heap.size 0 0 ⟨#[]⟩ 0 := (HH.out.2.1.drewN _).only hO2 (by omega)
      have HH2 := Lib.hid (And.intro hL2 (And.intro hA2 ((HH.out.2.2.1.drewN _).trans hO2)))
      obtain ⟨a0, a1, a2, a3, af⟩ := hA2.c
      clear hL2 hO2 hA2
      cases hone : LX.one (s.data.toList.drop k0) with
      | ok p =>
        obtain ⟨kind, tx, nn⟩ := p
        rw [hone] at hm
        obtain ⟨rfl, hk'⟩ := hm
        have HM := Lib.hid (And.intro hone hk')
        clear hone hk'
        unfold tokV
        go_wp2_with (fail)
        (try simp only [Exit.inBlock, Exit.then])
        refine bodyPost_ret (results_cell_row_tmp rfl _ _ w.heap.size 36 (tokV kind k0 tx nn) (0, 0) _ rfl (TAt.struct (a := kind) (b := k0) (t := ⟨tx.toArray⟩) (n := nn) (by repeat (first | exact HH2.out.2.1 | apply TAt.num | apply TAt.text | apply TAt.place | apply TAt.kind | apply TAt.drewN))) Tryd.underlying36 rfl (by kernel_rfl)) rfl ?_
        rw [← HQ.out]
        refine ⟨k0, k', by repeat (first | exact HH2.out.1 | apply LAt.drewN | (apply LAt.store'; omega)), by repeat (first | exact HH2.out.2.2 | apply Only.drewN | (apply Only.store'; omega)), HH.out.2.2.2.1, by omega, HH.out.2.2.2.2, ?_⟩
        rw [if_neg (by omega), HM.out.1]
        exact ⟨by rfl, HM.out.2⟩
      | error cd =>
        rw [hone] at hm
        obtain rfl := hm
        have HM := Lib.hid hone
        clear hone
        unfold tokV
        go_wp2_with (fail)
        (try simp only [Exit.inBlock, Exit.then])
        refine bodyPost_ret (results_cell_row_tmp rfl _ _ w.heap.size 36 (tokV 0 0 [] 0) (0, 0) _ rfl (TAt.struct (a := 0) (b := 0) (t := ⟨#[]⟩) (n := 0) (by repeat (first | exact HH2.out.2.1 | apply TAt.num | apply TAt.text | apply TAt.place | apply TAt.kind | apply TAt.drewN))) Tryd.underlying36 rfl (by kernel_rfl)) rfl ?_
        rw [← HQ.out]
        refine ⟨k0, k', by repeat (first | exact HH2.out.1 | apply LAt.drewN | (apply LAt.store'; omega)), by repeat (first | exact HH2.out.2.2 | apply Only.drewN | (apply Only.store'; omega)), HH.out.2.2.2.1, by omega, HH.out.2.2.2.2, ?_⟩
        rw [if_neg (by omega), HM.out]
        rfl
    go_quiet (first | (go_at_call 97; refine (digit_walk _ _).mono ?_; rintro e w1 ⟨rfl, rfl⟩; exact ⟨rfl, _, rfl⟩))
    go_wp2_with (fail)
    · have hc : LX.letter s[k0] = false := by assumption
      have hd : LX.digit s[k0] = true := by assumption
      refine (number_walk l k0 s w0 _ HT.out (pw_below_drewN (HH.out.2.2.1.below HB.out hl hlt) _) hl (HH.out.1.drewN _) hlt2 hc hd).mono ?_
      rintro e w2 ⟨k', hL2, hO2, hm⟩
      have hA2 : TAt w2 w.heap.size 0 0 ⟨#[]⟩ 0 := (HH.out.2.1.drewN _).only hO2 (by omega)
      have HH2 := Lib.hid (And.intro hL2 (And.intro hA2 ((HH.out.2.2.1.drewN _).trans hO2)))
      obtain ⟨a0, a1, a2, a3, af⟩ := hA2.c
      clear hL2 hO2 hA2
      cases hone : LX.one (s.data.toList.drop k0) with
      | ok p =>
        obtain ⟨kind, tx, nn⟩ := p
        rw [hone] at hm
        obtain ⟨rfl, hk'⟩ := hm
        have HM := Lib.hid (And.intro hone hk')
        clear hone hk'
        unfold tokV
        go_wp2_with (fail)
        (try simp only [Exit.inBlock, Exit.then])
        refine bodyPost_ret (results_cell_row_tmp rfl _ _ w.heap.size 36 (tokV kind k0 tx nn) (0, 0) _ rfl (TAt.struct (a := kind) (b := k0) (t := ⟨tx.toArray⟩) (n := nn) (by repeat (first | exact HH2.out.2.1 | apply TAt.num | apply TAt.text | apply TAt.place | apply TAt.kind | apply TAt.drewN))) Tryd.underlying36 rfl (by kernel_rfl)) rfl ?_
        rw [← HQ.out]
        refine ⟨k0, k', by repeat (first | exact HH2.out.1 | apply LAt.drewN | (apply LAt.store'; omega)), by repeat (first | exact HH2.out.2.2 | apply Only.drewN | (apply Only.store'; omega)), HH.out.2.2.2.1, by omega, HH.out.2.2.2.2, ?_⟩
        rw [if_neg (by omega), HM.out.1]
        exact ⟨by rfl, HM.out.2⟩
      | error cd =>
        rw [hone] at hm
        obtain rfl := hm
        have HM := Lib.hid hone
        clear hone
        unfold tokV
        go_wp2_with (fail)
        (try simp only [Exit.inBlock, Exit.then])
        refine bodyPost_ret (results_cell_row_tmp rfl _ _ w.heap.size 36 (tokV 0 0 [] 0) (0, 0) _ rfl (TAt.struct (a := 0) (b := 0) (t := ⟨#[]⟩) (n := 0) (by repeat (first | exact HH2.out.2.1 | apply TAt.num | apply TAt.text | apply TAt.place | apply TAt.kind | apply TAt.drewN))) Tryd.underlying36 rfl (by kernel_rfl)) rfl ?_
        rw [← HQ.out]
        refine ⟨k0, k', by repeat (first | exact HH2.out.1 | apply LAt.drewN | (apply LAt.store'; omega)), by repeat (first | exact HH2.out.2.2 | apply Only.drewN | (apply Only.store'; omega)), HH.out.2.2.2.1, by omega, HH.out.2.2.2.2, ?_⟩
        rw [if_neg (by omega), HM.out]
        rfl
    · have hc : LX.letter s[k0] = false := by assumption
      have hd : LX.digit s[k0] = false := by assumption
      refine (sign_walk l k0 s w0 _ HT.out (pw_below_drewN (HH.out.2.2.1.below HB.out hl hlt) _) hl (HH.out.1.drewN _) hlt2 hc hd).mono ?_
      rintro e w2 ⟨k', hL2, hO2, hm⟩
      have hA2 : TAt w2 w.heap.size 0 0 ⟨#[]⟩ 0 := (HH.out.2.1.drewN _).only hO2 (by omega)
      have HH2 := Lib.hid (And.intro hL2 (And.intro hA2 ((HH.out.2.2.1.drewN _).trans hO2)))
      obtain ⟨a0, a1, a2, a3, af⟩ := hA2.c
      clear hL2 hO2 hA2
      cases hone : LX.one (s.data.toList.drop k0) with
      | ok p =>
        obtain ⟨kind, tx, nn⟩ := p
        rw [hone] at hm
        obtain ⟨rfl, hk'⟩ := hm
        have HM := Lib.hid (And.intro hone hk')
        clear hone hk'
        unfold tokV
        go_wp2_with (fail)
        (try simp only [Exit.inBlock, Exit.then])
        refine bodyPost_ret (results_cell_row_tmp rfl _ _ w.heap.size 36 (tokV kind k0 tx nn) (0, 0) _ rfl (TAt.struct (a := kind) (b := k0) (t := ⟨tx.toArray⟩) (n := nn) (by repeat (first | exact HH2.out.2.1 | apply TAt.num | apply TAt.text | apply TAt.place | apply TAt.kind | apply TAt.drewN))) Tryd.underlying36 rfl (by kernel_rfl)) rfl ?_
        rw [← HQ.out]
        refine ⟨k0, k', by repeat (first | exact HH2.out.1 | apply LAt.drewN | (apply LAt.store'; omega)), by repeat (first | exact HH2.out.2.2 | apply Only.drewN | (apply Only.store'; omega)), HH.out.2.2.2.1, by omega, HH.out.2.2.2.2, ?_⟩
        rw [if_neg (by omega), HM.out.1]
        exact ⟨by rfl, HM.out.2⟩
      | error cd =>
        rw [hone] at hm
        obtain rfl := hm
        have HM := Lib.hid hone
        clear hone
        unfold tokV
        go_wp2_with (fail)
        (try simp only [Exit.inBlock, Exit.then])
        refine bodyPost_ret (results_cell_row_tmp rfl _ _ w.heap.size 36 (tokV 0 0 [] 0) (0, 0) _ rfl (TAt.struct (a := 0) (b := 0) (t := ⟨#[]⟩) (n := 0) (by repeat (first | exact HH2.out.2.1 | apply TAt.num | apply TAt.text | apply TAt.place | apply TAt.kind | apply TAt.drewN))) Tryd.underlying36 rfl (by kernel_rfl)) rfl ?_
        rw [← HQ.out]
        refine ⟨k0, k', by repeat (first | exact HH2.out.1 | apply LAt.drewN | (apply LAt.store'; omega)), by repeat (first | exact HH2.out.2.2 | apply Only.drewN | (apply Only.store'; omega)), HH.out.2.2.2.1, by omega, HH.out.2.2.2.2, ?_⟩
        rw [if_neg (by omega), HM.out]
        rfl
  · obtain rfl : k0 = s.size := by omega
    go_wp2_with (fail)
    go_quiet (fail)
    go_wp2_with (fail)
    (try simp only [Exit.inBlock, Exit.then])
    refine bodyPost_ret (results_cell_row_tmp rfl _ _ w.heap.size 36 (tokV 5 s.size [] 0) (0, 0) _ rfl (TAt.struct (a := 5) (b := s.size) (t := ⟨#[]⟩) (n := 0) (by repeat (first | exact HH.out.2.1 | apply TAt.num | apply TAt.text | apply TAt.place | apply TAt.kind | apply TAt.drewN))) Tryd.underlying36 rfl (by kernel_rfl)) rfl ?_
    rw [← HQ.out]
    refine ⟨s.size, s.size, by repeat (first | exact HH.out.1 | apply LAt.drewN | (apply LAt.store'; omega)), by repeat (first | exact HH.out.2.2.1 | apply Only.drewN | (apply Only.store'; omega)), HH.out.2.2.2.1, by omega, HH.out.2.2.2.2, ?_⟩
    rw [if_pos rfl]
    exact ⟨by rfl, rfl⟩
end Go.Proofs.YtnlkjimpefebbaaDoor.Lx
