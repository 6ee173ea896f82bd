/- The queue made, and what keeps the law awake. No condition but bounds on the room. -/
import Derived.Test.YtnlkjimpefebbaaQueue
import Derived.LoopTactic
namespace Go.Proofs.Ytnlkjimpefebbaa.Qu
set_option linter.unusedVariables false
open Go Go.RowKit Go.Proofs.YtnlkjimpefebbaaW.PrintWords Go.Proofs.YtnlkjimpefebbaaW.PrintLast Go.Proofs.YtnlkjimpefebbaaW.PrintMore
attribute [local go_sem] max2_int max_two max_three
theorem info2 : (Try.prog.info? 2).map (fun i => (i.zero, i.size, i.bytes)) = some (some (.int .i64 0), 1, 8) := by kernel_rfl

theorem QRep.new (w : World) (m : Nat) (h1 : 1 ≤ m) (h2 : m ≤ 200) :
    QRep ((w.alloc (.cells (madeCells #[.int .i64 0] m) 2)).alloc (.cells #[.slice (some ⟨w.heap.size, 0, none⟩) m m, .int .i64 0, .int .i64 0, .int .i64 0] 51)) (w.heap.size + 1) w.heap.size m 0 [] := by
  refine ⟨0, List.replicate m 0, ⟨?_, ?_, by simp, h1, by omega, by omega, by simp, by omega⟩, by simp⟩
  · have := blk_new (w.alloc (.cells (madeCells #[.int .i64 0] m) 2)) (.cells #[.slice (some ⟨w.heap.size, 0, none⟩) m m, .int .i64 0, .int .i64 0, .int .i64 0] 51)
    simpa using this
  · have := blk_alloc (blk_new w (.cells (madeCells #[.int .i64 0] m) 2)) (.cells #[.slice (some ⟨w.heap.size, 0, none⟩) m m, .int .i64 0, .int .i64 0, .int .i64 0] 51)
    rw [this]
    congr 2
    have hl : (madeCells #[Value.int .i64 0] m).toList = nums .i64 (List.replicate m 0) := by
      apply List.ext_getElem
      · simp [nums, madeCells]
      · intro i h1 h2
        simp [nums, madeCells, Nat.mod_one]
    rw [← hl]


theorem made1 : madeCells #[Value.int .i64 0] 1 = #[Value.int .i64 0] := by
  simp [madeCells]
  exact ⟨0, rfl, rfl⟩
theorem new_any (r : Int) (m : Nat) (A : Option Addr) (c : Nat) (l : List Int) (w : World) (hr : ReadsInt w .i64 A l.length l) (h1 : 1 ≤ m) (h2 : m ≤ 200)
    (hm : (r = (m : Int) ∧ l.length ≤ m) ∨ (r < l.length ∧ m = l.length)) :
    Calls Try.prog 9 #[.int .i64 r, .slice A l.length c] w fun e w' => ∃ g s, e = .returned (.pointer (some ⟨g, 0, none⟩)) ∧ QRep w' g s m l.length l ∧ w.heap.size ≤ g ∧ w.heap.size ≤ s ∧ Below w.heap.size w w' := by
  have hlm : l.length ≤ m := by omega
  have mk := print_make (P := Try.prog) 22 2 .i64 8 Try.underlying22 info2 (by decide) m (by omega)
  have HR := Lib.hid hr
  have hA : A = none → l.length < 1 := fun e => by
    rcases Nat.eq_zero_or_pos l.length with h | h
    · omega
    · obtain ⟨ad, h', _⟩ := hr.2.2 h
      rw [e] at h'
      cases h'
  clear hr
  have HN := Lib.hid (QRep.new w m h1 h2)
  rcases hm with ⟨rfl, hm1⟩ | ⟨hm1, rfl⟩
  all_goals
    go_enter Try.func9, Try.ntmps9
    go_wp2_with fail
    go_loopw [17] (fun i wr => ∃ k : Nat, k ≤ l.length ∧ i = .int .i64 k ∧ Hid (QRep wr (w.heap.size + 1) w.heap.size _ k (l.take k)) ∧ Hid (Below w.heap.size w wr)) (fun i _ => l.length - (intOf i).toNat)
    case atStart =>
      exact ⟨0, by omega, rfl, by rw [List.take_zero]; exact HN, Lib.hid (below_alloc (below_alloc (Below.refl _ _) _) _)⟩
    case round =>
      obtain ⟨k, hk, rfl, HQ, HB⟩ := hrel
      rcases Nat.lt_or_ge k l.length with hlt | hge
      · obtain ⟨ad, hA1, hcell⟩ := HR.out.2.2 (by omega)
        have hc := pw_cell_below HB.out (hcell k hlt)
        subst hA1
        clear hcell hA
        have hlk : (l.take k).length = k := by rw [List.length_take]; omega
        have hgd : l.take k ++ [l[k]] = l.take (k + 1) := (List.take_succ_eq_append_getElem hlt).symm
        have HLK := Lib.hid hlk
        have HGD := Lib.hid hgd
        have HQ' : Hid (QRep wr (w.heap.size + 1) w.heap.size _ k (l.take k)) := HQ
        clear hlk hgd
        go_wp2_with fail
        refine (qput_room _ _ _ _ _ _ _ HQ.out (by rw [HLK.out]; omega)).mono ?_
        rw [HLK.out]
        rintro e w1 ⟨rfl, hq, hst⟩
        have HQ1 := Lib.hid hq
        have HS := Lib.hid hst
        clear hq hst
        go_wp2_with fail
        go_roundw
        case rel =>
          refine ⟨k + 1, by omega, by go_num, ?_, Lib.hid (HS.out.below _ _ HB.out (by omega) (Nat.le_refl _))⟩
          have h9 := HQ1.out
          rw [show max k (k + 1) = k + 1 from by omega, HGD.out] at h9
          exact Lib.hid h9
        case measure => simp [intOf]; omega
      · have e : k = l.length := by omega
        have HQ2 := HQ.out
        rw [e, List.take_length] at HQ2
        have HQ3 := Lib.hid HQ2
        clear HQ2 e
        go_wp2_with fail
        go_ret
        exact ⟨_, _, rfl, HQ3.out, by omega, Nat.le_refl _, HB.out⟩

theorem new_one (r : Int) (A : Option Addr) (c : Nat) (w : World) (h1 : r < 1) :
    Calls Try.prog 9 #[.int .i64 r, .slice A 0 c] w fun e w' => ∃ g s, e = .returned (.pointer (some ⟨g, 0, none⟩)) ∧ QRep w' g s 1 0 [] ∧ w.heap.size ≤ g ∧ w.heap.size ≤ s ∧ Below w.heap.size w w' := by
  have mk : ∀ W : World, (Instr.makeSlice 22 (.int .i64 1) (.int .i64 1)).run Try.prog W = .ok (.slice (some ⟨W.heap.size, 0, none⟩) 1 1) (W.alloc (.cells #[.int .i64 0] 2)) := by
    intro W
    have h := print_make (P := Try.prog) 22 2 .i64 8 Try.underlying22 info2 (by decide) 1 (by omega) W
    rw [made1] at h
    exact h
  have hn := QRep.new w 1 (by omega) (by omega)
  rw [made1] at hn
  have HN := Lib.hid hn
  clear hn
  go_enter Try.func9, Try.ntmps9
  by_cases h0 : r < 0
  all_goals
    go_wp2_with fail
    refine wp_loop_rounds 1 ?_
    rw [rounds_succ]
    go_wp2_with fail
    go_ret
    exact ⟨_, _, rfl, HN.out, by omega, Nat.le_refl _, below_alloc (below_alloc (Below.refl _ _) _) _⟩

theorem reads_one (W : World) (g : Nat) (a : Int) (h0 : W.cell? ⟨g, 0, none⟩ = some (.int .i64 a)) : ReadsInt W .i64 (some ⟨g, 0, none⟩) 1 [a] := by
  refine ⟨rfl, by omega, fun _ => ⟨_, rfl, fun j hj => ?_⟩⟩
  obtain rfl : j = 0 := by omega
  rw [add_plain]
  exact h0

theorem awake_any (w : World) : Calls Try.prog 8 #[] w fun e w' => e = .returned (.bool true) ∧ Below w.heap.size w w' := by
  have HB := Lib.hid (Below.refl w.heap.size w)
  go_enter Try.func8, Try.ntmps8
  go_wp2_with fail
  refine (new_any (2 : Int) 2 _ 1 [7] _ (reads_one _ _ _ (by go_simp)) (by omega) (by omega) (.inl ⟨rfl, by decide⟩)).mono ?_
  rintro e w1 ⟨g, s, rfl, hq, hg, hs, hb⟩
  have HB1 := Lib.hid (below_step (below_alloc HB.out _) hb)
  have hg1 : w.heap.size ≤ g := by simp at hg; omega
  have hs1 : w.heap.size ≤ s := by simp at hs; omega
  have HQ := Lib.hid hq
  clear hq hg hs hb HB
  go_wp2_with fail
  refine (qput_room _ _ _ _ _ _ _ HQ.out (by decide)).mono ?_
  rintro e w2 ⟨rfl, hq, hst⟩
  have HQ2 := Lib.hid hq
  have HB2 := Lib.hid (hst.below _ _ HB1.out hg1 hs1)
  clear hq hst HQ HB1
  go_wp2_with fail
  refine (qput_full _ _ _ _ _ _ _ HQ2.out (by decide)).mono ?_
  rintro e w3 ⟨rfl, ⟨n3, rfl⟩⟩
  have HQ3 := Lib.hid (HQ2.out.step (Drawn0.below ⟨n3, rfl⟩))
  have HB3 := Lib.hid (pw_below_drewN HB2.out n3)
  clear HQ2 HB2
  go_wp2_with fail
  refine (qtake_some _ _ _ _ _ _ _ HQ3.out).mono ?_
  rintro e w4 ⟨rfl, hq, hst⟩
  have HQ4 := Lib.hid hq
  have HB4 := Lib.hid (hst.below _ _ HB3.out hg1 hs1)
  clear hq hst HQ3 HB3
  go_wp2_with fail
  refine (qlen _ _ _ _ _ _ HQ4.out).mono ?_
  rintro e w5 ⟨rfl, ⟨n5, rfl⟩⟩
  go_wp2_with fail
  go_ret
  exact ⟨by rfl, pw_below_drewN HB4.out _⟩

theorem new_nil (r : Int) (h : r ≤ 50) (w : World) : Calls Try.prog 9 #[.int .i64 r, .slice none 0 0] w fun e w' =>
    ∃ g s m, e = .returned (.pointer (some ⟨g, 0, none⟩)) ∧ 1 ≤ m ∧ QRep w' g s m 0 [] ∧ w.heap.size ≤ g ∧ w.heap.size ≤ s ∧ Below w.heap.size w w' := by
  by_cases h1 : r < 1
  · refine (new_one r none 0 w h1).mono ?_
    rintro e w' ⟨g, s, h2, h3, h4, h5, h6⟩
    exact ⟨g, s, 1, h2, by omega, h3, h4, h5, h6⟩
  · refine (new_any r r.toNat none 0 [] w ⟨rfl, by simp, fun h => by simp at h⟩ (by omega) (by omega) (.inl ⟨by omega, by simp⟩)).mono ?_
    rintro e w' ⟨g, s, h2, h3, h4, h5, h6⟩
    exact ⟨g, s, r.toNat, h2, by omega, h3, h4, h5, h6⟩
end Go.Proofs.Ytnlkjimpefebbaa.Qu
