/- The queue told as a list. No condition but the queue's own shape. -/
import Derived.Test.YtnlkjimpefebbaaQueueNew
import Derived.Test.YtnlkjimpefebbaaPQueuePlaysx1
import Derived.Deep.LoopGhost
import Derived.Deep.RegionHeld3
import Derived.Deep.AppendLies
namespace Go.Proofs.Ytnlkjimpefebbaa.Qu
set_option linter.unusedVariables false
open Go Go.RowKit Go.Proofs.Ytnlkjimpefebbaa.PQueuePlays Go.Proofs.YtnlkjimpefebbaaW.PrintWords Go.Proofs.YtnlkjimpefebbaaW.PrintLast Go.Proofs.YtnlkjimpefebbaaW.PrintMore
attribute [local go_sem] max2_int max_two max_three min2_int min_two

theorem same_l1 (l : List Int) (hl : l.length ≤ 9223372036854775806) : ∀ (d : Nat) (k : Nat) (i : Int), 0 ≤ i → (l.length : Int) - i ≤ d → d < k → girandolelaw11_Same.l0 k l l (l.length : Int) i = some 0 := by
  intro d
  induction d with
  | zero =>
    intro k i h0 hd hk
    obtain ⟨k, rfl⟩ : ∃ m, k = m + 1 := ⟨k - 1, by omega⟩
    simp only [girandolelaw11_Same.l0]
    rw [if_neg (by omega)]
  | succ d ih =>
    intro k i h0 hd hk
    obtain ⟨k, rfl⟩ : ∃ m, k = m + 1 := ⟨k - 1, by omega⟩
    simp only [girandolelaw11_Same.l0]
    by_cases h : i < (l.length : Int)
    · rw [if_pos h, if_pos h0, if_true, show wrap64 (i + 1) = i + 1 from by unfold wrap64; omega]
      rw [if_pos h, if_pos h]
      exact ih k (i + 1) (by omega) (by omega) (by omega)
    · rw [if_neg h]
theorem same_f1 (l : List Int) (hl : l.length ≤ 9223372036854775806) : girandolelaw11_Same.f (l.length + 1) l l = some 0 := by
  unfold girandolelaw11_Same.f
  rw [if_pos rfl]
  exact same_l1 l hl l.length (l.length + 1) 0 (by omega) (by omega) (by omega)

theorem list_any (g s cap most : Nat) (L : List Int) (w : World) (h : QRep w g s cap most L) :
    Calls Try.prog 17 #[.pointer (some ⟨g, 0, none⟩)] w fun e w' => ∃ v, e = .returned v ∧ w'.ownsRow w.heap.size 2 1 v L.length (nums .i64 L) ∧ Below w.heap.size w w' := by
  obtain ⟨head, xs, h1, h2⟩ := h
  have hp := h1.pos
  have hs := h1.small
  have hh := h1.hd
  have hl := h1.n_le
  obtain ⟨n, hn⟩ : ∃ n, L.length = n := ⟨_, rfl⟩
  rw [hn] at h1 hl
  have HN := Lib.hid hn
  have H2 := Lib.hid h2
  clear hn h2
  have hb0 : ∀ (b : Nat) (wr : World) {v : Value} {k : Nat} {ys : List Value}, b < w.heap.size → wr.ownsRow w.heap.size 2 1 v k ys → v.ownBlock ≠ some b := fun b wr v k ys hb ho e => by have := own_base ho b e; omega
  have hb1 : ∀ (wr : World) {v : Value} {k : Nat} {ys : List Value}, wr.ownsRow w.heap.size 2 1 v k ys → Below w.heap.size w wr → v.ownBlock ≠ some g := fun wr v k ys ho _ => hb0 g wr (blk_lt h1.struct) ho
  have hb2 : ∀ (wr : World) {v : Value} {k : Nat} {ys : List Value}, wr.ownsRow w.heap.size 2 1 v k ys → Below w.heap.size w wr → v.ownBlock ≠ some s := fun wr v k ys ho _ => hb0 s wr (blk_lt h1.slots) ho
  obtain ⟨c0, c1, c2, c3⟩ := h1.c0
  have H := Lib.hid h1
  clear h1
  go_enter Try.func17, Try.ntmps17
  go_wp2_with fail
  go_loopw [3, 9] (fun v i wr => ∃ k : Nat, k ≤ n ∧ i = .int .i64 k ∧ Hid (wr.ownsRow w.heap.size 2 1 v (L.take k).length (nums .i64 (L.take k))) ∧ Hid (Below w.heap.size w wr)) (fun _ i _ => n - (intOf i).toNat)
  case atStart => exact ⟨0, by omega, rfl, Lib.hid (own_nil _ _ _ _), Lib.hid (Below.refl _ _)⟩
  case round =>
    obtain ⟨k, hk, rfl, HO, HB⟩ := hrel
    rcases Nat.lt_or_ge k n with hlt | hge
    · have hq := H.out.step HB.out
      obtain ⟨d0, d1, d2, d3⟩ := hq.c0
      obtain ⟨j, hj⟩ : ∃ j, (head + k) % cap = j := ⟨_, rfl⟩
      have hjl : j < cap := by rw [← hj]; exact Nat.mod_lt _ (by omega)
      have hx : ((head : Int) + (k : Int)) % (cap : Int) = (j : Int) := by rw [← hj]; simp
      have hc := hq.at_ _ hjl
      have hv : xs.getD j 0 = L.getD k 0 := by rw [← hj]; exact H2.out k (by rw [HN.out]; exact hlt)
      obtain ⟨y, hy⟩ : ∃ y, L.getD k 0 = y := ⟨_, rfl⟩
      rw [hv, hy] at hc
      have HY := Lib.hid hy
      clear hy
      have hcap : (j : Int) < (cap : Int) := by omega
      have lg := blk_lt hq.struct
      have ls := blk_lt hq.slots
      clear hj hv hq
      obtain ⟨i0, hi0, hzz⟩ := Option.map_eq_some_iff.1 info2
      simp only [Prod.mk.injEq] at hzz
      obtain ⟨hz0, hz1, hz2⟩ := hzz
      have hlk : (L.take k).length = k := by rw [List.length_take, HN.out]; omega
      have hown := HO.out
      rw [hlk] at hown
      have HOW := Lib.hid hown
      have hne1 := hb1 wr HO.out HB.out
      have hne2 := hb2 wr HO.out HB.out
      have hsz := HB.out.size
      clear hown hlk
      have hj0 : (0 : Int) ≤ (j : Int) := Int.natCast_nonneg _
      have hnz : ¬ cap = 0 := by omega
      have hnz2 : ¬ (cap : Int) = 0 := by omega
      have htm : ((head : Int) + (k : Int)).tmod (cap : Int) = (j : Int) := by rw [Int.tmod_eq_emod_of_nonneg (by omega)]; exact hx
      have hwr : IntKind.i64.wrap ((head : Int) + (k : Int)) = (head : Int) + (k : Int) := IntWalk.i64_in _ (by omega)
      have hcb : (j : Int) < (cap : Int) := by omega
      have hx2 := Lib.hid hx
      clear hx
      go_wp2_with fail
      go_region_held3 (fun w' => w'.cell? ⟨g, 0, none⟩ = some (.slice (some ⟨s, 0, none⟩) cap cap) ∧ w'.cell? ⟨g, 1, none⟩ = some (.int .i64 head) ∧ w'.cell? ⟨s, j, none⟩ = some (.int .i64 y))
        (first
          | go_keep
          | (go_split_ands
             refine ⟨?_, ?_, ?_⟩
             · (rw [hgrow.cell_far _ (by simp; omega) (Ne.symm hne1)]; assumption)
             · (rw [hgrow.cell_far _ (by simp; omega) (Ne.symm hne1)]; assumption)
             · (rw [hgrow.cell_far _ (by simp; omega) (Ne.symm hne2)]; assumption)))
        ((refine step_append_lies _ (by rfl) _ _ _ (by rfl) w.heap.size 2 i0 _ 1 8 Try.underlying22 hi0 hz0 hz1 hz2 rfl (by omega) u3 k _ (by rfl) ((HOW.out.alloc _).drew)
            ⟨wr.heap.size, 0, none⟩ 1 1 [.int .i64 y] (by rfl) (by rfl) (World.news_of_block (cs := #[.int .i64 y]) (t := 2) (fr := (0, 0)) (heap_alloc_new wr _)) (by simp [Value.oneCell'])
            (by omega) (by simp only [maxLen]; omega) (by omega) (by simp; omega) (wr.heap.size + 1) (by simp) ?_; intro gg cc w1 hown1 hgrow hat hlt1))
      have HO1 := Lib.hid hown1
      have HG1 := Lib.hid hgrow
      clear hown1 hgrow hat hnz hnz2 htm hwr
      go_wp2_with fail
      go_roundw
      case rel =>
        have hb9 : Below w.heap.size w w1 := (below_drew1 (below_alloc HB.out (.cells #[.int .i64 y] 2))).grown HG1.out (by simp; omega) (own_base HO.out)
        refine ⟨k + 1, by omega, by go_num, Lib.hid ?_, Lib.hid hb9⟩
        have h9 := HO1.out
        have e1 : nums .i64 (L.take k) ++ [Value.int .i64 y] = nums .i64 (L.take (k + 1)) := by
          rw [List.take_succ_eq_append_getElem (by rw [HN.out]; exact hlt), nums_append]
          have e2 : L[k]'(by rw [HN.out]; exact hlt) = y := by rw [← HY.out, List.getD_eq_getElem?_getD, List.getElem?_eq_getElem (by rw [HN.out]; exact hlt)]; rfl
          rw [e2]
          rfl
        have e3 : (L.take (k + 1)).length = k + 1 := by rw [List.length_take, HN.out]; omega
        rw [e3, ← e1]
        exact h9
      case measure => simp [intOf]; omega
    · go_wp2_with fail
      go_ret
      have e : k = L.length := by rw [HN.out]; omega
      refine ⟨_, rfl, ?_, HB.out⟩
      have h9 := HO.out
      rw [e, List.take_length] at h9
      exact h9

theorem qroom (g s cap most : Nat) (L : List Int) (w : World) (h : QRep w g s cap most L) :
    Calls Try.prog 18 #[.pointer (some ⟨g, 0, none⟩)] w fun e w' => e = .returned (.int .i64 cap) ∧ Drawn0 w w' := by
  obtain ⟨head, xs, h1, h2⟩ := h
  obtain ⟨c0, c1, c2, c3⟩ := h1.c0
  clear h1 h2
  go_enter Try.func18, Try.ntmps18
  go_wp2
  go_ret
  exact ⟨by rfl, by repeat (first | exact Drawn0.refl _ | apply Drawn0.step)⟩
theorem qmost (g s cap most : Nat) (L : List Int) (w : World) (h : QRep w g s cap most L) :
    Calls Try.prog 19 #[.pointer (some ⟨g, 0, none⟩)] w fun e w' => e = .returned (.int .i64 most) ∧ Drawn0 w w' := by
  obtain ⟨head, xs, h1, h2⟩ := h
  obtain ⟨c0, c1, c2, c3⟩ := h1.c0
  clear h1 h2
  go_enter Try.func19, Try.ntmps19
  go_wp2
  go_ret
  exact ⟨by rfl, by repeat (first | exact Drawn0.refl _ | apply Drawn0.step)⟩
end Go.Proofs.Ytnlkjimpefebbaa.Qu
