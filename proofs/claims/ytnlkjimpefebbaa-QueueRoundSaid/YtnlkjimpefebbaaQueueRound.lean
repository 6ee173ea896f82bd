/- The statement QueueRound: whatever the room and the numbers, they come out in the order in which they went in. No condition. -/
import Derived.Test.YtnlkjimpefebbaaRows
import Derived.Test.YtnlkjimpefebbaaQueueNew
import Derived.Test.YtnlkjimpefebbaaPQueuePlaysx1
import Derived.Deep.LoopGhost
import Derived.WalkKit
import Derived.ProofKit
import Derived.OpenShut
import Derived.ShutString
import Derived.ChangeOld
import Derived.Below
import Derived.SizedLaws
namespace Go.Proofs.Ytnlkjimpefebbaa.Qu
set_option linter.unusedVariables false
open Go Go.RowKit Go.Proofs.Ytnlkjimpefebbaa.PQueuePlays Go.Proofs.YtnlkjimpefebbaaW.PrintWords Go.Proofs.YtnlkjimpefebbaaW.PrintLast Go.Proofs.YtnlkjimpefebbaaW.PrintMore
attribute [local go_sem] max2_int max_two max_three min2_int min_two

theorem same_l0 (l : List Int) (hl : l.length ≤ 9223372036854775806) : ∀ (d : Nat) (k : Nat) (i : Int), 0 ≤ i → (l.length : Int) - i ≤ d → d < k → girandolelaw11_Same.l0 k l l (l.length : Int) i = some 0 := by
  intro d
  induction d with
  | zero =>
    intro k i h0 hd hk
    obtain ⟨k, rfl⟩ : ∃ m, k = m + 1 := ⟨k - 1, by omega⟩
    simp only [girandolelaw11_Same.l0]
    rw [if_neg (by omega)]
  | succ d ih =>
    intro k i h0 hd hk
    obtain ⟨k, rfl⟩ : ∃ m, k = m + 1 := ⟨k - 1, by omega⟩
    simp only [girandolelaw11_Same.l0]
    by_cases h : i < (l.length : Int)
    · rw [if_pos h, if_pos h0, if_true, show wrap64 (i + 1) = i + 1 from by unfold wrap64; omega]
      rw [if_pos h, if_pos h]
      exact ih k (i + 1) (by omega) (by omega) (by omega)
    · rw [if_neg h]
theorem same_f (l : List Int) (hl : l.length ≤ 9223372036854775806) : girandolelaw11_Same.f (l.length + 1) l l = some 0 := by
  unfold girandolelaw11_Same.f
  rw [if_pos rfl]
  exact same_l0 l hl l.length (l.length + 1) 0 (by omega) (by omega) (by omega)

/-- A row of numbers of the call's own, beside the queue. -/
def Out (w0 wr : World) (g s : Nat) (v : Value) (O : List Int) : Prop :=
  wr.ownsRow w0.heap.size 2 1 v O.length (nums .i64 O) ∧ v.ownBlock ≠ some s ∧ v.ownBlock ≠ some g ∧ g < wr.heap.size ∧ s < wr.heap.size
theorem Out.stays {w0 wr w1 : World} {g s : Nat} {v : Value} {O : List Int} (h : Out w0 wr g s v O) (hs : Stays g s wr w1) : Out w0 w1 g s v O :=
  have hz := hs.size
  ⟨own_move h.1 (fun k hk => hs.keep k (by rintro rfl; exact h.2.2.1 hk) (by rintro rfl; exact h.2.1 hk)), h.2.1, h.2.2.1, by have := h.2.2.2.1; omega, by have := h.2.2.2.2; omega⟩
theorem Out.below {w0 wr w1 : World} {g s : Nat} {v : Value} {O : List Int} (h : Out w0 wr g s v O) (hb : Below wr.heap.size wr w1) : Out w0 w1 g s v O :=
  ⟨pw_own_below h.1 hb, h.2.1, h.2.2.1, by have := h.2.2.2.1; have := hb.size; omega, by have := h.2.2.2.2; have := hb.size; omega⟩

theorem Out.appended {w0 w4 w5 : World} {g s : Nat} {u v : Value} {O : List Int} {a : Int} (h : Out w0 w4 g s u O) (hown : w5.ownsRow w0.heap.size 2 1 v (O ++ [a]).length (nums .i64 (O ++ [a])))
    (hg : w4.grownBy w5 u.ownBlock) (hat : v.ownBlock = u.ownBlock ∨ ∃ b, v.ownBlock = some b ∧ w4.heap.size ≤ b) : Out w0 w5 g s v (O ++ [a]) := by
  obtain ⟨h1, h2, h3, h4, h5⟩ := h
  have hz := hg.size
  refine ⟨hown, ?_, ?_, by omega, by omega⟩
  · rcases hat with e | ⟨b, e, hb⟩
    · rw [e]; exact h2
    · rw [e]; simp; omega
  · rcases hat with e | ⟨b, e, hb⟩
    · rw [e]; exact h3
    · rw [e]; simp; omega
theorem QRep.grown {w4 w5 : World} {g s cap most : Nat} {L : List Int} {row : Option Nat} (h : QRep w4 g s cap most L) (hg : w4.grownBy w5 row) (h1 : row ≠ some s) (h2 : row ≠ some g) : QRep w5 g s cap most L := by
  obtain ⟨head, xs, h3, h4⟩ := h
  exact ⟨head, xs, ⟨(hg.block g (blk_lt h3.struct) (fun e => h2 e.symm)).trans h3.struct, (hg.block s (blk_lt h3.slots) (fun e => h1 e.symm)).trans h3.slots, h3.len, h3.pos, h3.small, h3.hd, h3.n_le, h3.most_le⟩, h4⟩
theorem Out.ne {w0 wr : World} {g s : Nat} {v : Value} {O : List Int} (h : Out w0 wr g s v O) : v.ownBlock ≠ some s ∧ v.ownBlock ≠ some g := ⟨h.2.1, h.2.2.1⟩

def Rel2 (w : World) (g s m : Nat) (y : List Int) (n : Nat) (v : Value) (wr : World) : Prop :=
  ∃ (mo : Nat) (O L : List Int), n = L.length ∧ O ++ L = y ∧ QRep wr g s m mo L ∧ Out w wr g s v O ∧ Below w.heap.size w wr
def Rel1 (w : World) (g s m : Nat) (y : List Int) (v i : Value) (wr : World) : Prop :=
  ∃ (k mo : Nat) (O L : List Int), k ≤ y.length ∧ i = .int .i64 k ∧ O ++ L = y.take k ∧ QRep wr g s m mo L ∧ Out w wr g s v O ∧ Below w.heap.size w wr

set_option maxHeartbeats 1600000 in
theorem round_core (room : Int) (A : Option Addr) (c : Nat) (l y : List Int) (w : World) (hr : ReadsInt w .i64 A y.length y) (hc : y.length ≤ c) (hy : y.length ≤ 200) (j : Int)
    (hj : (j = (l.length : Int) ∧ ¬ (200 < (l.length : Int))) ∨ (j = 200 ∧ 200 < (l.length : Int)))
    (hsl : ∀ W : World, (Instr.slice 22 (.slice A l.length c) none (some (.int .i64 j)) none).run Try.prog W = .ok (.slice A y.length c) W) :
    Calls Try.prog 3 #[.int .i64 room, .slice A l.length c] w fun e w' => e = .returned (.bool true) ∧ Below w.heap.size w w' := by
  have HR := Lib.hid hr
  clear hr
  have HB := Lib.hid (Below.refl w.heap.size w)
  have hrm : ¬ (50 < room) ∨ 50 < room := by omega
  rcases hj with ⟨rfl, hj⟩ | ⟨rfl, hj⟩ <;> rcases hrm with hrm | hrm
  all_goals
    go_enter Try.func3, Try.ntmps3
    go_wp2_with fail
    refine (awake_any _).mono ?_
    rintro e w1 ⟨rfl, hb1⟩
    have HB1 := Lib.hid (below_step HB.out hb1)
    clear HB hb1
    go_wp2_with fail
    refine (new_nil _ (by omega) _).mono ?_
    rintro e w2 ⟨g, s, m, rfl, hm, hq, hg, hs, hb⟩
    have HB2 := Lib.hid (below_step HB1.out hb)
    have hg2 : w.heap.size ≤ g := Nat.le_trans HB1.out.size hg
    have hs2 : w.heap.size ≤ s := Nat.le_trans HB1.out.size hs
    have HQ := Lib.hid hq
    clear HB1 hb hq hg hs
    go_wp2_with fail
    go_loopw [6, 26] (fun v i wr => Rel1 w g s m y v i wr) (fun _ i _ => y.length - (intOf i).toNat)
    case atStart =>
      have hz : g < w2.heap.size ∧ s < w2.heap.size := by
        obtain ⟨_, _, h1, _⟩ := HQ.out
        exact ⟨blk_lt h1.struct, blk_lt h1.slots⟩
      have hsz := HB2.out.size
      refine ⟨0, 0, [], [], by omega, rfl, by simp, HQ.out.step (below_alloc (Below.refl _ _) _), ⟨?_, ?_, ?_, ?_, ?_⟩, below_alloc HB2.out _⟩
      · exact own_lit w2 _ 2 .i64 [] hsz (by simp)
      · simp [Value.ownBlock]; omega
      · simp [Value.ownBlock]; omega
      · simp; omega
      · simp; omega
    case round =>
      obtain ⟨k, mo, O, L, hk, rfl, hol, hq, ho, hb⟩ := hrel
      have HOL := Lib.hid hol
      have HQ1 := Lib.hid hq
      have HO1 := Lib.hid ho
      have HB1 := Lib.hid hb
      have hroom := hq.room
      clear hol hq ho hb
      rcases Nat.lt_or_ge k y.length with hlt | hge
      · obtain ⟨ad, hA1, hcell⟩ := HR.out.2.2 (by omega)
        have hc := pw_cell_below HB1.out (hcell k hlt)
        subst hA1
        clear hcell
        have HGD := Lib.hid (List.take_succ_eq_append_getElem hlt).symm
        rcases Nat.lt_or_ge L.length m with hfull | hfull
        · go_wp2_with fail
          refine (qput_room _ _ _ _ _ _ _ HQ1.out hfull).mono ?_
          rintro e w3 ⟨rfl, hq, hst⟩
          have HQ3 := Lib.hid hq
          have HS3 := Lib.hid hst
          clear hq hst
          go_wp2_with fail
          go_roundw
          case rel =>
            refine ⟨k + 1, max mo (L.length + 1), O, L ++ [y[k]], by omega, by go_num, ?_, HQ3.out, HO1.out.stays HS3.out, HS3.out.below _ _ HB1.out hg2 hs2⟩
            rw [← List.append_assoc, HOL.out, HGD.out]
          case measure => simp [intOf]; omega
        · go_wp2_with fail
          refine (qput_full _ _ _ _ _ _ _ HQ1.out (by omega)).mono ?_
          rintro e w3 ⟨rfl, ⟨n3, rfl⟩⟩
          obtain ⟨a, L', rfl⟩ : ∃ a L', L = a :: L' := by
            cases L with
            | nil => simp at hfull; omega
            | cons a L' => exact ⟨a, L', rfl⟩
          have HQ3 := Lib.hid (HQ1.out.step (Drawn0.below ⟨n3, rfl⟩))
          have HO3 := Lib.hid (HO1.out.below (Drawn0.below ⟨n3, rfl⟩))
          have HB3 := Lib.hid (pw_below_drewN HB1.out n3)
          clear HQ1 HO1 HB1
          go_wp2_with fail
          refine (qtake_some _ _ _ _ _ _ _ HQ3.out).mono ?_
          rintro e w4 ⟨rfl, hq, hst⟩
          have HQ4 := Lib.hid hq
          have HS4 := Lib.hid hst
          clear hq hst
          have HO4 := Lib.hid (HO3.out.stays HS4.out)
          have HB4 := Lib.hid (HS4.out.below _ _ HB3.out hg2 hs2)
          clear HO3 HB3 HS4
          have hol : O.length ≤ y.length := by
            have h8 := congrArg List.length HOL.out
            rw [List.length_append, List.length_take] at h8
            omega
          go_wp2_with (first | ((with_reducible refine gate_builtin (b := .append) (xs := #[.tmp 38, .tmp 40]) rfl ?_); at_builtin; refine print_append_num (w0 := w) w.heap.size rfl (.tmp 38) (.tmp 40) 22 2 .i64 8 rfl Try.underlying22 info2 (by decide) u6 O a rfl rfl HO4.out.1 HB4.out HB4.out.size (by omega) ?_; intro v5 w5 hown hb5 hg5 hat5))
          have HO5 := Lib.hid (HO4.out.appended hown hg5 hat5)
          have HQ5 := Lib.hid (HQ4.out.grown hg5 HO4.out.ne.1 HO4.out.ne.2)
          have HB5 := Lib.hid hb5
          clear hown hg5 hat5 hb5 HQ4 HO4 HB4
          rw [List.length_cons] at hroom
          go_wp2_with fail
          refine (qput_room _ _ _ _ _ _ _ HQ5.out (by omega)).mono ?_
          rintro e w6 ⟨rfl, hq, hst⟩
          have HQ6 := Lib.hid hq
          have HS6 := Lib.hid hst
          clear hq hst
          go_wp2_with fail
          go_roundw
          case rel =>
            refine ⟨k + 1, max mo (L'.length + 1), O ++ [a], L' ++ [y[k]], by omega, by go_num, ?_, HQ6.out, HO5.out.stays HS6.out, HS6.out.below _ _ HB5.out hg2 hs2⟩
            rw [← HGD.out, ← HOL.out]
            simp
          case measure => simp [intOf]; omega
      · have hol : O ++ L = y := by rw [HOL.out, List.take_of_length_le (by omega)]
        have HOY := Lib.hid hol
        clear hol HOL
        have hkd : decide (k < y.length) = false := by simp; omega
        go_wp2_with fail
        go_loopg [6] L.length (fun n v wx => Rel2 w g s m y n v wx)
        case atStart => exact ⟨mo, O, L, rfl, HOY.out, HQ1.out, HO1.out, HB1.out⟩
        case round =>
          obtain ⟨mo2, O2, L2, rfl, hol2, hq2, ho2, hb2⟩ := hrel
          clear HQ1 HO1 HB1 HOY
          have HQ2 := Lib.hid hq2
          have HO2 := Lib.hid ho2
          have HB2 := Lib.hid hb2
          have hol3 : O2.length + L2.length = y.length := by rw [← hol2, List.length_append]
          have HOY := Lib.hid hol2
          clear hq2 ho2 hb2 hol2
          cases L2 with
          | nil =>
            go_wp2_with fail
            refine (qlen _ _ _ _ _ _ HQ2.out).mono ?_
            rintro e w3 ⟨rfl, ⟨n3, rfl⟩⟩
            go_wp2_with fail
            have hoy := HOY.out
            rw [List.append_nil] at hoy
            subst hoy
            obtain ⟨A5, c5, hv, hrd⟩ := own_reads HO2.out.1
            subst hv
            refine (girandolelaw11_Same.calls _ A5 c5 O2 A c O2 0 _ ?_ ?_ ?_ ?_ (same_f O2 (by omega))).mono ?_
            · exact Kd.C_of_reads (d := (0 : Int)) (h1 := fun _ => rfl) (hrd.below (Drawn0.below ⟨n3, rfl⟩))
            · exact own_le HO2.out.1
            · exact Kd.C_of_reads (d := (0 : Int)) (h1 := fun _ => rfl) (HR.out.below (pw_below_drewN HB2.out n3))
            · assumption
            rintro e w4 ⟨rfl, ⟨n4, rfl⟩⟩
            go_wp2_with fail
            go_ret
            exact ⟨by rfl, pw_below_drewN HB2.out _⟩
          | cons a L3 =>
            go_wp2_with fail
            refine (qlen _ _ _ _ _ _ HQ2.out).mono ?_
            rintro e w3 ⟨rfl, ⟨n3, rfl⟩⟩
            have HQ3 := Lib.hid (HQ2.out.step (Drawn0.below ⟨n3, rfl⟩))
            have HO3 := Lib.hid (HO2.out.below (Drawn0.below ⟨n3, rfl⟩))
            have HB3 := Lib.hid (pw_below_drewN HB2.out n3)
            clear HQ2 HO2 HB2
            go_wp2_with fail
            refine (qtake_some _ _ _ _ _ _ _ HQ3.out).mono ?_
            rintro e w4 ⟨rfl, hq, hst⟩
            have HQ4 := Lib.hid hq
            have HS4 := Lib.hid hst
            clear hq hst
            have HO4 := Lib.hid (HO3.out.stays HS4.out)
            have HB4 := Lib.hid (HS4.out.below _ _ HB3.out hg2 hs2)
            clear HO3 HB3 HS4
            rw [List.length_cons] at hol3
            go_wp2_with (first | ((with_reducible refine gate_builtin (b := .append) (xs := #[.tmp 59, .tmp 61]) rfl ?_); at_builtin; refine print_append_num (w0 := w) w.heap.size rfl (.tmp 59) (.tmp 61) 22 2 .i64 8 rfl Try.underlying22 info2 (by decide) u6 O2 a rfl rfl HO4.out.1 HB4.out HB4.out.size (by omega) ?_; intro v5 w5 hown hb5 hg5 hat5; have HO5 := Lib.hid (HO4.out.appended hown hg5 hat5); have HQ5 := Lib.hid (HQ4.out.grown hg5 HO4.out.ne.1 HO4.out.ne.2); have HB5 := Lib.hid hb5; obtain ⟨A5, c5, hv, hrd⟩ := own_reads hown; subst hv; clear hown hg5 hat5 hb5 HQ4 HO4 HB4 hrd; rw [List.length_append, List.length_singleton]))
            go_roundg L3.length
            case measure => simp
            case rel =>
              refine ⟨mo2, O2 ++ [a], L3, rfl, by rw [List.append_assoc]; exact HOY.out, HQ5.out, ?_, HB5.out⟩
              have h9 := HO5.out
              rw [List.length_append, List.length_singleton] at h9
              exact h9

theorem take_run (A : Option Addr) (c : Nat) (l : List Int) (j : Int) (h0 : 0 ≤ j) (hm : j ≤ l.length) (hc : l.length ≤ c) (y : List Int) (hy : y = l.take j.toNat) :
    (∀ W : World, (Instr.slice 22 (.slice A l.length c) none (some (.int .i64 j)) none).run Try.prog W = .ok (.slice A y.length c) W) ∧ (∀ w : World, ReadsInt w .i64 A l.length l → ReadsInt w .i64 A y.length y) ∧ y.length ≤ c := by
  subst hy
  obtain ⟨i0, hi, hzz⟩ := Option.map_eq_some_iff.1 info2
  simp only [Prod.mk.injEq] at hzz
  exact print_take_int (P := Try.prog) (k := .i64) 22 2 Try.underlying22 hi hzz.2.1 A c l j h0 hm hc

theorem round_any (room : Int) (A : Option Addr) (c : Nat) (l : List Int) (w : World) (hr : ReadsInt w .i64 A l.length l) (hc : l.length ≤ c) :
    Calls Try.prog 3 #[.int .i64 room, .slice A l.length c] w fun e w' => e = .returned (.bool true) ∧ Below w.heap.size w w' := by
  by_cases h : 200 < (l.length : Int)
  · obtain ⟨h1, h2, h3⟩ := take_run A c l 200 (by omega) (by omega) hc _ rfl
    exact round_core room A c l _ w (h2 w hr) h3 (by rw [List.length_take]; omega) 200 (.inr ⟨rfl, h⟩) h1
  · obtain ⟨h1, h2, h3⟩ := take_run A c l l.length (by omega) (by omega) hc _ rfl
    exact round_core room A c l _ w (h2 w hr) h3 (by rw [List.length_take]; omega) l.length (.inl ⟨rfl, h⟩) h1
end Go.Proofs.Ytnlkjimpefebbaa.Qu
namespace Go.Proofs.Ytnlkjimpefebbaa.queueRound
open Go.ChangeShapes Go.WideShapes Go.ChangeAt Go.RowKit
open Go.ChangeMaps (open_string shut_string)
open Go.Proofs
set_option linter.unusedVariables false
theorem own : ownKnob Try.prog.godebug = none := by kernel_rfl
theorem laidOut : laidOutB Try.prog = true := by kernel_rfl
def IsRow (k : IntKind) (w : World) (a : Option Addr) (len cap : Nat) (zs : List Int) : Prop :=
  (a = none ∧ len = 0 ∧ cap = 0 ∧ zs = []) ∨
  ∃ x, a = some x ∧ len ≤ cap ∧ cap ≤ maxLen ∧ zs.length = cap ∧ (∀ i, i < zs.length → w.cell? (x.add i) = some (.int k (zs.getD i 0))) ∧ ∀ n ∈ zs, (Lit.int k n).wf = true
set_option maxRecDepth 100000 in
theorem lifted (os : Os) (started : os.Started) (H : Type) (enc : TypeId × Value → H) :
    ReturnsInHanded {} Try.checked os 3 .any (Rows.queueRoundSpec.pre6 enc Try.prog Try.f3 Rows.queueRoundRow.domain false) (Rows.queueRoundSpec.post enc Try.prog Try.f3 false true false false) := by
  refine returnsInHanded_of_change_sized (C := Try.checked) own started (by kernel_rfl) Try.func3
    (ChangeSpec.witness6 (enc := enc) (C := Try.checked) false ⟨#[], #[.int .i64 0, .slice none 0 0], []⟩ 8 (by kernel_rfl) (by kernel_rfl) (by kernel_rfl) (by kernel_rfl)) ?_
  intro W base args ds gs before hval0 hW hcnd hsz0 _
  have hsz : (DataW.weightsEach Try.prog (Try.f3.params.toList ++ Rows.queueRoundSpec.plain.varTypes Try.prog) (ds ++ gs)).all (· ≤ reachBytes) = true := hsz0
  have hval : ∀ (j : Nat) t v, Try.f3.params[j]? = some t → args[j]? = some v → Value.okWide Try.prog W .any base t v := hval0
  have hW' := hW
  obtain ⟨p, q, hA0, hV, rfl, hfz, hnd⟩ := hW
  have hA : DataW.TrodAll enc Try.prog W 0 (fun _ => true) true Try.f3.params.toList args.toList ds p := hA0
  rw [Try.params3] at hA hval hsz
  obtain ⟨v0, vs0, d0, ds0, p0, q0, hargs, rfl, rfl, h0, r0⟩ := trodAll_cons hA
  obtain ⟨v1, vs1, d1, ds1, p1, q1, rfl, rfl, rfl, h1, r1⟩ := trodAll_cons r0
  obtain ⟨rfl, rfl, rfl⟩ := trodAll_nil r1
  obtain rfl : args = #[v0, v1] := by cases args; simp_all
  obtain ⟨rfl, rfl⟩ := trodVars_none hV
  obtain ⟨a0, rfl, rfl, rfl, w0⟩ := open_int Try.underlying3 (hval 0 3 v0 rfl rfl) h0
  obtain ⟨a1, len1, cap1, rfl⟩ := okWide_slice Try.underlying22 (hval 1 22 v1 rfl rfl)
  have k1 := h1
  have lt1 : ∀ x ∈ p1, x.block < W.heap.size := by obtain ⟨m, hm⟩ := k1; exact DataW.trod_lt m _ _ _ hm
  obtain ⟨z1, wz1⟩ : ∃ zs, IsRow .i64 W a1 len1 cap1 zs := by
    obtain ⟨fuel, hf⟩ := h1
    rcases open_ints Try.underlying22 Try.underlying2 (by kernel_rfl) hf with ⟨hcs, _⟩ | ⟨x, l, c, zs, hcs, _, hl, hm, hz, _, hcell, hwz⟩
    · simp [Value.cells] at hcs
      obtain ⟨rfl, rfl, rfl⟩ := hcs
      exact ⟨[], .inl ⟨rfl, rfl, rfl, rfl⟩⟩
    · simp [Value.cells] at hcs
      obtain ⟨rfl, rfl, rfl⟩ := hcs
      exact ⟨zs, .inr ⟨_, rfl, hl, hm, by simpa using hz, hcell, hwz⟩⟩
  obtain ⟨l1, rfl, hr1, hm1, hw1, hc1⟩ := YtnlkjimpefebbaaW.PrintWords.ReadsInt.ofRowC wz1
  clear hA0 hval0 hsz0 hsz
  refine (Qu.round_any a0 a1 cap1 l1 W hr1 hc1).mono fun e W' ⟨he, bel⟩ => ?_
  subst he
  exact ⟨_, rfl, _, _, _, [], _, [], hW', trodAll_mk1 (shut_bool Try.underlying4 _), (trodAll_cons_mk (shut_int Try.underlying3 w0) (trodAll_cons_mk (Below.trod laidOut (by kernel_rfl) (of_decide_eq_true (by kernel_rfl)) k1 bel lt1) trodAll_mk0)), rfl, bel.frame _, fun h => by cases h⟩
theorem over : Rows.queueRoundRow.holds Try.pinned (OpenSpec.ofChange Rows.queueRoundSpec) :=
  OpenClaim.holds_of_wide 3 Try.f3 rfl rfl rfl rfl rfl rfl rfl ⟨rfl, rfl, rfl, rfl, rfl⟩ rfl rfl rfl rfl rfl (by kernel_rfl) Try.func3 (by kernel_rfl)
    (of_decide_eq_true (by kernel_rfl)) (by unfold Func.isWrapper; first | (rw [if_pos (by decide +kernel)]; kernel_rfl) | (rw [if_neg (by decide +kernel)]; exact ⟨rfl, rfl⟩))
    (fun os started H enc _ => lifted os started H enc)
theorem proved : Rows.QueueRoundSaid := over
end Go.Proofs.Ytnlkjimpefebbaa.queueRound
namespace Go.Proofs.Ytnlkjimpefebbaa
/-- The row, under a short name, for the claim. -/
theorem queueRound_holds : Rows.QueueRoundSaid := queueRound.proved
end Go.Proofs.Ytnlkjimpefebbaa
