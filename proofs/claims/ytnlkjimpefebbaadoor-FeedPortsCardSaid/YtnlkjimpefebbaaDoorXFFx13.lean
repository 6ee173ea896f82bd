-- Written by a program of this session (wip/xprint) out of the translation.
import Derived.Test.YtnlkjimpefebbaaDoorXFFx0
import Derived.Test.YtnlkjimpefebbaaDoorXFFx1
import Derived.Test.YtnlkjimpefebbaaDoorXFFx2
import Derived.Test.YtnlkjimpefebbaaDoorXFFx8
import Derived.Test.YtnlkjimpefebbaaDoorXFFx10
namespace Go.Proofs.YtnlkjimpefebbaaDoor.XFF
open Go.RowKit Go.Proofs.YtnlkjimpefebbaaDoorW.PrintWords Go.Proofs.YtnlkjimpefebbaaDoorW.PrintLast Go.Proofs.YtnlkjimpefebbaaDoorW.PrintMore
attribute [local go_sem] max2_int min2_int max_two min_two max_three min_three max_four min_four   -- for this text's walks alone
set_option linter.unusedVariables false
set_option linter.unusedSimpArgs false

/-! ### feed_Port: function 56 -/
def feed_Port.l0 : Nat → List ByteArray → List Int → Int → Int → ByteArray → Int → Bool → Bool → ByteArray → Bool → Option (ByteArray)
 | 0, _, _, _, _, _, _, _, _, _, _ => none
 | k + 1, x5, x8, x9, x10, x333000, x333001, x333002, x333003, x333004, x333005 => if x10 < x9 then (if 0 ≤ x10 then (if x10 < (x8.length : Int) then ((feed_word.f (rd x8 x10) x333002).bind fun t334 => (if x5.length < 8796093022208 then (feed_Port.l0 k (x5 ++ [t334]) x8 x9 (wrap64 (x10 + 1)) x333000 x333001 x333002 x333003 x333004 x333005) else (none))) else (none)) else (none)) else ((strings_Join.f x5 (⟨#[32]⟩ : ByteArray)).bind fun t338 => (some t338))
def feed_Port.f (k : Nat) (a0_0 : ByteArray) (a0_1 : Int) (a0_2 : Bool) (a0_3 : Bool) (a0_4 : ByteArray) (a0_5 : Bool) (l1 : List Int) : Option (ByteArray) := feed_Port.l0 k ([] : List ByteArray) l1 (l1.length : Int) 0 a0_0 a0_1 a0_2 a0_3 a0_4 a0_5
theorem feed_Port.mono_l : ∀ k, (∀ y0 y1 y2 y3 y4 y5 y6 y7 y8 y9, LeO (feed_Port.l0 k y0 y1 y2 y3 y4 y5 y6 y7 y8 y9) (feed_Port.l0 (k + 1) y0 y1 y2 y3 y4 y5 y6 y7 y8 y9))
 | 0 => fun _ _ _ _ _ _ _ _ _ _ r h => by simp [feed_Port.l0] at h
 | k + 1 => by
  have ih0 := feed_Port.mono_l k
  ·intro y0 y1 y2 y3 y4 y5 y6 y7 y8 y9
   unfold feed_Port.l0
   repeat' first
   | (with_reducible exact ih0 _ _ _ _ _ _ _ _ _ _)
   | (with_reducible exact LeO.refl _)
   | (with_reducible exact LeO.none _)
   | (with_reducible refine LeO.ite ?_ ?_)
   | (with_reducible refine LeO.bind ?_ (fun _ => ?_))
   | exact ih0 _ _ _ _ _ _ _ _ _ _
   | exact LeO.none _
   | refine LeO.ite ?_ ?_
   | refine LeO.bind ?_ (fun _ => ?_)
theorem feed_Port.mono : ∀ a0 a1 a2 a3 a4 a5 a6 k, LeO (feed_Port.f k a0 a1 a2 a3 a4 a5 a6) (feed_Port.f (k + 1) a0 a1 a2 a3 a4 a5 a6) := by
 intro a0 a1 a2 a3 a4 a5 a6 k
 have ih0 := feed_Port.mono_l k
 unfold feed_Port.f
 repeat' first
   | (with_reducible exact ih0 _ _ _ _ _ _ _ _ _ _)
   | (with_reducible exact LeO.refl _)
   | (with_reducible exact LeO.none _)
   | (with_reducible refine LeO.ite ?_ ?_)
   | (with_reducible refine LeO.bind ?_ (fun _ => ?_))
   | exact ih0 _ _ _ _ _ _ _ _ _ _
   | exact LeO.none _
   | refine LeO.ite ?_ ?_
   | refine LeO.bind ?_ (fun _ => ?_)
set_option maxHeartbeats 8000000 in
set_option maxRecDepth 100000 in
theorem feed_Port.calls (k : Nat) (a0_0 : ByteArray) (a0_1 : Int) (a0_2 : Bool) (a0_3 : Bool) (a0_4 : ByteArray) (a0_5 : Bool) (A1 : Option Addr) (c1 : Nat) (l1 : List Int) (r : ByteArray) (w : World) (hr1 : Kd.C (Kd.int .i64) w A1 l1.length l1) (hc1 : l1.length ≤ c1) (h : feed_Port.f k a0_0 a0_1 a0_2 a0_3 a0_4 a0_5 l1 = some r) (hT : Tabs w) :
  Calls Tryd.prog 56 #[.agg #[.string a0_0, .int .i64 a0_1, .bool a0_2, .bool a0_3, .string a0_4, .bool a0_5], .slice A1 l1.length c1] w fun e w' => e = .returned (.string r) ∧ Below w.heap.size w w' := by
 have HT := Aside0.mk hT
 clear hT
 have hu88 := Tryd.underlying88
 have HR1 := Aside0.mk hr1
 have HC1 := Aside0.mk hc1
 clear hr1 hc1
 have HB := Aside0.mk (Below.refl w.heap.size w)
 have H : (feed_Port.l0 k ([] : List ByteArray) l1 (l1.length : Int) 0 a0_0 a0_1 a0_2 a0_3 a0_4 a0_5) = some r := h
 clear h
 have H' := Aside0.mk H
 clear H
 go_enter Tryd.func56, Tryd.ntmps56
 go_wp2_with (first | ((with_reducible refine gate_dst (N := 2) rfl ?_); refine box_event ?hg (N := 2) ?hd (cs := #[.string a0_0, .int .i64 a0_1, .bool a0_2, .bool a0_3, .string a0_4, .bool a0_5]) (t := 88) ?hr ?_; (case hd => rfl); (case hg => rfl); (case hr => first | (go_simp; done) | (go_simp; rfl)); intro gb332 hg w3 hbox hb; have n0_ := Aside0.mk (below_step (by repeat (first | (with_reducible first | exact HB.out | apply below_alloc | apply pw_below_drewN | apply below_drew1) | exact HB.out)) hb); have n1_ := Aside0.mk (hbox); have n2_ := Aside0.mk ((by rw [hg]; exact (below_size (by repeat (first | (with_reducible first | exact HB.out | apply below_alloc | apply pw_below_drewN | apply below_drew1) | exact HB.out))) : w.heap.size ≤ gb332)); have n3_ := Aside0.mk ((by rw [hg]; exact (below_size (by repeat (first | (with_reducible first | exact HB.out | apply below_alloc | apply pw_below_drewN | apply below_drew1) | exact HB.out))) : w.heap.size ≤ gb332)); clear HB; have HB := n0_; have BK332 := n1_; have GW332 := n2_; have GE332 := n3_; clear n0_ n1_ n2_ n3_; clear hb hbox hg))
 go_loopg [5, 10] k (fun kq v5 v10 w' => ∃ (x5_1 : List ByteArray) (x10_1 : Int), v10 = .int .i64 x10_1 ∧ Aside0 (feed_Port.l0 kq x5_1 l1 (l1.length : Int) x10_1 a0_0 a0_1 a0_2 a0_3 a0_4 a0_5 = some r) ∧ Aside0 (kq ≤ k) ∧ Aside0 (Kd.R Kd.string 9 w' w.heap.size (fun _ => True) v5 x5_1) ∧ Aside0 (w'.heap[gb332]? = some (.cells #[.string a0_0, .int .i64 a0_1, .bool a0_2, .bool a0_3, .string a0_4, .bool a0_5] 88 (0, 0))) ∧ Aside0 (Below w.heap.size w w'))
 case atStart => exact ⟨(([] : List ByteArray)), (0), (by first | rfl | (simp; done) | (simp [*]; done)), H', ⟨Nat.le_refl _⟩, ⟨by first | exact Kd.R_nil _ _ _ _ _ | exact Kd.N_nil _ _ _ _ _ | exact Kd.V_nil _ _ _ _ _ | exact Kd.Q_nil _ _ _ _ _ | exact Kd.S_nil _ _ _ _ _⟩, ⟨by (with_reducible repeat (first | refine blk_drewN ?_ _ | refine blk_drew ?_ | refine blk_alloc ?_ _)); exact BK332.out⟩, ⟨by repeat (first | (with_reducible first | exact HB.out | apply below_alloc | apply pw_below_drewN | apply below_drew1 | refine below_set ?_ GE332.out) | exact HB.out)⟩⟩
 case round =>
  clear H'
  try clear c1
  try clear p2
  obtain ⟨x5_1, x10_1, rfl, HA, HK1, HO_5, BK332, HB⟩ := hrel
  cases gk with
  | zero => exact absurd HA.out (by simp [feed_Port.l0])
  | succ k1 =>
   have H := HA.out
   clear HA
   simp only [feed_Port.l0] at H
   by_cases c4 : x10_1 < (l1.length : Int)
   ·rw [if_pos c4] at H
    have c4b0 : decide (x10_1 < (l1.length : Int)) = true := decide_eq_true c4
    clear c4
    by_cases c5 : 0 ≤ x10_1
    ·rw [if_pos c5] at H
     have c5b0 : decide (0 ≤ x10_1) = true := decide_eq_true c5
     clear c5
     by_cases c6 : x10_1 < (l1.length : Int)
     ·rw [if_pos c6] at H
      have c6b0 : decide (x10_1 < (l1.length : Int)) = true := decide_eq_true c6
      clear c6
      replace H := Option.bind_eq_some_iff.mp H
      obtain ⟨t334, A70, H⟩ := H
      replace H : (if x5_1.length < 8796093022208 then (feed_Port.l0 k1 (x5_1 ++ [t334]) l1 (l1.length : Int) (wrap64 (x10_1 + 1)) a0_0 a0_1 a0_2 a0_3 a0_4 a0_5) else (none)) = some r := H
      have A7 := Aside0.mk A70
      clear A70
      by_cases c8 : x5_1.length < 8796093022208
      ·rw [if_pos c8] at H
       have LMc8 := Aside0.mk c8
       clear c8
       obtain ⟨y335, hy335⟩ : ∃ y_ : List ByteArray, y_ = (x5_1 ++ [t334]) := ⟨_, rfl⟩
       replace H : (feed_Port.l0 k1 y335 l1 (l1.length : Int) (wrap64 (x10_1 + 1)) a0_0 a0_1 a0_2 a0_3 a0_4 a0_5) = some r := by first | (rw [hy335]; with_reducible exact H) | (have H2_ := (Option.bind_some _ _).symm.trans H; rw [hy335]; with_reducible exact H2_) | (have H2_ := (Option.bind_some _ _).symm.trans H; with_reducible exact H2_) | with_reducible exact H | (rw [hy335]; exact H) | exact H
       have Ny335 := Aside0.mk hy335
       clear hy335
       have H' := Aside0.mk H
       clear H
       have p333 : 0 ≤ (x10_1 : Int) := of_decide_eq_true (by first | (with_reducible assumption) | assumption)
       have q333 : x10_1 < (l1.length : Int) := of_decide_eq_true (by first | (with_reducible assumption) | assumption)
       obtain ⟨ad333, e333, hx333_0⟩ := Kd.at_int HR1.out x10_1 p333 q333
       cases e333
       replace hx333_0 := (HB.out.cell (World.block_lt_of_cell? w _ hx333_0)).trans hx333_0
       replace p333 := eq_true p333
       replace q333 := eq_true q333
       have hcz9_0 : wr.cell? ⟨gb332, 0, none⟩ = some (.string a0_0) := (blk_cell BK332.out 0).trans rfl
       have hcz9_1 : wr.cell? ⟨gb332, 1, none⟩ = some (.int .i64 a0_1) := (blk_cell BK332.out 1).trans rfl
       have hcz9_2 : wr.cell? ⟨gb332, 2, none⟩ = some (.bool a0_2) := (blk_cell BK332.out 2).trans rfl
       have hcz9_3 : wr.cell? ⟨gb332, 3, none⟩ = some (.bool a0_3) := (blk_cell BK332.out 3).trans rfl
       have hcz9_4 : wr.cell? ⟨gb332, 4, none⟩ = some (.string a0_4) := (blk_cell BK332.out 4).trans rfl
       have hcz9_5 : wr.cell? ⟨gb332, 5, none⟩ = some (.bool a0_5) := (blk_cell BK332.out 5).trans rfl
       have hfz9_0 := blk_frozen BK332.out 0
       have hfz9_1 := blk_frozen BK332.out 1
       have hfz9_2 := blk_frozen BK332.out 2
       have hfz9_3 := blk_frozen BK332.out 3
       have hfz9_4 := blk_frozen BK332.out 4
       have hfz9_5 := blk_frozen BK332.out 5
       go_wp2_with (first | ((with_reducible refine gate_callee (f := 89) rfl ?_); refine goesL_ (some 19) rfl rfl Tryd.func89 (by kernel_rfl) rfl #[.int .i64 (rd l1 x10_1), .bool a0_2] rfl (by (try simp only [List.map_toArray, List.map_cons, List.map_nil]); first | done | rfl | (simp only [List.length_drop, List.length_take]; rfl)) ?_; (with_reducible refine (feed_word.calls (rd l1 x10_1) a0_2 t334 _ A7.out ?side1).mono ?_); (case side1 => exact Tabs.below HT.out (by repeat (first | (with_reducible first | exact HB.out | apply below_alloc | apply pw_below_drewN | apply below_drew1 | refine below_set ?_ GE332.out) | exact HB.out))); rintro e w10 ⟨rfl, hb⟩; refine ⟨_, rfl, ?_⟩; have n0_ := Aside0.mk (Kd.R_below (by (with_reducible repeat (first | apply Kd.R_alloc | apply Kd.R_drewN | apply Kd.R_drew)); exact HO_5.out) hb); have n1_ := Aside0.mk (blk_below (g := gb332) (o := .cells #[.string a0_0, .int .i64 a0_1, .bool a0_2, .bool a0_3, .string a0_4, .bool a0_5] 88 (0, 0)) (by (with_reducible repeat (first | refine blk_drewN ?_ _ | refine blk_drew ?_ | refine blk_alloc ?_ _)); exact BK332.out) hb); have n2_ := Aside0.mk (below_step (by repeat (first | (with_reducible first | exact HB.out | apply below_alloc | apply pw_below_drewN | apply below_drew1 | refine below_set ?_ GE332.out) | exact HB.out)) hb); clear HO_5; clear BK332; clear HB; have HO_5 := n0_; have BK332 := n1_; have HB := n2_; clear n0_ n1_ n2_; (try clear hb); (try clear hb2); (try clear hk); (try clear hi)) | ((with_reducible refine gate_builtin (b := .append) (xs := #[.tmp 14, .tmp 20]) rfl ?_); at_builtin; refine Kd.R_append Kd.string (w0 := w) w.heap.size rfl (.tmp 14) (.tmp 20) 39 9 (.string ⟨#[]⟩) 16 rfl Tryd.underlying39 info9 rfl (by decide) (by omega) u5 x5_1 t334 [.string t334] (fun _ => True) (fun _ => False) rfl rfl ?aP (fun _ hk => hk.elim) ?aF ?aO ?aB ?aS ?aL ?_; (case aP => exact rfl); (case aB => exact (by repeat (first | (with_reducible first | exact HB.out | apply below_alloc | apply pw_below_drewN | apply below_drew1 | refine below_set ?_ GE332.out) | exact HB.out))); (case aF => exact (fun _ _ => trivial)); (case aO => exact (by (with_reducible repeat (first | apply Kd.R_alloc | apply Kd.R_drewN | apply Kd.R_drew)); exact HO_5.out)); (case aS => exact (below_size (by repeat (first | (with_reducible first | exact HB.out | apply below_alloc | apply pw_below_drewN | apply below_drew1 | refine below_set ?_ GE332.out) | exact HB.out)))); (case aL => have := LMc8.out; omega); intro v336 w11 ho hb hg hat; rw [← Ny335.out] at ho; have n0_ := Aside0.mk (blk_grown (g := gb332) (o := .cells #[.string a0_0, .int .i64 a0_1, .bool a0_2, .bool a0_3, .string a0_4, .bool a0_5] 88 (0, 0)) (by (with_reducible repeat (first | refine blk_drewN ?_ _ | refine blk_drew ?_ | refine blk_alloc ?_ _)); exact BK332.out) hg (Kd.R_ne HO_5.out BK332.out (by decide))); have n1_ := Aside0.mk (hb); have n2_ := Aside0.mk (ho); clear BK332; clear HB; clear HO_5; have BK332 := n0_; have HB := n1_; have HO337 := n2_; clear n0_ n1_ n2_; clear ho hb hg hat))
       go_roundg k1
       case measure => have := HK1.out; omega
       case rel => exact ⟨(y335), (wrap64 (x10_1 + 1)), (by first | rfl | (simp; done) | (simp [*]; done)), H', ⟨by have := HK1.out; omega⟩, ⟨by (with_reducible repeat (first | apply Kd.R_alloc | apply Kd.R_drewN | apply Kd.R_drew)); exact HO337.out⟩, ⟨by (with_reducible repeat (first | refine blk_drewN ?_ _ | refine blk_drew ?_ | refine blk_alloc ?_ _)); exact BK332.out⟩, ⟨by repeat (first | (with_reducible first | exact HB.out | apply below_alloc | apply pw_below_drewN | apply below_drew1 | refine below_set ?_ GE332.out) | exact HB.out)⟩⟩
      ·rw [if_neg c8] at H
       exact absurd H (by simp)
     ·rw [if_neg c6] at H
      exact absurd H (by simp)
    ·rw [if_neg c5] at H
     exact absurd H (by simp)
   ·rw [if_neg c4] at H
    have c4b0 : decide (x10_1 < (l1.length : Int)) = false := decide_eq_false c4
    clear c4
    replace H := Option.bind_eq_some_iff.mp H
    obtain ⟨t338, A120, H⟩ := H
    replace H : (some t338) = some r := H
    have A12 := Aside0.mk A120
    clear A120
    obtain rfl := Option.some.inj H
    obtain ⟨Ao13, co13, eo13⟩ := Kd.R_slice HO_5.out
    subst eo13
    go_wp2_with (first | ((with_reducible refine gate_callee (f := 57) rfl ?_); refine goesL_ (some 24) rfl rfl Tryd.func57 (by kernel_rfl) rfl #[.slice Ao13 x5_1.length co13, .string (⟨#[32]⟩ : ByteArray)] rfl (by (try simp only [List.map_toArray, List.map_cons, List.map_nil]); first | done | rfl | (simp only [List.length_drop, List.length_take]; rfl)) ?_; (with_reducible refine (strings_Join.calls _ _ x5_1 (⟨#[32]⟩ : ByteArray) t338 _ ?side1 ?side2 A12.out).mono ?_); (case side1 => repeat (first | exact (Kd.R_reads' HO_5.out).2.2 | (with_reducible refine Kd.C_alloc ?_ _) | (with_reducible refine Kd.C_drewN ?_ _) | (with_reducible refine Kd.C_drew ?_))); (case side2 => exact (Kd.R_reads' HO_5.out).2.1); rintro e w14 ⟨rfl, hb⟩; refine ⟨_, rfl, ?_⟩; have n0_ := Aside0.mk (Kd.R_below (by (with_reducible repeat (first | apply Kd.R_alloc | apply Kd.R_drewN | apply Kd.R_drew)); exact HO_5.out) hb); have n1_ := Aside0.mk (blk_below (g := gb332) (o := .cells #[.string a0_0, .int .i64 a0_1, .bool a0_2, .bool a0_3, .string a0_4, .bool a0_5] 88 (0, 0)) (by (with_reducible repeat (first | refine blk_drewN ?_ _ | refine blk_drew ?_ | refine blk_alloc ?_ _)); exact BK332.out) hb); have n2_ := Aside0.mk (below_step (by repeat (first | (with_reducible first | exact HB.out | apply below_alloc | apply pw_below_drewN | apply below_drew1 | refine below_set ?_ GE332.out) | exact HB.out)) hb); clear HO_5; clear BK332; clear HB; have HO_5 := n0_; have BK332 := n1_; have HB := n2_; clear n0_ n1_ n2_; (try clear hb); (try clear hb2); (try clear hk); (try clear hi)))
    go_ret
    exact ⟨by first | rfl | (simp [errW_none, errW_some] <;> rfl) | (simp [*, errW_none, errW_some] <;> rfl), by repeat (first | (with_reducible first | exact HB.out | apply below_alloc | apply pw_below_drewN | apply below_drew1 | refine below_set ?_ GE332.out) | exact HB.out)⟩

/-! ### girandolelaw20_FeedPorts: function 12 -/
def girandolelaw20_FeedPorts.l0 : Nat → Bool → List Int → List ByteArray → List Int → Int → Int → ByteArray → Int → Bool → Bool → ByteArray → Bool → Option (Bool)
 | 0, _, _, _, _, _, _, _, _, _, _, _, _ => none
 | k + 1, x0, x1, x6, x19, x20, x21, x342000, x342001, x342002, x342003, x342004, x342005 => if x21 < x20 then (if 0 ≤ x21 then (if x21 < (x19.length : Int) then ((girandoleref20_Row.f k (([(⟨x342000, x342001, x342002, x342003, x342004, x342005⟩ : S84)] : List (S84))) (([rd x19 x21] : List Int))).bind fun t352 => (if x6.length < 8796093022208 then (girandolelaw20_FeedPorts.l0 k x0 x1 (x6 ++ [t352]) x19 x20 (wrap64 (x21 + 1)) x342000 x342001 x342002 x342003 x342004 x342005) else (none))) else (none)) else (none)) else ((feed_Port.f k (⟨#[121]⟩ : ByteArray) 0 x0 false (⟨#[]⟩ : ByteArray) false x1).bind fun t356 => ((strings_Join.f x6 (⟨#[32]⟩ : ByteArray)).bind fun t357 => (some (t356.toList == t357.toList))))
def girandolelaw20_FeedPorts.f (k : Nat) (a0 : Bool) (l1 : List Int) : Option (Bool) := (girandolelaw20_awake.f k).bind fun t339 => (if t339 = true then (if 0 ≤ (mn (l1.length : Int) 20) then (if (mn (l1.length : Int) 20) ≤ (l1.length : Int) then (girandolelaw20_FeedPorts.l0 k a0 (l1.take ((mn (l1.length : Int) 20) : Int).toNat) (([] : List ByteArray)) (l1.take ((mn (l1.length : Int) 20) : Int).toNat) ((l1.take ((mn (l1.length : Int) 20) : Int).toNat).length : Int) 0 (⟨#[121]⟩ : ByteArray) 0 a0 false (⟨#[]⟩ : ByteArray) false) else (none)) else (none)) else (some false))
theorem girandolelaw20_FeedPorts.mono_l : ∀ k, (∀ y0 y1 y2 y3 y4 y5 y6 y7 y8 y9 y10 y11, LeO (girandolelaw20_FeedPorts.l0 k y0 y1 y2 y3 y4 y5 y6 y7 y8 y9 y10 y11) (girandolelaw20_FeedPorts.l0 (k + 1) y0 y1 y2 y3 y4 y5 y6 y7 y8 y9 y10 y11))
 | 0 => fun _ _ _ _ _ _ _ _ _ _ _ _ r h => by simp [girandolelaw20_FeedPorts.l0] at h
 | k + 1 => by
  have ih0 := girandolelaw20_FeedPorts.mono_l k
  ·intro y0 y1 y2 y3 y4 y5 y6 y7 y8 y9 y10 y11
   unfold girandolelaw20_FeedPorts.l0
   repeat' first
   | (with_reducible exact ih0 _ _ _ _ _ _ _ _ _ _ _ _)
   | (with_reducible exact feed_Port.mono _ _ _ _ _ _ _ _)
   | (with_reducible exact girandolelaw20_awake.mono _)
   | (with_reducible exact girandoleref20_Row.mono _ _ _)
   | (with_reducible exact LeO.refl _)
   | (with_reducible exact LeO.none _)
   | (with_reducible refine LeO.ite ?_ ?_)
   | (with_reducible refine LeO.bind ?_ (fun _ => ?_))
   | exact ih0 _ _ _ _ _ _ _ _ _ _ _ _
   | exact feed_Port.mono _ _ _ _ _ _ _ _
   | exact girandolelaw20_awake.mono _
   | exact girandoleref20_Row.mono _ _ _
   | exact LeO.none _
   | refine LeO.ite ?_ ?_
   | refine LeO.bind ?_ (fun _ => ?_)
theorem girandolelaw20_FeedPorts.mono : ∀ a0 a1 k, LeO (girandolelaw20_FeedPorts.f k a0 a1) (girandolelaw20_FeedPorts.f (k + 1) a0 a1) := by
 intro a0 a1 k
 have ih0 := girandolelaw20_FeedPorts.mono_l k
 unfold girandolelaw20_FeedPorts.f
 repeat' first
   | (with_reducible exact ih0 _ _ _ _ _ _ _ _ _ _ _ _)
   | (with_reducible exact feed_Port.mono _ _ _ _ _ _ _ _)
   | (with_reducible exact girandolelaw20_awake.mono _)
   | (with_reducible exact girandoleref20_Row.mono _ _ _)
   | (with_reducible exact LeO.refl _)
   | (with_reducible exact LeO.none _)
   | (with_reducible refine LeO.ite ?_ ?_)
   | (with_reducible refine LeO.bind ?_ (fun _ => ?_))
   | exact ih0 _ _ _ _ _ _ _ _ _ _ _ _
   | exact feed_Port.mono _ _ _ _ _ _ _ _
   | exact girandolelaw20_awake.mono _
   | exact girandoleref20_Row.mono _ _ _
   | exact LeO.none _
   | refine LeO.ite ?_ ?_
   | refine LeO.bind ?_ (fun _ => ?_)
set_option maxHeartbeats 8000000 in
set_option maxRecDepth 100000 in
theorem girandolelaw20_FeedPorts.calls (k : Nat) (a0 : Bool) (A1 : Option Addr) (c1 : Nat) (l1 : List Int) (r : Bool) (w : World) (hr1 : Kd.C (Kd.int .i64) w A1 l1.length l1) (hc1 : l1.length ≤ c1) (h : girandolelaw20_FeedPorts.f k a0 l1 = some r) (hT : Tabs w) :
  Calls Tryd.prog 12 #[.bool a0, .slice A1 l1.length c1] w fun e w' => e = .returned (.bool r) ∧ Below w.heap.size w w' := by
 have HT := Aside0.mk hT
 clear hT
 have hu84 := Tryd.underlying84
 have hu59 := Tryd.underlying59
 have hu88 := Tryd.underlying88
 have HR1 := Aside0.mk hr1
 have HC1 := Aside0.mk hc1
 clear hr1 hc1
 have HB := Aside0.mk (Below.refl w.heap.size w)
 have H : ((girandolelaw20_awake.f k).bind fun t339 => (if t339 = true then (if 0 ≤ (mn (l1.length : Int) 20) then (if (mn (l1.length : Int) 20) ≤ (l1.length : Int) then (girandolelaw20_FeedPorts.l0 k a0 (l1.take ((mn (l1.length : Int) 20) : Int).toNat) (([] : List ByteArray)) (l1.take ((mn (l1.length : Int) 20) : Int).toNat) ((l1.take ((mn (l1.length : Int) 20) : Int).toNat).length : Int) 0 (⟨#[121]⟩ : ByteArray) 0 a0 false (⟨#[]⟩ : ByteArray) false) else (none)) else (none)) else (some false))) = some r := h
 clear h
 replace H := Option.bind_eq_some_iff.mp H
 obtain ⟨t339, A30, H⟩ := H
 replace H : (if t339 = true then (if 0 ≤ (mn (l1.length : Int) 20) then (if (mn (l1.length : Int) 20) ≤ (l1.length : Int) then (girandolelaw20_FeedPorts.l0 k a0 (l1.take ((mn (l1.length : Int) 20) : Int).toNat) (([] : List ByteArray)) (l1.take ((mn (l1.length : Int) 20) : Int).toNat) ((l1.take ((mn (l1.length : Int) 20) : Int).toNat).length : Int) 0 (⟨#[121]⟩ : ByteArray) 0 a0 false (⟨#[]⟩ : ByteArray) false) else (none)) else (none)) else (some false)) = some r := H
 have A3 := Aside0.mk A30
 clear A30
 by_cases c4 : t339 = true
 ·subst c4
  have H1 : (if 0 ≤ (mn (l1.length : Int) 20) then (if (mn (l1.length : Int) 20) ≤ (l1.length : Int) then (girandolelaw20_FeedPorts.l0 k a0 (l1.take ((mn (l1.length : Int) 20) : Int).toNat) (([] : List ByteArray)) (l1.take ((mn (l1.length : Int) 20) : Int).toNat) ((l1.take ((mn (l1.length : Int) 20) : Int).toNat).length : Int) 0 (⟨#[121]⟩ : ByteArray) 0 a0 false (⟨#[]⟩ : ByteArray) false) else (none)) else (none)) = some r := by rw [if_pos rfl] at H; exact H
  clear H
  have H := H1
  clear H1
  obtain ⟨ji5, hji5⟩ : ∃ j_ : Int, (mn (l1.length : Int) 20) = j_ := ⟨_, rfl⟩
  replace H : (if 0 ≤ (ji5) then (if (ji5) ≤ (l1.length : Int) then (girandolelaw20_FeedPorts.l0 k a0 (l1.take ((ji5) : Int).toNat) (([] : List ByteArray)) (l1.take ((ji5) : Int).toNat) ((l1.take ((ji5) : Int).toNat).length : Int) 0 (⟨#[121]⟩ : ByteArray) 0 a0 false (⟨#[]⟩ : ByteArray) false) else (none)) else (none)) = some r := by first | (rw [hji5] at H; exact H) | (simp only [hji5] at H ⊢; exact H)
  (try rw [hji5] at A3)
  (try (have hji5h : ji5 ≤ 20 := by (rw [← hji5]; unfold mn; (repeat' split) <;> omega)))
  (try (have hji5g : ji5 ≤ 64 := by omega))
  (try (have hji5l : 0 ≤ ji5 := by (rw [← hji5]; unfold mn; (repeat' split) <;> omega)))
  (try (have hji5m : 0 ≤ ji5 := by omega))
  have hji5_ : (if 20 < (l1.length : Int) then 20 else (l1.length : Int)) = ji5 := hji5
  by_cases c6 : 0 ≤ (ji5)
  ·rw [if_pos c6] at H
   have c6b0 := eq_true c6
   have c6b1 : decide (0 ≤ (ji5)) = true := decide_eq_true c6
   clear c6
   by_cases c7 : (ji5) ≤ (l1.length : Int)
   ·rw [if_pos c7] at H
    have c7b0 := eq_true c7
    have c7b1 : decide ((ji5) ≤ (l1.length : Int)) = true := decide_eq_true c7
    clear c7
    obtain ⟨y342, hy342⟩ : ∃ y_ : List ByteArray, y_ = (([] : List ByteArray)) := ⟨_, rfl⟩
    replace H : (girandolelaw20_FeedPorts.l0 k a0 (l1.take ((ji5) : Int).toNat) y342 (l1.take ((ji5) : Int).toNat) ((l1.take ((ji5) : Int).toNat).length : Int) 0 (⟨#[121]⟩ : ByteArray) 0 a0 false (⟨#[]⟩ : ByteArray) false) = some r := by first | (rw [hy342]; with_reducible exact H) | (have H2_ := (Option.bind_some _ _).symm.trans H; rw [hy342]; with_reducible exact H2_) | (have H2_ := (Option.bind_some _ _).symm.trans H; with_reducible exact H2_) | with_reducible exact H | (rw [hy342]; exact H) | exact H
    have Ny342 := Aside0.mk hy342
    clear hy342
    have H' := Aside0.mk H
    clear H
    go_enter Tryd.func12, Tryd.ntmps12
    go_wp2_with (first | ((with_reducible refine gate_callee (f := 49) rfl ?_); refine goesL_ (some 9) rfl rfl Tryd.func49 (by kernel_rfl) rfl #[] rfl (by (try simp only [List.map_toArray, List.map_cons, List.map_nil]); first | done | rfl | (simp only [List.length_drop, List.length_take]; rfl)) ?_; (with_reducible refine (girandolelaw20_awake.calls k  true _ A3.out ?side1).mono ?_); (case side1 => exact Tabs.below HT.out (by repeat (first | (with_reducible first | exact HB.out | apply below_alloc | apply pw_below_drewN | apply below_drew1) | exact HB.out))); rintro e w8 ⟨rfl, hb⟩; refine ⟨_, rfl, ?_⟩; have n0_ := Aside0.mk (below_step (by repeat (first | (with_reducible first | exact HB.out | apply below_alloc | apply pw_below_drewN | apply below_drew1) | exact HB.out)) hb); clear HB; have HB := n0_; clear n0_; (try clear hb); (try clear hb2); (try clear hk); (try clear hi); obtain ⟨i09, hi09, _, hsz9, _⟩ := info_parts info2; obtain ⟨hcut9, hA9, hC9⟩ := print_take_of (P := Tryd.prog) (Value.int .i64) 0 102 2 .i64 Tryd.underlying102 hi09 hsz9 A1 c1 l1 (ji5) (of_decide_eq_true (by first | (with_reducible assumption) | assumption)) (of_decide_eq_true (by first | (with_reducible assumption) | assumption)) HC1.out; have HR340 := Aside0.mk (Kd.C_of_reads (h1 := fun _ => rfl) (hA9 _ (Kd.reads_of_C HR1.out))); have HC340 := Aside0.mk hC9; clear hA9 hC9 hi09 hsz9) | ((with_reducible refine gate_dst (N := 5) rfl ?_); refine box_event ?hg (N := 5) ?hd (cs := #[.string (⟨#[]⟩ : ByteArray), .int .i64 0, .bool false, .bool false, .string (⟨#[]⟩ : ByteArray), .bool false]) (t := 84) ?hr ?_; (case hd => rfl); (case hg => rfl); (case hr => first | (go_simp; done) | (go_simp; rfl)); intro gb341 hg w10 hbox hb; have n0_ := Aside0.mk (below_step (by repeat (first | (with_reducible first | exact HB.out | apply below_alloc | apply pw_below_drewN | apply below_drew1) | exact HB.out)) hb); have n1_ := Aside0.mk (hbox); have n2_ := Aside0.mk ((by rw [hg]; exact (below_size (by repeat (first | (with_reducible first | exact HB.out | apply below_alloc | apply pw_below_drewN | apply below_drew1) | exact HB.out))) : w.heap.size ≤ gb341)); have n3_ := Aside0.mk ((by rw [hg]; exact (below_size (by repeat (first | (with_reducible first | exact HB.out | apply below_alloc | apply pw_below_drewN | apply below_drew1) | exact HB.out))) : w.heap.size ≤ gb341)); clear HB; have HB := n0_; have BK341 := n1_; have GW341 := n2_; have GE341 := n3_; clear n0_ n1_ n2_ n3_; clear hb hbox hg; have hcz11_0 : w10.cell? ⟨gb341, 0, none⟩ = some (.string (⟨#[]⟩ : ByteArray)) := (blk_cell BK341.out 0).trans rfl; have hcz11_1 : w10.cell? ⟨gb341, 1, none⟩ = some (.int .i64 0) := (blk_cell BK341.out 1).trans rfl; have hcz11_2 : w10.cell? ⟨gb341, 2, none⟩ = some (.bool false) := (blk_cell BK341.out 2).trans rfl; have hcz11_3 : w10.cell? ⟨gb341, 3, none⟩ = some (.bool false) := (blk_cell BK341.out 3).trans rfl; have hcz11_4 : w10.cell? ⟨gb341, 4, none⟩ = some (.string (⟨#[]⟩ : ByteArray)) := (blk_cell BK341.out 4).trans rfl; have hcz11_5 : w10.cell? ⟨gb341, 5, none⟩ = some (.bool false) := (blk_cell BK341.out 5).trans rfl; have hfz11_0 := blk_frozen BK341.out 0; have hfz11_1 := blk_frozen BK341.out 1; have hfz11_2 := blk_frozen BK341.out 2; have hfz11_3 := blk_frozen BK341.out 3; have hfz11_4 := blk_frozen BK341.out 4; have hfz11_5 := blk_frozen BK341.out 5) | ((with_reducible refine gate_dst (N := 18) rfl ?_); refine Kd.R_lit Kd.string _ 9 ?hg (N := 18) ?hd (xs := ([] : List ByteArray)) (inner := []) (ok := fun _ => True) (okp := fun _ => True) ?hr ?hp (fun _ hk => hk) trivial (Below.refl _ _) (Nat.le_refl _) (by simp) ?_; (case hd => rfl); (case hg => rfl); (case hr => first | (go_simp; done) | (go_simp; rfl)); (case hp => exact (Reps.none _ _)); intro v343 w12 ho13 hb hg_ hnew_; clear hg_ hnew_; (first | rw [← Ny342.out] at ho13 | (simp only [Int.reduceToNat] at ho13; rw [← Ny342.out] at ho13)); have n0_ := Aside0.mk (Kd.R_lower ho13 (below_size (by repeat (first | (with_reducible first | exact HB.out | apply below_alloc | apply pw_below_drewN | apply below_drew1 | refine below_set ?_ GE341.out) | exact HB.out)))); have n1_ := Aside0.mk (blk_below (g := gb341) (o := .cells #[.string (⟨#[121]⟩ : ByteArray), .int .i64 0, .bool a0, .bool false, .string (⟨#[]⟩ : ByteArray), .bool false] 84 (0, 0)) (by (with_reducible repeat (first | refine blk_drewN ?_ _ | refine blk_drew ?_ | refine blk_alloc ?_ _)); refine blk_put (cs := #[.string (⟨#[121]⟩ : ByteArray), .int .i64 0, .bool a0, .bool false, .string (⟨#[]⟩ : ByteArray), .bool false]) ?_ 5 _ rfl; (with_reducible repeat (first | refine blk_drewN ?_ _ | refine blk_drew ?_ | refine blk_alloc ?_ _)); refine blk_put (cs := #[.string (⟨#[121]⟩ : ByteArray), .int .i64 0, .bool a0, .bool false, .string (⟨#[]⟩ : ByteArray), .bool false]) ?_ 4 _ rfl; (with_reducible repeat (first | refine blk_drewN ?_ _ | refine blk_drew ?_ | refine blk_alloc ?_ _)); refine blk_put (cs := #[.string (⟨#[121]⟩ : ByteArray), .int .i64 0, .bool a0, .bool false, .string (⟨#[]⟩ : ByteArray), .bool false]) ?_ 3 _ rfl; (with_reducible repeat (first | refine blk_drewN ?_ _ | refine blk_drew ?_ | refine blk_alloc ?_ _)); refine blk_put (cs := #[.string (⟨#[121]⟩ : ByteArray), .int .i64 0, .bool false, .bool false, .string (⟨#[]⟩ : ByteArray), .bool false]) ?_ 2 _ rfl; (with_reducible repeat (first | refine blk_drewN ?_ _ | refine blk_drew ?_ | refine blk_alloc ?_ _)); refine blk_put (cs := #[.string (⟨#[121]⟩ : ByteArray), .int .i64 0, .bool false, .bool false, .string (⟨#[]⟩ : ByteArray), .bool false]) ?_ 1 _ rfl; (with_reducible repeat (first | refine blk_drewN ?_ _ | refine blk_drew ?_ | refine blk_alloc ?_ _)); refine blk_put (cs := #[.string (⟨#[]⟩ : ByteArray), .int .i64 0, .bool false, .bool false, .string (⟨#[]⟩ : ByteArray), .bool false]) ?_ 0 _ rfl; (with_reducible repeat (first | refine blk_drewN ?_ _ | refine blk_drew ?_ | refine blk_alloc ?_ _)); exact BK341.out) hb); have n2_ := Aside0.mk (below_step (by repeat (first | (with_reducible first | exact HB.out | apply below_alloc | apply pw_below_drewN | apply below_drew1 | refine below_set ?_ GE341.out) | exact HB.out)) hb); clear BK341; clear HB; have HO344 := n0_; have BK341 := n1_; have HB := n2_; clear n0_ n1_ n2_; clear hb ho13))
    go_loopg [6, 21] k (fun kq v6 v21 w' => ∃ (x6_1 : List ByteArray) (x21_1 : Int), v21 = .int .i64 x21_1 ∧ Aside0 (girandolelaw20_FeedPorts.l0 kq a0 (l1.take ((ji5) : Int).toNat) x6_1 (l1.take ((ji5) : Int).toNat) ((l1.take ((ji5) : Int).toNat).length : Int) x21_1 (⟨#[121]⟩ : ByteArray) 0 a0 false (⟨#[]⟩ : ByteArray) false = some r) ∧ Aside0 (kq ≤ k) ∧ Aside0 (Kd.R Kd.string 9 w' w.heap.size (fun _ => True) v6 x6_1) ∧ Aside0 (w'.heap[gb341]? = some (.cells #[.string (⟨#[121]⟩ : ByteArray), .int .i64 0, .bool a0, .bool false, .string (⟨#[]⟩ : ByteArray), .bool false] 84 (0, 0))) ∧ Aside0 (Below w.heap.size w w'))
    case atStart => exact ⟨(y342), (0), (by first | rfl | (simp; done) | (simp [*]; done)), H', ⟨Nat.le_refl _⟩, ⟨by (with_reducible repeat (first | apply Kd.R_alloc | apply Kd.R_drewN | apply Kd.R_drew)); exact HO344.out⟩, ⟨by (with_reducible repeat (first | refine blk_drewN ?_ _ | refine blk_drew ?_ | refine blk_alloc ?_ _)); exact BK341.out⟩, ⟨by repeat (first | (with_reducible first | exact HB.out | apply below_alloc | apply pw_below_drewN | apply below_drew1 | refine below_set ?_ GE341.out) | exact HB.out)⟩⟩
    case round =>
     clear H'
     try clear c1
     try clear p2
     try clear c4
     try clear c6
     try clear c6b0
     try clear c6b1
     try clear c7
     try clear c7b0
     try clear c7b1
     try clear c12
     try clear hcz11_0
     try clear hcz11_1
     try clear hcz11_2
     try clear hcz11_3
     try clear hcz11_4
     try clear hcz11_5
     try clear hfz11_0
     try clear hfz11_1
     try clear hfz11_2
     try clear hfz11_3
     try clear hfz11_4
     try clear hfz11_5
     obtain ⟨x6_1, x21_1, rfl, HA, HK1, HO_6, BK341, HB⟩ := hrel
     cases gk with
     | zero => exact absurd HA.out (by simp [girandolelaw20_FeedPorts.l0])
     | succ k1 =>
      have H := HA.out
      clear HA
      simp only [girandolelaw20_FeedPorts.l0] at H
      by_cases c14 : x21_1 < ((l1.take ((ji5) : Int).toNat).length : Int)
      ·rw [if_pos c14] at H
       have c14b0 : decide (x21_1 < ((l1.take ((ji5) : Int).toNat).length : Int)) = true := decide_eq_true c14
       try have c14b5 : decide ((ji5 : Int) ≤ (l1.length : Int)) = true := decide_eq_true (by have z_ := hji5_; split at z_ <;> omega)
       try have c14b7 : decide (x21_1 < max ji5 0) = true := (by have h_ := c14b0; rw [decide_eq_true_eq] at h_ ⊢; rw [List.length_take] at h_; omega)
       try have c14b6 : (x21_1 < max ji5 0) = True := (by simpa only [decide_eq_true_eq, decide_eq_false_iff_not, eq_iff_iff, iff_true, iff_false] using c14b7)
       clear c14
       by_cases c15 : 0 ≤ x21_1
       ·rw [if_pos c15] at H
        have c15b0 : decide (0 ≤ x21_1) = true := decide_eq_true c15
        clear c15
        by_cases c16 : x21_1 < ((l1.take ((ji5) : Int).toNat).length : Int)
        ·rw [if_pos c16] at H
         have c16b0 : decide (x21_1 < ((l1.take ((ji5) : Int).toNat).length : Int)) = true := decide_eq_true c16
         try have c16b5 : decide ((ji5 : Int) ≤ (l1.length : Int)) = true := decide_eq_true (by have z_ := hji5_; split at z_ <;> omega)
         try have c16b7 : decide (x21_1 < max ji5 0) = true := (by have h_ := c16b0; rw [decide_eq_true_eq] at h_ ⊢; rw [List.length_take] at h_; omega)
         try have c16b6 : (x21_1 < max ji5 0) = True := (by simpa only [decide_eq_true_eq, decide_eq_false_iff_not, eq_iff_iff, iff_true, iff_false] using c16b7)
         clear c16
         obtain ⟨y346, hy346⟩ : ∃ y_ : List (S84), y_ = (([(⟨(⟨#[121]⟩ : ByteArray), 0, a0, false, (⟨#[]⟩ : ByteArray), false⟩ : S84)] : List (S84))) := ⟨_, rfl⟩
         replace H : ((girandoleref20_Row.f k1 y346 (([rd (l1.take ((ji5) : Int).toNat) x21_1] : List Int))).bind fun t352 => (if x6_1.length < 8796093022208 then (girandolelaw20_FeedPorts.l0 k1 a0 (l1.take ((ji5) : Int).toNat) (x6_1 ++ [t352]) (l1.take ((ji5) : Int).toNat) ((l1.take ((ji5) : Int).toNat).length : Int) (wrap64 (x21_1 + 1)) (⟨#[121]⟩ : ByteArray) 0 a0 false (⟨#[]⟩ : ByteArray) false) else (none))) = some r := by first | (rw [hy346]; with_reducible exact H) | (have H2_ := (Option.bind_some _ _).symm.trans H; rw [hy346]; with_reducible exact H2_) | (have H2_ := (Option.bind_some _ _).symm.trans H; with_reducible exact H2_) | with_reducible exact H | (rw [hy346]; exact H) | exact H
         have Ny346 := Aside0.mk hy346
         clear hy346
         obtain ⟨y349, hy349⟩ : ∃ y_ : List Int, y_ = (([rd (l1.take ((ji5) : Int).toNat) x21_1] : List Int)) := ⟨_, rfl⟩
         replace H : ((girandoleref20_Row.f k1 y346 y349).bind fun t352 => (if x6_1.length < 8796093022208 then (girandolelaw20_FeedPorts.l0 k1 a0 (l1.take ((ji5) : Int).toNat) (x6_1 ++ [t352]) (l1.take ((ji5) : Int).toNat) ((l1.take ((ji5) : Int).toNat).length : Int) (wrap64 (x21_1 + 1)) (⟨#[121]⟩ : ByteArray) 0 a0 false (⟨#[]⟩ : ByteArray) false) else (none))) = some r := by first | (rw [hy349]; with_reducible exact H) | (have H2_ := (Option.bind_some _ _).symm.trans H; rw [hy349]; with_reducible exact H2_) | (have H2_ := (Option.bind_some _ _).symm.trans H; with_reducible exact H2_) | with_reducible exact H | (rw [hy349]; exact H) | exact H
         have Ny349 := Aside0.mk hy349
         clear hy349
         replace H := Option.bind_eq_some_iff.mp H
         obtain ⟨t352, A170, H⟩ := H
         replace H : (if x6_1.length < 8796093022208 then (girandolelaw20_FeedPorts.l0 k1 a0 (l1.take ((ji5) : Int).toNat) (x6_1 ++ [t352]) (l1.take ((ji5) : Int).toNat) ((l1.take ((ji5) : Int).toNat).length : Int) (wrap64 (x21_1 + 1)) (⟨#[121]⟩ : ByteArray) 0 a0 false (⟨#[]⟩ : ByteArray) false) else (none)) = some r := H
         have A17 := Aside0.mk A170
         clear A170
         by_cases c18 : x6_1.length < 8796093022208
         ·rw [if_pos c18] at H
          have LMc18 := Aside0.mk c18
          clear c18
          obtain ⟨y353, hy353⟩ : ∃ y_ : List ByteArray, y_ = (x6_1 ++ [t352]) := ⟨_, rfl⟩
          replace H : (girandolelaw20_FeedPorts.l0 k1 a0 (l1.take ((ji5) : Int).toNat) y353 (l1.take ((ji5) : Int).toNat) ((l1.take ((ji5) : Int).toNat).length : Int) (wrap64 (x21_1 + 1)) (⟨#[121]⟩ : ByteArray) 0 a0 false (⟨#[]⟩ : ByteArray) false) = some r := by first | (rw [hy353]; with_reducible exact H) | (have H2_ := (Option.bind_some _ _).symm.trans H; rw [hy353]; with_reducible exact H2_) | (have H2_ := (Option.bind_some _ _).symm.trans H; with_reducible exact H2_) | with_reducible exact H | (rw [hy353]; exact H) | exact H
          have Ny353 := Aside0.mk hy353
          clear hy353
          have H' := Aside0.mk H
          clear H
          have p345 : 0 ≤ (x21_1 : Int) := of_decide_eq_true (by first | (with_reducible assumption) | assumption)
          have q345 : x21_1 < ((l1.take ((ji5) : Int).toNat).length : Int) := of_decide_eq_true (by first | (with_reducible assumption) | assumption)
          obtain ⟨ad345, e345, hx345_0⟩ := Kd.at_int HR340.out x21_1 p345 q345
          cases e345
          replace hx345_0 := (HB.out.cell (World.block_lt_of_cell? w _ hx345_0)).trans hx345_0
          replace p345 := eq_true p345
          replace q345 := eq_true q345
          have hcz19_0 : wr.cell? ⟨gb341, 0, none⟩ = some (.string (⟨#[121]⟩ : ByteArray)) := (blk_cell BK341.out 0).trans rfl
          have hcz19_1 : wr.cell? ⟨gb341, 1, none⟩ = some (.int .i64 0) := (blk_cell BK341.out 1).trans rfl
          have hcz19_2 : wr.cell? ⟨gb341, 2, none⟩ = some (.bool a0) := (blk_cell BK341.out 2).trans rfl
          have hcz19_3 : wr.cell? ⟨gb341, 3, none⟩ = some (.bool false) := (blk_cell BK341.out 3).trans rfl
          have hcz19_4 : wr.cell? ⟨gb341, 4, none⟩ = some (.string (⟨#[]⟩ : ByteArray)) := (blk_cell BK341.out 4).trans rfl
          have hcz19_5 : wr.cell? ⟨gb341, 5, none⟩ = some (.bool false) := (blk_cell BK341.out 5).trans rfl
          have hfz19_0 := blk_frozen BK341.out 0
          have hfz19_1 := blk_frozen BK341.out 1
          have hfz19_2 := blk_frozen BK341.out 2
          have hfz19_3 := blk_frozen BK341.out 3
          have hfz19_4 := blk_frozen BK341.out 4
          have hfz19_5 := blk_frozen BK341.out 5
          go_wp2_with (first | ((with_reducible refine gate_dst (N := 27) rfl ?_); refine Kd.R_lit k84 _ 84 ?hg (N := 27) ?hd (xs := ([(⟨(⟨#[121]⟩ : ByteArray), 0, a0, false, (⟨#[]⟩ : ByteArray), false⟩ : S84)] : List (S84))) (inner := [.string (⟨#[121]⟩ : ByteArray), .int .i64 0, .bool a0, .bool false, .string (⟨#[]⟩ : ByteArray), .bool false]) (ok := fun _ => True) (okp := fun _ => True) ?hr ?hp (fun _ hk => hk) trivial (Below.refl _ _) (Nat.le_refl _) (by simp) ?_; (case hd => rfl); (case hg => rfl); (case hr => first | (go_simp; done) | (go_simp; rfl)); (case hp => exact (Reps.c6 (show Kd.M k84 _ _ _ (⟨(⟨#[121]⟩ : ByteArray), 0, a0, false, (⟨#[]⟩ : ByteArray), false⟩ : S84) [.string (⟨#[121]⟩ : ByteArray), .int .i64 0, .bool a0, .bool false, .string (⟨#[]⟩ : ByteArray), .bool false] from (k84_mkM _ _ _ (⟨(⟨#[121]⟩ : ByteArray), 0, a0, false, (⟨#[]⟩ : ByteArray), false⟩ : S84) )) (Reps.none _ _))); intro v347 w20 ho21 hb hg_ hnew_; clear hg_ hnew_; (first | rw [← Ny346.out] at ho21 | (simp only [Int.reduceToNat] at ho21; rw [← Ny346.out] at ho21)); have n0_ := Aside0.mk (Kd.R_below (by (with_reducible repeat (first | apply Kd.R_alloc | apply Kd.R_drewN | apply Kd.R_drew)); exact HO_6.out) hb); have n1_ := Aside0.mk (Kd.R_lower (Kd.R_newB ho21 (g := gb341) (o := .cells #[.string (⟨#[121]⟩ : ByteArray), .int .i64 0, .bool a0, .bool false, .string (⟨#[]⟩ : ByteArray), .bool false] 84 (0, 0)) (by (with_reducible repeat (first | refine blk_drewN ?_ _ | refine blk_drew ?_ | refine blk_alloc ?_ _)); exact BK341.out)) (below_size (by repeat (first | (with_reducible first | exact HB.out | apply below_alloc | apply pw_below_drewN | apply below_drew1 | refine below_set ?_ GE341.out) | exact HB.out)))); have n2_ := Aside0.mk (blk_below (g := gb341) (o := .cells #[.string (⟨#[121]⟩ : ByteArray), .int .i64 0, .bool a0, .bool false, .string (⟨#[]⟩ : ByteArray), .bool false] 84 (0, 0)) (by (with_reducible repeat (first | refine blk_drewN ?_ _ | refine blk_drew ?_ | refine blk_alloc ?_ _)); exact BK341.out) hb); have n3_ := Aside0.mk (below_step (by repeat (first | (with_reducible first | exact HB.out | apply below_alloc | apply pw_below_drewN | apply below_drew1 | refine below_set ?_ GE341.out) | exact HB.out)) hb); clear HO_6; clear BK341; clear HB; have HO_6 := n0_; have HO348 := n1_; have BK341 := n2_; have HB := n3_; clear n0_ n1_ n2_ n3_; clear hb ho21) | ((with_reducible refine gate_dst (N := 29) rfl ?_); refine Kd.R_lit (Kd.int .i64) _ 2 ?hg (N := 29) ?hd (xs := ([rd (l1.take ((ji5) : Int).toNat) x21_1] : List Int)) (inner := [.int .i64 (rd (l1.take ((ji5) : Int).toNat) x21_1)]) (ok := fun _ => True) (okp := fun _ => True) ?hr ?hp (fun _ hk => hk) trivial (Below.refl _ _) (Nat.le_refl _) (by simp) ?_; (case hd => rfl); (case hg => rfl); (case hr => first | (go_simp; done) | (go_simp; rfl)); (case hp => exact (Reps.one (show Kd.M (Kd.int .i64) _ _ _ (rd (l1.take ((ji5) : Int).toNat) x21_1) [.int .i64 (rd (l1.take ((ji5) : Int).toNat) x21_1)] from rfl) (Reps.none _ _))); intro v350 w22 ho23 hb hg_ hnew_; clear hg_ hnew_; (first | rw [← Ny349.out] at ho23 | (simp only [Int.reduceToNat] at ho23; rw [← Ny349.out] at ho23)); have n0_ := Aside0.mk (Kd.R_below (by (with_reducible repeat (first | apply Kd.R_alloc | apply Kd.R_drewN | apply Kd.R_drew)); exact HO_6.out) hb); have n1_ := Aside0.mk (Kd.R_below (by (with_reducible repeat (first | apply Kd.R_alloc | apply Kd.R_drewN | apply Kd.R_drew)); exact HO348.out) hb); have n2_ := Aside0.mk (Kd.R_lower ho23 (below_size (by repeat (first | (with_reducible first | exact HB.out | apply below_alloc | apply pw_below_drewN | apply below_drew1 | refine below_set ?_ GE341.out) | exact HB.out)))); have n3_ := Aside0.mk (blk_below (g := gb341) (o := .cells #[.string (⟨#[121]⟩ : ByteArray), .int .i64 0, .bool a0, .bool false, .string (⟨#[]⟩ : ByteArray), .bool false] 84 (0, 0)) (by (with_reducible repeat (first | refine blk_drewN ?_ _ | refine blk_drew ?_ | refine blk_alloc ?_ _)); exact BK341.out) hb); have n4_ := Aside0.mk (below_step (by repeat (first | (with_reducible first | exact HB.out | apply below_alloc | apply pw_below_drewN | apply below_drew1 | refine below_set ?_ GE341.out) | exact HB.out)) hb); clear HO_6; clear HO348; clear BK341; clear HB; have HO_6 := n0_; have HO348 := n1_; have HO351 := n2_; have BK341 := n3_; have HB := n4_; clear n0_ n1_ n2_ n3_ n4_; clear hb ho23; obtain ⟨Ao24, co24, eo24⟩ := Kd.R_slice HO348.out; subst eo24; obtain ⟨Ao25, co25, eo25⟩ := Kd.R_slice HO351.out; subst eo25) | ((with_reducible refine gate_callee (f := 55) rfl ?_); refine goesL_ (some 30) rfl rfl Tryd.func55 (by kernel_rfl) rfl #[.slice Ao24 y346.length co24, .slice Ao25 y349.length co25] rfl (by (try simp only [List.map_toArray, List.map_cons, List.map_nil]); first | done | rfl | (simp only [List.length_drop, List.length_take]; rfl)) ?_; (with_reducible refine (girandoleref20_Row.calls k1 _ _ y346 _ _ y349 t352 _ ?side1 ?side2 ?side3 ?side4 A17.out).mono ?_); (case side1 => repeat (first | exact (Kd.R_reads' HO348.out).2.2 | (with_reducible refine Kd.C_alloc ?_ _) | (with_reducible refine Kd.C_drewN ?_ _) | (with_reducible refine Kd.C_drew ?_))); (case side2 => exact (Kd.R_reads' HO348.out).2.1); (case side3 => repeat (first | exact (Kd.R_reads' HO351.out).2.2 | (with_reducible refine Kd.C_alloc ?_ _) | (with_reducible refine Kd.C_drewN ?_ _) | (with_reducible refine Kd.C_drew ?_))); (case side4 => exact (Kd.R_reads' HO351.out).2.1); rintro e w26 ⟨rfl, hb⟩; refine ⟨_, rfl, ?_⟩; have n0_ := Aside0.mk (Kd.R_below (by (with_reducible repeat (first | apply Kd.R_alloc | apply Kd.R_drewN | apply Kd.R_drew)); exact HO_6.out) hb); have n1_ := Aside0.mk (Kd.R_below (by (with_reducible repeat (first | apply Kd.R_alloc | apply Kd.R_drewN | apply Kd.R_drew)); exact HO348.out) hb); have n2_ := Aside0.mk (Kd.R_below (by (with_reducible repeat (first | apply Kd.R_alloc | apply Kd.R_drewN | apply Kd.R_drew)); exact HO351.out) hb); have n3_ := Aside0.mk (blk_below (g := gb341) (o := .cells #[.string (⟨#[121]⟩ : ByteArray), .int .i64 0, .bool a0, .bool false, .string (⟨#[]⟩ : ByteArray), .bool false] 84 (0, 0)) (by (with_reducible repeat (first | refine blk_drewN ?_ _ | refine blk_drew ?_ | refine blk_alloc ?_ _)); exact BK341.out) hb); have n4_ := Aside0.mk (below_step (by repeat (first | (with_reducible first | exact HB.out | apply below_alloc | apply pw_below_drewN | apply below_drew1 | refine below_set ?_ GE341.out) | exact HB.out)) hb); clear HO_6; clear HO348; clear HO351; clear BK341; clear HB; have HO_6 := n0_; have HO348 := n1_; have HO351 := n2_; have BK341 := n3_; have HB := n4_; clear n0_ n1_ n2_ n3_ n4_; (try clear hb); (try clear hb2); (try clear hk); (try clear hi)) | ((with_reducible refine gate_builtin (b := .append) (xs := #[.tmp 25, .tmp 31]) rfl ?_); at_builtin; refine Kd.R_append Kd.string (w0 := w) w.heap.size rfl (.tmp 25) (.tmp 31) 39 9 (.string ⟨#[]⟩) 16 rfl Tryd.underlying39 info9 rfl (by decide) (by omega) u6 x6_1 t352 [.string t352] (fun _ => True) (fun _ => False) rfl rfl ?aP (fun _ hk => hk.elim) ?aF ?aO ?aB ?aS ?aL ?_; (case aP => exact rfl); (case aB => exact (by repeat (first | (with_reducible first | exact HB.out | apply below_alloc | apply pw_below_drewN | apply below_drew1 | refine below_set ?_ GE341.out) | exact HB.out))); (case aF => exact (fun _ _ => trivial)); (case aO => exact (by (with_reducible repeat (first | apply Kd.R_alloc | apply Kd.R_drewN | apply Kd.R_drew)); exact HO_6.out)); (case aS => exact (below_size (by repeat (first | (with_reducible first | exact HB.out | apply below_alloc | apply pw_below_drewN | apply below_drew1 | refine below_set ?_ GE341.out) | exact HB.out)))); (case aL => have := LMc18.out; omega); intro v354 w27 ho hb hg hat; rw [← Ny353.out] at ho; have n0_ := Aside0.mk (blk_grown (g := gb341) (o := .cells #[.string (⟨#[121]⟩ : ByteArray), .int .i64 0, .bool a0, .bool false, .string (⟨#[]⟩ : ByteArray), .bool false] 84 (0, 0)) (by (with_reducible repeat (first | refine blk_drewN ?_ _ | refine blk_drew ?_ | refine blk_alloc ?_ _)); exact BK341.out) hg (Kd.R_ne HO_6.out BK341.out (by decide))); have n1_ := Aside0.mk (Kd.R_over' (by (with_reducible repeat (first | apply Kd.R_alloc | apply Kd.R_drewN | apply Kd.R_drew)); exact HO348.out) (Kd.R_typed (by (with_reducible repeat (first | apply Kd.R_alloc | apply Kd.R_drewN | apply Kd.R_drew)); exact HO_6.out)) (by decide) hg); have n2_ := Aside0.mk (Kd.R_over' (by (with_reducible repeat (first | apply Kd.R_alloc | apply Kd.R_drewN | apply Kd.R_drew)); exact HO351.out) (Kd.R_typed (by (with_reducible repeat (first | apply Kd.R_alloc | apply Kd.R_drewN | apply Kd.R_drew)); exact HO_6.out)) (by decide) hg); have n3_ := Aside0.mk (hb); have n4_ := Aside0.mk (ho); clear BK341; clear HO348; clear HO351; clear HB; clear HO_6; have BK341 := n0_; have HO348 := n1_; have HO351 := n2_; have HB := n3_; have HO355 := n4_; clear n0_ n1_ n2_ n3_ n4_; clear ho hb hg hat))
          go_roundg k1
          case measure => have := HK1.out; omega
          case rel => exact ⟨(y353), (wrap64 (x21_1 + 1)), (by first | rfl | (simp; done) | (simp [*]; done)), H', ⟨by have := HK1.out; omega⟩, ⟨by (with_reducible repeat (first | apply Kd.R_alloc | apply Kd.R_drewN | apply Kd.R_drew)); exact HO355.out⟩, ⟨by (with_reducible repeat (first | refine blk_drewN ?_ _ | refine blk_drew ?_ | refine blk_alloc ?_ _)); exact BK341.out⟩, ⟨by repeat (first | (with_reducible first | exact HB.out | apply below_alloc | apply pw_below_drewN | apply below_drew1 | refine below_set ?_ GE341.out) | exact HB.out)⟩⟩
         ·rw [if_neg c18] at H
          exact absurd H (by simp)
        ·rw [if_neg c16] at H
         exact absurd H (by simp)
       ·rw [if_neg c15] at H
        exact absurd H (by simp)
      ·rw [if_neg c14] at H
       have c14b0 : decide (x21_1 < ((l1.take ((ji5) : Int).toNat).length : Int)) = false := decide_eq_false c14
       try have c14b5 : decide ((ji5 : Int) ≤ (l1.length : Int)) = true := decide_eq_true (by have z_ := hji5_; split at z_ <;> omega)
       try have c14b7 : decide (x21_1 < max ji5 0) = false := (by have h_ := c14b0; rw [decide_eq_false_iff_not] at h_ ⊢; rw [List.length_take] at h_; have k_ : ((ji5) : Int) ≤ (l1.length : Int) := of_decide_eq_true (by first | (with_reducible assumption) | assumption); omega)
       try have c14b6 : (x21_1 < max ji5 0) = False := (by simpa only [decide_eq_true_eq, decide_eq_false_iff_not, eq_iff_iff, iff_true, iff_false] using c14b7)
       clear c14
       replace H := Option.bind_eq_some_iff.mp H
       obtain ⟨t356, A280, H⟩ := H
       replace H : ((strings_Join.f x6_1 (⟨#[32]⟩ : ByteArray)).bind fun t357 => (some (t356.toList == t357.toList))) = some r := H
       have A28 := Aside0.mk A280
       clear A280
       replace H := Option.bind_eq_some_iff.mp H
       obtain ⟨t357, A290, H⟩ := H
       replace H : (some (t356.toList == t357.toList)) = some r := H
       have A29 := Aside0.mk A290
       clear A290
       obtain rfl := Option.some.inj H
       go_wp2_with (first | ((with_reducible refine gate_callee (f := 56) rfl ?_); refine goesL_ (some 38) rfl rfl Tryd.func56 (by kernel_rfl) rfl #[.agg #[.string (⟨#[121]⟩ : ByteArray), .int .i64 0, .bool a0, .bool false, .string (⟨#[]⟩ : ByteArray), .bool false], .slice A1 (l1.take ((ji5) : Int).toNat).length c1] rfl (by (try simp only [List.map_toArray, List.map_cons, List.map_nil]); first | done | (rw [show (l1.take ((ji5) : Int).toNat).length = (ji5).toNat from (by rw [List.length_take]; have h_ : ((ji5) : Int) ≤ (l1.length : Int) := of_decide_eq_true (by first | (with_reducible assumption) | assumption); omega)] <;> rfl) | (simp only [hji5]; rfl) | rfl | (simp only [List.length_drop, List.length_take]; rfl)) ?_; (with_reducible refine (feed_Port.calls k1 (⟨#[121]⟩ : ByteArray) 0 a0 false (⟨#[]⟩ : ByteArray) false _ _ (l1.take ((ji5) : Int).toNat) t356 _ ?side1 ?side2 A28.out ?side3).mono ?_); (case side1 => repeat (first | exact (Kd.C_below HR340.out HB.out) | (with_reducible refine Kd.C_alloc ?_ _) | (with_reducible refine Kd.C_drewN ?_ _) | (with_reducible refine Kd.C_drew ?_))); (case side2 => exact HC340.out); (case side3 => exact Tabs.below HT.out (by repeat (first | (with_reducible first | exact HB.out | apply below_alloc | apply pw_below_drewN | apply below_drew1 | refine below_set ?_ GE341.out) | exact HB.out))); rintro e w30 ⟨rfl, hb⟩; refine ⟨_, rfl, ?_⟩; have n0_ := Aside0.mk (Kd.R_below (by (with_reducible repeat (first | apply Kd.R_alloc | apply Kd.R_drewN | apply Kd.R_drew)); exact HO_6.out) hb); have n1_ := Aside0.mk (blk_below (g := gb341) (o := .cells #[.string (⟨#[121]⟩ : ByteArray), .int .i64 0, .bool a0, .bool false, .string (⟨#[]⟩ : ByteArray), .bool false] 84 (0, 0)) (by (with_reducible repeat (first | refine blk_drewN ?_ _ | refine blk_drew ?_ | refine blk_alloc ?_ _)); exact BK341.out) hb); have n2_ := Aside0.mk (below_step (by repeat (first | (with_reducible first | exact HB.out | apply below_alloc | apply pw_below_drewN | apply below_drew1 | refine below_set ?_ GE341.out) | exact HB.out)) hb); clear HO_6; clear BK341; clear HB; have HO_6 := n0_; have BK341 := n1_; have HB := n2_; clear n0_ n1_ n2_; (try clear hb); (try clear hb2); (try clear hk); (try clear hi); obtain ⟨Ao31, co31, eo31⟩ := Kd.R_slice HO_6.out; subst eo31) | ((with_reducible refine gate_callee (f := 57) rfl ?_); refine goesL_ (some 40) rfl rfl Tryd.func57 (by kernel_rfl) rfl #[.slice Ao31 x6_1.length co31, .string (⟨#[32]⟩ : ByteArray)] rfl (by (try simp only [List.map_toArray, List.map_cons, List.map_nil]); first | done | rfl | (simp only [List.length_drop, List.length_take]; rfl)) ?_; (with_reducible refine (strings_Join.calls _ _ x6_1 (⟨#[32]⟩ : ByteArray) t357 _ ?side1 ?side2 A29.out).mono ?_); (case side1 => repeat (first | exact (Kd.R_reads' HO_6.out).2.2 | (with_reducible refine Kd.C_alloc ?_ _) | (with_reducible refine Kd.C_drewN ?_ _) | (with_reducible refine Kd.C_drew ?_))); (case side2 => exact (Kd.R_reads' HO_6.out).2.1); rintro e w32 ⟨rfl, hb⟩; refine ⟨_, rfl, ?_⟩; have n0_ := Aside0.mk (Kd.R_below (by (with_reducible repeat (first | apply Kd.R_alloc | apply Kd.R_drewN | apply Kd.R_drew)); exact HO_6.out) hb); have n1_ := Aside0.mk (blk_below (g := gb341) (o := .cells #[.string (⟨#[121]⟩ : ByteArray), .int .i64 0, .bool a0, .bool false, .string (⟨#[]⟩ : ByteArray), .bool false] 84 (0, 0)) (by (with_reducible repeat (first | refine blk_drewN ?_ _ | refine blk_drew ?_ | refine blk_alloc ?_ _)); exact BK341.out) hb); have n2_ := Aside0.mk (below_step (by repeat (first | (with_reducible first | exact HB.out | apply below_alloc | apply pw_below_drewN | apply below_drew1 | refine below_set ?_ GE341.out) | exact HB.out)) hb); clear HO_6; clear BK341; clear HB; have HO_6 := n0_; have BK341 := n1_; have HB := n2_; clear n0_ n1_ n2_; (try clear hb); (try clear hb2); (try clear hk); (try clear hi)))
       go_ret
       exact ⟨by first | rfl | (simp [errW_none, errW_some] <;> rfl) | (simp only [← hji5]; first | rfl | (simp [errW_none, errW_some] <;> rfl)) | (simp [*, errW_none, errW_some] <;> rfl), by repeat (first | (with_reducible first | exact HB.out | apply below_alloc | apply pw_below_drewN | apply below_drew1 | refine below_set ?_ GE341.out) | exact HB.out)⟩
   ·rw [if_neg c7] at H
    exact absurd H (by simp)
  ·rw [if_neg c6] at H
   exact absurd H (by simp)
 ·replace c4 := Bool.eq_false_iff.mpr c4
  subst c4
  have H1 : (some false) = some r := by rw [if_neg (show ¬ (false = true) by decide)] at H; exact H
  clear H
  have H := H1
  clear H1
  obtain rfl := Option.some.inj H
  go_enter Tryd.func12, Tryd.ntmps12
  go_wp2_with (first | ((with_reducible refine gate_callee (f := 49) rfl ?_); refine goesL_ (some 9) rfl rfl Tryd.func49 (by kernel_rfl) rfl #[] rfl (by (try simp only [List.map_toArray, List.map_cons, List.map_nil]); first | done | rfl | (simp only [List.length_drop, List.length_take]; rfl)) ?_; (with_reducible refine (girandolelaw20_awake.calls k  false _ A3.out ?side1).mono ?_); (case side1 => exact Tabs.below HT.out (by repeat (first | (with_reducible first | exact HB.out | apply below_alloc | apply pw_below_drewN | apply below_drew1) | exact HB.out))); rintro e w33 ⟨rfl, hb⟩; refine ⟨_, rfl, ?_⟩; have n0_ := Aside0.mk (below_step (by repeat (first | (with_reducible first | exact HB.out | apply below_alloc | apply pw_below_drewN | apply below_drew1) | exact HB.out)) hb); clear HB; have HB := n0_; clear n0_; (try clear hb); (try clear hb2); (try clear hk); (try clear hi)))
  go_ret
  exact ⟨by first | rfl | (simp [errW_none, errW_some] <;> rfl) | (simp [*, errW_none, errW_some] <;> rfl), by repeat (first | (with_reducible first | exact HB.out | apply below_alloc | apply pw_below_drewN | apply below_drew1) | exact HB.out)⟩

/-- THE ONE PURE STATEMENT of girandolelaw20_FeedPorts: yours. -/
def girandolelaw20_FeedPorts.Pure : Prop := ∀ (a0 : Bool) (l1 : List Int), l1.length ≤ maxLen → l1.length * 8 ≤ 140737488351232 → (∀ x ∈ l1, (Lit.int .i64 x).wf = true) → ∃ k, girandolelaw20_FeedPorts.f k a0 l1 = some true
theorem girandolelaw20_FeedPorts.walk (P : girandolelaw20_FeedPorts.Pure) (a0 : Bool) (a1 : Option Addr) (len1 cap1 : Nat) (z1 : List Int) (w : World) (w1 : (a1 = none ∧ len1 = 0 ∧ cap1 = 0 ∧ z1 = []) ∨ ∃ x, a1 = some x ∧ len1 ≤ cap1 ∧ cap1 ≤ maxLen ∧ z1.length = cap1 ∧ (∀ i, i < z1.length → w.cell? (x.add i) = some (.int .i64 (z1.getD i 0))) ∧ ∀ n ∈ z1, (Lit.int .i64 n).wf = true) (y1 : len1 * 8 ≤ 140737488351232) (hT : Tabs w) :
  Calls Tryd.prog 12 #[.bool a0, .slice a1 len1 cap1] w fun e w' => e = .returned (.bool true) ∧ Below w.heap.size w w' := by
 obtain ⟨l1, rfl, hr1, hm1, hw1, hc1⟩ := ReadsInt.ofRowC w1
 obtain ⟨k, h⟩ := P a0 l1 hm1 y1 hw1
 refine (girandolelaw20_FeedPorts.calls k a0 _ _ l1 true w (Kd.C_of_reads (d := (0 : Int)) (h1 := fun _ => rfl) hr1) hc1 h hT).mono ?_
 rintro e w' ⟨rfl, hd⟩
 exact ⟨rfl, hd⟩

end Go.Proofs.YtnlkjimpefebbaaDoor.XFF
