/- Joined of: XTBx0, XTBx1, XTBx2, Vf, Ow, TcW. -/
import Derived.Test.YtjafllnbgfcchaaDoorProg
import Derived.Test.YtjafllnbgfcchaaDoorZCXKx1
import Derived.Below
import Derived.Deep.Draws
import Derived.Deep.AppendLies
import Derived.Maps.AppendAt
import Derived.OwnWalk
import Derived.Laws.BytesArg
import Derived.Laws.MakeOwn
import Derived.Laws.OwnMore
import Derived.Deep.OwnRows
import Derived.Tactics
import Derived.Lib.ConvBytes
import Derived.Laws.Slices
import Derived.WalkKit
import Derived.KernelRfl
import Derived.RowKit3
import Derived.Deep.LoopGhost
import Derived.Deep.QuietTactic
import Derived.BigQuiet
import Derived.WideLaws
import Derived.Deep.DeepCutAuto
import Derived.Deep.CutBlock
import Derived.Deep.RegionHeld3
import Derived.Laws.Rows
import Derived.Lib.AppendStr
import Derived.ArgAppend
import Derived.Laws.IdiomCopy
import Derived.OrdersHeld
import Derived.Laws.BitsLemmas
import Derived.RowKit
import Derived.Test.YtjafllnbgfcchaaDoorZCPProgT
import Derived.Test.YtjafllnbgfcchaaDoorZCGCtN
import Derived.Test.YtjafllnbgfcchaaDoorZCWWords
import Derived.Test.YtjafllnbgfcchaaDoorZCWLast
import Derived.Test.YtjafllnbgfcchaaDoorZCGWTab
import Derived.Test.YtjafllnbgfcchaaDoorZCWNEv
import Derived.Test.YtjafllnbgfcchaaDoorZCWMore
import Derived.Test.YtjafllnbgfcchaaDoorZCGPEx
import Derived.Deep.DeepMust
import Derived.Deep.RegionHeld2
import Derived.Laws.IdiomStrings
section
-- Written by a program of this session (wip/xprint) out of the translation.
namespace Go.Proofs.YtjafllnbgfcchaaDoor.XTB
open Go.RowKit Go.Proofs.YtjafllnbgfcchaaDoorW.PrintWords Go.Proofs.YtjafllnbgfcchaaDoorW.PrintLast Go.Proofs.YtjafllnbgfcchaaDoorW.PrintMore Go.Proofs.YtjafllnbgfcchaaDoor.XK
attribute [local go_sem] max2_int min2_int max_two min_two max_three min_three max_four min_four   -- for this text's walks alone
set_option linter.unusedVariables false
set_option linter.unusedSimpArgs false

-- the values' own types
/-! #### struct type 37 -/

/-! #### struct type 39 -/

/-! #### struct type 47 -/

/-! #### struct type 43, nested in itself -/

/-! #### struct type 45 -/

/-! #### struct type 34 -/

/-! #### struct type 27 -/
end Go.Proofs.YtjafllnbgfcchaaDoor.XTB
end
section
-- Written by a program of this session (wip/xprint) out of the translation.
namespace Go.Proofs.YtjafllnbgfcchaaDoor.XTB
open Go.RowKit Go.Proofs.YtjafllnbgfcchaaDoorW.PrintWords Go.Proofs.YtjafllnbgfcchaaDoorW.PrintLast Go.Proofs.YtjafllnbgfcchaaDoorW.PrintMore Go.Proofs.YtjafllnbgfcchaaDoor.XK
attribute [local go_sem] max2_int min2_int max_two min_two max_three min_three max_four min_four   -- for this text's walks alone
set_option linter.unusedVariables false
set_option linter.unusedSimpArgs false

theorem eqA27 (d : Nat) (w : World) (x0 y0 : Int) (x1 y1 : Int) :
  (Op.equalIn (d + 2) 27 (.agg #[.int .i64 x0, .int .i64 x1]) (.agg #[.int .i64 y0, .int .i64 y1])).run Tryd.prog w = .ok (x0 == y0 && (x1 == y1)) w := by
 refine eqA_of Tryd.underlying27 (by kernel_rfl) ?_
 refine eqf_cons (by rfl) (by go_simp; rfl) (by go_simp; rfl) (by go_simp) ?_
 exact eqf_last (by rfl) (by go_simp; rfl) (by go_simp; rfl) (by go_simp)
end Go.Proofs.YtjafllnbgfcchaaDoor.XTB
end
section
-- Written by a program of this session (wip/xprint) out of the translation.
namespace Go.Proofs.YtjafllnbgfcchaaDoor.XTB
open Go.RowKit Go.Proofs.YtjafllnbgfcchaaDoorW.PrintWords Go.Proofs.YtjafllnbgfcchaaDoorW.PrintLast Go.Proofs.YtjafllnbgfcchaaDoorW.PrintMore Go.Proofs.YtjafllnbgfcchaaDoor.XK
attribute [local go_sem] max2_int min2_int max_two min_two max_three min_three max_four min_four   -- for this text's walks alone
set_option linter.unusedVariables false
set_option linter.unusedSimpArgs false

attribute [local go_sem high] eqA27

def Tabs (w : World) : Prop := Lx.Tabs w
theorem Tabs.below {w0 w : World} (h : Tabs w0) (hb : Below w0.heap.size w0 w) : Tabs w := Lx.Tabs.below h hb

/-! ### tree_TypeText: function 34 -/
/-! ### girandolelaw05_TypesAwaits_1: function 35 -/
/-! ### parse_Program: function 15, by a contract that is proved elsewhere -/
def parse_Program.f (a0 : ByteArray) : Option (List S34 × Int × Int) :=
  if a0.size ≤ 4000 then
    match LX.all a0.data.toList with
    | .error (k, c) => some ([], (k : Int), (c : Int))
    | .ok toks => match PX.program (Px.rounds toks) (toks.map Px.tk) with
      | .ok l _ => some (l.map (Px.realN toks), 0, 0)
      | .bad q er => some ([], Px.atOf toks q, (er : Int))
      | .out => none
  else none
theorem parse_Program.calls (a0 : ByteArray) (r1 : List S34) (r2 : Int) (r3 : Int) (w : World) (h : parse_Program.f a0 = some (r1, r2, r3)) (hT : Tabs w) :
    Calls Tryd.prog 15 #[.string a0] w fun e w' => ∃ v0_ : Value, e = .returned (.tuple #[v0_, .agg #[.int .i64 r2, .int .i64 r3]]) ∧ Kd.R k34 34 w' w.heap.size (fun _ => True) v0_ r1 ∧ Below w.heap.size w w' := by
  unfold parse_Program.f at h
  by_cases hs : a0.size ≤ 4000
  · rw [if_pos hs] at h
    refine (Px.parseProgram_walk a0 w hT hs).mono ?_
    rintro e w' ⟨hb, hm⟩
    unfold Px.ProgIs at hm
    cases hx : LX.all a0.data.toList with
    | error p =>
      obtain ⟨k, c⟩ := p
      rw [hx] at hm h
      simp only [Option.some.injEq, Prod.mk.injEq] at h
      obtain ⟨rfl, rfl, rfl⟩ := h
      exact ⟨_, hm, Kd.R_nil _ _ _ _ _, hb⟩
    | ok toks =>
      rw [hx] at hm h
      dsimp only at hm h
      cases hr : PX.program (Px.rounds toks) (toks.map Px.tk) with
      | out => rw [hr] at hm; exact hm.elim
      | bad q er =>
        rw [hr] at hm h
        simp only [Option.some.injEq, Prod.mk.injEq] at h
        obtain ⟨rfl, rfl, rfl⟩ := h
        exact ⟨_, hm, Kd.R_nil _ _ _ _ _, hb⟩
      | ok l s =>
        rw [hr] at hm h
        simp only [Option.some.injEq, Prod.mk.injEq] at h
        obtain ⟨rfl, rfl, rfl⟩ := h
        obtain ⟨v, he, hR⟩ := hm
        exact ⟨v, he, hR, hb⟩
  · rw [if_neg hs] at h
    cases h

/-! ### types_Check: function 32, by a contract that is proved elsewhere -/
def types_Check.f (l0 : List S34) : Option (Int × Int) := Ct.check 100 l0
theorem types_Check.calls (A0 : Option Addr) (c0 : Nat) (l0 : List S34) (r1 : Int) (r2 : Int) (w : World) (hr0 : Kd.C k34 w A0 l0.length l0) (hc0 : l0.length ≤ c0) (h : types_Check.f l0 = some (r1, r2)) :
    Calls Tryd.prog 32 #[.slice A0 l0.length c0] w fun e w' => e = .returned (.agg #[.int .i64 r1, .int .i64 r2]) ∧ Below w.heap.size w w' :=
  Ct.check_walk 100 l0 A0 c0 (r1, r2) w hr0 hc0 h

/-! ### girandolelaw05_awake: function 31 -/
def girandolelaw05_awake.f  : Option (Bool) := (parse_Program.f (⟨#[110, 111, 100, 101, 32, 102, 40, 41, 32, 114, 101, 116, 117, 114, 110, 115, 32, 40, 121, 58, 32, 105, 110, 116, 41, 32, 108, 101, 116, 32, 121, 32, 61, 32, 49, 32, 43, 32, 116, 114, 117, 101, 59, 32, 116, 101, 108]⟩ : ByteArray)).bind fun bt103 => ((parse_Program.f (⟨#[110, 111, 100, 101, 32, 102, 40, 120, 58, 32, 105, 110, 116, 41, 32, 114, 101, 116, 117, 114, 110, 115, 32, 40, 121, 58, 32, 105, 110, 116, 41, 32, 108, 101, 116, 32, 121, 32, 61, 32, 120, 32, 47, 32, 48, 59, 32, 116, 101, 108]⟩ : ByteArray)).bind fun bt109 => ((types_Check.f bt103.1).bind fun bt115 => (if (bt115.1 == 38 && (bt115.2 == 7)) = true then ((types_Check.f bt109.1).bind fun bt117 => (some (bt117.1 == 44 && (bt117.2 == 11)))) else (some false))))
set_option maxHeartbeats 8000000 in
set_option maxRecDepth 100000 in
theorem girandolelaw05_awake.calls  (r : Bool) (w : World) (h : girandolelaw05_awake.f  = some r) (hT : Tabs w) :
  Calls Tryd.prog 31 #[] w fun e w' => e = .returned (.bool r) ∧ Below w.heap.size w w' := by
 have HT := Aside0.mk hT
 clear hT
 have hu27 := Tryd.underlying27
 have HB := Aside0.mk (Below.refl w.heap.size w)
 have H : ((parse_Program.f (⟨#[110, 111, 100, 101, 32, 102, 40, 41, 32, 114, 101, 116, 117, 114, 110, 115, 32, 40, 121, 58, 32, 105, 110, 116, 41, 32, 108, 101, 116, 32, 121, 32, 61, 32, 49, 32, 43, 32, 116, 114, 117, 101, 59, 32, 116, 101, 108]⟩ : ByteArray)).bind fun bt103 => ((parse_Program.f (⟨#[110, 111, 100, 101, 32, 102, 40, 120, 58, 32, 105, 110, 116, 41, 32, 114, 101, 116, 117, 114, 110, 115, 32, 40, 121, 58, 32, 105, 110, 116, 41, 32, 108, 101, 116, 32, 121, 32, 61, 32, 120, 32, 47, 32, 48, 59, 32, 116, 101, 108]⟩ : ByteArray)).bind fun bt109 => ((types_Check.f bt103.1).bind fun bt115 => (if (bt115.1 == 38 && (bt115.2 == 7)) = true then ((types_Check.f bt109.1).bind fun bt117 => (some (bt117.1 == 44 && (bt117.2 == 11)))) else (some false))))) = some r := h
 clear h
 replace H := Option.bind_eq_some_iff.mp H
 obtain ⟨⟨t103, t106, t107⟩, A10, H⟩ := H
 replace H : ((parse_Program.f (⟨#[110, 111, 100, 101, 32, 102, 40, 120, 58, 32, 105, 110, 116, 41, 32, 114, 101, 116, 117, 114, 110, 115, 32, 40, 121, 58, 32, 105, 110, 116, 41, 32, 108, 101, 116, 32, 121, 32, 61, 32, 120, 32, 47, 32, 48, 59, 32, 116, 101, 108]⟩ : ByteArray)).bind fun bt109 => ((types_Check.f t103).bind fun bt115 => (if (bt115.1 == 38 && (bt115.2 == 7)) = true then ((types_Check.f bt109.1).bind fun bt117 => (some (bt117.1 == 44 && (bt117.2 == 11)))) else (some false)))) = some r := H
 have A1 := Aside0.mk A10
 clear A10
 replace H := Option.bind_eq_some_iff.mp H
 obtain ⟨⟨t109, t112, t113⟩, A20, H⟩ := H
 replace H : ((types_Check.f t103).bind fun bt115 => (if (bt115.1 == 38 && (bt115.2 == 7)) = true then ((types_Check.f t109).bind fun bt117 => (some (bt117.1 == 44 && (bt117.2 == 11)))) else (some false))) = some r := H
 have A2 := Aside0.mk A20
 clear A20
 replace H := Option.bind_eq_some_iff.mp H
 obtain ⟨⟨t115, t116⟩, A30, H⟩ := H
 replace H : (if (t115 == 38 && (t116 == 7)) = true then ((types_Check.f t109).bind fun bt117 => (some (bt117.1 == 44 && (bt117.2 == 11)))) else (some false)) = some r := H
 have A3 := Aside0.mk A30
 clear A30
 by_cases c4 : (t115 == 38 && (t116 == 7)) = true
 ·rw [if_pos c4] at H
  have c4b0 : (t115 == 38 && (t116 == 7)) = true := c4
  (try (have c4b1 : decide (t115 = 38 && (t116 == 7)) = true := by simpa using c4))
  (try (have c4b2 : (t115 == 38 && (t116 == 7)) = true := by simpa using c4))
  clear c4
  replace H := Option.bind_eq_some_iff.mp H
  obtain ⟨⟨t117, t118⟩, A50, H⟩ := H
  replace H : (some (t117 == 44 && (t118 == 11))) = some r := H
  have A5 := Aside0.mk A50
  clear A50
  obtain rfl := Option.some.inj H
  go_enter Tryd.func31, Tryd.ntmps31
  go_wp2_with (first | ((with_reducible refine gate_callee (f := 15) rfl ?_); refine goesL_ (some 6) rfl rfl Tryd.func15 (by kernel_rfl) rfl #[.string (⟨#[110, 111, 100, 101, 32, 102, 40, 41, 32, 114, 101, 116, 117, 114, 110, 115, 32, 40, 121, 58, 32, 105, 110, 116, 41, 32, 108, 101, 116, 32, 121, 32, 61, 32, 49, 32, 43, 32, 116, 114, 117, 101, 59, 32, 116, 101, 108]⟩ : ByteArray)] rfl (by (try simp only [List.map_toArray, List.map_cons, List.map_nil]); first | done | rfl | (simp only [List.length_drop, List.length_take]; rfl)) ?_; (with_reducible refine (parse_Program.calls (⟨#[110, 111, 100, 101, 32, 102, 40, 41, 32, 114, 101, 116, 117, 114, 110, 115, 32, 40, 121, 58, 32, 105, 110, 116, 41, 32, 108, 101, 116, 32, 121, 32, 61, 32, 49, 32, 43, 32, 116, 114, 117, 101, 59, 32, 116, 101, 108]⟩ : ByteArray) t103 t106 t107 _ A1.out ?side1).mono ?_); (case side1 => exact Tabs.below HT.out (by repeat (first | (with_reducible first | exact HB.out | apply below_alloc | apply pw_below_drewN | apply below_drew1) | exact HB.out))); rintro e w6 ⟨v104, rfl, ho0, hb⟩; refine ⟨_, rfl, ?_⟩; have n0_ := Aside0.mk (Kd.R_lower ho0 (below_size (by repeat (first | (with_reducible first | exact HB.out | apply below_alloc | apply pw_below_drewN | apply below_drew1) | exact HB.out)))); have n1_ := Aside0.mk (below_step (by repeat (first | (with_reducible first | exact HB.out | apply below_alloc | apply pw_below_drewN | apply below_drew1) | exact HB.out)) hb); clear HB; have HO105 := n0_; have HB := n1_; clear n0_ n1_; (try clear hb); (try clear hb2); (try clear hk); (try clear hi); (try clear ho0)) | ((with_reducible refine gate_dst (N := 2) rfl ?_); refine box_event ?hg (N := 2) ?hd (cs := #[.int .i64 0, .int .i64 0]) (t := 27) ?hr ?_; (case hd => rfl); (case hg => rfl); (case hr => first | (go_simp; done) | (go_simp; rfl)); intro gb108 hg w7 hbox hb; have n0_ := Aside0.mk (Kd.R_below (by (with_reducible repeat (first | apply Kd.R_alloc | apply Kd.R_drewN | apply Kd.R_drew)); exact HO105.out) hb); have n1_ := Aside0.mk (below_step (by repeat (first | (with_reducible first | exact HB.out | apply below_alloc | apply pw_below_drewN | apply below_drew1) | exact HB.out)) hb); have n2_ := Aside0.mk (hbox); have n3_ := Aside0.mk ((by rw [hg]; exact (below_size (by repeat (first | (with_reducible first | exact HB.out | apply below_alloc | apply pw_below_drewN | apply below_drew1) | exact HB.out))) : w.heap.size ≤ gb108)); have n4_ := Aside0.mk ((by rw [hg]; exact (below_size (by repeat (first | (with_reducible first | exact HB.out | apply below_alloc | apply pw_below_drewN | apply below_drew1) | exact HB.out))) : w.heap.size ≤ gb108)); clear HO105; clear HB; have HO105 := n0_; have HB := n1_; have BK108 := n2_; have GW108 := n3_; have GE108 := n4_; clear n0_ n1_ n2_ n3_ n4_; clear hb hbox hg; have hcz8_0 : w7.cell? ⟨gb108, 0, none⟩ = some (.int .i64 0) := (blk_cell BK108.out 0).trans rfl; have hcz8_1 : w7.cell? ⟨gb108, 1, none⟩ = some (.int .i64 0) := (blk_cell BK108.out 1).trans rfl; have hfz8_0 := blk_frozen BK108.out 0; have hfz8_1 := blk_frozen BK108.out 1) | ((with_reducible refine gate_callee (f := 15) rfl ?_); refine goesL_ (some 10) rfl rfl Tryd.func15 (by kernel_rfl) rfl #[.string (⟨#[110, 111, 100, 101, 32, 102, 40, 120, 58, 32, 105, 110, 116, 41, 32, 114, 101, 116, 117, 114, 110, 115, 32, 40, 121, 58, 32, 105, 110, 116, 41, 32, 108, 101, 116, 32, 121, 32, 61, 32, 120, 32, 47, 32, 48, 59, 32, 116, 101, 108]⟩ : ByteArray)] rfl (by (try simp only [List.map_toArray, List.map_cons, List.map_nil]); first | done | rfl | (simp only [List.length_drop, List.length_take]; rfl)) ?_; (with_reducible refine (parse_Program.calls (⟨#[110, 111, 100, 101, 32, 102, 40, 120, 58, 32, 105, 110, 116, 41, 32, 114, 101, 116, 117, 114, 110, 115, 32, 40, 121, 58, 32, 105, 110, 116, 41, 32, 108, 101, 116, 32, 121, 32, 61, 32, 120, 32, 47, 32, 48, 59, 32, 116, 101, 108]⟩ : ByteArray) t109 t112 t113 _ A2.out ?side1).mono ?_); (case side1 => exact Tabs.below HT.out (by repeat (first | (with_reducible first | exact HB.out | apply below_alloc | apply pw_below_drewN | apply below_drew1 | refine below_set ?_ GE108.out) | exact HB.out))); rintro e w9 ⟨v110, rfl, ho0, hb⟩; refine ⟨_, rfl, ?_⟩; have n0_ := Aside0.mk (Kd.R_elder' (by (with_reducible repeat (first | apply Kd.R_alloc | apply Kd.R_drewN | apply Kd.R_drew)); exact (Kd.R_mono (Kd.R_far (p := ⟨gb108, 1, none⟩) (Kd.R_far (p := ⟨gb108, 0, none⟩) (Kd.R_types HO105.out BK108.out (by decide)) (fun _ hk => hk.2) (.int .i64 t106)) (fun _ hk => hk.2) (.int .i64 t107)) (fun _ h_ => h_.1))) (Kd.R_base ho0) hb); have n1_ := Aside0.mk (Kd.R_lower (Kd.R_new' ho0 (Kd.R_lt (by (with_reducible repeat (first | apply Kd.R_alloc | apply Kd.R_drewN | apply Kd.R_drew)); exact (Kd.R_mono (Kd.R_far (p := ⟨gb108, 1, none⟩) (Kd.R_far (p := ⟨gb108, 0, none⟩) (Kd.R_types HO105.out BK108.out (by decide)) (fun _ hk => hk.2) (.int .i64 t106)) (fun _ hk => hk.2) (.int .i64 t107)) (fun _ h_ => h_.1))))) (below_size (by repeat (first | (with_reducible first | exact HB.out | apply below_alloc | apply pw_below_drewN | apply below_drew1 | refine below_set ?_ GE108.out) | exact HB.out)))); have n2_ := Aside0.mk (blk_below (g := gb108) (o := .cells #[.int .i64 t106, .int .i64 t107] 27 (0, 0)) (by (with_reducible repeat (first | refine blk_drewN ?_ _ | refine blk_drew ?_ | refine blk_alloc ?_ _)); refine blk_put (cs := #[.int .i64 t106, .int .i64 0]) ?_ 1 _ rfl; (with_reducible repeat (first | refine blk_drewN ?_ _ | refine blk_drew ?_ | refine blk_alloc ?_ _)); refine blk_put (cs := #[.int .i64 0, .int .i64 0]) ?_ 0 _ rfl; (with_reducible repeat (first | refine blk_drewN ?_ _ | refine blk_drew ?_ | refine blk_alloc ?_ _)); exact BK108.out) hb); have n3_ := Aside0.mk (below_step (by repeat (first | (with_reducible first | exact HB.out | apply below_alloc | apply pw_below_drewN | apply below_drew1 | refine below_set ?_ GE108.out) | exact HB.out)) hb); clear HO105; clear BK108; clear HB; have HO105 := n0_; have HO111 := n1_; have BK108 := n2_; have HB := n3_; clear n0_ n1_ n2_ n3_; (try clear hb); (try clear hb2); (try clear hk); (try clear hi); (try clear ho0)) | ((with_reducible refine gate_dst (N := 4) rfl ?_); refine box_event ?hg (N := 4) ?hd (cs := #[.int .i64 0, .int .i64 0]) (t := 27) ?hr ?_; (case hd => rfl); (case hg => rfl); (case hr => first | (go_simp; done) | (go_simp; rfl)); intro gb114 hg w10 hbox hb; have n0_ := Aside0.mk (Kd.R_below (by (with_reducible repeat (first | apply Kd.R_alloc | apply Kd.R_drewN | apply Kd.R_drew)); exact HO105.out) hb); have n1_ := Aside0.mk (Kd.R_below (by (with_reducible repeat (first | apply Kd.R_alloc | apply Kd.R_drewN | apply Kd.R_drew)); exact HO111.out) hb); have n2_ := Aside0.mk (blk_below (g := gb108) (o := .cells #[.int .i64 t106, .int .i64 t107] 27 (0, 0)) (by (with_reducible repeat (first | refine blk_drewN ?_ _ | refine blk_drew ?_ | refine blk_alloc ?_ _)); exact BK108.out) hb); have n3_ := Aside0.mk (below_step (by repeat (first | (with_reducible first | exact HB.out | apply below_alloc | apply pw_below_drewN | apply below_drew1 | refine below_set ?_ GE108.out) | exact HB.out)) hb); have n4_ := Aside0.mk (hbox); have n5_ := Aside0.mk ((by rw [hg]; exact (below_size (by repeat (first | (with_reducible first | exact HB.out | apply below_alloc | apply pw_below_drewN | apply below_drew1 | refine below_set ?_ GE108.out) | exact HB.out))) : w.heap.size ≤ gb114)); have n6_ := Aside0.mk ((by rw [hg]; exact (below_size (by repeat (first | (with_reducible first | exact HB.out | apply below_alloc | apply pw_below_drewN | apply below_drew1 | refine below_set ?_ GE108.out) | exact HB.out))) : w.heap.size ≤ gb114)); have n7_ := Aside0.mk ((by rw [hg]; exact Nat.ne_of_lt (blk_lt (g := gb108) (o := .cells #[.int .i64 t106, .int .i64 t107] 27 (0, 0)) (by (with_reducible repeat (first | refine blk_drewN ?_ _ | refine blk_drew ?_ | refine blk_alloc ?_ _)); exact BK108.out)) : gb108 ≠ gb114)); have n8_ := Aside0.mk ((by rw [hg]; exact Nat.ne_of_gt (blk_lt (g := gb108) (o := .cells #[.int .i64 t106, .int .i64 t107] 27 (0, 0)) (by (with_reducible repeat (first | refine blk_drewN ?_ _ | refine blk_drew ?_ | refine blk_alloc ?_ _)); exact BK108.out)) : gb114 ≠ gb108)); clear HO105; clear HO111; clear BK108; clear HB; have HO105 := n0_; have HO111 := n1_; have BK108 := n2_; have HB := n3_; have BK114 := n4_; have GW114 := n5_; have GE114 := n6_; have NB108_114 := n7_; have NB114_108 := n8_; clear n0_ n1_ n2_ n3_ n4_ n5_ n6_ n7_ n8_; clear hb hbox hg; have hnb11 := NB114_108.out; have hnc11 := NB108_114.out; have hcz12_0 : w10.cell? ⟨gb114, 0, none⟩ = some (.int .i64 0) := (blk_cell BK114.out 0).trans rfl; have hcz12_1 : w10.cell? ⟨gb114, 1, none⟩ = some (.int .i64 0) := (blk_cell BK114.out 1).trans rfl; have hfz12_0 := blk_frozen BK114.out 0; have hfz12_1 := blk_frozen BK114.out 1; obtain ⟨Ao13, co13, eo13⟩ := Kd.R_slice HO105.out; subst eo13) | ((with_reducible refine gate_callee (f := 32) rfl ?_); refine goesL_ (some 14) rfl rfl Tryd.func32 (by kernel_rfl) rfl #[.slice Ao13 t103.length co13] rfl (by (try simp only [List.map_toArray, List.map_cons, List.map_nil]); first | done | rfl | (simp only [List.length_drop, List.length_take]; rfl)) ?_; (with_reducible refine (types_Check.calls _ _ t103 t115 t116 _ ?side1 ?side2 A3.out).mono ?_); (case side1 => refine (Kd.R_reads' (e := 34) (base := w.heap.size) (ok := fun k_ => (True ∧ some k_ ≠ (v110 : Value).ownBlock)) (n := t103.length) (c := co13) ?_).2.2; exact (by (with_reducible repeat (first | apply Kd.R_alloc | apply Kd.R_drewN | apply Kd.R_drew)); exact (Kd.R_mono (Kd.R_far (p := ⟨gb114, 1, none⟩) (Kd.R_far (p := ⟨gb114, 0, none⟩) (Kd.R_types HO105.out BK114.out (by decide)) (fun _ hk => hk.2) (.int .i64 t112)) (fun _ hk => hk.2) (.int .i64 t113)) (fun _ h_ => h_.1)))); (case side2 => exact (Kd.R_reads' HO105.out).2.1); rintro e w14 ⟨rfl, hb⟩; refine ⟨_, rfl, ?_⟩; have n0_ := Aside0.mk (Kd.R_below (by (with_reducible repeat (first | apply Kd.R_alloc | apply Kd.R_drewN | apply Kd.R_drew)); exact (Kd.R_mono (Kd.R_far (p := ⟨gb114, 1, none⟩) (Kd.R_far (p := ⟨gb114, 0, none⟩) (Kd.R_types HO105.out BK114.out (by decide)) (fun _ hk => hk.2) (.int .i64 t112)) (fun _ hk => hk.2) (.int .i64 t113)) (fun _ h_ => h_.1))) hb); have n1_ := Aside0.mk (Kd.R_below (by (with_reducible repeat (first | apply Kd.R_alloc | apply Kd.R_drewN | apply Kd.R_drew)); exact (Kd.R_mono (Kd.R_far (p := ⟨gb114, 1, none⟩) (Kd.R_far (p := ⟨gb114, 0, none⟩) (Kd.R_types HO111.out BK114.out (by decide)) (fun _ hk => hk.2) (.int .i64 t112)) (fun _ hk => hk.2) (.int .i64 t113)) (fun _ h_ => h_.1))) hb); have n2_ := Aside0.mk (blk_below (g := gb108) (o := .cells #[.int .i64 t106, .int .i64 t107] 27 (0, 0)) (by (with_reducible repeat (first | refine blk_drewN ?_ _ | refine blk_drew ?_ | refine blk_alloc ?_ _)); refine blk_far ?_ NB108_114.out _; (with_reducible repeat (first | refine blk_drewN ?_ _ | refine blk_drew ?_ | refine blk_alloc ?_ _)); refine blk_far ?_ NB108_114.out _; (with_reducible repeat (first | refine blk_drewN ?_ _ | refine blk_drew ?_ | refine blk_alloc ?_ _)); exact BK108.out) hb); have n3_ := Aside0.mk (blk_below (g := gb114) (o := .cells #[.int .i64 t112, .int .i64 t113] 27 (0, 0)) (by (with_reducible repeat (first | refine blk_drewN ?_ _ | refine blk_drew ?_ | refine blk_alloc ?_ _)); refine blk_put (cs := #[.int .i64 t112, .int .i64 0]) ?_ 1 _ rfl; (with_reducible repeat (first | refine blk_drewN ?_ _ | refine blk_drew ?_ | refine blk_alloc ?_ _)); refine blk_put (cs := #[.int .i64 0, .int .i64 0]) ?_ 0 _ rfl; (with_reducible repeat (first | refine blk_drewN ?_ _ | refine blk_drew ?_ | refine blk_alloc ?_ _)); exact BK114.out) hb); have n4_ := Aside0.mk (below_step (by repeat (first | (with_reducible first | exact HB.out | apply below_alloc | apply pw_below_drewN | apply below_drew1 | refine below_set ?_ GE108.out | refine below_set ?_ GE114.out) | exact HB.out)) hb); clear HO105; clear HO111; clear BK108; clear BK114; clear HB; have HO105 := n0_; have HO111 := n1_; have BK108 := n2_; have BK114 := n3_; have HB := n4_; clear n0_ n1_ n2_ n3_ n4_; (try clear hb); (try clear hb2); (try clear hk); (try clear hi); obtain ⟨Ao15, co15, eo15⟩ := Kd.R_slice HO111.out; subst eo15) | (go_at_call 32; (with_reducible refine (types_Check.calls _ _ t109 t117 t118 _ ?side1 ?side2 A5.out).mono ?_); (case side1 => repeat (first | exact (Kd.R_reads' HO111.out).2.2 | (with_reducible refine Kd.C_alloc ?_ _) | (with_reducible refine Kd.C_drewN ?_ _) | (with_reducible refine Kd.C_drew ?_))); (case side2 => exact (Kd.R_reads' HO111.out).2.1); rintro e w16 ⟨rfl, hb⟩; have n0_ := Aside0.mk (Kd.R_below (by (with_reducible repeat (first | apply Kd.R_alloc | apply Kd.R_drewN | apply Kd.R_drew)); exact HO105.out) hb); have n1_ := Aside0.mk (Kd.R_below (by (with_reducible repeat (first | apply Kd.R_alloc | apply Kd.R_drewN | apply Kd.R_drew)); exact HO111.out) hb); have n2_ := Aside0.mk (blk_below (g := gb108) (o := .cells #[.int .i64 t106, .int .i64 t107] 27 (0, 0)) (by (with_reducible repeat (first | refine blk_drewN ?_ _ | refine blk_drew ?_ | refine blk_alloc ?_ _)); exact BK108.out) hb); have n3_ := Aside0.mk (blk_below (g := gb114) (o := .cells #[.int .i64 t112, .int .i64 t113] 27 (0, 0)) (by (with_reducible repeat (first | refine blk_drewN ?_ _ | refine blk_drew ?_ | refine blk_alloc ?_ _)); exact BK114.out) hb); have n4_ := Aside0.mk (below_step (by repeat (first | (with_reducible first | exact HB.out | apply below_alloc | apply pw_below_drewN | apply below_drew1 | refine below_set ?_ GE108.out | refine below_set ?_ GE114.out) | exact HB.out)) hb); clear HO105; clear HO111; clear BK108; clear BK114; clear HB; have HO105 := n0_; have HO111 := n1_; have BK108 := n2_; have BK114 := n3_; have HB := n4_; clear n0_ n1_ n2_ n3_ n4_; (try clear hb); (try clear hb2); (try clear hk); (try clear hi)))
  go_ret
  exact ⟨by first | rfl | (simp [errW_none, errW_some] <;> rfl) | (simp [*, errW_none, errW_some] <;> rfl), by repeat (first | (with_reducible first | exact HB.out | apply below_alloc | apply pw_below_drewN | apply below_drew1 | refine below_set ?_ GE108.out | refine below_set ?_ GE114.out) | exact HB.out)⟩
 ·rw [if_neg c4] at H
  have c4b0 : (t115 == 38 && (t116 == 7)) = false := by simpa using c4
  (try (have c4b1 : decide (t115 = 38 && (t116 == 7)) = false := by simpa using c4))
  (try (have c4b2 : (t115 == 38 && (t116 == 7)) = false := by simpa using c4))
  (try (have c4b3 : ¬ (t115 = 38 && (t116 == 7)) := by simpa using c4))
  clear c4
  obtain rfl := Option.some.inj H
  go_enter Tryd.func31, Tryd.ntmps31
  go_wp2_with (first | ((with_reducible refine gate_callee (f := 15) rfl ?_); refine goesL_ (some 6) rfl rfl Tryd.func15 (by kernel_rfl) rfl #[.string (⟨#[110, 111, 100, 101, 32, 102, 40, 41, 32, 114, 101, 116, 117, 114, 110, 115, 32, 40, 121, 58, 32, 105, 110, 116, 41, 32, 108, 101, 116, 32, 121, 32, 61, 32, 49, 32, 43, 32, 116, 114, 117, 101, 59, 32, 116, 101, 108]⟩ : ByteArray)] rfl (by (try simp only [List.map_toArray, List.map_cons, List.map_nil]); first | done | rfl | (simp only [List.length_drop, List.length_take]; rfl)) ?_; (with_reducible refine (parse_Program.calls (⟨#[110, 111, 100, 101, 32, 102, 40, 41, 32, 114, 101, 116, 117, 114, 110, 115, 32, 40, 121, 58, 32, 105, 110, 116, 41, 32, 108, 101, 116, 32, 121, 32, 61, 32, 49, 32, 43, 32, 116, 114, 117, 101, 59, 32, 116, 101, 108]⟩ : ByteArray) t103 t106 t107 _ A1.out ?side1).mono ?_); (case side1 => exact Tabs.below HT.out (by repeat (first | (with_reducible first | exact HB.out | apply below_alloc | apply pw_below_drewN | apply below_drew1) | exact HB.out))); rintro e w17 ⟨v104, rfl, ho0, hb⟩; refine ⟨_, rfl, ?_⟩; have n0_ := Aside0.mk (Kd.R_lower ho0 (below_size (by repeat (first | (with_reducible first | exact HB.out | apply below_alloc | apply pw_below_drewN | apply below_drew1) | exact HB.out)))); have n1_ := Aside0.mk (below_step (by repeat (first | (with_reducible first | exact HB.out | apply below_alloc | apply pw_below_drewN | apply below_drew1) | exact HB.out)) hb); clear HB; have HO105 := n0_; have HB := n1_; clear n0_ n1_; (try clear hb); (try clear hb2); (try clear hk); (try clear hi); (try clear ho0)) | ((with_reducible refine gate_dst (N := 2) rfl ?_); refine box_event ?hg (N := 2) ?hd (cs := #[.int .i64 0, .int .i64 0]) (t := 27) ?hr ?_; (case hd => rfl); (case hg => rfl); (case hr => first | (go_simp; done) | (go_simp; rfl)); intro gb108 hg w18 hbox hb; have n0_ := Aside0.mk (Kd.R_below (by (with_reducible repeat (first | apply Kd.R_alloc | apply Kd.R_drewN | apply Kd.R_drew)); exact HO105.out) hb); have n1_ := Aside0.mk (below_step (by repeat (first | (with_reducible first | exact HB.out | apply below_alloc | apply pw_below_drewN | apply below_drew1) | exact HB.out)) hb); have n2_ := Aside0.mk (hbox); have n3_ := Aside0.mk ((by rw [hg]; exact (below_size (by repeat (first | (with_reducible first | exact HB.out | apply below_alloc | apply pw_below_drewN | apply below_drew1) | exact HB.out))) : w.heap.size ≤ gb108)); have n4_ := Aside0.mk ((by rw [hg]; exact (below_size (by repeat (first | (with_reducible first | exact HB.out | apply below_alloc | apply pw_below_drewN | apply below_drew1) | exact HB.out))) : w.heap.size ≤ gb108)); clear HO105; clear HB; have HO105 := n0_; have HB := n1_; have BK108 := n2_; have GW108 := n3_; have GE108 := n4_; clear n0_ n1_ n2_ n3_ n4_; clear hb hbox hg; have hcz19_0 : w18.cell? ⟨gb108, 0, none⟩ = some (.int .i64 0) := (blk_cell BK108.out 0).trans rfl; have hcz19_1 : w18.cell? ⟨gb108, 1, none⟩ = some (.int .i64 0) := (blk_cell BK108.out 1).trans rfl; have hfz19_0 := blk_frozen BK108.out 0; have hfz19_1 := blk_frozen BK108.out 1) | ((with_reducible refine gate_callee (f := 15) rfl ?_); refine goesL_ (some 10) rfl rfl Tryd.func15 (by kernel_rfl) rfl #[.string (⟨#[110, 111, 100, 101, 32, 102, 40, 120, 58, 32, 105, 110, 116, 41, 32, 114, 101, 116, 117, 114, 110, 115, 32, 40, 121, 58, 32, 105, 110, 116, 41, 32, 108, 101, 116, 32, 121, 32, 61, 32, 120, 32, 47, 32, 48, 59, 32, 116, 101, 108]⟩ : ByteArray)] rfl (by (try simp only [List.map_toArray, List.map_cons, List.map_nil]); first | done | rfl | (simp only [List.length_drop, List.length_take]; rfl)) ?_; (with_reducible refine (parse_Program.calls (⟨#[110, 111, 100, 101, 32, 102, 40, 120, 58, 32, 105, 110, 116, 41, 32, 114, 101, 116, 117, 114, 110, 115, 32, 40, 121, 58, 32, 105, 110, 116, 41, 32, 108, 101, 116, 32, 121, 32, 61, 32, 120, 32, 47, 32, 48, 59, 32, 116, 101, 108]⟩ : ByteArray) t109 t112 t113 _ A2.out ?side1).mono ?_); (case side1 => exact Tabs.below HT.out (by repeat (first | (with_reducible first | exact HB.out | apply below_alloc | apply pw_below_drewN | apply below_drew1 | refine below_set ?_ GE108.out) | exact HB.out))); rintro e w20 ⟨v110, rfl, ho0, hb⟩; refine ⟨_, rfl, ?_⟩; have n0_ := Aside0.mk (Kd.R_elder' (by (with_reducible repeat (first | apply Kd.R_alloc | apply Kd.R_drewN | apply Kd.R_drew)); exact (Kd.R_mono (Kd.R_far (p := ⟨gb108, 1, none⟩) (Kd.R_far (p := ⟨gb108, 0, none⟩) (Kd.R_types HO105.out BK108.out (by decide)) (fun _ hk => hk.2) (.int .i64 t106)) (fun _ hk => hk.2) (.int .i64 t107)) (fun _ h_ => h_.1))) (Kd.R_base ho0) hb); have n1_ := Aside0.mk (Kd.R_lower (Kd.R_new' ho0 (Kd.R_lt (by (with_reducible repeat (first | apply Kd.R_alloc | apply Kd.R_drewN | apply Kd.R_drew)); exact (Kd.R_mono (Kd.R_far (p := ⟨gb108, 1, none⟩) (Kd.R_far (p := ⟨gb108, 0, none⟩) (Kd.R_types HO105.out BK108.out (by decide)) (fun _ hk => hk.2) (.int .i64 t106)) (fun _ hk => hk.2) (.int .i64 t107)) (fun _ h_ => h_.1))))) (below_size (by repeat (first | (with_reducible first | exact HB.out | apply below_alloc | apply pw_below_drewN | apply below_drew1 | refine below_set ?_ GE108.out) | exact HB.out)))); have n2_ := Aside0.mk (blk_below (g := gb108) (o := .cells #[.int .i64 t106, .int .i64 t107] 27 (0, 0)) (by (with_reducible repeat (first | refine blk_drewN ?_ _ | refine blk_drew ?_ | refine blk_alloc ?_ _)); refine blk_put (cs := #[.int .i64 t106, .int .i64 0]) ?_ 1 _ rfl; (with_reducible repeat (first | refine blk_drewN ?_ _ | refine blk_drew ?_ | refine blk_alloc ?_ _)); refine blk_put (cs := #[.int .i64 0, .int .i64 0]) ?_ 0 _ rfl; (with_reducible repeat (first | refine blk_drewN ?_ _ | refine blk_drew ?_ | refine blk_alloc ?_ _)); exact BK108.out) hb); have n3_ := Aside0.mk (below_step (by repeat (first | (with_reducible first | exact HB.out | apply below_alloc | apply pw_below_drewN | apply below_drew1 | refine below_set ?_ GE108.out) | exact HB.out)) hb); clear HO105; clear BK108; clear HB; have HO105 := n0_; have HO111 := n1_; have BK108 := n2_; have HB := n3_; clear n0_ n1_ n2_ n3_; (try clear hb); (try clear hb2); (try clear hk); (try clear hi); (try clear ho0)) | ((with_reducible refine gate_dst (N := 4) rfl ?_); refine box_event ?hg (N := 4) ?hd (cs := #[.int .i64 0, .int .i64 0]) (t := 27) ?hr ?_; (case hd => rfl); (case hg => rfl); (case hr => first | (go_simp; done) | (go_simp; rfl)); intro gb114 hg w21 hbox hb; have n0_ := Aside0.mk (Kd.R_below (by (with_reducible repeat (first | apply Kd.R_alloc | apply Kd.R_drewN | apply Kd.R_drew)); exact HO105.out) hb); have n1_ := Aside0.mk (Kd.R_below (by (with_reducible repeat (first | apply Kd.R_alloc | apply Kd.R_drewN | apply Kd.R_drew)); exact HO111.out) hb); have n2_ := Aside0.mk (blk_below (g := gb108) (o := .cells #[.int .i64 t106, .int .i64 t107] 27 (0, 0)) (by (with_reducible repeat (first | refine blk_drewN ?_ _ | refine blk_drew ?_ | refine blk_alloc ?_ _)); exact BK108.out) hb); have n3_ := Aside0.mk (below_step (by repeat (first | (with_reducible first | exact HB.out | apply below_alloc | apply pw_below_drewN | apply below_drew1 | refine below_set ?_ GE108.out) | exact HB.out)) hb); have n4_ := Aside0.mk (hbox); have n5_ := Aside0.mk ((by rw [hg]; exact (below_size (by repeat (first | (with_reducible first | exact HB.out | apply below_alloc | apply pw_below_drewN | apply below_drew1 | refine below_set ?_ GE108.out) | exact HB.out))) : w.heap.size ≤ gb114)); have n6_ := Aside0.mk ((by rw [hg]; exact (below_size (by repeat (first | (with_reducible first | exact HB.out | apply below_alloc | apply pw_below_drewN | apply below_drew1 | refine below_set ?_ GE108.out) | exact HB.out))) : w.heap.size ≤ gb114)); have n7_ := Aside0.mk ((by rw [hg]; exact Nat.ne_of_lt (blk_lt (g := gb108) (o := .cells #[.int .i64 t106, .int .i64 t107] 27 (0, 0)) (by (with_reducible repeat (first | refine blk_drewN ?_ _ | refine blk_drew ?_ | refine blk_alloc ?_ _)); exact BK108.out)) : gb108 ≠ gb114)); have n8_ := Aside0.mk ((by rw [hg]; exact Nat.ne_of_gt (blk_lt (g := gb108) (o := .cells #[.int .i64 t106, .int .i64 t107] 27 (0, 0)) (by (with_reducible repeat (first | refine blk_drewN ?_ _ | refine blk_drew ?_ | refine blk_alloc ?_ _)); exact BK108.out)) : gb114 ≠ gb108)); clear HO105; clear HO111; clear BK108; clear HB; have HO105 := n0_; have HO111 := n1_; have BK108 := n2_; have HB := n3_; have BK114 := n4_; have GW114 := n5_; have GE114 := n6_; have NB108_114 := n7_; have NB114_108 := n8_; clear n0_ n1_ n2_ n3_ n4_ n5_ n6_ n7_ n8_; clear hb hbox hg; have hnb22 := NB114_108.out; have hnc22 := NB108_114.out; have hcz23_0 : w21.cell? ⟨gb114, 0, none⟩ = some (.int .i64 0) := (blk_cell BK114.out 0).trans rfl; have hcz23_1 : w21.cell? ⟨gb114, 1, none⟩ = some (.int .i64 0) := (blk_cell BK114.out 1).trans rfl; have hfz23_0 := blk_frozen BK114.out 0; have hfz23_1 := blk_frozen BK114.out 1; obtain ⟨Ao24, co24, eo24⟩ := Kd.R_slice HO105.out; subst eo24) | ((with_reducible refine gate_callee (f := 32) rfl ?_); refine goesL_ (some 14) rfl rfl Tryd.func32 (by kernel_rfl) rfl #[.slice Ao24 t103.length co24] rfl (by (try simp only [List.map_toArray, List.map_cons, List.map_nil]); first | done | rfl | (simp only [List.length_drop, List.length_take]; rfl)) ?_; (with_reducible refine (types_Check.calls _ _ t103 t115 t116 _ ?side1 ?side2 A3.out).mono ?_); (case side1 => refine (Kd.R_reads' (e := 34) (base := w.heap.size) (ok := fun k_ => (True ∧ some k_ ≠ (v110 : Value).ownBlock)) (n := t103.length) (c := co24) ?_).2.2; exact (by (with_reducible repeat (first | apply Kd.R_alloc | apply Kd.R_drewN | apply Kd.R_drew)); exact (Kd.R_mono (Kd.R_far (p := ⟨gb114, 1, none⟩) (Kd.R_far (p := ⟨gb114, 0, none⟩) (Kd.R_types HO105.out BK114.out (by decide)) (fun _ hk => hk.2) (.int .i64 t112)) (fun _ hk => hk.2) (.int .i64 t113)) (fun _ h_ => h_.1)))); (case side2 => exact (Kd.R_reads' HO105.out).2.1); rintro e w25 ⟨rfl, hb⟩; refine ⟨_, rfl, ?_⟩; have n0_ := Aside0.mk (Kd.R_below (by (with_reducible repeat (first | apply Kd.R_alloc | apply Kd.R_drewN | apply Kd.R_drew)); exact (Kd.R_mono (Kd.R_far (p := ⟨gb114, 1, none⟩) (Kd.R_far (p := ⟨gb114, 0, none⟩) (Kd.R_types HO105.out BK114.out (by decide)) (fun _ hk => hk.2) (.int .i64 t112)) (fun _ hk => hk.2) (.int .i64 t113)) (fun _ h_ => h_.1))) hb); have n1_ := Aside0.mk (Kd.R_below (by (with_reducible repeat (first | apply Kd.R_alloc | apply Kd.R_drewN | apply Kd.R_drew)); exact (Kd.R_mono (Kd.R_far (p := ⟨gb114, 1, none⟩) (Kd.R_far (p := ⟨gb114, 0, none⟩) (Kd.R_types HO111.out BK114.out (by decide)) (fun _ hk => hk.2) (.int .i64 t112)) (fun _ hk => hk.2) (.int .i64 t113)) (fun _ h_ => h_.1))) hb); have n2_ := Aside0.mk (blk_below (g := gb108) (o := .cells #[.int .i64 t106, .int .i64 t107] 27 (0, 0)) (by (with_reducible repeat (first | refine blk_drewN ?_ _ | refine blk_drew ?_ | refine blk_alloc ?_ _)); refine blk_far ?_ NB108_114.out _; (with_reducible repeat (first | refine blk_drewN ?_ _ | refine blk_drew ?_ | refine blk_alloc ?_ _)); refine blk_far ?_ NB108_114.out _; (with_reducible repeat (first | refine blk_drewN ?_ _ | refine blk_drew ?_ | refine blk_alloc ?_ _)); exact BK108.out) hb); have n3_ := Aside0.mk (blk_below (g := gb114) (o := .cells #[.int .i64 t112, .int .i64 t113] 27 (0, 0)) (by (with_reducible repeat (first | refine blk_drewN ?_ _ | refine blk_drew ?_ | refine blk_alloc ?_ _)); refine blk_put (cs := #[.int .i64 t112, .int .i64 0]) ?_ 1 _ rfl; (with_reducible repeat (first | refine blk_drewN ?_ _ | refine blk_drew ?_ | refine blk_alloc ?_ _)); refine blk_put (cs := #[.int .i64 0, .int .i64 0]) ?_ 0 _ rfl; (with_reducible repeat (first | refine blk_drewN ?_ _ | refine blk_drew ?_ | refine blk_alloc ?_ _)); exact BK114.out) hb); have n4_ := Aside0.mk (below_step (by repeat (first | (with_reducible first | exact HB.out | apply below_alloc | apply pw_below_drewN | apply below_drew1 | refine below_set ?_ GE108.out | refine below_set ?_ GE114.out) | exact HB.out)) hb); clear HO105; clear HO111; clear BK108; clear BK114; clear HB; have HO105 := n0_; have HO111 := n1_; have BK108 := n2_; have BK114 := n3_; have HB := n4_; clear n0_ n1_ n2_ n3_ n4_; (try clear hb); (try clear hb2); (try clear hk); (try clear hi)))
  go_ret
  exact ⟨by first | rfl | (simp [errW_none, errW_some] <;> rfl) | (simp [*, errW_none, errW_some] <;> rfl), by repeat (first | (with_reducible first | exact HB.out | apply below_alloc | apply pw_below_drewN | apply below_drew1 | refine below_set ?_ GE108.out | refine below_set ?_ GE114.out) | exact HB.out)⟩

end Go.Proofs.YtjafllnbgfcchaaDoor.XTB
end
section
/- A call of a function value that holds a function literal without captured variables. -/
namespace Go.Proofs.YtjafllnbgfcchaaDoor.Vf
open Go Go.RowKit Go.Proofs.YtjafllnbgfcchaaDoorW.PrintLast
variable {P : Program} {ops : Array Oper} {Q : Exit → Act → World → Prop}
end Go.Proofs.YtjafllnbgfcchaaDoor.Vf
end
section
/- What a function has made for itself: its own blocks, told with what lies in them; all older blocks as they were. -/
namespace Go.Proofs.YtjafllnbgfcchaaDoor.Ow
set_option linter.unusedVariables false
open Go Go.RowKit Go.Proofs.YtjafllnbgfcchaaDoorW.PrintWords Go.Proofs.YtjafllnbgfcchaaDoorW.PrintLast Go.Proofs.YtjafllnbgfcchaaDoorW.PrintMore Go.Proofs.YtjafllnbgfcchaaDoor.Lx Go.Proofs.YtjafllnbgfcchaaDoor.XK Go.Proofs.YtjafllnbgfcchaaDoor.Px
structure Ow (w W : World) (l : List (Nat × Obj)) : Prop where
 bel : Below w.heap.size w W
 loc : ∀ x ∈ l, w.heap.size ≤ x.1 ∧ W.heap[x.1]? = some x.2
section
variable {w W W' : World} {l : List (Nat × Obj)}
theorem Ow.start (w : World) : Ow w w [] := ⟨Below.refl _ _, fun x hx => by simp at hx⟩
theorem Ow.sz (h : Ow w W l) : w.heap.size ≤ W.heap.size := h.bel.size
theorem Ow.below (h : Ow w W l) (hb : Below W.heap.size W W') : Ow w W' l := ⟨h.bel.trans (hb.mono h.sz), fun x hx => ⟨(h.loc x hx).1, blk_below (h.loc x hx).2 hb⟩⟩
theorem Ow.drewN {n : Nat} (h : Ow w W l) : Ow w (W.drewN n) l := h.below (pw_below_drewN (Below.refl _ _) n)
theorem Ow.drew (h : Ow w W l) : Ow w W.drew l := h.below (below_drew (Below.refl _ _))
theorem Ow.newg {q : Obj} {g : Nat} (hg : W.heap.size = g) (h : Ow w W l) : Ow w (W.alloc q) ((g, q) :: l) := by
 subst hg
 exact ⟨(h.below (below_alloc (Below.refl _ _) q)).bel, fun x hx => by
  rcases List.mem_cons.1 hx with rfl | hx
  ·exact ⟨h.sz, blk_new W q⟩
  ·exact (h.below (below_alloc (Below.refl _ _) q)).loc x hx⟩
theorem Ow.new {q : Obj} (h : Ow w W l) : Ow w (W.alloc q) ((W.heap.size, q) :: l) := h.newg rfl
theorem Ow.sub {l' : List (Nat × Obj)} (hs : ∀ x ∈ l', x ∈ l) (h : Ow w W l) : Ow w W l' := ⟨h.bel, fun x hx => h.loc x (hs x hx)⟩
theorem Ow.drop1 {y : Nat × Obj} (h : Ow w W (y :: l)) : Ow w W l := h.sub fun z hz => List.mem_cons_of_mem _ hz
theorem Ow.cons {g : Nat} {q : Obj} (hg : w.heap.size ≤ g) (hb : W.heap[g]? = some q) (h : Ow w W l) : Ow w W ((g, q) :: l) := ⟨h.bel, fun x hx => by
 rcases List.mem_cons.1 hx with rfl | hx
 ·exact ⟨hg, hb⟩
 ·exact h.loc x hx⟩
theorem Ow.put {g j : Nat} {v : Value} {cs : Array Value} {t : TypeId} (h : Ow w W ((g, .cells cs t (0, 0)) :: l)) (hn : ∀ y ∈ l, y.1 ≠ g) : Ow w (W.setCell ⟨g, j, none⟩ v) ((g, .cells (cs.setIfInBounds j v) t (0, 0)) :: l) :=
 ⟨h.bel.setCell (h.loc (g, .cells cs t (0, 0)) List.mem_cons_self).1 v, fun x hx => by
  rcases List.mem_cons.1 hx with rfl | hx
  ·exact ⟨(h.loc (g, .cells cs t (0, 0)) List.mem_cons_self).1, blk_set (h.loc (g, .cells cs t (0, 0)) List.mem_cons_self).2 j v⟩
  ·exact ⟨(h.loc x (List.mem_cons_of_mem _ hx)).1, (Below.heap_setCell W ⟨g, j, none⟩ v x.1 (hn x hx)).trans (h.loc x (List.mem_cons_of_mem _ hx)).2⟩⟩
theorem Ow.l0 {g : Nat} {q : Obj} (h : Ow w W ((g, q) :: l)) : W.heap[g]? = some q := (h.loc (g, q) (by simp)).2
theorem Ow.l1 {g : Nat} {q : Obj} {y : Nat × Obj} (h : Ow w W (y :: (g, q) :: l)) : W.heap[g]? = some q := (h.loc (g, q) (by simp)).2
theorem Ow.l2 {g : Nat} {q : Obj} {y z : Nat × Obj} (h : Ow w W (z :: y :: (g, q) :: l)) : W.heap[g]? = some q := (h.loc (g, q) (by simp)).2
theorem Ow.l3 {g : Nat} {q : Obj} {y z u : Nat × Obj} (h : Ow w W (u :: z :: y :: (g, q) :: l)) : W.heap[g]? = some q := (h.loc (g, q) (by simp)).2
theorem Ow.g0 {g : Nat} {q : Obj} (h : Ow w W ((g, q) :: l)) : w.heap.size ≤ g := (h.loc (g, q) (by simp)).1
end
end Go.Proofs.YtjafllnbgfcchaaDoor.Ow
end
section
/- The law TypesCalls, walked. -/
namespace Go.Proofs.YtjafllnbgfcchaaDoor.Tc
set_option linter.unusedVariables false
set_option linter.unusedSimpArgs false
open Go Go.RowKit Go.Proofs.YtjafllnbgfcchaaDoorW.PrintWords Go.Proofs.YtjafllnbgfcchaaDoorW.PrintLast Go.Proofs.YtjafllnbgfcchaaDoorW.PrintMore Go.Proofs.YtjafllnbgfcchaaDoor.XK Go.Proofs.YtjafllnbgfcchaaDoor.XTB Go.Proofs.YtjafllnbgfcchaaDoor.Ow Go.Proofs.YtjafllnbgfcchaaDoor.Px
attribute [local go_sem ↓] Go.wp_at_zero Go.wp_at_succ
def ba (l : List UInt8) : ByteArray := ⟨l.toArray⟩
def word : Nat → List UInt8
 | 0 => [105, 110, 116]
 | 1 => [98, 111, 111, 108]
 | 2 => [102, 117, 116, 117, 114, 101, 32, 105, 110, 116]
 | _ => [102, 117, 116, 117, 114, 101, 32, 98, 111, 111, 108]
def name : Nat → List UInt8
 | 0 => [97]
 | 1 => [98]
 | 2 => [117]
 | _ => [118]
abbrev wordsO : Obj := .cells #[.string ⟨#[105, 110, 116]⟩, .string ⟨#[98, 111, 111, 108]⟩, .string ⟨#[102, 117, 116, 117, 114, 101, 32, 105, 110, 116]⟩, .string ⟨#[102, 117, 116, 117, 114, 101, 32, 98, 111, 111, 108]⟩] 9 (0, 0)
abbrev namesO : Obj := .cells #[.string ⟨#[97]⟩, .string ⟨#[98]⟩, .string ⟨#[117]⟩, .string ⟨#[118]⟩] 9 (0, 0)
def insB : List Nat → Nat → List UInt8
 | [], _ => []
 | t :: r, i => (if i = 0 then [] else [44, 32]) ++ ([112, 48 + i.toUInt8, 58, 32] ++ word t) ++ insB r (i + 1)
def argsB : List Nat → Nat → List UInt8
 | [], _ => []
 | t :: r, i => (if i = 0 then [] else [44, 32]) ++ name t ++ argsB r (i + 1)
theorem ba_append (a b : List UInt8) : ba a ++ ba b = ba (a ++ b) := by
 apply ByteArray.ext
 rw [ByteArray.data_append]
 simp [ba]
theorem beq_int (j k : Nat) : ((j : Int) == (k : Int)) = (j == k) := by
 by_cases h : j = k
 ·subst h; simp
 ·rw [beq_eq_false_iff_ne.2 h, beq_eq_false_iff_ne.2 (by omega)]
theorem ins_step {d : UInt8} (a b l : List UInt8) (h : l = a ++ ([112] ++ [d] ++ [58, 32] ++ b)) : ba a ++ ((⟨#[112]⟩ : ByteArray) ++ ⟨#[d]⟩ ++ ⟨#[58, 32]⟩ ++ ba b) = ba l := by
 rw [h, ← ba_append, ← ba_append, ← ba_append, ← ba_append]
 rfl
theorem args_step (a b l : List UInt8) (h : l = a ++ b) : ba a ++ ba b = ba l := by rw [h, ← ba_append]
theorem ins_step2 {d : UInt8} (a b l : List UInt8) (h : l = a ++ [44, 32] ++ ([112] ++ [d] ++ [58, 32] ++ b)) : ba a ++ (⟨#[44, 32]⟩ : ByteArray) ++ ((⟨#[112]⟩ : ByteArray) ++ ⟨#[d]⟩ ++ ⟨#[58, 32]⟩ ++ ba b) = ba l := by
 rw [h, ← ba_append, ← ba_append, ← ba_append, ← ba_append, ← ba_append]
 rfl
theorem args_step2 (a b l : List UInt8) (h : l = a ++ [44, 32] ++ b) : ba a ++ (⟨#[44, 32]⟩ : ByteArray) ++ ba b = ba l := by
 rw [h, ← ba_append, ← ba_append]
 rfl
theorem ba_size (l : List UInt8) : (ba l).size = l.length := by
 show (ba l).data.size = _
 simp [ba]
theorem word_len (j : Nat) : (word j).length ≤ 11 := by
 match j with
 | 0 => decide
 | 1 => decide
 | 2 => decide
 | _ + 3 => exact (by decide : (word 3).length ≤ 11)
theorem name_len (j : Nat) : (name j).length ≤ 1 := by
 match j with
 | 0 => decide
 | 1 => decide
 | 2 => decide
 | _ + 3 => exact (by decide : (name 3).length ≤ 1)
theorem ins_len : ∀ (l : List Nat) (i : Nat), (insB l i).length ≤ 17 * l.length
 | [], i => Nat.zero_le _
 | t :: r, i => by
  have h1 := ins_len r (i + 1)
  have h2 := word_len t
  rw [insB]
  have h3 : (if i = 0 then [] else [44, 32] : List UInt8).length ≤ 2 := by split <;> decide
  simp only [List.length_append, List.length_cons, List.length_nil]
  omega
theorem args_len : ∀ (l : List Nat) (i : Nat), (argsB l i).length ≤ 3 * l.length
 | [], i => Nat.zero_le _
 | t :: r, i => by
  have h1 := args_len r (i + 1)
  have h2 := name_len t
  rw [argsB]
  have h3 : (if i = 0 then [] else [44, 32] : List UInt8).length ≤ 2 := by split <;> decide
  simp only [List.length_append, List.length_cons]
  omega
theorem ins_size (l : List Nat) (i : Nat) (h : l.length ≤ 4) : (ba (insB l i)).size ≤ 100 := by
 have := ins_len l i
 rw [ba_size]
 omega
theorem args_size (l : List Nat) (i : Nat) (h : l.length ≤ 4) : (ba (argsB l i)).size ≤ 100 := by
 have := args_len l i
 rw [ba_size]
 omega
theorem and_3 (x : Int) : Go.bits .and .i64 x 3 = ((x % 4).toNat : Int) := by
 have h1 : (BitVec.ofInt 64 x &&& BitVec.ofInt 64 3).toNat = (x % 18446744073709551616).toNat % 4 := by
  rw [BitVec.toNat_and, show (BitVec.ofInt 64 3).toNat = 2 ^ 2 - 1 from rfl, Nat.and_two_pow_sub_one_eq_mod, BitVec.toNat_ofInt]
  rfl
 unfold Go.bits
 show IntKind.i64.wrap (((BitVec.ofInt 64 x &&& BitVec.ofInt 64 3).toNat : Nat) : Int) = _
 rw [h1, IntKind.wrap_i64]
 omega
theorem T_lt (x : Int) : (x % 4).toNat < 4 := by omega
theorem conv_one {W : World} {g : Nat} {b : UInt8} (h : W.heap[g]? = some (.cells #[.int .u8 (b.toNat : Int)] 5 (0, 0))) : (convert 67 9 (.slice (some ⟨g, 0, none⟩) 1 1)).run Tryd.prog W = .ok (.string (ba [b])) W :=
 run_convert_bytes_back W 67 9 5 ⟨g, 0, none⟩ 1 [b] Tryd.underlying67 Tryd.underlying5 Tryd.underlying9 (fun j hj => by
  obtain rfl : j = 0 := by simp at hj; omega
  exact blk_cell h 0)
theorem word_cell {W : World} {g : Nat} (h : W.heap[g]? = some wordsO) (j : Nat) (hj : j < 4) : W.cell? ⟨g, j, none⟩ = some (.string (ba (word j))) := by
 match j, hj with
 | 0, _ => exact blk_cell h 0
 | 1, _ => exact blk_cell h 1
 | 2, _ => exact blk_cell h 2
 | 3, _ => exact blk_cell h 3
theorem name_cell {W : World} {g : Nat} (h : W.heap[g]? = some namesO) (j : Nat) (hj : j < 4) : W.cell? ⟨g, j, none⟩ = some (.string (ba (name j))) := by
 match j, hj with
 | 0, _ => exact blk_cell h 0
 | 1, _ => exact blk_cell h 1
 | 2, _ => exact blk_cell h 2
 | 3, _ => exact blk_cell h 3
def T (x : Int) : Nat := (x % 4).toNat
def ts (t0 t1 t2 t3 : Int) : List Nat := [T t0, T t1, T t2, T t3]
def eqs : List Nat → List Nat → Bool
 | t :: r, g :: q => (t == g) && eqs r q
 | _, _ => true
set_option maxHeartbeats 8000000 in
set_option maxRecDepth 100000 in
theorem calls_walk (t0 t1 t2 t3 g0 g1 g2 g3 : Int) (w : World) (hT : XTB.Tabs w) (haw : girandolelaw05_awake.f = some true) (ns : List S34) (r : Int × Int)
  (hp : parse_Program.f (((((⟨#[110, 111, 100, 101, 32, 102, 40, 97, 58, 32, 105, 110, 116, 44, 32, 98, 58, 32, 98, 111, 111, 108, 41, 32, 114, 101, 116, 117, 114, 110, 115, 32, 40, 121, 58, 32, 105, 110, 116, 41, 32, 118, 97, 114, 32, 117, 58, 32, 102, 117, 116, 117, 114, 101, 32, 105, 110, 116, 59, 32, 118, 58, 32, 102, 117, 116, 117, 114, 101, 32, 98, 111, 111, 108, 59, 32, 108, 101, 116, 32, 117, 32, 61, 32, 97, 115, 121, 110, 99, 32, 103, 40, 97, 41, 59, 32, 118, 32, 61, 32, 97, 115, 121, 110, 99, 32, 104, 40, 98, 41, 59, 32, 121, 32, 61, 32, 107, 40]⟩ : ByteArray) ++ ba (argsB (ts g0 g1 g2 g3) 0)) ++ (⟨#[41, 59, 32, 116, 101, 108, 32, 110, 111, 100, 101, 32, 103, 40, 97, 58, 32, 105, 110, 116, 41, 32, 114, 101, 116, 117, 114, 110, 115, 32, 40, 99, 58, 32, 105, 110, 116, 41, 32, 108, 101, 116, 32, 99, 32, 61, 32, 97, 59, 32, 116, 101, 108, 32, 110, 111, 100, 101, 32, 104, 40, 97, 58, 32, 98, 111, 111, 108, 41, 32, 114, 101, 116, 117, 114, 110, 115, 32, 40, 99, 58, 32, 98, 111, 111, 108, 41, 32, 108, 101, 116, 32, 99, 32, 61, 32, 97, 59, 32, 116, 101, 108, 32, 110, 111, 100, 101, 32, 107, 40]⟩ : ByteArray)) ++ ba (insB (ts t0 t1 t2 t3) 0)) ++ (⟨#[41, 32, 114, 101, 116, 117, 114, 110, 115, 32, 40, 121, 58, 32, 105, 110, 116, 41, 32, 108, 101, 116, 32, 121, 32, 61, 32, 49, 59, 32, 116, 101, 108]⟩ : ByteArray)) = some (ns, 0, 0) ∧ types_Check.f ns = some r ∧ (r.1 == 0 && r.2 == 0) = eqs (ts t0 t1 t2 t3) (ts g0 g1 g2 g3)) :
  Calls Tryd.prog 9 #[.agg #[.int .i64 t0, .int .i64 t1, .int .i64 t2, .int .i64 t3], .agg #[.int .i64 g0, .int .i64 g1, .int .i64 g2, .int .i64 g3]] w fun e w' => e = .returned (.bool true) ∧ Below w.heap.size w w' := by
 have HT := Lib.hid hT
 have HA := Lib.hid haw
 have HP := Lib.hid hp
 clear hT haw hp
 go_enter Tryd.func9, Tryd.ntmps9
 go_wp2_with (fail)
 have HO : Hid (Ow w _ [(w.heap.size + 1, .cells #[.int .i64 g0, .int .i64 g1, .int .i64 g2, .int .i64 g3] 70 (0, 0)), (w.heap.size, .cells #[.int .i64 t0, .int .i64 t1, .int .i64 t2, .int .i64 t3] 70 (0, 0))]) := Lib.hid (((Ow.start w).new (q := .cells #[.int .i64 t0, .int .i64 t1, .int .i64 t2, .int .i64 t3] 70 (0, 0))).newg (q := .cells #[.int .i64 g0, .int .i64 g1, .int .i64 g2, .int .i64 g3] 70 (0, 0)) (World.size_alloc _ _))
 refine (girandolelaw05_awake.calls true _ HA.out (XTB.Tabs.below HT.out HO.out.bel)).mono ?_
 rintro e w1 ⟨rfl, hb⟩
 have HO1 := Lib.hid (HO.out.below hb)
 clear hb HO HA
 go_wp2_with (fail)
 have HO2 : Hid (Ow w _ [(w1.heap.size + 1, namesO), (w1.heap.size, wordsO), (w.heap.size + 1, .cells #[.int .i64 g0, .int .i64 g1, .int .i64 g2, .int .i64 g3] 70 (0, 0)), (w.heap.size, .cells #[.int .i64 t0, .int .i64 t1, .int .i64 t2, .int .i64 t3] 70 (0, 0))]) := Lib.hid ((HO1.out.new (q := wordsO)).newg (q := namesO) (World.size_alloc _ _))
 generalize hW : World.alloc _ _ = W at HO2 ⊢
 clear hW HO1
 go_loopg [7, 8, 9, 19] 5 (fun m9 u7 u8 u9 u19 wr => ∃ i : Nat, i ≤ 4 ∧ m9 = 5 - i ∧ u7 = .string (ba (insB ((ts t0 t1 t2 t3).take i) 0)) ∧ u8 = .string (ba (argsB ((ts g0 g1 g2 g3).take i) 0)) ∧ u9 = .bool (eqs ((ts t0 t1 t2 t3).take i) ((ts g0 g1 g2 g3).take i)) ∧ u19 = .int .i64 (i : Int) ∧ Hid (Ow w wr [(w1.heap.size + 1, namesO), (w1.heap.size, wordsO), (w.heap.size + 1, .cells #[.int .i64 g0, .int .i64 g1, .int .i64 g2, .int .i64 g3] 70 (0, 0)), (w.heap.size, .cells #[.int .i64 t0, .int .i64 t1, .int .i64 t2, .int .i64 t3] 70 (0, 0))]))
 case atStart => exact ⟨0, by decide, rfl, rfl, rfl, rfl, rfl, HO2⟩
 case round =>
  obtain ⟨i, hi, rfl, rfl, rfl, rfl, rfl, HO3⟩ := hrel
  clear HO2
  have hr0 := blk_cell HO3.out.l3 0
  have hr1 := blk_cell HO3.out.l3 1
  have hr2 := blk_cell HO3.out.l3 2
  have hr3 := blk_cell HO3.out.l3 3
  have hs0 := blk_cell HO3.out.l2 0
  have hs1 := blk_cell HO3.out.l2 1
  have hs2 := blk_cell HO3.out.l2 2
  have hs3 := blk_cell HO3.out.l2 3
  have ll3 := blk_lt HO3.out.l3
  have ll2 := blk_lt HO3.out.l2
  have ll1 := blk_lt HO3.out.l1
  have ll0 := blk_lt HO3.out.l0
  obtain rfl | rfl | rfl | rfl | rfl : i = 0 ∨ i = 1 ∨ i = 2 ∨ i = 3 ∨ i = 4 := by omega
  ·obtain ⟨x7, hx7⟩ : ∃ x7, ba (insB ((ts t0 t1 t2 t3).take 0) 0) = x7 := ⟨_, rfl⟩
   obtain ⟨x8, hx8⟩ : ∃ x8, ba (argsB ((ts g0 g1 g2 g3).take 0) 0) = x8 := ⟨_, rfl⟩
   obtain ⟨x9, hx9⟩ : ∃ x9, eqs ((ts t0 t1 t2 t3).take 0) ((ts g0 g1 g2 g3).take 0) = x9 := ⟨_, rfl⟩
   have hs7 : x7.size ≤ 100 := by rw [← hx7]; exact ins_size _ _ (by simp [ts])
   have hs8 : x8.size ≤ 100 := by rw [← hx8]; exact args_size _ _ (by simp [ts])
   have HX := Lib.hid (And.intro hx7 hx8)
   have H9 := Lib.hid hx9
   rw [hx7, hx8, hx9]
   clear hx7 hx8 hx9
   have z5 : (9223372036854775807 < x8.size + 2) = False := eq_false (by omega)
   have z6 : (9223372036854775807 < x7.size + 2) = False := eq_false (by omega)
   go_wp2_with (fail)
   go_region
   all_goals
    rw [and_3 t0, and_3 g0]
    have hjl := T_lt t0
    have hkl := T_lt g0
    have hj9 : T t0 = (t0 % 4).toNat := rfl
    have hk9 : T g0 = (g0 % 4).toNat := rfl
    generalize (t0 % 4).toNat = j at hj9 hjl ⊢
    generalize (g0 % 4).toNat = k at hk9 hkl ⊢
    have HJ := Lib.hid hj9
    have HK := Lib.hid hk9
    clear hj9 hk9
    have HO4 := Lib.hid (HO3.out.drew)
    have hwj := word_cell HO4.out.l1 j hjl
    have hwj0 := word_cell HO3.out.l1 j hjl
    have hwj2 := word_cell HO4.out.drew.l1 j hjl
    have hwja := fun o => word_cell (HO3.out.new (q := o)).drop1.l1 j hjl
    have hwjb := fun o => word_cell (HO3.out.new (q := o)).drop1.drew.l1 j hjl
    have hwjc := fun o => word_cell (HO3.out.new (q := o)).drop1.drew.drew.l1 j hjl
    have hnk := name_cell HO4.out.l0 k hkl
    have hnka := fun o => name_cell (HO3.out.new (q := o)).drop1.l0 k hkl
    have hnkb := fun o => name_cell (HO3.out.new (q := o)).drop1.drew.l0 k hkl
    have hnkc := fun o => name_cell (HO3.out.new (q := o)).drop1.drew.drew.l0 k hkl
    have hnkd := fun o => name_cell (HO3.out.new (q := o)).drop1.drew.drew.drew.l0 k hkl
    have j1 : ((j : Int) < 4) = True := eq_true (by omega)
    have j2 : (0 ≤ (j : Int)) = True := eq_true (by omega)
    have k1 : ((k : Int) < 4) = True := eq_true (by omega)
    have k2 : (0 ≤ (k : Int)) = True := eq_true (by omega)
    have hwz : (ba (word j)).size ≤ 11 := by rw [ba_size]; exact word_len j
    have hnz : (ba (name k)).size ≤ 1 := by rw [ba_size]; exact name_len k
    have z1 : (9223372036854775807 < 4 + (ba (word j)).size) = False := eq_false (by omega)
    have z2 : (9223372036854775807 < x7.size + (4 + (ba (word j)).size)) = False := eq_false (by omega)
    have z4 : (9223372036854775807 < x8.size + (ba (name k)).size) = False := eq_false (by omega)
    have z7 : (9223372036854775807 < x8.size + 2 + (ba (name k)).size) = False := eq_false (by omega)
    have z8 : (9223372036854775807 < x7.size + 2 + (4 + (ba (word j)).size)) = False := eq_false (by omega)
    have hcv : ∀ W, Below (wr.alloc (.cells #[.int .u8 48] 5 (0, 0))).heap.size (wr.alloc (.cells #[.int .u8 48] 5 (0, 0))) W → (convert 67 9 (.slice (some ⟨wr.heap.size, 0, none⟩) 1 1)).run Tryd.prog W = .ok (.string ⟨#[48]⟩) W := fun W hW => conv_one (b := 48) (blk_below (blk_new wr _) hW)
    have hcv0 := hcv _ (Below.refl _ _)
    have hcv1 := hcv _ (below_drew (Below.refl _ _))
    have hcv2 := hcv _ (below_drew (below_drew (Below.refl _ _)))
    have hcv3 := hcv _ (below_drew (below_drew (below_drew (Below.refl _ _))))
    go_wp2_with (fail)
    cases x9
    all_goals
     go_region
     all_goals
      go_wp2_with (fail)
      go_roundg (5 - (0 + 1))
      case measure => decide
      case rel =>
       have hj := HJ.out
       have hk := HK.out
       have h7 := HX.out.1
       have h8 := HX.out.2
       have h9 := H9.out
       refine ⟨0 + 1, by decide, rfl, ?_, ?_, ?_, rfl, Lib.hid ?_⟩
       ·rw [← h7]
        exact congrArg Value.string (ins_step _ _ _ (by rw [← hj]; simp [ts, insB]))
       ·rw [← h8]
        exact congrArg Value.string (args_step _ _ _ (by rw [← hk]; simp [ts, argsB]))
       ·exact congrArg Value.bool (by
         have e : eqs ((ts t0 t1 t2 t3).take (0 + 1)) ((ts g0 g1 g2 g3).take (0 + 1)) = (eqs ((ts t0 t1 t2 t3).take 0) ((ts g0 g1 g2 g3).take 0) && (T t0 == T g0)) := by simp [ts, eqs, Bool.and_assoc]
         rw [e, h9, hj, hk]
         first | rfl | exact (beq_int j k).trans (Bool.true_and _).symm)
       ·exact (((HO3.out.new).drop1).drew).drew
  ·obtain ⟨x7, hx7⟩ : ∃ x7, ba (insB ((ts t0 t1 t2 t3).take 1) 0) = x7 := ⟨_, rfl⟩
   obtain ⟨x8, hx8⟩ : ∃ x8, ba (argsB ((ts g0 g1 g2 g3).take 1) 0) = x8 := ⟨_, rfl⟩
   obtain ⟨x9, hx9⟩ : ∃ x9, eqs ((ts t0 t1 t2 t3).take 1) ((ts g0 g1 g2 g3).take 1) = x9 := ⟨_, rfl⟩
   have hs7 : x7.size ≤ 100 := by rw [← hx7]; exact ins_size _ _ (by simp [ts])
   have hs8 : x8.size ≤ 100 := by rw [← hx8]; exact args_size _ _ (by simp [ts])
   have HX := Lib.hid (And.intro hx7 hx8)
   have H9 := Lib.hid hx9
   rw [hx7, hx8, hx9]
   clear hx7 hx8 hx9
   have z5 : (9223372036854775807 < x8.size + 2) = False := eq_false (by omega)
   have z6 : (9223372036854775807 < x7.size + 2) = False := eq_false (by omega)
   go_wp2_with (fail)
   go_region
   all_goals
    rw [and_3 t1, and_3 g1]
    have hjl := T_lt t1
    have hkl := T_lt g1
    have hj9 : T t1 = (t1 % 4).toNat := rfl
    have hk9 : T g1 = (g1 % 4).toNat := rfl
    generalize (t1 % 4).toNat = j at hj9 hjl ⊢
    generalize (g1 % 4).toNat = k at hk9 hkl ⊢
    have HJ := Lib.hid hj9
    have HK := Lib.hid hk9
    clear hj9 hk9
    have HO4 := Lib.hid (HO3.out.drew)
    have hwj := word_cell HO4.out.l1 j hjl
    have hwj0 := word_cell HO3.out.l1 j hjl
    have hwj2 := word_cell HO4.out.drew.l1 j hjl
    have hwja := fun o => word_cell (HO3.out.new (q := o)).drop1.l1 j hjl
    have hwjb := fun o => word_cell (HO3.out.new (q := o)).drop1.drew.l1 j hjl
    have hwjc := fun o => word_cell (HO3.out.new (q := o)).drop1.drew.drew.l1 j hjl
    have hnk := name_cell HO4.out.l0 k hkl
    have hnka := fun o => name_cell (HO3.out.new (q := o)).drop1.l0 k hkl
    have hnkb := fun o => name_cell (HO3.out.new (q := o)).drop1.drew.l0 k hkl
    have hnkc := fun o => name_cell (HO3.out.new (q := o)).drop1.drew.drew.l0 k hkl
    have hnkd := fun o => name_cell (HO3.out.new (q := o)).drop1.drew.drew.drew.l0 k hkl
    have j1 : ((j : Int) < 4) = True := eq_true (by omega)
    have j2 : (0 ≤ (j : Int)) = True := eq_true (by omega)
    have k1 : ((k : Int) < 4) = True := eq_true (by omega)
    have k2 : (0 ≤ (k : Int)) = True := eq_true (by omega)
    have hwz : (ba (word j)).size ≤ 11 := by rw [ba_size]; exact word_len j
    have hnz : (ba (name k)).size ≤ 1 := by rw [ba_size]; exact name_len k
    have z1 : (9223372036854775807 < 4 + (ba (word j)).size) = False := eq_false (by omega)
    have z2 : (9223372036854775807 < x7.size + (4 + (ba (word j)).size)) = False := eq_false (by omega)
    have z4 : (9223372036854775807 < x8.size + (ba (name k)).size) = False := eq_false (by omega)
    have z7 : (9223372036854775807 < x8.size + 2 + (ba (name k)).size) = False := eq_false (by omega)
    have z8 : (9223372036854775807 < x7.size + 2 + (4 + (ba (word j)).size)) = False := eq_false (by omega)
    have hcv : ∀ W, Below (wr.alloc (.cells #[.int .u8 49] 5 (0, 0))).heap.size (wr.alloc (.cells #[.int .u8 49] 5 (0, 0))) W → (convert 67 9 (.slice (some ⟨wr.heap.size, 0, none⟩) 1 1)).run Tryd.prog W = .ok (.string ⟨#[49]⟩) W := fun W hW => conv_one (b := 49) (blk_below (blk_new wr _) hW)
    have hcv0 := hcv _ (Below.refl _ _)
    have hcv1 := hcv _ (below_drew (Below.refl _ _))
    have hcv2 := hcv _ (below_drew (below_drew (Below.refl _ _)))
    have hcv3 := hcv _ (below_drew (below_drew (below_drew (Below.refl _ _))))
    go_wp2_with (fail)
    cases x9
    all_goals
     go_region
     all_goals
      go_wp2_with (fail)
      go_roundg (5 - (1 + 1))
      case measure => decide
      case rel =>
       have hj := HJ.out
       have hk := HK.out
       have h7 := HX.out.1
       have h8 := HX.out.2
       have h9 := H9.out
       refine ⟨1 + 1, by decide, rfl, ?_, ?_, ?_, rfl, Lib.hid ?_⟩
       ·rw [← h7]
        exact congrArg Value.string (ins_step2 _ _ _ (by rw [← hj]; simp [ts, insB]))
       ·rw [← h8]
        exact congrArg Value.string (args_step2 _ _ _ (by rw [← hk]; simp [ts, argsB]))
       ·exact congrArg Value.bool (by
         have e : eqs ((ts t0 t1 t2 t3).take (1 + 1)) ((ts g0 g1 g2 g3).take (1 + 1)) = (eqs ((ts t0 t1 t2 t3).take 1) ((ts g0 g1 g2 g3).take 1) && (T t1 == T g1)) := by simp [ts, eqs, Bool.and_assoc]
         rw [e, h9, hj, hk]
         first | rfl | exact (beq_int j k).trans (Bool.true_and _).symm)
       ·exact (((HO3.out.new).drop1).drew).drew
  ·obtain ⟨x7, hx7⟩ : ∃ x7, ba (insB ((ts t0 t1 t2 t3).take 2) 0) = x7 := ⟨_, rfl⟩
   obtain ⟨x8, hx8⟩ : ∃ x8, ba (argsB ((ts g0 g1 g2 g3).take 2) 0) = x8 := ⟨_, rfl⟩
   obtain ⟨x9, hx9⟩ : ∃ x9, eqs ((ts t0 t1 t2 t3).take 2) ((ts g0 g1 g2 g3).take 2) = x9 := ⟨_, rfl⟩
   have hs7 : x7.size ≤ 100 := by rw [← hx7]; exact ins_size _ _ (by simp [ts])
   have hs8 : x8.size ≤ 100 := by rw [← hx8]; exact args_size _ _ (by simp [ts])
   have HX := Lib.hid (And.intro hx7 hx8)
   have H9 := Lib.hid hx9
   rw [hx7, hx8, hx9]
   clear hx7 hx8 hx9
   have z5 : (9223372036854775807 < x8.size + 2) = False := eq_false (by omega)
   have z6 : (9223372036854775807 < x7.size + 2) = False := eq_false (by omega)
   go_wp2_with (fail)
   go_region
   all_goals
    rw [and_3 t2, and_3 g2]
    have hjl := T_lt t2
    have hkl := T_lt g2
    have hj9 : T t2 = (t2 % 4).toNat := rfl
    have hk9 : T g2 = (g2 % 4).toNat := rfl
    generalize (t2 % 4).toNat = j at hj9 hjl ⊢
    generalize (g2 % 4).toNat = k at hk9 hkl ⊢
    have HJ := Lib.hid hj9
    have HK := Lib.hid hk9
    clear hj9 hk9
    have HO4 := Lib.hid (HO3.out.drew)
    have hwj := word_cell HO4.out.l1 j hjl
    have hwj0 := word_cell HO3.out.l1 j hjl
    have hwj2 := word_cell HO4.out.drew.l1 j hjl
    have hwja := fun o => word_cell (HO3.out.new (q := o)).drop1.l1 j hjl
    have hwjb := fun o => word_cell (HO3.out.new (q := o)).drop1.drew.l1 j hjl
    have hwjc := fun o => word_cell (HO3.out.new (q := o)).drop1.drew.drew.l1 j hjl
    have hnk := name_cell HO4.out.l0 k hkl
    have hnka := fun o => name_cell (HO3.out.new (q := o)).drop1.l0 k hkl
    have hnkb := fun o => name_cell (HO3.out.new (q := o)).drop1.drew.l0 k hkl
    have hnkc := fun o => name_cell (HO3.out.new (q := o)).drop1.drew.drew.l0 k hkl
    have hnkd := fun o => name_cell (HO3.out.new (q := o)).drop1.drew.drew.drew.l0 k hkl
    have j1 : ((j : Int) < 4) = True := eq_true (by omega)
    have j2 : (0 ≤ (j : Int)) = True := eq_true (by omega)
    have k1 : ((k : Int) < 4) = True := eq_true (by omega)
    have k2 : (0 ≤ (k : Int)) = True := eq_true (by omega)
    have hwz : (ba (word j)).size ≤ 11 := by rw [ba_size]; exact word_len j
    have hnz : (ba (name k)).size ≤ 1 := by rw [ba_size]; exact name_len k
    have z1 : (9223372036854775807 < 4 + (ba (word j)).size) = False := eq_false (by omega)
    have z2 : (9223372036854775807 < x7.size + (4 + (ba (word j)).size)) = False := eq_false (by omega)
    have z4 : (9223372036854775807 < x8.size + (ba (name k)).size) = False := eq_false (by omega)
    have z7 : (9223372036854775807 < x8.size + 2 + (ba (name k)).size) = False := eq_false (by omega)
    have z8 : (9223372036854775807 < x7.size + 2 + (4 + (ba (word j)).size)) = False := eq_false (by omega)
    have hcv : ∀ W, Below (wr.alloc (.cells #[.int .u8 50] 5 (0, 0))).heap.size (wr.alloc (.cells #[.int .u8 50] 5 (0, 0))) W → (convert 67 9 (.slice (some ⟨wr.heap.size, 0, none⟩) 1 1)).run Tryd.prog W = .ok (.string ⟨#[50]⟩) W := fun W hW => conv_one (b := 50) (blk_below (blk_new wr _) hW)
    have hcv0 := hcv _ (Below.refl _ _)
    have hcv1 := hcv _ (below_drew (Below.refl _ _))
    have hcv2 := hcv _ (below_drew (below_drew (Below.refl _ _)))
    have hcv3 := hcv _ (below_drew (below_drew (below_drew (Below.refl _ _))))
    go_wp2_with (fail)
    cases x9
    all_goals
     go_region
     all_goals
      go_wp2_with (fail)
      go_roundg (5 - (2 + 1))
      case measure => decide
      case rel =>
       have hj := HJ.out
       have hk := HK.out
       have h7 := HX.out.1
       have h8 := HX.out.2
       have h9 := H9.out
       refine ⟨2 + 1, by decide, rfl, ?_, ?_, ?_, rfl, Lib.hid ?_⟩
       ·rw [← h7]
        exact congrArg Value.string (ins_step2 _ _ _ (by rw [← hj]; simp [ts, insB]))
       ·rw [← h8]
        exact congrArg Value.string (args_step2 _ _ _ (by rw [← hk]; simp [ts, argsB]))
       ·exact congrArg Value.bool (by
         have e : eqs ((ts t0 t1 t2 t3).take (2 + 1)) ((ts g0 g1 g2 g3).take (2 + 1)) = (eqs ((ts t0 t1 t2 t3).take 2) ((ts g0 g1 g2 g3).take 2) && (T t2 == T g2)) := by simp [ts, eqs, Bool.and_assoc]
         rw [e, h9, hj, hk]
         first | rfl | exact (beq_int j k).trans (Bool.true_and _).symm)
       ·exact (((HO3.out.new).drop1).drew).drew
  ·obtain ⟨x7, hx7⟩ : ∃ x7, ba (insB ((ts t0 t1 t2 t3).take 3) 0) = x7 := ⟨_, rfl⟩
   obtain ⟨x8, hx8⟩ : ∃ x8, ba (argsB ((ts g0 g1 g2 g3).take 3) 0) = x8 := ⟨_, rfl⟩
   obtain ⟨x9, hx9⟩ : ∃ x9, eqs ((ts t0 t1 t2 t3).take 3) ((ts g0 g1 g2 g3).take 3) = x9 := ⟨_, rfl⟩
   have hs7 : x7.size ≤ 100 := by rw [← hx7]; exact ins_size _ _ (by simp [ts])
   have hs8 : x8.size ≤ 100 := by rw [← hx8]; exact args_size _ _ (by simp [ts])
   have HX := Lib.hid (And.intro hx7 hx8)
   have H9 := Lib.hid hx9
   rw [hx7, hx8, hx9]
   clear hx7 hx8 hx9
   have z5 : (9223372036854775807 < x8.size + 2) = False := eq_false (by omega)
   have z6 : (9223372036854775807 < x7.size + 2) = False := eq_false (by omega)
   go_wp2_with (fail)
   go_region
   all_goals
    rw [and_3 t3, and_3 g3]
    have hjl := T_lt t3
    have hkl := T_lt g3
    have hj9 : T t3 = (t3 % 4).toNat := rfl
    have hk9 : T g3 = (g3 % 4).toNat := rfl
    generalize (t3 % 4).toNat = j at hj9 hjl ⊢
    generalize (g3 % 4).toNat = k at hk9 hkl ⊢
    have HJ := Lib.hid hj9
    have HK := Lib.hid hk9
    clear hj9 hk9
    have HO4 := Lib.hid (HO3.out.drew)
    have hwj := word_cell HO4.out.l1 j hjl
    have hwj0 := word_cell HO3.out.l1 j hjl
    have hwj2 := word_cell HO4.out.drew.l1 j hjl
    have hwja := fun o => word_cell (HO3.out.new (q := o)).drop1.l1 j hjl
    have hwjb := fun o => word_cell (HO3.out.new (q := o)).drop1.drew.l1 j hjl
    have hwjc := fun o => word_cell (HO3.out.new (q := o)).drop1.drew.drew.l1 j hjl
    have hnk := name_cell HO4.out.l0 k hkl
    have hnka := fun o => name_cell (HO3.out.new (q := o)).drop1.l0 k hkl
    have hnkb := fun o => name_cell (HO3.out.new (q := o)).drop1.drew.l0 k hkl
    have hnkc := fun o => name_cell (HO3.out.new (q := o)).drop1.drew.drew.l0 k hkl
    have hnkd := fun o => name_cell (HO3.out.new (q := o)).drop1.drew.drew.drew.l0 k hkl
    have j1 : ((j : Int) < 4) = True := eq_true (by omega)
    have j2 : (0 ≤ (j : Int)) = True := eq_true (by omega)
    have k1 : ((k : Int) < 4) = True := eq_true (by omega)
    have k2 : (0 ≤ (k : Int)) = True := eq_true (by omega)
    have hwz : (ba (word j)).size ≤ 11 := by rw [ba_size]; exact word_len j
    have hnz : (ba (name k)).size ≤ 1 := by rw [ba_size]; exact name_len k
    have z1 : (9223372036854775807 < 4 + (ba (word j)).size) = False := eq_false (by omega)
    have z2 : (9223372036854775807 < x7.size + (4 + (ba (word j)).size)) = False := eq_false (by omega)
    have z4 : (9223372036854775807 < x8.size + (ba (name k)).size) = False := eq_false (by omega)
    have z7 : (9223372036854775807 < x8.size + 2 + (ba (name k)).size) = False := eq_false (by omega)
    have z8 : (9223372036854775807 < x7.size + 2 + (4 + (ba (word j)).size)) = False := eq_false (by omega)
    have hcv : ∀ W, Below (wr.alloc (.cells #[.int .u8 51] 5 (0, 0))).heap.size (wr.alloc (.cells #[.int .u8 51] 5 (0, 0))) W → (convert 67 9 (.slice (some ⟨wr.heap.size, 0, none⟩) 1 1)).run Tryd.prog W = .ok (.string ⟨#[51]⟩) W := fun W hW => conv_one (b := 51) (blk_below (blk_new wr _) hW)
    have hcv0 := hcv _ (Below.refl _ _)
    have hcv1 := hcv _ (below_drew (Below.refl _ _))
    have hcv2 := hcv _ (below_drew (below_drew (Below.refl _ _)))
    have hcv3 := hcv _ (below_drew (below_drew (below_drew (Below.refl _ _))))
    go_wp2_with (fail)
    cases x9
    all_goals
     go_region
     all_goals
      go_wp2_with (fail)
      go_roundg (5 - (3 + 1))
      case measure => decide
      case rel =>
       have hj := HJ.out
       have hk := HK.out
       have h7 := HX.out.1
       have h8 := HX.out.2
       have h9 := H9.out
       refine ⟨3 + 1, by decide, rfl, ?_, ?_, ?_, rfl, Lib.hid ?_⟩
       ·rw [← h7]
        exact congrArg Value.string (ins_step2 _ _ _ (by rw [← hj]; simp [ts, insB]))
       ·rw [← h8]
        exact congrArg Value.string (args_step2 _ _ _ (by rw [← hk]; simp [ts, argsB]))
       ·exact congrArg Value.bool (by
         have e : eqs ((ts t0 t1 t2 t3).take (3 + 1)) ((ts g0 g1 g2 g3).take (3 + 1)) = (eqs ((ts t0 t1 t2 t3).take 3) ((ts g0 g1 g2 g3).take 3) && (T t3 == T g3)) := by simp [ts, eqs, Bool.and_assoc]
         rw [e, h9, hj, hk]
         first | rfl | exact (beq_int j k).trans (Bool.true_and _).symm)
       ·exact (((HO3.out.new).drop1).drew).drew
  ·rw [show (ts t0 t1 t2 t3).take 4 = ts t0 t1 t2 t3 from rfl, show (ts g0 g1 g2 g3).take 4 = ts g0 g1 g2 g3 from rfl]
   obtain ⟨x7, hx7⟩ : ∃ x7, ba (insB (ts t0 t1 t2 t3) 0) = x7 := ⟨_, rfl⟩
   obtain ⟨x8, hx8⟩ : ∃ x8, ba (argsB (ts g0 g1 g2 g3) 0) = x8 := ⟨_, rfl⟩
   obtain ⟨x9, hx9⟩ : ∃ x9, eqs (ts t0 t1 t2 t3) (ts g0 g1 g2 g3) = x9 := ⟨_, rfl⟩
   have hs7 : x7.size ≤ 100 := by rw [← hx7]; exact ins_size _ _ (by simp [ts])
   have hs8 : x8.size ≤ 100 := by rw [← hx8]; exact args_size _ _ (by simp [ts])
   have hp := HP.out
   rw [hx7, hx8, hx9] at hp
   have HP2 := Lib.hid hp
   rw [hx7, hx8, hx9]
   clear hx7 hx8 hx9 hp HP
   have z1 : (9223372036854775807 < 118 + x8.size) = False := eq_false (by omega)
   have z2 : (9223372036854775807 < 118 + x8.size + 110) = False := eq_false (by omega)
   have z3 : (9223372036854775807 < 118 + x8.size + 110 + x7.size) = False := eq_false (by omega)
   have z4 : (9223372036854775807 < 118 + x8.size + 110 + x7.size + 33) = False := eq_false (by omega)
   go_wp2_with (fail)
   refine (parse_Program.calls _ ns 0 0 _ HP2.out.1 (XTB.Tabs.below HT.out HO3.out.bel)).mono ?_
   rintro e w6 ⟨v, rfl, ho, hb⟩
   have HO4 := Lib.hid (HO3.out.below hb)
   obtain ⟨A, c, rfl⟩ := Kd.R_slice ho
   have HC := Lib.hid (And.intro (Kd.R_reads' ho).2.2 (Kd.R_reads' ho).2.1)
   clear hb ho
   go_wp2_with (fail)
   have HO5 := Lib.hid (HO4.out.new (q := .cells #[.int .i64 0, .int .i64 0] 27 (0, 0)))
   obtain ⟨ra, re⟩ := r
   refine (types_Check.calls A c ns ra re _ (Kd.C_below HC.out.1 (below_alloc (Below.refl _ _) _)) HC.out.2 HP2.out.2.1).mono ?_
   rintro e w7 ⟨rfl, hb2⟩
   have HO6 := Lib.hid (HO5.out.below hb2)
   have hr : (ra == 0 && re == 0) = x9 := HP2.out.2.2
   clear hb2
   by_cases h1 : ra = 0
   ·by_cases h2 : re = 0
    ·subst h1
     subst h2
     obtain rfl : true = x9 := hr
     go_wp2_with (fail)
     go_ret
     exact ⟨rfl, HO6.out.bel⟩
    ·subst h1
     have h3 : (re == 0) = false := by simpa using h2
     rw [h3] at hr
     obtain rfl : false = x9 := hr
     go_wp2_with (fail)
     go_ret
     exact ⟨rfl, HO6.out.bel⟩
   ·have h3 : (ra == 0) = false := by simpa using h1
    rw [h3] at hr
    obtain rfl : false = x9 := hr
    go_wp2_with (fail)
    go_ret
    exact ⟨rfl, HO6.out.bel⟩
end Go.Proofs.YtjafllnbgfcchaaDoor.Tc
end
