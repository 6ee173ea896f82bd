/- Joined of: XIAx0, XIAx1, XIAx2. -/
import Derived.Test.YtjafllnbgfcchaaDoorProg
import Derived.Test.YtjafllnbgfcchaaDoorYXKx1
import Derived.Below
import Derived.Deep.Draws
import Derived.Deep.AppendLies
import Derived.Maps.AppendAt
import Derived.OwnWalk
import Derived.Laws.BytesArg
import Derived.Laws.MakeOwn
import Derived.Laws.OwnMore
import Derived.Deep.OwnRows
import Derived.Tactics
import Derived.Lib.ConvBytes
import Derived.Laws.Slices
import Derived.WalkKit
import Derived.KernelRfl
import Derived.RowKit3
import Derived.Deep.LoopGhost
import Derived.Deep.QuietTactic
import Derived.BigQuiet
import Derived.WideLaws
import Derived.Deep.DeepCutAuto
import Derived.Deep.CutBlock
import Derived.Deep.RegionHeld3
import Derived.Laws.Rows
import Derived.Lib.AppendStr
import Derived.ArgAppend
import Derived.Laws.IdiomCopy
import Derived.OrdersHeld
import Derived.Laws.BitsLemmas
import Derived.RowKit
import Derived.Test.YtjafllnbgfcchaaDoorYFnd
import Derived.Test.YtjafllnbgfcchaaDoorYPProgT
import Derived.Test.YtjafllnbgfcchaaDoorYWWords
import Derived.Test.YtjafllnbgfcchaaDoorYWLast
import Derived.Test.YtjafllnbgfcchaaDoorYGWTab
import Derived.Test.YtjafllnbgfcchaaDoorYWNEv
import Derived.Test.YtjafllnbgfcchaaDoorYWMore
section
-- Written by a program of this session (wip/xprint) out of the translation.
namespace Go.Proofs.YtjafllnbgfcchaaDoor.XIA
open Go.RowKit Go.Proofs.YtjafllnbgfcchaaDoorW.PrintWords Go.Proofs.YtjafllnbgfcchaaDoorW.PrintLast Go.Proofs.YtjafllnbgfcchaaDoorW.PrintMore Go.Proofs.YtjafllnbgfcchaaDoor.XK
attribute [local go_sem] max2_int min2_int max_two min_two max_three min_three max_four min_four   -- for this text's walks alone
set_option linter.unusedVariables false
set_option linter.unusedSimpArgs false

-- the values' own types
/-! #### struct type 37 -/

/-! #### struct type 39 -/

/-! #### struct type 47 -/

/-! #### struct type 43, nested in itself -/

/-! #### struct type 45 -/

/-! #### struct type 34 -/

/-! #### struct type 27 -/
end Go.Proofs.YtjafllnbgfcchaaDoor.XIA
end
section
-- Written by a program of this session (wip/xprint) out of the translation.
namespace Go.Proofs.YtjafllnbgfcchaaDoor.XIA
open Go.RowKit Go.Proofs.YtjafllnbgfcchaaDoorW.PrintWords Go.Proofs.YtjafllnbgfcchaaDoorW.PrintLast Go.Proofs.YtjafllnbgfcchaaDoorW.PrintMore Go.Proofs.YtjafllnbgfcchaaDoor.XK
attribute [local go_sem] max2_int min2_int max_two min_two max_three min_three max_four min_four   -- for this text's walks alone
set_option linter.unusedVariables false
set_option linter.unusedSimpArgs false

theorem eqA27 (d : Nat) (w : World) (x0 y0 : Int) (x1 y1 : Int) :
    (Op.equalIn (d + 2) 27 (.agg #[.int .i64 x0, .int .i64 x1]) (.agg #[.int .i64 y0, .int .i64 y1])).run Tryd.prog w = .ok (x0 == y0 && (x1 == y1)) w := by
  refine eqA_of Tryd.underlying27 (by kernel_rfl) ?_
  refine eqf_cons (by rfl) (by go_simp; rfl) (by go_simp; rfl) (by go_simp) ?_
  exact eqf_last (by rfl) (by go_simp; rfl) (by go_simp; rfl) (by go_simp)
end Go.Proofs.YtjafllnbgfcchaaDoor.XIA
end
section
-- Written by a program of this session (wip/xprint) out of the translation.
namespace Go.Proofs.YtjafllnbgfcchaaDoor.XIA
open Go.RowKit Go.Proofs.YtjafllnbgfcchaaDoorW.PrintWords Go.Proofs.YtjafllnbgfcchaaDoorW.PrintLast Go.Proofs.YtjafllnbgfcchaaDoorW.PrintMore Go.Proofs.YtjafllnbgfcchaaDoor.XK
attribute [local go_sem] max2_int min2_int max_two min_two max_three min_three max_four min_four   -- for this text's walks alone
set_option linter.unusedVariables false
set_option linter.unusedSimpArgs false

def Tabs (w : World) : Prop := Lx.Tabs w
theorem Tabs.below {w0 w : World} (h : Tabs w0) (hb : Below w0.heap.size w0 w) : Tabs w := Lx.Tabs.below h hb

/-! ### parse_Program: function 15, by a contract that is proved elsewhere -/
/-- parse.Program as a plain function. -/
def parse_Program.f (a0 : ByteArray) : Option (List S34 × Int × Int) :=
  if a0.size ≤ 4000 then
    match LX.all a0.data.toList with
    | .error (k, c) => some ([], (k : Int), (c : Int))
    | .ok toks => match PX.program (Px.rounds toks) (toks.map Px.tk) with
      | .ok l _ => some (l.map (Px.realN toks), 0, 0)
      | .bad q er => some ([], Px.atOf toks q, (er : Int))
      | .out => none
  else none
theorem parse_Program.calls (a0 : ByteArray) (r1 : List S34) (r2 : Int) (r3 : Int) (w : World) (h : parse_Program.f a0 = some (r1, r2, r3)) (hT : Tabs w) :
    Calls Tryd.prog 15 #[.string a0] w fun e w' => ∃ v0_ : Value, e = .returned (.tuple #[v0_, .agg #[.int .i64 r2, .int .i64 r3]]) ∧ Kd.R k34 34 w' w.heap.size (fun _ => True) v0_ r1 ∧ Below w.heap.size w w' := by
  unfold parse_Program.f at h
  by_cases hs : a0.size ≤ 4000
  · rw [if_pos hs] at h
    refine (Px.parseProgram_walk a0 w hT hs).mono ?_
    rintro e w' ⟨hb, hm⟩
    unfold Px.ProgIs at hm
    cases hx : LX.all a0.data.toList with
    | error p =>
      obtain ⟨k, c⟩ := p
      rw [hx] at hm h
      simp only [Option.some.injEq, Prod.mk.injEq] at h
      obtain ⟨rfl, rfl, rfl⟩ := h
      exact ⟨_, hm, Kd.R_nil _ _ _ _ _, hb⟩
    | ok toks =>
      rw [hx] at hm h
      dsimp only at hm h
      cases hr : PX.program (Px.rounds toks) (toks.map Px.tk) with
      | out => rw [hr] at hm; exact hm.elim
      | bad q er =>
        rw [hr] at hm h
        simp only [Option.some.injEq, Prod.mk.injEq] at h
        obtain ⟨rfl, rfl, rfl⟩ := h
        exact ⟨_, hm, Kd.R_nil _ _ _ _ _, hb⟩
      | ok l s =>
        rw [hr] at hm h
        simp only [Option.some.injEq, Prod.mk.injEq] at h
        obtain ⟨rfl, rfl, rfl⟩ := h
        obtain ⟨v, he, hR⟩ := hm
        exact ⟨v, he, hR, hb⟩
  · rw [if_neg hs] at h
    cases h

/-! ### tree_Find: function 86, by a contract that is proved elsewhere -/
/-- tree.Find as a plain function. -/
def tree_Find.f (l0 : List S34) (a1 : ByteArray) : Option (ByteArray × Int × List S39 × List S39 × List S39 × List S45 × Bool) :=
  match Fnd.findN l0 a1 with
  | some x => some (x.f0, x.f1, x.f2, x.f3, x.f4, x.f5, true)
  | none => some (⟨#[]⟩, 0, [], [], [], [], false)
theorem tree_Find.calls (A0 : Option Addr) (c0 : Nat) (l0 : List S34) (a1 : ByteArray) (r1 : ByteArray) (r2 : Int) (r3 r4 r5 : List S39) (r6 : List S45) (r7 : Bool) (w0 w : World) (hB : Below w0.heap.size w0 w) (hr0 : Kd.C k34 w0 A0 l0.length l0) (hc0 : l0.length ≤ c0) (h : tree_Find.f l0 a1 = some (r1, r2, r3, r4, r5, r6, r7)) :
    Calls Tryd.prog 86 #[.slice A0 l0.length c0, .string a1] w fun e w' => ∃ A2 c2 A3 c3 A4 c4 A5 c5, e = .returned (.tuple #[.agg #[.string r1, .int .i64 r2, .slice A2 r3.length c2, .slice A3 r4.length c3, .slice A4 r5.length c4, .slice A5 r6.length c5], .bool r7]) ∧
      Kd.C k39 w0 A2 r3.length r3 ∧ r3.length ≤ c2 ∧ Kd.C k39 w0 A3 r4.length r4 ∧ r4.length ≤ c3 ∧ Kd.C k39 w0 A4 r5.length r5 ∧ r5.length ≤ c4 ∧ Kd.C k45 w0 A5 r6.length r6 ∧ r6.length ≤ c5 ∧ Below w.heap.size w w' :=
  Fnd.find_calls A0 c0 l0 a1 r1 r2 r3 r4 r5 r6 r7 w0 w hB hr0 hc0 h

/-- A state of type 114 at block g of W; what its slices lead to came in by w0. -/
def IsS114 (w0 W : World) (g : Nat) (f0 : List (S34)) (f1 : Int) (f2 : Int) : Prop := ∃ A0 c0, W.heap[g]? = some (.cells #[.slice A0 f0.length c0, .int .i64 f1, .int .i64 f2] 114 (0, 0)) ∧ w0.heap.size ≤ g ∧ (Kd.C k34 w0 A0 f0.length f0 ∧ f0.length ≤ c0)
theorem IsS114.grown {w0 W : World} {g : Nat} {f0 : List (S34)} {f1 : Int} {f2 : Int} {W1 : World} {row : Option Nat} (h : IsS114 w0 W g f0 f1 f2) (hw : W.grownBy W1 row) (hne : some g ≠ row) : IsS114 w0 W1 g f0 f1 f2 := by
  obtain ⟨A0, c0, hb, hg, hr0⟩ := h
  exact ⟨A0, c0, blk_grown hb hw hne, hg, hr0⟩
theorem IsS114.fresh {w0 W : World} {g : Nat} {f0 : List (S34)} {f1 : Int} {f2 : Int} (h : IsS114 w0 W g f0 f1 f2) : ∀ k, W.heap.size ≤ k → k ≠ g := by
  obtain ⟨A0, c0, hb, hg, hr0⟩ := h
  exact Kd.freshB hb
theorem IsS114.kept {w0 W : World} {g : Nat} {f0 : List (S34)} {f1 : Int} {f2 : Int} {W1 : World} {S : Nat → Prop} (h : IsS114 w0 W g f0 f1 f2) (hk : Kept W W1 S) (hne : ¬ S g) : IsS114 w0 W1 g f0 f1 f2 := by
  obtain ⟨A0, c0, hb, hg, hr0⟩ := h
  exact ⟨A0, c0, blk_kept hb hk hne, hg, hr0⟩
theorem IsS114.below {w0 W : World} {g : Nat} {f0 : List (S34)} {f1 : Int} {f2 : Int} {W1 : World} (h : IsS114 w0 W g f0 f1 f2) (hw : Below W.heap.size W W1) : IsS114 w0 W1 g f0 f1 f2 := h.grown (grown_of_below hw none) (by simp)
theorem IsS114.alloc {w0 W : World} {g : Nat} {f0 : List (S34)} {f1 : Int} {f2 : Int} (h : IsS114 w0 W g f0 f1 f2) (o : Obj) : IsS114 w0 (W.alloc o) g f0 f1 f2 := h.below (below_alloc (Below.refl _ _) o)
theorem IsS114.drewN {w0 W : World} {g : Nat} {f0 : List (S34)} {f1 : Int} {f2 : Int} (h : IsS114 w0 W g f0 f1 f2) (m : Nat) : IsS114 w0 (W.drewN m) g f0 f1 f2 := h
theorem IsS114.drew {w0 W : World} {g : Nat} {f0 : List (S34)} {f1 : Int} {f2 : Int} (h : IsS114 w0 W g f0 f1 f2) : IsS114 w0 W.drew g f0 f1 f2 := h
theorem IsS114.at_ {w0 W : World} {g : Nat} {f0 : List (S34)} {f1 : Int} {f2 : Int} {w' : World} {m : Nat} (hq : W.drewN m = w') (h : IsS114 w0 W g f0 f1 f2) : IsS114 w0 w' g f0 f1 f2 := by subst hq; exact IsS114.drewN h m
theorem IsS114.apart {w0 W : World} {g : Nat} {f0 : List (S34)} {f1 : Int} {f2 : Int} {α : Type} {d : Kd α} {e : Nat} {base : Nat} {ok : Nat → Prop} {v : Value} {xs : List α} (h : IsS114 w0 W g f0 f1 f2) (ho : d.R e W base ok v xs) (ht : ∀ q, q ∈ e :: d.E → q ≠ 114) : d.R e W base (fun k => ok k ∧ k ≠ g) v xs := by
  obtain ⟨A0, c0, hb, hg, hr0⟩ := h
  exact Kd.R_types ho hb ht
theorem IsS114.own_ne {w0 W : World} {g : Nat} {f0 : List (S34)} {f1 : Int} {f2 : Int} {α : Type} {d : Kd α} {e : Nat} {base : Nat} {ok : Nat → Prop} {v : Value} {xs : List α} (h : IsS114 w0 W g f0 f1 f2) (ho : d.R e W base ok v xs) (ht : e ≠ 114) : some g ≠ v.ownBlock := by
  obtain ⟨A0, c0, hb, hg, hr0⟩ := h
  exact Kd.R_ne ho hb ht
theorem IsS114.lt {w0 W : World} {g : Nat} {f0 : List (S34)} {f1 : Int} {f2 : Int} (h : IsS114 w0 W g f0 f1 f2) : g < W.heap.size := by
  obtain ⟨A0, c0, hb, hg, hr0⟩ := h
  exact blk_lt hb
theorem IsS114.ge {w0 W : World} {g : Nat} {f0 : List (S34)} {f1 : Int} {f2 : Int} (h : IsS114 w0 W g f0 f1 f2) : w0.heap.size ≤ g := by
  obtain ⟨A0, c0, hb, hg, hr0⟩ := h
  exact hg
theorem IsS114.far {w0 W : World} {g : Nat} {f0 : List (S34)} {f1 : Int} {f2 : Int} {p : Addr} (h : IsS114 w0 W g f0 f1 f2) (hne : g ≠ p.block) (u : Value) : IsS114 w0 (W.setCell p u) g f0 f1 f2 := by
  obtain ⟨A0, c0, hb, hg, hr0⟩ := h
  exact ⟨A0, c0, blk_far hb hne u, hg, hr0⟩
theorem cellS114_0 {W : World} {g : Nat} {A0 : Option Addr} {c0 : Nat} {f0 : List (S34)} {f1 : Int} {f2 : Int} (h : W.heap[g]? = some (.cells #[.slice A0 f0.length c0, .int .i64 f1, .int .i64 f2] 114 (0, 0))) : W.cell? ⟨g, 0, none⟩ = some (.slice A0 f0.length c0) := (blk_cell h 0).trans rfl
theorem cellS114_1 {W : World} {g : Nat} {A0 : Option Addr} {c0 : Nat} {f0 : List (S34)} {f1 : Int} {f2 : Int} (h : W.heap[g]? = some (.cells #[.slice A0 f0.length c0, .int .i64 f1, .int .i64 f2] 114 (0, 0))) : W.cell? ⟨g, 1, none⟩ = some (.int .i64 f1) := (blk_cell h 1).trans rfl
theorem IsS114.set_1 {w0 W : World} {g : Nat} {f0 : List (S34)} {f1 : Int} {f2 : Int} (h : IsS114 w0 W g f0 f1 f2) (x : Int) : IsS114 w0 (W.setCell ⟨g, 1, none⟩ (.int .i64 x)) g f0 x f2 := by
  obtain ⟨A0, c0, hb, hg, hr0⟩ := h
  exact ⟨A0, c0, by simpa using blk_set hb 1 (.int .i64 x), hg, hr0⟩
theorem cellS114_2 {W : World} {g : Nat} {A0 : Option Addr} {c0 : Nat} {f0 : List (S34)} {f1 : Int} {f2 : Int} (h : W.heap[g]? = some (.cells #[.slice A0 f0.length c0, .int .i64 f1, .int .i64 f2] 114 (0, 0))) : W.cell? ⟨g, 2, none⟩ = some (.int .i64 f2) := (blk_cell h 2).trans rfl
theorem IsS114.set_2 {w0 W : World} {g : Nat} {f0 : List (S34)} {f1 : Int} {f2 : Int} (h : IsS114 w0 W g f0 f1 f2) (x : Int) : IsS114 w0 (W.setCell ⟨g, 2, none⟩ (.int .i64 x)) g f0 f1 x := by
  obtain ⟨A0, c0, hb, hg, hr0⟩ := h
  exact ⟨A0, c0, by simpa using blk_set hb 2 (.int .i64 x), hg, hr0⟩
theorem IsS114.new (w0 W : World) (A0 : Option Addr) (c0 : Nat) (f0 : List (S34)) (f1 : Int) (f2 : Int) (hB : Below w0.heap.size w0 W) (hr0 : Kd.C k34 w0 A0 f0.length f0 ∧ f0.length ≤ c0) : IsS114 w0 (W.alloc (.cells #[.slice A0 f0.length c0, .int .i64 f1, .int .i64 f2] 114)) W.heap.size f0 f1 f2 := ⟨A0, c0, by simpa using heap_alloc_new W _, hB.size, hr0⟩

/-! ### a group: inits_checker_some, inits_checker_late, inits_checker_now, inits_checker_call -/
mutual
def inits_checker_some.l0 : Nat → Bool → List (S43) → Int → Int → List (S34) → Int → Int → Option (Bool × Int × Int)
  | 0, _, _, _, _, _, _, _ => none
  | k + 1, x5, x8, x9, x10, x1000, x1001, x1002 => if x10 < x9 then (if 0 ≤ x10 then (if x10 < (x8.length : Int) then ((inits_checker_late.f k x1000 x1001 x1002 ((rd_T43 x8 x10).f0) ((rd_T43 x8 x10).f1) ((rd_T43 x8 x10).f2) ((rd_T43 x8 x10).f3) ((rd_T43 x8 x10).f4) ((rd_T43 x8 x10).f5)).bind fun bt103 => (if bt103.1 = true then (inits_checker_some.l0 k true x8 x9 (wrap64 (x10 + 1)) x1000 bt103.2.1 bt103.2.2) else (inits_checker_some.l0 k x5 x8 x9 (wrap64 (x10 + 1)) x1000 bt103.2.1 bt103.2.2))) else (none)) else (none)) else (some (x5, x1001, x1002))
def inits_checker_some.f : Nat → List (S34) → Int → Int → List (S43) → Option (Bool × Int × Int)
  | 0, _, _, _, _ => none
  | k + 1, s0_0, s0_1, s0_2, l1 => inits_checker_some.l0 k false l1 (l1.length : Int) 0 s0_0 s0_1 s0_2
def inits_checker_late.f : Nat → List (S34) → Int → Int → Int → Int → Int → ByteArray → Bool → List (S43) → Option (Bool × Int × Int)
  | 0, _, _, _, _, _, _, _, _, _ => none
  | k + 1, s0_0, s0_1, s0_2, a1_0, a1_1, a1_2, a1_3, a1_4, l1_5 => if a1_0 = 8 then (if 0 < (l1_5.length : Int) then ((inits_checker_now.f k s0_0 s0_1 s0_2 ((rd_T43 l1_5 0).f0) ((rd_T43 l1_5 0).f1) ((rd_T43 l1_5 0).f2) ((rd_T43 l1_5 0).f3) ((rd_T43 l1_5 0).f4) ((rd_T43 l1_5 0).f5) ((rd_T43 l1_5 0).f1)).bind fun bt109 => (if 1 < (l1_5.length : Int) then ((inits_checker_late.f k s0_0 bt109.1 bt109.2 ((rd_T43 l1_5 1).f0) ((rd_T43 l1_5 1).f1) ((rd_T43 l1_5 1).f2) ((rd_T43 l1_5 1).f3) ((rd_T43 l1_5 1).f4) ((rd_T43 l1_5 1).f5)).bind fun bt112 => (some (false, bt112.2.1, bt112.2.2))) else (none))) else (none)) else (if a1_0 = 9 then (if 1 < (l1_5.length : Int) then ((inits_checker_now.f k s0_0 s0_1 s0_2 ((rd_T43 l1_5 1).f0) ((rd_T43 l1_5 1).f1) ((rd_T43 l1_5 1).f2) ((rd_T43 l1_5 1).f3) ((rd_T43 l1_5 1).f4) ((rd_T43 l1_5 1).f5) ((rd_T43 l1_5 1).f1)).bind fun bt117 => (some (false, bt117.1, bt117.2))) else (none)) else (if a1_0 = 10 then (if 0 < (l1_5.length : Int) then ((inits_checker_now.f k s0_0 s0_1 s0_2 ((rd_T43 l1_5 0).f0) ((rd_T43 l1_5 0).f1) ((rd_T43 l1_5 0).f2) ((rd_T43 l1_5 0).f3) ((rd_T43 l1_5 0).f4) ((rd_T43 l1_5 0).f5) ((rd_T43 l1_5 0).f1)).bind fun bt121 => (some (true, bt121.1, bt121.2))) else (none)) else (if a1_0 = 12 then (if 0 < (l1_5.length : Int) then ((inits_checker_now.f k s0_0 s0_1 s0_2 ((rd_T43 l1_5 0).f0) ((rd_T43 l1_5 0).f1) ((rd_T43 l1_5 0).f2) ((rd_T43 l1_5 0).f3) ((rd_T43 l1_5 0).f4) ((rd_T43 l1_5 0).f5) ((rd_T43 l1_5 0).f1)).bind fun bt125 => (if 1 < (l1_5.length : Int) then ((inits_checker_now.f k s0_0 bt125.1 bt125.2 ((rd_T43 l1_5 1).f0) ((rd_T43 l1_5 1).f1) ((rd_T43 l1_5 1).f2) ((rd_T43 l1_5 1).f3) ((rd_T43 l1_5 1).f4) ((rd_T43 l1_5 1).f5) ((rd_T43 l1_5 1).f1)).bind fun bt129 => (some (false, bt129.1, bt129.2))) else (none))) else (none)) else (if a1_0 = 13 then ((inits_checker_call.f k s0_0 s0_1 s0_2 a1_0 a1_1 a1_2 a1_3 a1_4 l1_5).bind fun bt131 => (some (false, bt131.1, bt131.2))) else (if a1_0 = 14 then (some (false, s0_1, s0_2)) else ((inits_checker_some.f k s0_0 s0_1 s0_2 l1_5).bind fun bt133 => (some (bt133.1, bt133.2.1, bt133.2.2))))))))
def inits_checker_now.f : Nat → List (S34) → Int → Int → Int → Int → Int → ByteArray → Bool → List (S43) → Int → Option (Int × Int)
  | 0, _, _, _, _, _, _, _, _, _, _ => none
  | k + 1, s0_0, s0_1, s0_2, a1_0, a1_1, a1_2, a1_3, a1_4, l1_5, a2 => (inits_checker_late.f k s0_0 s0_1 s0_2 a1_0 a1_1 a1_2 a1_3 a1_4 l1_5).bind fun bt137 => (if bt137.1 = true then (if bt137.2.2 = 0 then (some (a2, 9)) else (some (bt137.2.1, bt137.2.2))) else (some (bt137.2.1, bt137.2.2)))
def inits_checker_call.l0 : Nat → List (S39) → Int → Int → List (S34) → Int → Int → Int → Int → Int → ByteArray → Bool → List (S43) → Option (Int × Int)
  | 0, _, _, _, _, _, _, _, _, _, _, _, _ => none
  | k + 1, x19, x20, x21, x1000, x1001, x1002, x141000, x141001, x141002, x141003, x141004, x141005 => if x21 < x20 then (if 0 ≤ x21 then (if x21 < (x19.length : Int) then (if ((rd_T39 x19 x21).f2.f1 = true) then (inits_checker_call.l0 k x19 x20 (wrap64 (x21 + 1)) x1000 x1001 x1002 x141000 x141001 x141002 x141003 x141004 x141005) else (if x21 < (x141005.length : Int) then ((inits_checker_now.f k x1000 x1001 x1002 ((rd_T43 x141005 x21).f0) ((rd_T43 x141005 x21).f1) ((rd_T43 x141005 x21).f2) ((rd_T43 x141005 x21).f3) ((rd_T43 x141005 x21).f4) ((rd_T43 x141005 x21).f5) ((rd_T43 x141005 x21).f1)).bind fun bt165 => (inits_checker_call.l0 k x19 x20 (wrap64 (x21 + 1)) x1000 bt165.1 bt165.2 x141000 x141001 x141002 x141003 x141004 x141005)) else (none))) else (none)) else (none)) else (some (x1001, x1002))
def inits_checker_call.f : Nat → List (S34) → Int → Int → Int → Int → Int → ByteArray → Bool → List (S43) → Option (Int × Int)
  | 0, _, _, _, _, _, _, _, _, _ => none
  | k + 1, s0_0, s0_1, s0_2, a1_0, a1_1, a1_2, a1_3, a1_4, l1_5 => (tree_Find.f s0_0 a1_3).bind fun bt141 => (inits_checker_call.l0 k bt141.2.2.1 (bt141.2.2.1.length : Int) 0 s0_0 s0_1 s0_2 a1_0 a1_1 a1_2 a1_3 a1_4 l1_5)
end
abbrev inits_checker_some.Stmt (k : Nat) : Prop := ∀ (g : Nat) (s0_0 : List (S34)) (s0_1 : Int) (s0_2 : Int) (A1 : Option Addr) (c1 : Nat) (l1 : List (S43)) (r1 : Bool) (r2 : Int) (r3 : Int) (w0 w : World) (hI : IsS114 w0 w g s0_0 s0_1 s0_2) (hB : Below w0.heap.size w0 w) (hr1 : Kd.C k43 w0 A1 l1.length l1) (hc1 : l1.length ≤ c1) (h : inits_checker_some.f k s0_0 s0_1 s0_2 l1 = some (r1, r2, r3)),
    Calls Tryd.prog 108 #[.pointer (some ⟨g, 0, none⟩), .slice A1 l1.length c1] w fun e w' => e = .returned (.bool r1) ∧ IsS114 w0 w' g s0_0 r2 r3 ∧ Below w0.heap.size w0 w' ∧ KeepBut w w' g none
abbrev inits_checker_late.Stmt (k : Nat) : Prop := ∀ (g : Nat) (s0_0 : List (S34)) (s0_1 : Int) (s0_2 : Int) (a1_0 : Int) (a1_1 : Int) (a1_2 : Int) (a1_3 : ByteArray) (a1_4 : Bool) (A1_5 : Option Addr) (c1_5 : Nat) (l1_5 : List (S43)) (r1 : Bool) (r2 : Int) (r3 : Int) (w0 w : World) (hI : IsS114 w0 w g s0_0 s0_1 s0_2) (hB : Below w0.heap.size w0 w) (hr1_5 : Kd.C k43 w0 A1_5 l1_5.length l1_5) (hc1_5 : l1_5.length ≤ c1_5) (h : inits_checker_late.f k s0_0 s0_1 s0_2 a1_0 a1_1 a1_2 a1_3 a1_4 l1_5 = some (r1, r2, r3)),
    Calls Tryd.prog 87 #[.pointer (some ⟨g, 0, none⟩), .agg #[.int .i64 a1_0, .int .i64 a1_1, .int .i64 a1_2, .string a1_3, .bool a1_4, .slice A1_5 l1_5.length c1_5]] w fun e w' => e = .returned (.bool r1) ∧ IsS114 w0 w' g s0_0 r2 r3 ∧ Below w0.heap.size w0 w' ∧ KeepBut w w' g none
abbrev inits_checker_now.Stmt (k : Nat) : Prop := ∀ (g : Nat) (s0_0 : List (S34)) (s0_1 : Int) (s0_2 : Int) (a1_0 : Int) (a1_1 : Int) (a1_2 : Int) (a1_3 : ByteArray) (a1_4 : Bool) (A1_5 : Option Addr) (c1_5 : Nat) (l1_5 : List (S43)) (a2 : Int) (r1 : Int) (r2 : Int) (w0 w : World) (hI : IsS114 w0 w g s0_0 s0_1 s0_2) (hB : Below w0.heap.size w0 w) (hr1_5 : Kd.C k43 w0 A1_5 l1_5.length l1_5) (hc1_5 : l1_5.length ≤ c1_5) (h : inits_checker_now.f k s0_0 s0_1 s0_2 a1_0 a1_1 a1_2 a1_3 a1_4 l1_5 a2 = some (r1, r2)),
    Calls Tryd.prog 53 #[.pointer (some ⟨g, 0, none⟩), .agg #[.int .i64 a1_0, .int .i64 a1_1, .int .i64 a1_2, .string a1_3, .bool a1_4, .slice A1_5 l1_5.length c1_5], .int .i64 a2] w fun e w' => e = .returned (.tuple #[]) ∧ IsS114 w0 w' g s0_0 r1 r2 ∧ Below w0.heap.size w0 w' ∧ KeepBut w w' g none
abbrev inits_checker_call.Stmt (k : Nat) : Prop := ∀ (g : Nat) (s0_0 : List (S34)) (s0_1 : Int) (s0_2 : Int) (a1_0 : Int) (a1_1 : Int) (a1_2 : Int) (a1_3 : ByteArray) (a1_4 : Bool) (A1_5 : Option Addr) (c1_5 : Nat) (l1_5 : List (S43)) (r1 : Int) (r2 : Int) (w0 w : World) (hI : IsS114 w0 w g s0_0 s0_1 s0_2) (hB : Below w0.heap.size w0 w) (hr1_5 : Kd.C k43 w0 A1_5 l1_5.length l1_5) (hc1_5 : l1_5.length ≤ c1_5) (h : inits_checker_call.f k s0_0 s0_1 s0_2 a1_0 a1_1 a1_2 a1_3 a1_4 l1_5 = some (r1, r2)),
    Calls Tryd.prog 52 #[.pointer (some ⟨g, 0, none⟩), .agg #[.int .i64 a1_0, .int .i64 a1_1, .int .i64 a1_2, .string a1_3, .bool a1_4, .slice A1_5 l1_5.length c1_5]] w fun e w' => e = .returned (.tuple #[]) ∧ IsS114 w0 w' g s0_0 r1 r2 ∧ Below w0.heap.size w0 w' ∧ KeepBut w w' g none

/-! ### inits_checker_some: function 108 -/
set_option maxHeartbeats 8000000 in
set_option maxRecDepth 100000 in
theorem inits_checker_some.step (k : Nat) (ih_108 : ∀ m, m < k → inits_checker_some.Stmt m) (ih_87 : ∀ m, m < k → inits_checker_late.Stmt m) (ih_53 : ∀ m, m < k → inits_checker_now.Stmt m) (ih_52 : ∀ m, m < k → inits_checker_call.Stmt m) : ∀ (g : Nat) (s0_0 : List (S34)) (s0_1 : Int) (s0_2 : Int) (A1 : Option Addr) (c1 : Nat) (l1 : List (S43)) (r1 : Bool) (r2 : Int) (r3 : Int) (w0 w : World) (hI : IsS114 w0 w g s0_0 s0_1 s0_2) (hB : Below w0.heap.size w0 w) (hr1 : Kd.C k43 w0 A1 l1.length l1) (hc1 : l1.length ≤ c1) (h : inits_checker_some.f k s0_0 s0_1 s0_2 l1 = some (r1, r2, r3)),
  Calls Tryd.prog 108 #[.pointer (some ⟨g, 0, none⟩), .slice A1 l1.length c1] w fun e w' => e = .returned (.bool r1) ∧ IsS114 w0 w' g s0_0 r2 r3 ∧ Below w0.heap.size w0 w' ∧ KeepBut w w' g none := by
 intro g s0_0 s0_1 s0_2 A1 c1 l1 r1 r2 r3 w0 w hI hB hr1 hc1 h
 cases k with
 | zero => exact absurd h (by simp [inits_checker_some.f])
 | succ k =>
 simp only [inits_checker_some.f] at h
 have hu43 := Tryd.underlying43
 have HR1 := Aside0.mk hr1
 have HC1 := Aside0.mk hc1
 clear hr1 hc1
 have HI0 := Aside0.mk hI
 have HK := Aside0.mk (KeepBut.refl w g none)
 have HL := Aside0.mk hB.size
 clear hI
 have HW0 := Aside0.mk hB.size
 have HB := Aside0.mk hB
 clear hB
 have H : (inits_checker_some.l0 k false l1 (l1.length : Int) 0 s0_0 s0_1 s0_2) = some (r1, r2, r3) := h
 clear h
 have H' := Aside0.mk H
 clear H
 go_enter Tryd.func108, Tryd.ntmps108
 go_wp2
 go_loopg [5, 10] k (fun kq v5 v10 w' => ∃ (x5_1 : Bool) (x10_1 : Int) (x1001_1 : Int) (x1002_1 : Int), v5 = .bool x5_1 ∧ v10 = .int .i64 x10_1 ∧ Aside0 (inits_checker_some.l0 kq x5_1 l1 (l1.length : Int) x10_1 s0_0 x1001_1 x1002_1 = some (r1, r2, r3)) ∧ Aside0 (kq ≤ k) ∧ Aside0 (IsS114 w0 w' g s0_0 x1001_1 x1002_1) ∧ Aside0 (KeepBut w w' g none) ∧ Aside0 (Below w0.heap.size w0 w'))
 case atStart => exact ⟨(false), (0), (s0_1), (s0_2), (by first | rfl | (simp; done) | (simp [*]; done)), (by first | rfl | (simp; done) | (simp [*]; done)), H', ⟨Nat.le_refl _⟩, ⟨by repeat (first | (with_reducible first | exact HI0.out | apply IsS114.alloc | apply IsS114.drewN | apply IsS114.drew | apply IsS114.set_1 | apply IsS114.set_2) | exact HI0.out)⟩, ⟨by repeat (first | (with_reducible first | exact HK.out | apply KeepBut.set_ | apply keep_drewN | apply keep_drew | apply keep_alloc) | exact HK.out)⟩, ⟨by repeat (first | (with_reducible first | exact HB.out | apply below_alloc | apply pw_below_drewN | apply below_drew1 | refine below_set ?_ (IsS114.ge HI0.out)) | exact HB.out)⟩⟩
 case round =>
  clear H'
  try clear c1
  try clear p2
  obtain ⟨x5_1, x10_1, x1001_1, x1002_1, rfl, rfl, HA, HK1, HI0, HK, HB⟩ := hrel
  cases gk with
  | zero => exact absurd HA.out (by simp [inits_checker_some.l0])
  | succ k1 =>
   have H := HA.out
   clear HA
   simp only [inits_checker_some.l0] at H
   by_cases c3 : x10_1 < (l1.length : Int)
   ·rw [if_pos c3] at H
    have c3b0 : decide (x10_1 < (l1.length : Int)) = true := decide_eq_true c3
    clear c3
    by_cases c4 : 0 ≤ x10_1
    ·rw [if_pos c4] at H
     have c4b0 : decide (0 ≤ x10_1) = true := decide_eq_true c4
     clear c4
     by_cases c5 : x10_1 < (l1.length : Int)
     ·rw [if_pos c5] at H
      have c5b0 : decide (x10_1 < (l1.length : Int)) = true := decide_eq_true c5
      clear c5
      replace H := Option.bind_eq_some_iff.mp H
      obtain ⟨⟨t103, t104, t105⟩, A60, H⟩ := H
      replace H : (if t103 = true then (inits_checker_some.l0 k1 true l1 (l1.length : Int) (wrap64 (x10_1 + 1)) s0_0 t104 t105) else (inits_checker_some.l0 k1 x5_1 l1 (l1.length : Int) (wrap64 (x10_1 + 1)) s0_0 t104 t105)) = some (r1, r2, r3) := H
      have A6 := Aside0.mk A60
      clear A60
      by_cases c7 : t103 = true
      ·subst c7
       have H1 : (inits_checker_some.l0 k1 true l1 (l1.length : Int) (wrap64 (x10_1 + 1)) s0_0 t104 t105) = some (r1, r2, r3) := by rw [if_pos rfl] at H; exact H
       clear H
       have H := H1
       clear H1
       have H' := Aside0.mk H
       clear H
       have p101 : 0 ≤ (x10_1 : Int) := of_decide_eq_true (by first | (with_reducible assumption) | assumption)
       have q101 : x10_1 < (l1.length : Int) := of_decide_eq_true (by first | (with_reducible assumption) | assumption)
       obtain ⟨ad101, A101_5, c101_5, e101, hx101_0, hx101_1, hx101_2, hx101_3, hx101_4, hx101_5, hl101_5, hi101_5⟩ := at_T43 HR1.out x10_1 p101 q101
       cases e101
       replace hx101_0 := pw_cell_below HB.out hx101_0
       replace hx101_1 := pw_cell_below HB.out hx101_1
       replace hx101_2 := pw_cell_below HB.out hx101_2
       replace hx101_3 := pw_cell_below HB.out hx101_3
       replace hx101_4 := pw_cell_below HB.out hx101_4
       replace hx101_5 := pw_cell_below HB.out hx101_5
       have HR101_5 := Aside0.mk hi101_5
       have HC101_5 := Aside0.mk hl101_5
       clear hi101_5 hl101_5
       replace p101 := eq_true p101
       replace q101 := eq_true q101
       go_wp2_with (first | ((with_reducible refine gate_dst (N := 7) rfl ?_); refine box_event ?hg (N := 7) ?hd (cs := #[.int .i64 0, .int .i64 0, .int .i64 0, .string (⟨#[]⟩ : ByteArray), .bool false, .slice none 0 0]) (t := 43) ?hr ?_; (case hd => rfl); (case hg => rfl); (case hr => first | (go_simp; done) | (go_simp; rfl)); intro gb102 hg w8 hbox hb; have n0_ := Aside0.mk (IsS114.below (by repeat (first | (with_reducible first | exact HI0.out | apply IsS114.alloc | apply IsS114.drewN | apply IsS114.drew | apply IsS114.set_1 | apply IsS114.set_2) | exact HI0.out)) hb); have n1_ := Aside0.mk (KeepBut.trans (by repeat (first | (with_reducible first | exact HK.out | apply KeepBut.set_ | apply keep_drewN | apply keep_drew | apply keep_alloc) | exact HK.out)) (KeepBut.of_below hb g none) (.inl rfl)); have n2_ := Aside0.mk (below_step (by repeat (first | (with_reducible first | exact HB.out | apply below_alloc | apply pw_below_drewN | apply below_drew1 | refine below_set ?_ (IsS114.ge HI0.out)) | exact HB.out)) hb); have n3_ := Aside0.mk (hbox); have n4_ := Aside0.mk ((by rw [hg]; exact (keep_size (w := w) (g := g) (row := none) (by repeat (first | (with_reducible first | exact HK.out | apply KeepBut.set_ | apply keep_drewN | apply keep_drew | apply keep_alloc) | exact HK.out))) : w.heap.size ≤ gb102)); have n5_ := Aside0.mk ((Nat.le_trans HW0.out (by rw [hg]; exact (keep_size (w := w) (g := g) (row := none) (by repeat (first | (with_reducible first | exact HK.out | apply KeepBut.set_ | apply keep_drewN | apply keep_drew | apply keep_alloc) | exact HK.out))) : w.heap.size ≤ gb102) : w0.heap.size ≤ gb102)); have n6_ := Aside0.mk ((by rw [hg]; exact Nat.ne_of_lt (IsS114.lt (show IsS114 w0 _ g s0_0 x1001_1 x1002_1 from by repeat (first | (with_reducible first | exact HI0.out | apply IsS114.alloc | apply IsS114.drewN | apply IsS114.drew | apply IsS114.set_1 | apply IsS114.set_2) | exact HI0.out))) : g ≠ gb102)); have n7_ := Aside0.mk ((by rw [hg]; exact Nat.ne_of_gt (IsS114.lt (show IsS114 w0 _ g s0_0 x1001_1 x1002_1 from by repeat (first | (with_reducible first | exact HI0.out | apply IsS114.alloc | apply IsS114.drewN | apply IsS114.drew | apply IsS114.set_1 | apply IsS114.set_2) | exact HI0.out))) : gb102 ≠ g)); clear HI0; clear HK; clear HB; have HI0 := n0_; have HK := n1_; have HB := n2_; have BK102 := n3_; have GW102 := n4_; have GE102 := n5_; have NB0_102 := n6_; have NB102_0 := n7_; clear n0_ n1_ n2_ n3_ n4_ n5_ n6_ n7_; clear hb hbox hg; have hnb9 := NB102_0.out; have hnc9 := NB0_102.out; have hcz10_0 : w8.cell? ⟨gb102, 0, none⟩ = some (.int .i64 0) := (blk_cell BK102.out 0).trans rfl; have hcz10_1 : w8.cell? ⟨gb102, 1, none⟩ = some (.int .i64 0) := (blk_cell BK102.out 1).trans rfl; have hcz10_2 : w8.cell? ⟨gb102, 2, none⟩ = some (.int .i64 0) := (blk_cell BK102.out 2).trans rfl; have hcz10_3 : w8.cell? ⟨gb102, 3, none⟩ = some (.string (⟨#[]⟩ : ByteArray)) := (blk_cell BK102.out 3).trans rfl; have hcz10_4 : w8.cell? ⟨gb102, 4, none⟩ = some (.bool false) := (blk_cell BK102.out 4).trans rfl; have hcz10_5 : w8.cell? ⟨gb102, 5, none⟩ = some (.slice none 0 0) := (blk_cell BK102.out 5).trans rfl; have hfz10_0 := blk_frozen BK102.out 0; have hfz10_1 := blk_frozen BK102.out 1; have hfz10_2 := blk_frozen BK102.out 2; have hfz10_3 := blk_frozen BK102.out 3; have hfz10_4 := blk_frozen BK102.out 4; have hfz10_5 := blk_frozen BK102.out 5) | ((with_reducible refine gate_callee (f := 87) rfl ?_); refine goesL_ (some 16) rfl rfl Tryd.func87 (by kernel_rfl) rfl #[.pointer (some ⟨g, 0, none⟩), .agg #[.int .i64 ((rd_T43 l1 x10_1).f0), .int .i64 ((rd_T43 l1 x10_1).f1), .int .i64 ((rd_T43 l1 x10_1).f2), .string ((rd_T43 l1 x10_1).f3), .bool ((rd_T43 l1 x10_1).f4), .slice A101_5 ((rd_T43 l1 x10_1).f5).length c101_5]] rfl (by (try simp only [List.map_toArray, List.map_cons, List.map_nil]); first | done | rfl | (simp only [List.length_drop, List.length_take]; rfl)) ?_; (with_reducible refine (ih_87 k1 (by have := HK1.out; omega) g s0_0 x1001_1 x1002_1 ((rd_T43 l1 x10_1).f0) ((rd_T43 l1 x10_1).f1) ((rd_T43 l1 x10_1).f2) ((rd_T43 l1 x10_1).f3) ((rd_T43 l1 x10_1).f4) _ _ ((rd_T43 l1 x10_1).f5) true t104 t105 w0 _ ?side1 ?side2 ?side3 ?side4 A6.out).mono ?_); (case side1 => repeat (first | (with_reducible first | exact HI0.out | apply IsS114.alloc | apply IsS114.drewN | apply IsS114.drew | apply IsS114.set_1 | apply IsS114.set_2 | refine IsS114.far ?_ NB0_102.out _) | exact HI0.out)); (case side2 => repeat (first | (with_reducible first | exact HB.out | apply below_alloc | apply pw_below_drewN | apply below_drew1 | refine below_set ?_ (IsS114.ge HI0.out) | refine below_set ?_ GE102.out) | exact HB.out)); (case side3 => exact HR101_5.out); (case side4 => exact HC101_5.out); rintro e w11 ⟨rfl, hi, hb, hk⟩; refine ⟨_, rfl, ?_⟩; have n0_ := Aside0.mk (KeepBut.blk hk (g' := gb102) (o := .cells #[.int .i64 ((rd_T43 l1 x10_1).f0), .int .i64 ((rd_T43 l1 x10_1).f1), .int .i64 ((rd_T43 l1 x10_1).f2), .string ((rd_T43 l1 x10_1).f3), .bool ((rd_T43 l1 x10_1).f4), .slice A101_5 ((rd_T43 l1 x10_1).f5).length c101_5] 43 (0, 0)) (by (with_reducible repeat (first | refine blk_drewN ?_ _ | refine blk_drew ?_ | refine blk_alloc ?_ _)); refine blk_put (cs := #[.int .i64 ((rd_T43 l1 x10_1).f0), .int .i64 ((rd_T43 l1 x10_1).f1), .int .i64 ((rd_T43 l1 x10_1).f2), .string ((rd_T43 l1 x10_1).f3), .bool ((rd_T43 l1 x10_1).f4), .slice none 0 0]) ?_ 5 _ rfl; (with_reducible repeat (first | refine blk_drewN ?_ _ | refine blk_drew ?_ | refine blk_alloc ?_ _)); refine blk_put (cs := #[.int .i64 ((rd_T43 l1 x10_1).f0), .int .i64 ((rd_T43 l1 x10_1).f1), .int .i64 ((rd_T43 l1 x10_1).f2), .string ((rd_T43 l1 x10_1).f3), .bool false, .slice none 0 0]) ?_ 4 _ rfl; (with_reducible repeat (first | refine blk_drewN ?_ _ | refine blk_drew ?_ | refine blk_alloc ?_ _)); refine blk_put (cs := #[.int .i64 ((rd_T43 l1 x10_1).f0), .int .i64 ((rd_T43 l1 x10_1).f1), .int .i64 ((rd_T43 l1 x10_1).f2), .string (⟨#[]⟩ : ByteArray), .bool false, .slice none 0 0]) ?_ 3 _ rfl; (with_reducible repeat (first | refine blk_drewN ?_ _ | refine blk_drew ?_ | refine blk_alloc ?_ _)); refine blk_put (cs := #[.int .i64 ((rd_T43 l1 x10_1).f0), .int .i64 ((rd_T43 l1 x10_1).f1), .int .i64 0, .string (⟨#[]⟩ : ByteArray), .bool false, .slice none 0 0]) ?_ 2 _ rfl; (with_reducible repeat (first | refine blk_drewN ?_ _ | refine blk_drew ?_ | refine blk_alloc ?_ _)); refine blk_put (cs := #[.int .i64 ((rd_T43 l1 x10_1).f0), .int .i64 0, .int .i64 0, .string (⟨#[]⟩ : ByteArray), .bool false, .slice none 0 0]) ?_ 1 _ rfl; (with_reducible repeat (first | refine blk_drewN ?_ _ | refine blk_drew ?_ | refine blk_alloc ?_ _)); refine blk_put (cs := #[.int .i64 0, .int .i64 0, .int .i64 0, .string (⟨#[]⟩ : ByteArray), .bool false, .slice none 0 0]) ?_ 0 _ rfl; (with_reducible repeat (first | refine blk_drewN ?_ _ | refine blk_drew ?_ | refine blk_alloc ?_ _)); exact BK102.out) NB102_0.out (by simp)); have n1_ := Aside0.mk (KeepBut.trans (by repeat (first | (with_reducible first | exact HK.out | apply KeepBut.set_ | apply keep_drewN | apply keep_drew | apply keep_alloc | refine keep_far ?_ GW102.out _) | exact HK.out)) hk (.inl rfl)); have n2_ := Aside0.mk (hb); have n3_ := Aside0.mk (hi); clear BK102; clear HK; clear HB; clear HI0; have BK102 := n0_; have HK := n1_; have HB := n2_; have HI0 := n3_; clear n0_ n1_ n2_ n3_; (try clear hb); (try clear hb2); (try clear hk); (try clear hi)))
       go_roundg k1
       case measure => have := HK1.out; omega
       case rel => exact ⟨(true), (wrap64 (x10_1 + 1)), (t104), (t105), (by first | rfl | (simp; done) | (simp [*]; done)), (by first | rfl | (simp; done) | (simp [*]; done)), H', ⟨by have := HK1.out; omega⟩, ⟨by repeat (first | (with_reducible first | exact HI0.out | apply IsS114.alloc | apply IsS114.drewN | apply IsS114.drew | apply IsS114.set_1 | apply IsS114.set_2 | refine IsS114.far ?_ NB0_102.out _) | exact HI0.out)⟩, ⟨by repeat (first | (with_reducible first | exact HK.out | apply KeepBut.set_ | apply keep_drewN | apply keep_drew | apply keep_alloc | refine keep_far ?_ GW102.out _) | exact HK.out)⟩, ⟨by repeat (first | (with_reducible first | exact HB.out | apply below_alloc | apply pw_below_drewN | apply below_drew1 | refine below_set ?_ (IsS114.ge HI0.out) | refine below_set ?_ GE102.out) | exact HB.out)⟩⟩
      ·replace c7 := Bool.eq_false_iff.mpr c7
       subst c7
       have H1 : (inits_checker_some.l0 k1 x5_1 l1 (l1.length : Int) (wrap64 (x10_1 + 1)) s0_0 t104 t105) = some (r1, r2, r3) := by rw [if_neg (show ¬ (false = true) by decide)] at H; exact H
       clear H
       have H := H1
       clear H1
       have H' := Aside0.mk H
       clear H
       have p101 : 0 ≤ (x10_1 : Int) := of_decide_eq_true (by first | (with_reducible assumption) | assumption)
       have q101 : x10_1 < (l1.length : Int) := of_decide_eq_true (by first | (with_reducible assumption) | assumption)
       obtain ⟨ad101, A101_5, c101_5, e101, hx101_0, hx101_1, hx101_2, hx101_3, hx101_4, hx101_5, hl101_5, hi101_5⟩ := at_T43 HR1.out x10_1 p101 q101
       cases e101
       replace hx101_0 := pw_cell_below HB.out hx101_0
       replace hx101_1 := pw_cell_below HB.out hx101_1
       replace hx101_2 := pw_cell_below HB.out hx101_2
       replace hx101_3 := pw_cell_below HB.out hx101_3
       replace hx101_4 := pw_cell_below HB.out hx101_4
       replace hx101_5 := pw_cell_below HB.out hx101_5
       have HR101_5 := Aside0.mk hi101_5
       have HC101_5 := Aside0.mk hl101_5
       clear hi101_5 hl101_5
       replace p101 := eq_true p101
       replace q101 := eq_true q101
       go_wp2_with (first | ((with_reducible refine gate_dst (N := 7) rfl ?_); refine box_event ?hg (N := 7) ?hd (cs := #[.int .i64 0, .int .i64 0, .int .i64 0, .string (⟨#[]⟩ : ByteArray), .bool false, .slice none 0 0]) (t := 43) ?hr ?_; (case hd => rfl); (case hg => rfl); (case hr => first | (go_simp; done) | (go_simp; rfl)); intro gb102 hg w12 hbox hb; have n0_ := Aside0.mk (IsS114.below (by repeat (first | (with_reducible first | exact HI0.out | apply IsS114.alloc | apply IsS114.drewN | apply IsS114.drew | apply IsS114.set_1 | apply IsS114.set_2) | exact HI0.out)) hb); have n1_ := Aside0.mk (KeepBut.trans (by repeat (first | (with_reducible first | exact HK.out | apply KeepBut.set_ | apply keep_drewN | apply keep_drew | apply keep_alloc) | exact HK.out)) (KeepBut.of_below hb g none) (.inl rfl)); have n2_ := Aside0.mk (below_step (by repeat (first | (with_reducible first | exact HB.out | apply below_alloc | apply pw_below_drewN | apply below_drew1 | refine below_set ?_ (IsS114.ge HI0.out)) | exact HB.out)) hb); have n3_ := Aside0.mk (hbox); have n4_ := Aside0.mk ((by rw [hg]; exact (keep_size (w := w) (g := g) (row := none) (by repeat (first | (with_reducible first | exact HK.out | apply KeepBut.set_ | apply keep_drewN | apply keep_drew | apply keep_alloc) | exact HK.out))) : w.heap.size ≤ gb102)); have n5_ := Aside0.mk ((Nat.le_trans HW0.out (by rw [hg]; exact (keep_size (w := w) (g := g) (row := none) (by repeat (first | (with_reducible first | exact HK.out | apply KeepBut.set_ | apply keep_drewN | apply keep_drew | apply keep_alloc) | exact HK.out))) : w.heap.size ≤ gb102) : w0.heap.size ≤ gb102)); have n6_ := Aside0.mk ((by rw [hg]; exact Nat.ne_of_lt (IsS114.lt (show IsS114 w0 _ g s0_0 x1001_1 x1002_1 from by repeat (first | (with_reducible first | exact HI0.out | apply IsS114.alloc | apply IsS114.drewN | apply IsS114.drew | apply IsS114.set_1 | apply IsS114.set_2) | exact HI0.out))) : g ≠ gb102)); have n7_ := Aside0.mk ((by rw [hg]; exact Nat.ne_of_gt (IsS114.lt (show IsS114 w0 _ g s0_0 x1001_1 x1002_1 from by repeat (first | (with_reducible first | exact HI0.out | apply IsS114.alloc | apply IsS114.drewN | apply IsS114.drew | apply IsS114.set_1 | apply IsS114.set_2) | exact HI0.out))) : gb102 ≠ g)); clear HI0; clear HK; clear HB; have HI0 := n0_; have HK := n1_; have HB := n2_; have BK102 := n3_; have GW102 := n4_; have GE102 := n5_; have NB0_102 := n6_; have NB102_0 := n7_; clear n0_ n1_ n2_ n3_ n4_ n5_ n6_ n7_; clear hb hbox hg; have hnb13 := NB102_0.out; have hnc13 := NB0_102.out; have hcz14_0 : w12.cell? ⟨gb102, 0, none⟩ = some (.int .i64 0) := (blk_cell BK102.out 0).trans rfl; have hcz14_1 : w12.cell? ⟨gb102, 1, none⟩ = some (.int .i64 0) := (blk_cell BK102.out 1).trans rfl; have hcz14_2 : w12.cell? ⟨gb102, 2, none⟩ = some (.int .i64 0) := (blk_cell BK102.out 2).trans rfl; have hcz14_3 : w12.cell? ⟨gb102, 3, none⟩ = some (.string (⟨#[]⟩ : ByteArray)) := (blk_cell BK102.out 3).trans rfl; have hcz14_4 : w12.cell? ⟨gb102, 4, none⟩ = some (.bool false) := (blk_cell BK102.out 4).trans rfl; have hcz14_5 : w12.cell? ⟨gb102, 5, none⟩ = some (.slice none 0 0) := (blk_cell BK102.out 5).trans rfl; have hfz14_0 := blk_frozen BK102.out 0; have hfz14_1 := blk_frozen BK102.out 1; have hfz14_2 := blk_frozen BK102.out 2; have hfz14_3 := blk_frozen BK102.out 3; have hfz14_4 := blk_frozen BK102.out 4; have hfz14_5 := blk_frozen BK102.out 5) | ((with_reducible refine gate_callee (f := 87) rfl ?_); refine goesL_ (some 16) rfl rfl Tryd.func87 (by kernel_rfl) rfl #[.pointer (some ⟨g, 0, none⟩), .agg #[.int .i64 ((rd_T43 l1 x10_1).f0), .int .i64 ((rd_T43 l1 x10_1).f1), .int .i64 ((rd_T43 l1 x10_1).f2), .string ((rd_T43 l1 x10_1).f3), .bool ((rd_T43 l1 x10_1).f4), .slice A101_5 ((rd_T43 l1 x10_1).f5).length c101_5]] rfl (by (try simp only [List.map_toArray, List.map_cons, List.map_nil]); first | done | rfl | (simp only [List.length_drop, List.length_take]; rfl)) ?_; (with_reducible refine (ih_87 k1 (by have := HK1.out; omega) g s0_0 x1001_1 x1002_1 ((rd_T43 l1 x10_1).f0) ((rd_T43 l1 x10_1).f1) ((rd_T43 l1 x10_1).f2) ((rd_T43 l1 x10_1).f3) ((rd_T43 l1 x10_1).f4) _ _ ((rd_T43 l1 x10_1).f5) false t104 t105 w0 _ ?side1 ?side2 ?side3 ?side4 A6.out).mono ?_); (case side1 => repeat (first | (with_reducible first | exact HI0.out | apply IsS114.alloc | apply IsS114.drewN | apply IsS114.drew | apply IsS114.set_1 | apply IsS114.set_2 | refine IsS114.far ?_ NB0_102.out _) | exact HI0.out)); (case side2 => repeat (first | (with_reducible first | exact HB.out | apply below_alloc | apply pw_below_drewN | apply below_drew1 | refine below_set ?_ (IsS114.ge HI0.out) | refine below_set ?_ GE102.out) | exact HB.out)); (case side3 => exact HR101_5.out); (case side4 => exact HC101_5.out); rintro e w15 ⟨rfl, hi, hb, hk⟩; refine ⟨_, rfl, ?_⟩; have n0_ := Aside0.mk (KeepBut.blk hk (g' := gb102) (o := .cells #[.int .i64 ((rd_T43 l1 x10_1).f0), .int .i64 ((rd_T43 l1 x10_1).f1), .int .i64 ((rd_T43 l1 x10_1).f2), .string ((rd_T43 l1 x10_1).f3), .bool ((rd_T43 l1 x10_1).f4), .slice A101_5 ((rd_T43 l1 x10_1).f5).length c101_5] 43 (0, 0)) (by (with_reducible repeat (first | refine blk_drewN ?_ _ | refine blk_drew ?_ | refine blk_alloc ?_ _)); refine blk_put (cs := #[.int .i64 ((rd_T43 l1 x10_1).f0), .int .i64 ((rd_T43 l1 x10_1).f1), .int .i64 ((rd_T43 l1 x10_1).f2), .string ((rd_T43 l1 x10_1).f3), .bool ((rd_T43 l1 x10_1).f4), .slice none 0 0]) ?_ 5 _ rfl; (with_reducible repeat (first | refine blk_drewN ?_ _ | refine blk_drew ?_ | refine blk_alloc ?_ _)); refine blk_put (cs := #[.int .i64 ((rd_T43 l1 x10_1).f0), .int .i64 ((rd_T43 l1 x10_1).f1), .int .i64 ((rd_T43 l1 x10_1).f2), .string ((rd_T43 l1 x10_1).f3), .bool false, .slice none 0 0]) ?_ 4 _ rfl; (with_reducible repeat (first | refine blk_drewN ?_ _ | refine blk_drew ?_ | refine blk_alloc ?_ _)); refine blk_put (cs := #[.int .i64 ((rd_T43 l1 x10_1).f0), .int .i64 ((rd_T43 l1 x10_1).f1), .int .i64 ((rd_T43 l1 x10_1).f2), .string (⟨#[]⟩ : ByteArray), .bool false, .slice none 0 0]) ?_ 3 _ rfl; (with_reducible repeat (first | refine blk_drewN ?_ _ | refine blk_drew ?_ | refine blk_alloc ?_ _)); refine blk_put (cs := #[.int .i64 ((rd_T43 l1 x10_1).f0), .int .i64 ((rd_T43 l1 x10_1).f1), .int .i64 0, .string (⟨#[]⟩ : ByteArray), .bool false, .slice none 0 0]) ?_ 2 _ rfl; (with_reducible repeat (first | refine blk_drewN ?_ _ | refine blk_drew ?_ | refine blk_alloc ?_ _)); refine blk_put (cs := #[.int .i64 ((rd_T43 l1 x10_1).f0), .int .i64 0, .int .i64 0, .string (⟨#[]⟩ : ByteArray), .bool false, .slice none 0 0]) ?_ 1 _ rfl; (with_reducible repeat (first | refine blk_drewN ?_ _ | refine blk_drew ?_ | refine blk_alloc ?_ _)); refine blk_put (cs := #[.int .i64 0, .int .i64 0, .int .i64 0, .string (⟨#[]⟩ : ByteArray), .bool false, .slice none 0 0]) ?_ 0 _ rfl; (with_reducible repeat (first | refine blk_drewN ?_ _ | refine blk_drew ?_ | refine blk_alloc ?_ _)); exact BK102.out) NB102_0.out (by simp)); have n1_ := Aside0.mk (KeepBut.trans (by repeat (first | (with_reducible first | exact HK.out | apply KeepBut.set_ | apply keep_drewN | apply keep_drew | apply keep_alloc | refine keep_far ?_ GW102.out _) | exact HK.out)) hk (.inl rfl)); have n2_ := Aside0.mk (hb); have n3_ := Aside0.mk (hi); clear BK102; clear HK; clear HB; clear HI0; have BK102 := n0_; have HK := n1_; have HB := n2_; have HI0 := n3_; clear n0_ n1_ n2_ n3_; (try clear hb); (try clear hb2); (try clear hk); (try clear hi)))
       go_roundg k1
       case measure => have := HK1.out; omega
       case rel => exact ⟨(x5_1), (wrap64 (x10_1 + 1)), (t104), (t105), (by first | rfl | (simp; done) | (simp [*]; done)), (by first | rfl | (simp; done) | (simp [*]; done)), H', ⟨by have := HK1.out; omega⟩, ⟨by repeat (first | (with_reducible first | exact HI0.out | apply IsS114.alloc | apply IsS114.drewN | apply IsS114.drew | apply IsS114.set_1 | apply IsS114.set_2 | refine IsS114.far ?_ NB0_102.out _) | exact HI0.out)⟩, ⟨by repeat (first | (with_reducible first | exact HK.out | apply KeepBut.set_ | apply keep_drewN | apply keep_drew | apply keep_alloc | refine keep_far ?_ GW102.out _) | exact HK.out)⟩, ⟨by repeat (first | (with_reducible first | exact HB.out | apply below_alloc | apply pw_below_drewN | apply below_drew1 | refine below_set ?_ (IsS114.ge HI0.out) | refine below_set ?_ GE102.out) | exact HB.out)⟩⟩
     ·rw [if_neg c5] at H
      exact absurd H (by simp)
    ·rw [if_neg c4] at H
     exact absurd H (by simp)
   ·rw [if_neg c3] at H
    have c3b0 : decide (x10_1 < (l1.length : Int)) = false := decide_eq_false c3
    clear c3
    simp only [Option.some.injEq, Prod.mk.injEq] at H
    obtain ⟨rfl, rfl, rfl⟩ := H
    go_wp2
    go_ret
    exact ⟨by first | rfl | (simp [errW_none, errW_some] <;> rfl) | (simp [*, errW_none, errW_some] <;> rfl), by repeat (first | (with_reducible first | exact HI0.out | apply IsS114.alloc | apply IsS114.drewN | apply IsS114.drew | apply IsS114.set_1 | apply IsS114.set_2) | exact HI0.out), by repeat (first | (with_reducible first | exact HB.out | apply below_alloc | apply pw_below_drewN | apply below_drew1 | refine below_set ?_ (IsS114.ge HI0.out)) | exact HB.out), by repeat (first | (with_reducible first | exact HK.out | apply KeepBut.set_ | apply keep_drewN | apply keep_drew | apply keep_alloc) | exact HK.out)⟩

end Go.Proofs.YtjafllnbgfcchaaDoor.XIA
end
