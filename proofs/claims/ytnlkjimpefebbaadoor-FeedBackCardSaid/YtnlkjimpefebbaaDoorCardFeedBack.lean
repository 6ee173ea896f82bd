/- The law FeedBack, for every input, tied to the program's tables: the walk and the plain law (PureFeedBack) make the row, the row the card. -/
import Derived.Test.YtnlkjimpefebbaaDoorRows
import Derived.Test.YtnlkjimpefebbaaDoorTie
import Derived.Test.YtnlkjimpefebbaaDoorCards
import Derived.Test.YtnlkjimpefebbaaDoorXFFx11
import Derived.Test.YtnlkjimpefebbaaDoorPureFeedBack
import Derived.Test.YtnlkjimpefebbaaDoorFeedOpen
import Derived.WalkKit
import Derived.ProofKit
import Derived.OpenShut
import Derived.ShutString
import Derived.ChangeOld
import Derived.Below
import Derived.SizedLaws
import Derived.Deep.Grids
import Derived.Deep.Matrix
import Derived.LaidMore
import Derived.LaidHandle
import Derived.Stop.Joined
import Derived.Stop.LaidErr
import Derived.SevenTiedAt
import Derived.Lib.LaidTab
import Derived.Test.YtnlkjimpefebbaaDoorFeedWrap
namespace Go.Proofs.YtnlkjimpefebbaaDoor.feedBack
open Go.ChangeShapes Go.WideShapes Go.ChangeAt Go.RowKit
open Go.ChangeMaps (open_string shut_string)
set_option linter.unusedVariables false
open Go Go.RowKit Go.Proofs.YtnlkjimpefebbaaDoor.XFF Go.Proofs.YtnlkjimpefebbaaDoorW.PrintWords Go.Proofs.YtnlkjimpefebbaaDoorW.PrintLast in
theorem Back.walk (A0 : Option Addr) (c0 : Nat) (l0 : List Bool) (A1 : Option Addr) (c1 : Nat) (l1 : List (List Int)) (W : World) (hr : ReadsOf Value.bool false W A0 l0.length l0) (hc : l0.length ≤ c0) (hr1 : (Kd.slice 2 (Kd.int .i64)).C W A1 l1.length l1) (hc1 : l1.length ≤ c1) (hm : ∀ r ∈ l1, ∀ x ∈ r, Back.inR x) (hT : XFF.Tabs W) :
    Calls Tryd.prog 13 #[.slice A0 l0.length c0, .slice A1 l1.length c1] W fun e w' => e = .returned (.bool true) ∧ Below W.heap.size W w' := by
  obtain ⟨k, h⟩ := Back.FeedBack l0 l1 hm
  exact girandolelaw20_FeedBack.calls k A0 c0 l0 A1 c1 l1 true W (Kd.C_of_reads (d := false) (h1 := fun _ => rfl) hr) hc hr1 hc1 h hT
theorem own : ownKnob Tryd.prog.godebug = none := by kernel_rfl
theorem laidOut : laidOutB Tryd.prog = true := by kernel_rfl
def IsRow (k : IntKind) (w : World) (a : Option Addr) (len cap : Nat) (zs : List Int) : Prop :=
  (a = none ∧ len = 0 ∧ cap = 0 ∧ zs = []) ∨
  ∃ x, a = some x ∧ len ≤ cap ∧ cap ≤ maxLen ∧ zs.length = cap ∧ (∀ i, i < zs.length → w.cell? (x.add i) = some (.int k (zs.getD i 0))) ∧ ∀ n ∈ zs, (Lit.int k n).wf = true
set_option maxRecDepth 100000 in
theorem lifted (os : Os) (started : os.Started) (H : Type) (enc : TypeId × Value → H) :
    ReturnsInHanded {} Tryd.checked os 13 .any (fun w args => (Rows.feedBackSpec.pre enc Tryd.prog Tryd.f13 [] false w args ∧ laidMetH Tryd.prog Rows.feedBackRow.laid w) ∧ sizedMet enc Tryd.prog Tryd.f13 (OpenSpec.ofChange Rows.feedBackSpec) false w args) (Rows.feedBackSpec.post enc Tryd.prog Tryd.f13 false true false false) := by
  refine FW.wrap (C := Tryd.checked) (X := fun w _ => laidMetH Tryd.prog Rows.feedBackRow.laid w) (fun _ _ _ hh h => h.of_heap hh) own started (by kernel_rfl) Tryd.func13
    (ChangeSpec.witness_shaped (enc := enc) (C := Tryd.checked) (os := os) (X := fun w _ => laidMetH Tryd.prog Rows.feedBackRow.laid w) false (World.laidAll Tryd.prog os FW.laid) #[.slice none 0 0, .slice none 0 0] 8 (World.laidAll_os _ _ _) (World.shaped_of_ZipB (by kernel_rfl) (by kernel_rfl)) (by kernel_rfl) (by kernel_rfl) (by kernel_rfl) (FW.met os _)) ?_
  intro W base args ds gs before hval0 hW hcnd hsz0 hL _
  have hsz : (DataW.weightsEach Tryd.prog (Tryd.f13.params.toList ++ Rows.feedBackSpec.plain.varTypes Tryd.prog) (ds ++ gs)).all (· ≤ reachBytes) = true := hsz0
  have hval : ∀ (j : Nat) t v, Tryd.f13.params[j]? = some t → args[j]? = some v → Value.okWide Tryd.prog W .any base t v := hval0
  have hW' := hW
  obtain ⟨p, q, hA0, hV, rfl, hfz, hnd⟩ := hW
  have hA : DataW.TrodAll enc Tryd.prog W 0 (fun _ => true) true Tryd.f13.params.toList args.toList ds p := hA0
  rw [Tryd.params13] at hA hval hsz
  obtain ⟨v0, vs0, d0, ds0, p0, q0, hargs, rfl, rfl, h0, r0⟩ := trodAll_cons hA
  obtain ⟨v1, vs1, d1, ds1, p1, q1, rfl, rfl, rfl, h1, r1⟩ := trodAll_cons r0
  obtain ⟨rfl, rfl, rfl⟩ := trodAll_nil r1
  obtain rfl : args = #[v0, v1] := by cases args; simp_all
  obtain ⟨rfl, rfl⟩ := trodVars_none hV
  obtain ⟨a0, len0, cap0, rfl⟩ := okWide_slice Tryd.underlying93 (hval 0 93 v0 rfl rfl)
  have k0 := h0
  have lt0 : ∀ x ∈ p0, x.block < W.heap.size := by obtain ⟨m, hm⟩ := k0; exact DataW.trod_lt m _ _ _ hm
  obtain ⟨l0, rfl, hr0, hc0, hm0⟩ : ∃ bs : List Bool, len0 = bs.length ∧ YtnlkjimpefebbaaDoorW.PrintWords.ReadsOf Value.bool false W a0 bs.length bs ∧ bs.length ≤ cap0 ∧ bs.length ≤ maxLen := by
    obtain ⟨fuel, hf⟩ := h0
    rcases Go.Deep.open_bools Tryd.underlying93 Tryd.underlying4 (by kernel_rfl) hf with ⟨hcs, _⟩ | ⟨x, l, c, B, hcs, _, hl, hm, _, hcell⟩
    · simp [Value.cells] at hcs
      obtain ⟨rfl, rfl, rfl⟩ := hcs
      exact ⟨[], rfl, ⟨rfl, by simp, fun h => by simp at h⟩, by simp, by simp⟩
    · simp [Value.cells] at hcs
      obtain ⟨rfl, rfl, rfl⟩ := hcs
      refine ⟨(List.range len0).map B, by simp, ⟨rfl, by simp only [maxLen] at hm; simp; omega, fun _ => ⟨_, rfl, fun j hj => ?_⟩⟩, by simpa using hl, by simp; omega⟩
      have hj' : j < len0 := by simpa using hj
      rw [hcell j (by omega)]
      simp [List.getD_eq_getElem?_getD, hj']
  obtain ⟨a1, len1, cap1, rfl⟩ := okWide_slice Tryd.underlying95 (hval 1 95 v1 rfl rfl)
  have k1 := h1
  have lt1 : ∀ x ∈ p1, x.block < W.heap.size := by obtain ⟨m, hm⟩ := k1; exact DataW.trod_lt m _ _ _ hm
  obtain ⟨l1, rfl, hr1, hc1, hm1⟩ : ∃ l : List (List Int), len1 = l.length ∧ (YtnlkjimpefebbaaDoorW.PrintWords.Kd.slice 2 (YtnlkjimpefebbaaDoorW.PrintWords.Kd.int .i64)).C W a1 l.length l ∧ l.length ≤ cap1 ∧ ∀ r ∈ l, ∀ x ∈ r, Back.inR x := by
    obtain ⟨fuel, hf⟩ := h1
    rcases Go.Deep.open_int_rows Tryd.underlying95 Tryd.underlying102 Tryd.underlying2 (by kernel_rfl) (by kernel_rfl) hf with ⟨hcs, _⟩ | ⟨x, l, c, A, L, C, Z, hcs, _, hl, hm, _, hcell⟩
    · simp [Value.cells] at hcs
      obtain ⟨rfl, rfl, rfl⟩ := hcs
      exact ⟨[], rfl, ⟨rfl, by simp, fun h => by simp at h⟩, by simp, by simp⟩
    · simp [Value.cells] at hcs
      obtain ⟨rfl, rfl, rfl⟩ := hcs
      exact Back.outer_C hl hm hcell
  clear hA0 hval0 hsz0 hsz
  refine (Back.walk a0 cap0 l0 a1 cap1 l1 W hr0 hc0 hr1 hc1 hm1 (FW.tabs hL.1 hL.2)).mono fun e W' ⟨he, bel⟩ => ?_
  subst he
  exact ⟨_, rfl, _, _, _, [], _, [], hW', trodAll_mk1 (shut_bool Tryd.underlying4 _), (trodAll_cons_mk (Below.trod laidOut (by kernel_rfl) (of_decide_eq_true (by kernel_rfl)) k0 bel lt0) (trodAll_cons_mk (Below.trod laidOut (by kernel_rfl) (of_decide_eq_true (by kernel_rfl)) k1 bel lt1) trodAll_mk0)), rfl, bel.frame _, fun h => by cases h⟩
set_option maxRecDepth 100000 in
theorem over : Rows.feedBackRow.holds Tryd.pinned (OpenSpec.ofChange Rows.feedBackSpec) :=
  OpenClaim.holds_of_wide 13 Tryd.f13 rfl rfl rfl rfl rfl rfl rfl ⟨rfl, rfl, rfl, rfl, rfl⟩ rfl rfl rfl rfl rfl (by kernel_rfl) Tryd.func13 (by kernel_rfl)
    (of_decide_eq_true (by kernel_rfl)) (by unfold Func.isWrapper; first | (rw [if_pos (by decide +kernel)]; kernel_rfl) | (rw [if_neg (by decide +kernel)]; exact ⟨rfl, rfl⟩))
    (fun os started H enc _ => lifted os started H enc)
theorem proved : Rows.FeedBackCardSaid :=
  Claim7.holds_tied_plain_at .later [] [.data, .data, .data, .data, .sentinel, .sentinel, .pinned] true (true, "3996171ccd692d1c9549b016f71ecc2eeb97717e7a15c6d5e417abdc4fcb2dd4") true
    over (fun _ h => by cases h) (by kernel_rfl) (fun _ h => by cases h) feedBack_row_tie rfl ⟨rfl, rfl⟩ (by kernel_rfl) rfl
    (fun f fn hf hfn => by
      obtain rfl : f = 13 := Option.some.inj ((show Tryd.prog.funcNamed Rows.feedBackRow.func = some 13 by kernel_rfl).symm.trans hf) |>.symm
      obtain rfl : fn = Tryd.f13 := (Option.some.inj (Tryd.func13.symm.trans hfn)).symm
      exact ⟨by kernel_rfl, fun j t ht => by
        rw [Tryd.params13] at ht
        have hm := Array.mem_of_getElem? ht
        exact (show ∀ u ∈ Tryd.f13.params.toList, Tryd.prog.wantsStandIn u = false by rw [Tryd.params13]; decide +kernel) t (by rw [Tryd.params13]; simpa using hm)⟩)
    (by kernel_rfl)
#print axioms proved
end Go.Proofs.YtnlkjimpefebbaaDoor.feedBack
namespace Go.Proofs.YtnlkjimpefebbaaDoor
theorem feedBack_card : Rows.FeedBackCardSaid := feedBack.proved
end Go.Proofs.YtnlkjimpefebbaaDoor
