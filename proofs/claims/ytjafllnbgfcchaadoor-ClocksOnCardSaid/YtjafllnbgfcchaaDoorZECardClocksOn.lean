/- The law ClocksOn, for every input, tied to the program's tables: the walk and the plain law (PureClocksOn) make the row, the row the card. -/
import Derived.Test.YtjafllnbgfcchaaDoorRows
import Derived.Test.YtjafllnbgfcchaaDoorTie
import Derived.Test.YtjafllnbgfcchaaDoorCards
import Derived.Test.YtjafllnbgfcchaaDoorZEGXONx0
import Derived.WalkKit
import Derived.ProofKit
import Derived.OpenShut
import Derived.ShutString
import Derived.ChangeOld
import Derived.Below
import Derived.SizedLaws
import Derived.Deep.Grids
import Derived.Deep.Strs
import Derived.LaidMore
import Derived.LaidHandle
import Derived.Stop.Joined
import Derived.Stop.LaidErr
import Derived.SevenTiedAt
import Derived.Lib.LaidTab
namespace Go.Proofs.YtjafllnbgfcchaaDoor.clocksOn
open Go.ChangeShapes Go.WideShapes Go.ChangeAt Go.RowKit
open Go.ChangeMaps (open_string shut_string)
set_option linter.unusedVariables false
open Go Go.RowKit Go.Proofs.YtjafllnbgfcchaaDoor.XON Go.Proofs.YtjafllnbgfcchaaDoorW.PrintWords Go.Proofs.YtjafllnbgfcchaaDoorW.PrintLast in
theorem Ons.walk (A0 : Option Addr) (c0 : Nat) (l0 : List ByteArray) (A1 : Option Addr) (c1 : Nat) (l1 : List Bool) (a2 : ByteArray) (a3 : Bool) (W : World) (hr : ReadsOf Value.string ByteArray.empty W A0 l0.length l0) (hc : l0.length ≤ c0) (hr1 : ReadsOf Value.bool false W A1 l1.length l1) (hc1 : l1.length ≤ c1) (hT : XON.Tabs W) :
  Calls Tryd.prog 7 #[.slice A0 l0.length c0, .slice A1 l1.length c1, .string a2, .bool a3] W fun e W' => e = .returned (.bool true) ∧ Below W.heap.size W W' := by
 obtain ⟨k, h⟩ := Pure.ClocksOn l0 l1 a2 a3
 exact girandolelaw06_ClocksOn.calls k A0 c0 l0 A1 c1 l1 a2 a3 true W (Kd.C_of_reads (d := ByteArray.empty) (h1 := fun _ => rfl) hr) hc (Kd.C_of_reads (d := false) (h1 := fun _ => rfl) hr1) hc1 h hT
theorem own : ownKnob Tryd.prog.godebug = none := by kernel_rfl
theorem door_met (os : Os) (args : Array Value) : laidMetH Tryd.prog Rows.clocksOnRow.laid ((World.doorLaid Tryd.prog 96 os).forCall (fun _ _ => 0) ⟨#[], args, []⟩).memory :=
 laidMetH_of_parts3 (fuel := 8) (laidMet_of_run' 8 (by kernel_rfl) (by kernel_rfl)) (by kernel_rfl) (by kernel_rfl)
theorem tabs_of {W : World} (h : laidMetH Tryd.prog Rows.clocksOnRow.laid W) : XON.Tabs W := by
 rw [MakeChecks.laidMetH_plain _ _ _ (by kernel_rfl)] at h
 have e : (Rows.laid_strings_asciiSpace : DataW Unit) = Lib.tabData .u8 Lib.asciiSpaceTab := by kernel_rfl
 have h2 := laidMet.tail h
 rw [e] at h2
 exact Lib.tabIs_of_head (g := 4) (t := 204) (e := 5) (n := 256) (by kernel_rfl) (by kernel_rfl) (by kernel_rfl) (by kernel_rfl) (by kernel_rfl) (by kernel_rfl) h2
theorem laidOut : laidOutB Tryd.prog = true := by kernel_rfl
def IsRow (k : IntKind) (w : World) (a : Option Addr) (len cap : Nat) (zs : List Int) : Prop :=
 (a = none ∧ len = 0 ∧ cap = 0 ∧ zs = []) ∨
 ∃ x, a = some x ∧ len ≤ cap ∧ cap ≤ maxLen ∧ zs.length = cap ∧ (∀ i, i < zs.length → w.cell? (x.add i) = some (.int k (zs.getD i 0))) ∧ ∀ n ∈ zs, (Lit.int k n).wf = true
set_option maxRecDepth 100000 in
theorem lifted (os : Os) (started : os.Started) (H : Type) (enc : TypeId × Value → H) :
  ReturnsInHanded {} Tryd.checked os 7 .any (fun w args => (Rows.clocksOnSpec.pre enc Tryd.prog Tryd.f7 [] false w args ∧ laidMetH Tryd.prog Rows.clocksOnRow.laid w) ∧ sizedMet enc Tryd.prog Tryd.f7 (OpenSpec.ofChange Rows.clocksOnSpec) false w args) (Rows.clocksOnSpec.post enc Tryd.prog Tryd.f7 false true false false) := by
 refine returnsInHanded_of_change_and (C := Tryd.checked) (X := fun w _ => laidMetH Tryd.prog Rows.clocksOnRow.laid w) (fun _ _ _ hh h => h.of_heap hh) own started (by kernel_rfl) Tryd.func7
  (ChangeSpec.witness_shaped (enc := enc) (C := Tryd.checked) (os := os) (X := fun w _ => laidMetH Tryd.prog Rows.clocksOnRow.laid w) false (World.doorLaid Tryd.prog 96 os) #[.slice none 0 0, .slice none 0 0, .string ByteArray.empty, .bool false] 8 rfl (World.shaped_of_RefB (by kernel_rfl) (by kernel_rfl)) (by kernel_rfl) (by kernel_rfl) (by kernel_rfl) (door_met os _)) ?_
 intro W base args ds gs before hval0 hW hcnd hsz0 hL _
 have hsz : (DataW.weightsEach Tryd.prog (Tryd.f7.params.toList ++ Rows.clocksOnSpec.plain.varTypes Tryd.prog) (ds ++ gs)).all (· ≤ reachBytes) = true := hsz0
 have hval : ∀ (j : Nat) t v, Tryd.f7.params[j]? = some t → args[j]? = some v → Value.okWide Tryd.prog W .any base t v := hval0
 have hW' := hW
 obtain ⟨p, q, hA0, hV, rfl, hfz, hnd⟩ := hW
 have hA : DataW.TrodAll enc Tryd.prog W 0 (fun _ => true) true Tryd.f7.params.toList args.toList ds p := hA0
 rw [Tryd.params7] at hA hval hsz
 obtain ⟨v0, vs0, d0, ds0, p0, q0, hargs, rfl, rfl, h0, r0⟩ := trodAll_cons hA
 obtain ⟨v1, vs1, d1, ds1, p1, q1, rfl, rfl, rfl, h1, r1⟩ := trodAll_cons r0
 obtain ⟨v2, vs2, d2, ds2, p2, q2, rfl, rfl, rfl, h2, r2⟩ := trodAll_cons r1
 obtain ⟨v3, vs3, d3, ds3, p3, q3, rfl, rfl, rfl, h3, r3⟩ := trodAll_cons r2
 obtain ⟨rfl, rfl, rfl⟩ := trodAll_nil r3
 obtain rfl : args = #[v0, v1, v2, v3] := by cases args; simp_all
 obtain ⟨rfl, rfl⟩ := trodVars_none hV
 obtain ⟨a0, len0, cap0, rfl⟩ := okWide_slice Tryd.underlying58 (hval 0 58 v0 rfl rfl)
 have k0 := h0
 have lt0 : ∀ x ∈ p0, x.block < W.heap.size := by obtain ⟨m, hm⟩ := k0; exact DataW.trod_lt m _ _ _ hm
 obtain ⟨l0, rfl, hr0, hc0, hm0⟩ : ∃ bs : List ByteArray, len0 = bs.length ∧ YtjafllnbgfcchaaDoorW.PrintWords.ReadsOf Value.string ByteArray.empty W a0 bs.length bs ∧ bs.length ≤ cap0 ∧ bs.length ≤ maxLen := by
  obtain ⟨fuel, hf⟩ := h0
  rcases Go.Deep.open_strs Tryd.underlying58 Tryd.underlying9 (by kernel_rfl) hf with ⟨hcs, _⟩ | ⟨x, l, c, m, B, hcs, _, hl, hm, hmm, _, hcell⟩
  ·simp [Value.cells] at hcs
   obtain ⟨rfl, rfl, rfl⟩ := hcs
   exact ⟨[], rfl, ⟨rfl, by simp, fun h => by simp at h⟩, by simp, by simp⟩
  ·simp [Value.cells] at hcs
   obtain ⟨rfl, rfl, rfl⟩ := hcs
   simp only [if_true] at hmm
   subst hmm
   refine ⟨(List.range len0).map B, by simp, ⟨rfl, by simp only [maxLen] at hm; simp; omega, fun _ => ⟨_, rfl, fun j hj => ?_⟩⟩, by simpa using hl, by simp; omega⟩
   have hj' : j < len0 := by simpa using hj
   rw [(hcell j (by omega)).1]
   simp [List.getD_eq_getElem?_getD, hj']
 obtain ⟨a1, len1, cap1, rfl⟩ := okWide_slice Tryd.underlying59 (hval 1 59 v1 rfl rfl)
 have k1 := h1
 have lt1 : ∀ x ∈ p1, x.block < W.heap.size := by obtain ⟨m, hm⟩ := k1; exact DataW.trod_lt m _ _ _ hm
 obtain ⟨l1, rfl, hr1, hc1, hm1⟩ : ∃ bs : List Bool, len1 = bs.length ∧ YtjafllnbgfcchaaDoorW.PrintWords.ReadsOf Value.bool false W a1 bs.length bs ∧ bs.length ≤ cap1 ∧ bs.length ≤ maxLen := by
  obtain ⟨fuel, hf⟩ := h1
  rcases Go.Deep.open_bools Tryd.underlying59 Tryd.underlying4 (by kernel_rfl) hf with ⟨hcs, _⟩ | ⟨x, l, c, B, hcs, _, hl, hm, _, hcell⟩
  ·simp [Value.cells] at hcs
   obtain ⟨rfl, rfl, rfl⟩ := hcs
   exact ⟨[], rfl, ⟨rfl, by simp, fun h => by simp at h⟩, by simp, by simp⟩
  ·simp [Value.cells] at hcs
   obtain ⟨rfl, rfl, rfl⟩ := hcs
   refine ⟨(List.range len1).map B, by simp, ⟨rfl, by simp only [maxLen] at hm; simp; omega, fun _ => ⟨_, rfl, fun j hj => ?_⟩⟩, by simpa using hl, by simp; omega⟩
   have hj' : j < len1 := by simpa using hj
   rw [hcell j (by omega)]
   simp [List.getD_eq_getElem?_getD, hj']
 obtain ⟨a2, rfl, rfl, rfl, y2⟩ := open_string Tryd.underlying9 (hval 2 9 v2 rfl rfl) h2
 obtain ⟨a3, rfl, rfl, rfl⟩ := open_bool Tryd.underlying4 (hval 3 4 v3 rfl rfl) h3
 clear hA0 hval0 hsz0 hsz
 refine (Ons.walk a0 cap0 l0 a1 cap1 l1 a2 a3 W hr0 hc0 hr1 hc1 (tabs_of hL)).mono fun e W' ⟨he, bel⟩ => ?_
 subst he
 exact ⟨_, rfl, _, _, _, [], _, [], hW', trodAll_mk1 (shut_bool Tryd.underlying4 _), (trodAll_cons_mk (Below.trod laidOut (by kernel_rfl) (of_decide_eq_true (by kernel_rfl)) k0 bel lt0) (trodAll_cons_mk (Below.trod laidOut (by kernel_rfl) (of_decide_eq_true (by kernel_rfl)) k1 bel lt1) (trodAll_cons_mk (shut_string Tryd.underlying9 y2) (trodAll_cons_mk (shut_bool Tryd.underlying4 _) trodAll_mk0)))), rfl, bel.frame _, fun h => by cases h⟩
set_option maxRecDepth 100000 in
theorem over : Rows.clocksOnRow.holds Tryd.pinned (OpenSpec.ofChange Rows.clocksOnSpec) :=
 OpenClaim.holds_of_wide 7 Tryd.f7 rfl rfl rfl rfl rfl rfl rfl ⟨rfl, rfl, rfl, rfl, rfl⟩ rfl rfl rfl rfl rfl (by kernel_rfl) Tryd.func7 (by kernel_rfl)
  (of_decide_eq_true (by kernel_rfl)) (by unfold Func.isWrapper; first | (rw [if_pos (by decide +kernel)]; kernel_rfl) | (rw [if_neg (by decide +kernel)]; exact ⟨rfl, rfl⟩))
  (fun os started H enc _ => lifted os started H enc)
theorem proved : Rows.ClocksOnCardSaid :=
 Claim7.holds_tied_plain_at .later [] [.listed, .data] true (true, "0d1c5dba7c4b283a3e7e9bc5936df8519e7ac7391f738cc53a0ba324e34d2167") true
  over (fun _ h => by cases h) (by kernel_rfl) (fun _ h => by cases h) clocksOn_row_tie rfl ⟨rfl, rfl⟩ (by kernel_rfl) rfl
  (fun f fn hf hfn => by
   obtain rfl : f = 7 := Option.some.inj ((show Tryd.prog.funcNamed Rows.clocksOnRow.func = some 7 by kernel_rfl).symm.trans hf) |>.symm
   obtain rfl : fn = Tryd.f7 := (Option.some.inj (Tryd.func7.symm.trans hfn)).symm
   exact ⟨by kernel_rfl, fun j t ht => by
    rw [Tryd.params7] at ht
    have hm := Array.mem_of_getElem? ht
    exact (show ∀ u ∈ Tryd.f7.params.toList, Tryd.prog.wantsStandIn u = false by rw [Tryd.params7]; decide +kernel) t (by rw [Tryd.params7]; simpa using hm)⟩)
  (by kernel_rfl)
#print axioms proved
end Go.Proofs.YtjafllnbgfcchaaDoor.clocksOn
namespace Go.Proofs.YtjafllnbgfcchaaDoor
theorem clocksOn_card : Rows.ClocksOnCardSaid := clocksOn.proved
end Go.Proofs.YtjafllnbgfcchaaDoor
