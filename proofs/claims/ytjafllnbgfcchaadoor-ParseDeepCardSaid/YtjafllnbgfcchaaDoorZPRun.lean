/- What runs a reader over a text's tokens, and tells its fault, walked. -/
import Derived.Test.YtjafllnbgfcchaaDoorZPCaught
import Derived.Test.YtjafllnbgfcchaaDoorZGPEx
import Derived.Test.YtjafllnbgfcchaaDoorZGLexName
import Derived.Deep.DeepMust
namespace Go.Proofs.YtjafllnbgfcchaaDoor.Px
set_option linter.unusedVariables false
set_option linter.unusedSimpArgs false
open Go Go.RowKit Go.Proofs.YtjafllnbgfcchaaDoorW.PrintWords Go.Proofs.YtjafllnbgfcchaaDoorW.PrintLast Go.Proofs.YtjafllnbgfcchaaDoorW.PrintMore Go.Proofs.YtjafllnbgfcchaaDoor.Lx Go.Proofs.YtjafllnbgfcchaaDoor.XK
attribute [local go_sem ↓] Go.wp_at_zero Go.wp_at_succ
/-- All blocks that were there are as they were, but those of a list. -/
structure Spares (l : List Nat) (w w' : World) : Prop where
  os : w'.os = w.os
  tape : w'.tape = w.tape
  output : w'.output = w.output
  size : w.heap.size ≤ w'.heap.size
  keep : ∀ i, i < w.heap.size → i ∉ l → w'.heap[i]? = w.heap[i]?
section
variable {l l' : List Nat} {w w' w1 : World}
theorem Spares.refl : Spares l w w := ⟨rfl, rfl, rfl, Nat.le_refl _, fun _ _ _ => rfl⟩
theorem Spares.trans (h : Spares l w w1) (k : Spares l w1 w') : Spares l w w' :=
  ⟨k.os.trans h.os, k.tape.trans h.tape, k.output.trans h.output, Nat.le_trans h.size k.size, fun i hi hn => (k.keep i (Nat.lt_of_lt_of_le hi h.size) hn).trans (h.keep i hi hn)⟩
theorem Spares.more (h : Spares l w w') (hl : ∀ x ∈ l, x ∈ l') : Spares l' w w' := ⟨h.os, h.tape, h.output, h.size, fun i hi hn => h.keep i hi (fun h => hn (hl i h))⟩
theorem Spares.of_only {p : Nat} (h : Only p w w') (hp : p ∈ l) : Spares l w w' := ⟨h.os, h.tape, h.output, h.size, fun i hi hn => h.keep i hi (fun e => hn (e ▸ hp))⟩
theorem Spares.of_below (h : Below w.heap.size w w') : Spares l w w' := ⟨h.os, h.tape, h.output, h.size, fun i hi _ => h.block i hi⟩
theorem Spares.alloc {o : Obj} (h : Spares l w w') : Spares l w (w'.alloc o) := h.trans (.of_below (below_alloc (Below.refl _ _) o))
theorem Spares.store {g j : Nat} {v : Value} (hg : w.heap.size ≤ g ∨ g ∈ l) (h : Spares l w w') : Spares l w (w'.setCell ⟨g, j, none⟩ v) :=
  ⟨h.os, h.tape, h.output, by simpa [World.setCell] using h.size, fun i hi hn => (Below.heap_setCell _ _ _ i (fun e => hg.elim (fun hg => by have : i = g := e; omega) (fun hg => hn (by have : i = g := e; rw [this]; exact hg)))).trans (h.keep i hi hn)⟩
theorem Spares.blk {g : Nat} {o : Obj} (h : Spares l w w') (hg : w.heap[g]? = some o) (hn : g ∉ l) : w'.heap[g]? = some o := (h.keep g (blk_lt hg) hn).trans hg
theorem Spares.drewN {n : Nat} (h : Spares l w w') : Spares l w (w'.drewN n) := ⟨h.os, h.tape, h.output, h.size, h.keep⟩
theorem Spares.drew (h : Spares l w w') : Spares l w w'.drew := ⟨h.os, h.tape, h.output, h.size, h.keep⟩
end
/-- What a reader that hands nothing back, but lays what it has read in a variable, has done. -/
def DoneIs {α : Type} (p b : Nat) (toks : List LX.Tok) (w' : World) (r : PX.Res α) (V : World → α → Prop) (e : Ending) : Prop :=
  match r with
  | .ok x s' => PAt w' p b toks s' ∧ e = .returned (.tuple #[]) ∧ V w' x
  | .bad q er => e = Pan toks q er
  | .out => False
/-- Behind what was read must stand the end. -/
def thenEnd {α : Type} (r : PX.Res α) : PX.Res α := r.bind fun x s => (PX.atEnd s).bind fun _ s2 => .ok x s2
/-- What was told of it: in the variable g. -/
def ToldIn {α : Type} (g : Nat) (toks : List LX.Tok) (w' : World) (r : PX.Res α) (V : World → α → Prop) : Prop :=
  match r with
  | .ok x _ => w'.heap[g]? = some (.cells #[.int .i64 0, .int .i64 0] 27 (0, 0)) ∧ V w' x
  | .bad q er => w'.heap[g]? = some (.cells #[.int .i64 (atOf toks q), .int .i64 er] 27 (0, 0))
  | .out => False
theorem caught_told {α : Type} {p o g : Nat} {toks : List LX.Tok} {w w1 : World} {r : PX.Res α} {V : World → α → Prop} {q er : Nat} (hO : Spares [p, o] w w1) (hG : w1.heap[g]? = some (.cells #[.int .i64 0, .int .i64 0] 27 (0, 0))) (hr : r = .bad q er) :
    Spares [p, o, g] w (((w1.setCell ⟨g, 0, none⟩ (.int .i64 (atOf toks q))).setCell ⟨g, 1, none⟩ (.int .i64 er)).alloc (.cells #[.int .i64 (atOf toks q), .int .i64 er] 27)) ∧ ToldIn g toks (((w1.setCell ⟨g, 0, none⟩ (.int .i64 (atOf toks q))).setCell ⟨g, 1, none⟩ (.int .i64 er)).alloc (.cells #[.int .i64 (atOf toks q), .int .i64 er] 27)) r V := by
  subst hr
  have h1 : Spares [p, o, g] w w1 := hO.more (by intro x hx; simp at hx ⊢; omega)
  exact ⟨(Spares.store (.inr (by simp)) (Spares.store (.inr (by simp)) h1)).alloc, blk_alloc (blk_put (blk_put hG 0 _ rfl) 1 _ rfl) _⟩
set_option maxHeartbeats 4000000 in
set_option maxRecDepth 100000 in
theorem run1_walk {α : Type} (fd : FuncId) (caps rs : Array Value) (p pp b g d o : Nat) (toks : List LX.Tok) (s : List PX.T) (r : PX.Res α) (V : World → α → Prop) (w : World)
    (hP : PAt w p b toks s) (hf : ∀ args w, (callFunc fd args).run Tryd.prog w = .ok (.enter fd args) w)
    (hd : w.heap[d]? = some (.cells #[.func (.func fd) caps rs] 96 (0, 0))) (hpp : w.heap[pp]? = some (.cells #[.pointer (some ⟨p, 0, none⟩)] 85 (0, 0)))
    (hg : w.heap[g]? = some (.cells #[.int .i64 0, .int .i64 0] 27 (0, 0)))
    (hne : pp ≠ p ∧ pp ≠ o ∧ g ≠ p ∧ g ≠ o ∧ g ≠ pp ∧ o < w.heap.size) (hVm : ∀ W W' x, V W x → (∀ i, w.heap.size ≤ i → i < W.heap.size → W'.heap[i]? = W.heap[i]?) → W'.heap[o]? = W.heap[o]? → V W' x)
    (hdo : Calls Tryd.prog fd (caps.push (.pointer (some ⟨p, 0, none⟩)) ++ rs) w fun e w' => Spares [p, o] w w' ∧ DoneIs p b toks w' r V e) :
    Calls Tryd.prog 70 #[.pointer (some ⟨g, 0, none⟩), .pointer (some ⟨d, 0, none⟩), .pointer (some ⟨pp, 0, none⟩)] w fun e w' => e = .returned (.tuple #[]) ∧ Spares [p, o, g] w w' ∧ ToldIn g toks w' (thenEnd r) V := by
  have HP := Lib.hid hP
  have HG := Lib.hid hg
  have HV := Lib.hid hVm
  have HD := Lib.hid hdo
  have HN := Lib.hid hne
  have hd0 : w.cell? ⟨d, 0, none⟩ = some (.func (.func fd) caps rs) := blk_cell hd 0
  have hp0 : w.cell? ⟨pp, 0, none⟩ = some (.pointer (some ⟨p, 0, none⟩)) := blk_cell hpp 0
  have HPP := Lib.hid hpp
  clear hP hg hVm hdo hd hpp hne
  obtain ⟨Q, hQ⟩ : ∃ Q : Ending → World → Prop, Q = fun e w' => e = .returned (.tuple #[]) ∧ Spares [p, o, g] w w' ∧ ToldIn g toks w' (thenEnd r) V := ⟨_, rfl⟩
  rw [← hQ]
  have HQ := Lib.hid hQ
  clear hQ
  have hfd0 := fld0
  go_enter_defers Tryd.func70, Tryd.ntmps70
  go_wp2_with (fail)
  refine HD.out.mono ?_
  rintro e w1 ⟨hO, hm⟩
  have hG1 := hO.blk HG.out (by have := HN.out; simp; omega)
  have hPP1 := hO.blk HPP.out (by have := HN.out; simp; omega)
  have HO := Lib.hid hO
  have HG1 := Lib.hid hG1
  have HPP1 := Lib.hid hPP1
  clear hO hG1 hPP1
  cases hr : r with
  | out => rw [hr] at hm; exact hm.elim
  | bad q er =>
    rw [hr] at hm
    have hm2 : e = Pan toks q er := hm
    subst hm2
    unfold Pan
    (try simp only [Exit.inBlock, Exit.then])
    refine leaves_cons (f := 71) (args := #[.pointer (some ⟨g, 0, none⟩)]) (by simp) (by simp [go_sem]) ?_
    refine (caught_fault g (atOf toks q) er 0 0 _ HG1.out).mono ?_
    rintro e u' w'' ⟨rfl, rfl, rfl⟩
    have hfin := caught_told (toks := toks) (V := V) (r := thenEnd r) HO.out HG1.out (by rw [hr]; rfl)
    simp [Leaves, settle, results, Tryd.results70, go_sem]
    rw [HQ.out]
    exact ⟨rfl, hfin⟩
  | ok x s' =>
    rw [hr] at hm
    obtain ⟨hP1, rfl, hV1⟩ := hm
    have HP1 := Lib.hid hP1
    have HV1 := Lib.hid hV1
    clear hP1 hV1
    have hp1 : w1.cell? ⟨pp, 0, none⟩ = some (.pointer (some ⟨p, 0, none⟩)) := blk_cell HPP1.out 0
    go_wp2_with (fail)
    refine (peek_walk p b toks s' _ HP1.out).mono ?_
    rintro e w2 ⟨hb2, t, hp, hat, rfl⟩
    have hp2 : w2.cell? ⟨pp, 0, none⟩ = some (.pointer (some ⟨p, 0, none⟩)) := blk_cell (blk_below HPP1.out hb2) 0
    have HB2 := Lib.hid hb2
    have HT := Lib.hid (And.intro hp hat)
    clear hb2 hp hat
    unfold tokA tokV
    rcases Nat.decEq t.kind 5 with hk | hk
    · have hk1 : ((t.kind : Int) != 5) = true := by simp; omega
      have hn1 : ¬ ((t.kind : Int) = 5) := by omega
      have HK := Lib.hid hk
      clear hk
      go_wp2_with (fail)
      refine (fail_walk (α := α) p b toks s' _ (fun _ _ _ => True) (HP1.out.below HB2.out)).mono ?_
      rintro e w3 hm3
      have hO3 : Only p w2 w3 := hm3.1
      have he3 : e = Pan toks s'.length (if (PX.peek s').kind == 5 then 2 else 1) := hm3.2
      subst he3
      have hkk : ((PX.peek s').kind == 5) = false := by rw [HT.out.1]; simpa [tk] using HK.out
      rw [hkk]
      have hO4 : Spares [p, o] w w3 := HO.out.trans ((Spares.of_below HB2.out).trans (Spares.of_only hO3 (by simp)))
      have hG3 : w3.heap[g]? = some (.cells #[.int .i64 0, .int .i64 0] 27 (0, 0)) := hO3.blk (blk_below HG1.out HB2.out) HN.out.2.2.1
      have hE : thenEnd r = .bad s'.length 1 := by
        rw [hr]
        show (PX.atEnd s').bind _ = _
        unfold PX.atEnd
        rw [hkk]
        unfold PX.fail
        rw [hkk]
        rfl
      have HG3 := Lib.hid hG3
      have hfin := caught_told (toks := toks) (V := V) (r := thenEnd r) hO4 hG3 hE
      have HFIN := Lib.hid hfin
      clear hfin hO4 hO3 hm3 hG3
      unfold Pan
      (try simp only [Exit.inBlock, Exit.then])
      refine leaves_cons (f := 71) (args := #[.pointer (some ⟨g, 0, none⟩)]) (by simp) (by simp [go_sem]) ?_
      refine (caught_fault g (atOf toks s'.length) 1 0 0 _ HG3.out).mono ?_
      rintro e u' w'' ⟨rfl, rfl, rfl⟩
      simp [Leaves, settle, results, Tryd.results70, go_sem]
      rw [HQ.out]
      exact ⟨rfl, HFIN.out⟩
    · have hk1 : ((t.kind : Int) != 5) = false := by simp; omega
      have hn1 : ((t.kind : Int) = 5) := by omega
      have HK := Lib.hid hk
      clear hk
      go_wp2_with (fail)
      (try simp only [Exit.inBlock, Exit.then])
      refine leaves_cons (f := 71) (args := #[.pointer (some ⟨g, 0, none⟩)]) (by simp) (by simp [go_sem]) ?_
      refine (caught_idle g _).mono ?_
      rintro e u' w'' ⟨rfl, rfl, rfl⟩
      simp [Leaves, settle, results, Tryd.results70, go_sem]
      rw [HQ.out]
      have hkk : ((PX.peek s').kind == 5) = true := by rw [HT.out.1]; simpa [tk] using HK.out
      have hE : thenEnd r = .ok x s' := by
        rw [hr]
        show (PX.atEnd s').bind _ = _
        unfold PX.atEnd
        rw [hkk]
        rfl
      rw [hE]
      have hol : o < w1.heap.size := Nat.lt_of_lt_of_le HN.out.2.2.2.2.2 HO.out.size
      have hb3 := HB2.out
      exact ⟨rfl, ((HO.out.more (by intro x hx; simp at hx ⊢; omega)).trans (Spares.of_below hb3)), blk_below HG1.out hb3, HV.out w1 _ x HV1.out (fun i _ hi => hb3.block i hi) (hb3.block o hol)⟩
end Go.Proofs.YtjafllnbgfcchaaDoor.Px
