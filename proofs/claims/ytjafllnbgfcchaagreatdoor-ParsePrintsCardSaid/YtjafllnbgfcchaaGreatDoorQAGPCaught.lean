/- Joined of: PTok, PCaught, PRun, PRunF. -/
import Derived.Test.YtjafllnbgfcchaaGreatDoorQAGLexName
import Derived.Test.YtjafllnbgfcchaaGreatDoorQAPurP
import Derived.Test.YtjafllnbgfcchaaGreatDoorQAXKx0
import Derived.Tactics
import Derived.Tactics2
import Derived.Defers
import Derived.Recover
import Derived.Laws.Pointers
import Derived.Lib.Hide
import Derived.Below
import Derived.Test.YtjafllnbgfcchaaGreatDoorQAGPEx
import Derived.Deep.DeepMust
section
/- What the plain lexer's tokens are like, for the parser. -/
namespace Go.Proofs.YtjafllnbgfcchaaGreatDoor
def tkp (t : LX.Tok) : PX.T := ⟨t.kind, t.text, t.n⟩
theorem numGo_le : ∀ (l : LX.B) (n m : Nat), n ≤ 9223372036854775808 → LX.numGo n l = some m → m ≤ 9223372036854775808
 | [], n, m, hn, h => by
  rw [LX.numGo] at h
  injection h with h
  omega
 | c :: r, n, m, hn, h => by
  rw [LX.numGo] at h
  split at h
  ·cases h
  ·refine numGo_le r _ m ?_ h
   have := c.toNat_lt
   omega
theorem one_kind (l : LX.B) (k : Nat) (t : LX.B) (n : Nat) (h : LX.one l = .ok (k, t, n)) : (k = 1 ∨ k = 2 ∨ k = 3 ∨ k = 4) ∧ n ≤ 9223372036854775808 := by
 unfold LX.one at h
 split at h
 ·cases h
 ·split at h
  ·dsimp only at h
   split at h
   ·cases h; exact ⟨by omega, by omega⟩
   ·split at h
    ·cases h
    ·cases h; exact ⟨by omega, by omega⟩
  ·split at h
   ·dsimp only at h
    split at h
    ·cases h
    ·split at h
     ·cases h
     ·rename_i m hm
      cases h
      exact ⟨by omega, numGo_le _ _ _ (by omega) hm⟩
   ·split at h
    ·cases h; exact ⟨by omega, by omega⟩
    ·cases h
structure ToksOk (toks : List LX.Tok) : Prop where
 good : PX.Good (toks.map tkp)
 nums : ∀ t ∈ toks, t.n ≤ 9223372036854775808
theorem go_ok (total : Nat) : ∀ (k : Nat) (l : LX.B) (r : List LX.Tok), l.length < k → LX.go total k l = .ok r → ToksOk r ∧ r.length ≤ l.length + 1
 | 0, l, r, hk, h => by omega
 | k + 1, l, r, hk, h => by
  rw [LX.go] at h
  have hs := LX.skip_len false l
  split at h
  ·cases h
   refine ⟨⟨⟨[], tkp ⟨5, total, [], 0⟩, rfl, rfl, by simp⟩, ?_⟩, by simp⟩
   intro t ht
   simp at ht
   subst ht
   exact Nat.zero_le _
  ·cases ho : LX.one (LX.skip false l) with
   | error e => rw [ho] at h; cases h
   | ok q =>
    obtain ⟨kind, t, n⟩ := q
    rw [ho] at h
    dsimp only at h
    have hp := LX.one_pos _ _ _ _ ho
    have hkd := one_kind _ _ _ _ ho
    cases hg : LX.go total k ((LX.skip false l).drop t.length) with
    | error e => rw [hg] at h; cases h
    | ok r' =>
     rw [hg] at h
     cases h
     have ih := go_ok total k _ r' (by rw [List.length_drop]; omega) hg
     rw [List.length_drop] at ih
     obtain ⟨⟨⟨pre, e, he, he5, hpre⟩, hn⟩, hl⟩ := ih
     refine ⟨⟨⟨tkp ⟨kind, total - (LX.skip false l).length, t, n⟩ :: pre, e, by rw [List.map_cons, he]; rfl, he5, ?_⟩, ?_⟩, by rw [List.length_cons]; omega⟩
     ·intro x hx
      rcases List.mem_cons.1 hx with rfl | hx
      ·show kind ≠ 5
       omega
      ·exact hpre x hx
     ·intro x hx
      rcases List.mem_cons.1 hx with rfl | hx
      ·exact hkd.2
      ·exact hn x hx
theorem all_ok {s : LX.B} {r : List LX.Tok} (h : LX.all s = .ok r) : ToksOk r ∧ r.length ≤ 4001 := by
 unfold LX.all at h
 split at h
 ·cases h
 ·have := go_ok s.length (s.length + 1) s r (Nat.lt_succ_self _) h
  exact ⟨this.1, by omega⟩
theorem one_err (l : LX.B) (e : Nat) (h : LX.one l = .error e) : e ≠ 0 := by
 unfold LX.one at h
 split at h
 ·cases h; decide
 ·split at h
  ·dsimp only at h
   split at h
   ·cases h
   ·split at h
    ·cases h; decide
    ·cases h
  ·split at h
   ·dsimp only at h
    split at h
    ·cases h; decide
    ·split at h
     ·cases h; decide
     ·cases h
   ·split at h
    ·cases h
    ·cases h; decide
theorem go_err (total : Nat) : ∀ (k : Nat) (l : LX.B) (p c : Nat), LX.go total k l = .error (p, c) → c ≠ 0
 | 0, l, p, c, h => by rw [LX.go] at h; cases h
 | k + 1, l, p, c, h => by
  rw [LX.go] at h
  split at h
  ·cases h
  ·cases ho : LX.one (LX.skip false l) with
   | error e =>
    rw [ho] at h
    cases h
    exact one_err _ _ ho
   | ok q =>
    obtain ⟨kind, t, n⟩ := q
    rw [ho] at h
    dsimp only at h
    cases hg : LX.go total k ((LX.skip false l).drop t.length) with
    | error e => rw [hg] at h; cases h; exact go_err total k _ _ _ hg
    | ok r' => rw [hg] at h; cases h
theorem all_err {s : LX.B} {p c : Nat} (h : LX.all s = .error (p, c)) : c ≠ 0 := by
 unfold LX.all at h
 split at h
 ·cases h; decide
 ·exact go_err _ _ _ _ _ h
end Go.Proofs.YtjafllnbgfcchaaGreatDoor
end
section
/- The parser's deferred recover, walked. -/
namespace Go.Proofs.YtjafllnbgfcchaaGreatDoor.Px
set_option linter.unusedVariables false
open Go Go.RowKit
theorem caught_idle (g : Nat) (w : World) :
  CallsD Tryz.prog 77 #[.pointer (some ⟨g, 0, none⟩)] .returning w fun e u' w' => e = .returned (.tuple #[]) ∧ u' = .returning ∧ w' = w := by
 refine callsD_of_wpS Tryz.func77 rfl fun c₀ cs hu => ?_
 apply wpS_seq
 apply wpS_region
 simp [wpOpsS, go_sem, recoverD, hu, Tryz.ntmps77, Exit.thenS]
 refine wpS_of_wp ?_
 show Code.wp _ _ _ { tmps := #[.pointer (some ⟨g, 0, none⟩), undef, undef, undef, undef, .nilIface, undef, undef, undef, undef, undef, undef, undef, undef], defers := [] } _
 go_wp2
 cases c₀
 simp_all [bodyPostS, results, Tryz.results77]
set_option maxRecDepth 100000 in
theorem caught_fault (g : Nat) (a e0 x y : Int) (w : World) (h : w.heap[g]? = some (.cells #[.int .i64 x, .int .i64 y] 27 (0, 0))) :
  CallsD Tryz.prog 77 #[.pointer (some ⟨g, 0, none⟩)] (.panicking [{ v := .iface 27 (.agg #[.int .i64 a, .int .i64 e0]), recovered := false }]) w fun e u' w' =>
   e = .returned (.tuple #[]) ∧ u' = .panicking [{ v := .iface 27 (.agg #[.int .i64 a, .int .i64 e0]), recovered := true }] ∧ w' = (((w.setCell ⟨g, 0, none⟩ (.int .i64 a)).setCell ⟨g, 1, none⟩ (.int .i64 e0)).alloc (.cells #[.int .i64 a, .int .i64 e0] 27)) := by
 refine callsD_of_wpS Tryz.func77 rfl fun c₀ cs hu => ?_
 apply wpS_seq
 apply wpS_region
 simp [wpOpsS, go_sem, recoverD, hu, Tryz.ntmps77, Exit.thenS]
 refine wpS_of_wp ?_
 show Code.wp _ _ _ { tmps := #[.pointer (some ⟨g, 0, none⟩), undef, undef, undef, undef, .iface 27 (.agg #[.int .i64 a, .int .i64 e0]), undef, undef, undef, undef, undef, undef, undef, undef], defers := [] } _
 have hc0 : w.cell? ⟨g, 0, none⟩ = some (.int .i64 x) := by unfold World.cell?; rw [h]; rfl
 have hc1 : w.cell? ⟨g, 1, none⟩ = some (.int .i64 y) := by unfold World.cell?; rw [h]; rfl
 have hz : ∀ j, w.frozen? ⟨g, j, none⟩ = false := by intro j; unfold World.frozen?; rw [h]; rfl
 have hta : ∀ v W, Sem.run Tryz.prog (Instr.typeAssert (.iface 27 v) 20 27 true) W = .ok (.tuple #[v, .bool true]) W := fun v W => by kernel_rfl
 have hlt : g < w.heap.size := (Array.getElem?_eq_some_iff.1 h).1
 have hne : ¬ w.heap.size = g := by omega
 have hne2 : ¬ g = w.heap.size := by omega
 go_wp2
 simp [bodyPostS, results, Tryz.results77]
end Go.Proofs.YtjafllnbgfcchaaGreatDoor.Px
end
section
/- What runs a reader over a text's tokens, and tells its fault, walked. -/
namespace Go.Proofs.YtjafllnbgfcchaaGreatDoor.Px
set_option linter.unusedVariables false
set_option linter.unusedSimpArgs false
open Go Go.RowKit Go.Proofs.YtjafllnbgfcchaaGreatDoorW.PrintWords Go.Proofs.YtjafllnbgfcchaaGreatDoorW.PrintLast Go.Proofs.YtjafllnbgfcchaaGreatDoorW.PrintMore Go.Proofs.YtjafllnbgfcchaaGreatDoor.Lx Go.Proofs.YtjafllnbgfcchaaGreatDoor.XK
attribute [local go_sem ↓] Go.wp_at_zero Go.wp_at_succ
structure Spares (l : List Nat) (w w' : World) : Prop where
 os : w'.os = w.os
 tape : w'.tape = w.tape
 output : w'.output = w.output
 size : w.heap.size ≤ w'.heap.size
 keep : ∀ i, i < w.heap.size → i ∉ l → w'.heap[i]? = w.heap[i]?
section
variable {l l' : List Nat} {w w' w1 : World}
theorem Spares.refl : Spares l w w := ⟨rfl, rfl, rfl, Nat.le_refl _, fun _ _ _ => rfl⟩
theorem Spares.trans (h : Spares l w w1) (k : Spares l w1 w') : Spares l w w' :=
 ⟨k.os.trans h.os, k.tape.trans h.tape, k.output.trans h.output, Nat.le_trans h.size k.size, fun i hi hn => (k.keep i (Nat.lt_of_lt_of_le hi h.size) hn).trans (h.keep i hi hn)⟩
theorem Spares.more (h : Spares l w w') (hl : ∀ x ∈ l, x ∈ l') : Spares l' w w' := ⟨h.os, h.tape, h.output, h.size, fun i hi hn => h.keep i hi (fun h => hn (hl i h))⟩
theorem Spares.of_only {p : Nat} (h : Only p w w') (hp : p ∈ l) : Spares l w w' := ⟨h.os, h.tape, h.output, h.size, fun i hi hn => h.keep i hi (fun e => hn (e ▸ hp))⟩
theorem Spares.of_below (h : Below w.heap.size w w') : Spares l w w' := ⟨h.os, h.tape, h.output, h.size, fun i hi _ => h.block i hi⟩
theorem Spares.alloc {o : Obj} (h : Spares l w w') : Spares l w (w'.alloc o) := h.trans (.of_below (below_alloc (Below.refl _ _) o))
theorem Spares.store {g j : Nat} {v : Value} (hg : w.heap.size ≤ g ∨ g ∈ l) (h : Spares l w w') : Spares l w (w'.setCell ⟨g, j, none⟩ v) :=
 ⟨h.os, h.tape, h.output, by simpa [World.setCell] using h.size, fun i hi hn => (Below.heap_setCell _ _ _ i (fun e => hg.elim (fun hg => by have : i = g := e; omega) (fun hg => hn (by have : i = g := e; rw [this]; exact hg)))).trans (h.keep i hi hn)⟩
theorem Spares.blk {g : Nat} {o : Obj} (h : Spares l w w') (hg : w.heap[g]? = some o) (hn : g ∉ l) : w'.heap[g]? = some o := (h.keep g (blk_lt hg) hn).trans hg
theorem Spares.drewN {n : Nat} (h : Spares l w w') : Spares l w (w'.drewN n) := ⟨h.os, h.tape, h.output, h.size, h.keep⟩
theorem Spares.drew (h : Spares l w w') : Spares l w w'.drew := ⟨h.os, h.tape, h.output, h.size, h.keep⟩
end
def DoneIs {α : Type} (p b : Nat) (toks : List LX.Tok) (w' : World) (r : PX.Res α) (V : World → α → Prop) (e : Ending) : Prop :=
 match r with
 | .ok x s' => PAt w' p b toks s' ∧ e = .returned (.tuple #[]) ∧ V w' x
 | .bad q er => e = Pan toks q er
 | .out => False
def thenEnd {α : Type} (r : PX.Res α) : PX.Res α := r.bind fun x s => (PX.atEnd s).bind fun _ s2 => .ok x s2
def ToldIn {α : Type} (g : Nat) (toks : List LX.Tok) (w' : World) (r : PX.Res α) (V : World → α → Prop) : Prop :=
 match r with
 | .ok x _ => w'.heap[g]? = some (.cells #[.int .i64 0, .int .i64 0] 27 (0, 0)) ∧ V w' x
 | .bad q er => w'.heap[g]? = some (.cells #[.int .i64 (atOf toks q), .int .i64 er] 27 (0, 0))
 | .out => False
theorem caught_told {α : Type} {p o g : Nat} {toks : List LX.Tok} {w w1 : World} {r : PX.Res α} {V : World → α → Prop} {q er : Nat} (hO : Spares [p, o] w w1) (hG : w1.heap[g]? = some (.cells #[.int .i64 0, .int .i64 0] 27 (0, 0))) (hr : r = .bad q er) :
  Spares [p, o, g] w (((w1.setCell ⟨g, 0, none⟩ (.int .i64 (atOf toks q))).setCell ⟨g, 1, none⟩ (.int .i64 er)).alloc (.cells #[.int .i64 (atOf toks q), .int .i64 er] 27)) ∧ ToldIn g toks (((w1.setCell ⟨g, 0, none⟩ (.int .i64 (atOf toks q))).setCell ⟨g, 1, none⟩ (.int .i64 er)).alloc (.cells #[.int .i64 (atOf toks q), .int .i64 er] 27)) r V := by
 subst hr
 have h1 : Spares [p, o, g] w w1 := hO.more (by intro x hx; simp at hx ⊢; omega)
 exact ⟨(Spares.store (.inr (by simp)) (Spares.store (.inr (by simp)) h1)).alloc, blk_alloc (blk_put (blk_put hG 0 _ rfl) 1 _ rfl) _⟩
set_option maxHeartbeats 4000000 in
set_option maxRecDepth 100000 in
theorem run1_walk {α : Type} (fd : FuncId) (caps rs : Array Value) (p pp b g d o : Nat) (toks : List LX.Tok) (s : List PX.T) (r : PX.Res α) (V : World → α → Prop) (w : World)
  (hP : PAt w p b toks s) (hf : ∀ args w, (callFunc fd args).run Tryz.prog w = .ok (.enter fd args) w)
  (hd : w.heap[d]? = some (.cells #[.func (.func fd) caps rs] 95 (0, 0))) (hpp : w.heap[pp]? = some (.cells #[.pointer (some ⟨p, 0, none⟩)] 88 (0, 0)))
  (hg : w.heap[g]? = some (.cells #[.int .i64 0, .int .i64 0] 27 (0, 0)))
  (hne : pp ≠ p ∧ pp ≠ o ∧ g ≠ p ∧ g ≠ o ∧ g ≠ pp ∧ o < w.heap.size) (hVm : ∀ W W' x, V W x → (∀ i, w.heap.size ≤ i → i < W.heap.size → W'.heap[i]? = W.heap[i]?) → W'.heap[o]? = W.heap[o]? → V W' x)
  (hdo : Calls Tryz.prog fd (caps.push (.pointer (some ⟨p, 0, none⟩)) ++ rs) w fun e w' => Spares [p, o] w w' ∧ DoneIs p b toks w' r V e) :
  Calls Tryz.prog 76 #[.pointer (some ⟨g, 0, none⟩), .pointer (some ⟨d, 0, none⟩), .pointer (some ⟨pp, 0, none⟩)] w fun e w' => e = .returned (.tuple #[]) ∧ Spares [p, o, g] w w' ∧ ToldIn g toks w' (thenEnd r) V := by
 have HP := Lib.hid hP
 have HG := Lib.hid hg
 have HV := Lib.hid hVm
 have HD := Lib.hid hdo
 have HN := Lib.hid hne
 have hd0 : w.cell? ⟨d, 0, none⟩ = some (.func (.func fd) caps rs) := blk_cell hd 0
 have hp0 : w.cell? ⟨pp, 0, none⟩ = some (.pointer (some ⟨p, 0, none⟩)) := blk_cell hpp 0
 have HPP := Lib.hid hpp
 clear hP hg hVm hdo hd hpp hne
 obtain ⟨Q, hQ⟩ : ∃ Q : Ending → World → Prop, Q = fun e w' => e = .returned (.tuple #[]) ∧ Spares [p, o, g] w w' ∧ ToldIn g toks w' (thenEnd r) V := ⟨_, rfl⟩
 rw [← hQ]
 have HQ := Lib.hid hQ
 clear hQ
 have hfd0 := fld0
 go_enter_defers Tryz.func76, Tryz.ntmps76
 go_wp2_with (fail)
 refine HD.out.mono ?_
 rintro e w1 ⟨hO, hm⟩
 have hG1 := hO.blk HG.out (by have := HN.out; simp; omega)
 have hPP1 := hO.blk HPP.out (by have := HN.out; simp; omega)
 have HO := Lib.hid hO
 have HG1 := Lib.hid hG1
 have HPP1 := Lib.hid hPP1
 clear hO hG1 hPP1
 cases hr : r with
 | out => rw [hr] at hm; exact hm.elim
 | bad q er =>
  rw [hr] at hm
  have hm2 : e = Pan toks q er := hm
  subst hm2
  unfold Pan
  (try simp only [Exit.inBlock, Exit.then])
  refine leaves_cons (f := 77) (args := #[.pointer (some ⟨g, 0, none⟩)]) (by simp) (by simp [go_sem]) ?_
  refine (caught_fault g (atOf toks q) er 0 0 _ HG1.out).mono ?_
  rintro e u' w'' ⟨rfl, rfl, rfl⟩
  have hfin := caught_told (toks := toks) (V := V) (r := thenEnd r) HO.out HG1.out (by rw [hr]; rfl)
  simp [Leaves, settle, results, Tryz.results76, go_sem]
  rw [HQ.out]
  exact ⟨rfl, hfin⟩
 | ok x s' =>
  rw [hr] at hm
  obtain ⟨hP1, rfl, hV1⟩ := hm
  have HP1 := Lib.hid hP1
  have HV1 := Lib.hid hV1
  clear hP1 hV1
  have hp1 : w1.cell? ⟨pp, 0, none⟩ = some (.pointer (some ⟨p, 0, none⟩)) := blk_cell HPP1.out 0
  go_wp2_with (fail)
  refine (peek_walk p b toks s' _ HP1.out).mono ?_
  rintro e w2 ⟨hb2, t, hp, hat, rfl⟩
  have hp2 : w2.cell? ⟨pp, 0, none⟩ = some (.pointer (some ⟨p, 0, none⟩)) := blk_cell (blk_below HPP1.out hb2) 0
  have HB2 := Lib.hid hb2
  have HT := Lib.hid (And.intro hp hat)
  clear hb2 hp hat
  unfold tokA tokV
  rcases Nat.decEq t.kind 5 with hk | hk
  ·have hk1 : ((t.kind : Int) != 5) = true := by simp; omega
   have hn1 : ¬ ((t.kind : Int) = 5) := by omega
   have HK := Lib.hid hk
   clear hk
   go_wp2_with (fail)
   refine (fail_walk (α := α) p b toks s' _ (fun _ _ _ => True) (HP1.out.below HB2.out)).mono ?_
   rintro e w3 hm3
   have hO3 : Only p w2 w3 := hm3.1
   have he3 : e = Pan toks s'.length (if (PX.peek s').kind == 5 then 2 else 1) := hm3.2
   subst he3
   have hkk : ((PX.peek s').kind == 5) = false := by rw [HT.out.1]; simpa [tk] using HK.out
   rw [hkk]
   have hO4 : Spares [p, o] w w3 := HO.out.trans ((Spares.of_below HB2.out).trans (Spares.of_only hO3 (by simp)))
   have hG3 : w3.heap[g]? = some (.cells #[.int .i64 0, .int .i64 0] 27 (0, 0)) := hO3.blk (blk_below HG1.out HB2.out) HN.out.2.2.1
   have hE : thenEnd r = .bad s'.length 1 := by
    rw [hr]
    show (PX.atEnd s').bind _ = _
    unfold PX.atEnd
    rw [hkk]
    unfold PX.fail
    rw [hkk]
    rfl
   have HG3 := Lib.hid hG3
   have hfin := caught_told (toks := toks) (V := V) (r := thenEnd r) hO4 hG3 hE
   have HFIN := Lib.hid hfin
   clear hfin hO4 hO3 hm3 hG3
   unfold Pan
   (try simp only [Exit.inBlock, Exit.then])
   refine leaves_cons (f := 77) (args := #[.pointer (some ⟨g, 0, none⟩)]) (by simp) (by simp [go_sem]) ?_
   refine (caught_fault g (atOf toks s'.length) 1 0 0 _ HG3.out).mono ?_
   rintro e u' w'' ⟨rfl, rfl, rfl⟩
   simp [Leaves, settle, results, Tryz.results76, go_sem]
   rw [HQ.out]
   exact ⟨rfl, HFIN.out⟩
  ·have hk1 : ((t.kind : Int) != 5) = false := by simp; omega
   have hn1 : ((t.kind : Int) = 5) := by omega
   have HK := Lib.hid hk
   clear hk
   go_wp2_with (fail)
   (try simp only [Exit.inBlock, Exit.then])
   refine leaves_cons (f := 77) (args := #[.pointer (some ⟨g, 0, none⟩)]) (by simp) (by simp [go_sem]) ?_
   refine (caught_idle g _).mono ?_
   rintro e u' w'' ⟨rfl, rfl, rfl⟩
   simp [Leaves, settle, results, Tryz.results76, go_sem]
   rw [HQ.out]
   have hkk : ((PX.peek s').kind == 5) = true := by rw [HT.out.1]; simpa [tk] using HK.out
   have hE : thenEnd r = .ok x s' := by
    rw [hr]
    show (PX.atEnd s').bind _ = _
    unfold PX.atEnd
    rw [hkk]
    rfl
   rw [hE]
   have hol : o < w1.heap.size := Nat.lt_of_lt_of_le HN.out.2.2.2.2.2 HO.out.size
   have hb3 := HB2.out
   exact ⟨rfl, ((HO.out.more (by intro x hx; simp at hx ⊢; omega)).trans (Spares.of_below hb3)), blk_below HG1.out hb3, HV.out w1 _ x HV1.out (fun i _ hi => hb3.block i hi) (hb3.block o hol)⟩
end Go.Proofs.YtjafllnbgfcchaaGreatDoor.Px
end
section
/- The parser's run over a text, walked. -/
namespace Go.Proofs.YtjafllnbgfcchaaGreatDoor.Px
set_option linter.unusedVariables false
set_option linter.unusedSimpArgs false
open Go Go.RowKit Go.Proofs.YtjafllnbgfcchaaGreatDoorW.PrintWords Go.Proofs.YtjafllnbgfcchaaGreatDoorW.PrintLast Go.Proofs.YtjafllnbgfcchaaGreatDoorW.PrintMore Go.Proofs.YtjafllnbgfcchaaGreatDoor.Lx Go.Proofs.YtjafllnbgfcchaaGreatDoor.XK
attribute [local go_sem ↓] Go.wp_at_zero Go.wp_at_succ
theorem tokCells_get (l : List LX.Tok) (j : Nat) (t : LX.Tok) (h : l[j]? = some t) (i : Nat) (hi : i < 4) : (tokCells l)[j * 4 + i]? = (tokV t.kind t.at_ t.text t.n).toList[i]? := by
 induction l generalizing j with
 | nil => simp at h
 | cons a l ih =>
  have hc : tokCells (a :: l) = (tokV a.kind a.at_ a.text a.n).toList ++ tokCells l := rfl
  rw [hc]
  have h4 : (tokV a.kind a.at_ a.text a.n).toList.length = 4 := rfl
  cases j with
  | zero =>
   simp only [List.getElem?_cons_zero, Option.some.injEq] at h
   subst h
   rw [Nat.zero_mul, Nat.zero_add, List.getElem?_append_left (by omega)]
  | succ j =>
   rw [List.getElem?_append_right (by omega), h4, show (j + 1) * 4 + i - 4 = j * 4 + i from by omega]
   exact ih j (by simpa using h)
theorem row_of_own {w : World} {base : Nat} {v : Value} {r : List LX.Tok} (h : w.ownsRow base 35 4 v r.length (tokCells r)) (hr : 0 < r.length) :
  ∃ b c, v = .slice (some ⟨b, 0, none⟩) r.length c ∧ r.length ≤ c ∧ base ≤ b ∧ b < w.heap.size ∧ RowAt w b r := by
 obtain ⟨hlen, ⟨_, hn⟩ | ⟨g, cap, cur, rfl, hb, hblk, hnc, hmx, hsz, htk⟩⟩ := h
 ·omega
 ·refine ⟨g, cap, rfl, hnc, hb, blk_lt hblk, fun j t hj => ?_⟩
  have key : ∀ i, i < 4 → ∀ u, (tokV t.kind t.at_ t.text t.n).toList[i]? = some u → w.cell? ⟨g, j * 4 + i, none⟩ = some u := by
   intro i hi u hu
   rw [blk_cell hblk (j * 4 + i)]
   have h1 := tokCells_get r j t hj i hi
   rw [hu, ← htk] at h1
   have h2 : (cur.toList.take (r.length * 4))[j * 4 + i]? = some u := h1
   rw [List.getElem?_take] at h2
   split at h2
   ·simpa using h2
   ·cases h2
  exact ⟨key 0 (by omega) _ rfl, key 1 (by omega) _ rfl, key 2 (by omega) _ rfl, key 3 (by omega) _ rfl⟩
theorem Spares.cut {w W w2 : World} {p o g : Nat} (h : Below w.heap.size w W) (k : Spares [p, o, g] W w2) (hp : w.heap.size ≤ p) (hg : w.heap.size ≤ g) : Spares [o] w w2 :=
 ⟨k.os.trans h.os, k.tape.trans h.tape, k.output.trans h.output, Nat.le_trans h.size k.size, fun i hi hn => (k.keep i (Nat.lt_of_lt_of_le hi h.size) (by simp at hn ⊢; omega)).trans (h.block i hi)⟩
def RunIs {α : Type} (text : LX.B) (rdr : List LX.Tok → PX.Res α) (V : List LX.Tok → Nat → World → α → Prop) (w w' : World) (a er : Int) : Prop :=
 match LX.all text with
 | .error (k, c) => a = k ∧ er = c
 | .ok toks => match thenEnd (rdr toks) with
  | .ok x _ => a = 0 ∧ er = 0 ∧ ∃ n1, w.heap.size ≤ n1 ∧ V toks n1 w' x
  | .bad q e => a = atOf toks q ∧ er = e
  | .out => False
set_option maxHeartbeats 4000000 in
set_option maxRecDepth 100000 in
theorem run_walk {α : Type} (fd : FuncId) (caps rs : Array Value) (o : Nat) (text : ByteArray) (rdr : List LX.Tok → PX.Res α) (V : List LX.Tok → Nat → World → α → Prop) (w : World)
  (hT : Tabs w) (hs : text.size ≤ 4000) (ho : o < w.heap.size) (hf : ∀ args w, (callFunc fd args).run Tryz.prog w = .ok (.enter fd args) w)
  (hVm : ∀ toks n1 W W' x, V toks n1 W x → (∀ i, n1 ≤ i → i < W.heap.size → W'.heap[i]? = W.heap[i]?) → W'.heap[o]? = W.heap[o]? → V toks n1 W' x)
  (hdo : ∀ toks p b W, LX.all text.data.toList = .ok toks → PAt W p b toks (toks.map tk) → w.heap.size ≤ p → w.heap.size ≤ b → Below w.heap.size w W → Calls Tryz.prog fd (caps.push (.pointer (some ⟨p, 0, none⟩)) ++ rs) W fun e W' => Spares [p, o] W W' ∧ DoneIs p b toks W' (rdr toks) (V toks W.heap.size) e) :
  Calls Tryz.prog 41 #[.string text, .func (.func fd) caps rs] w fun e w' => ∃ a er, e = .returned (.agg #[.int .i64 a, .int .i64 er]) ∧ Spares [o] w w' ∧ RunIs text.data.toList rdr V w w' a er := by
 obtain ⟨Q, hQ⟩ : ∃ Q : Ending → World → Prop, Q = fun e w' => ∃ a er, e = .returned (.agg #[.int .i64 a, .int .i64 er]) ∧ Spares [o] w w' ∧ RunIs text.data.toList rdr V w w' a er := ⟨_, rfl⟩
 rw [← hQ]
 have HQ := Lib.hid hQ
 have HV := Lib.hid hVm
 have HD := Lib.hid hdo
 have HT := Lib.hid hT
 have HL := Lib.hid (And.intro hs ho)
 clear hQ hVm hdo hT hs ho
 have hmf : ∀ (fn : Fn) (first cap : Array Value) (w : World), (Instr.makeFunc fn first cap).run Tryz.prog w = .ok (.func fn first cap) w := fun _ _ _ _ => rfl
 have hf1 : ∀ args w, (callFunc 76 args).run Tryz.prog w = .ok (.enter 76 args) w := enters_of Tryz.func76 (by kernel_rfl) rfl
 go_enter Tryz.func41, Tryz.ntmps41
 go_wp2_with (fail)
 refine (all_walk text _ (HT.out.below (below_alloc (below_alloc (Below.refl _ _) _) _)) HL.out.1).mono ?_
 rintro e w1 ⟨hb1, hm⟩
 have hb01 := below_step (below_alloc (below_alloc (Below.refl w.heap.size w) (.cells #[.func (.func fd) caps rs] 95)) (.cells #[.int .i64 0, .int .i64 0] 27)) hb1
 have hres : w1.heap[w.heap.size + 1]? = some (.cells #[.int .i64 0, .int .i64 0] 27 (0, 0)) := blk_below (by have h := blk_new (w.alloc (.cells #[.func (.func fd) caps rs] 95)) (.cells #[.int .i64 0, .int .i64 0] 27); simpa using h) hb1
 have hdb : w1.heap[w.heap.size]? = some (.cells #[.func (.func fd) caps rs] 95 (0, 0)) := blk_below (blk_alloc (blk_new w _) _) hb1
 have lz : w.heap.size + 1 < w1.heap.size := blk_lt hres
 have HB1 := Lib.hid (And.intro hb01 (And.intro hres hdb))
 cases hx : LX.all text.data.toList with
 | error q =>
  obtain ⟨k, c⟩ := q
  rw [hx] at hm
  have hm2 : e = .returned (.tuple #[.slice none 0 0, .agg #[.int .i64 k, .int .i64 c]]) := hm
  subst hm2
  have hc0 := all_err hx
  have hc1 : ((c : Int) != 0) = true := by simp; omega
  have hc2 : ¬ ((c : Int) = 0) := by omega
  obtain ⟨r0, r1, rf⟩ := blk2p hres
  clear hb1 hm hb01 hres hdb
  go_wp2_with (fail)
  (try simp only [Exit.inBlock, Exit.then])
  refine bodyPost_ret (results_cell_row rfl _ _ (w.heap.size + 1) 27 #[.int .i64 k, .int .i64 c] (0, 0) _ rfl (blk_alloc (blk_set2 HB1.out.2.1 _ _) _) Tryz.underlying27 rfl (by kernel_rfl)) rfl ?_
  rw [HQ.out]
  refine ⟨k, c, rfl, ?_, ?_⟩
  ·exact ((Spares.of_below HB1.out.1).store (.inl (by omega)) |>.store (.inl (by omega))).alloc
  ·unfold RunIs
   rw [hx]
   exact ⟨rfl, rfl⟩
 | ok toks =>
  rw [hx] at hm
  obtain ⟨v, rfl, hown⟩ := hm
  have hok := all_ok hx
  have hpos : 0 < toks.length := by have := hok.1.good.pos; rw [List.length_map] at this; exact this
  obtain ⟨b, c, rfl, hc, hbb, hbl, hrow⟩ := row_of_own hown hpos
  have HROW := Lib.hid (And.intro hrow (And.intro hok hc))
  have hbw : w.heap.size ≤ b := by have := hbb; simp at this; omega
  clear hb1 hb01 hres hdb hown hrow hok hc hbb
  go_wp2_with (fail)
  obtain ⟨W, hW⟩ : ∃ W, W = ((w1.alloc (.cells #[.int .i64 0, .int .i64 0] 27)).alloc (.cells #[.slice (some ⟨b, 0, none⟩) toks.length c, .int .i64 0] 94)).alloc (.cells #[.pointer (some ⟨w1.heap.size + 1, 0, none⟩)] 88) := ⟨_, rfl⟩
  rw [← hW]
  have hsz1 : (w1.alloc (.cells #[.int .i64 0, .int .i64 0] 27)).heap.size = w1.heap.size + 1 := by simp
  have hsz2 : ((w1.alloc (.cells #[.int .i64 0, .int .i64 0] 27)).alloc (.cells #[.slice (some ⟨b, 0, none⟩) toks.length c, .int .i64 0] 94)).heap.size = w1.heap.size + 1 + 1 := by simp
  have hg : W.heap[w1.heap.size]? = some (.cells #[.int .i64 0, .int .i64 0] 27 (0, 0)) := by rw [hW]; exact blk_alloc (blk_alloc (blk_new _ _) _) _
  have hp : W.heap[w1.heap.size + 1]? = some (.cells #[.slice (some ⟨b, 0, none⟩) toks.length c, .int .i64 0] 94 (0, 0)) := by
   rw [hW, ← hsz1]
   exact blk_alloc (blk_new _ _) _
  have hpp : W.heap[w1.heap.size + 1 + 1]? = some (.cells #[.pointer (some ⟨w1.heap.size + 1, 0, none⟩)] 88 (0, 0)) := by
   rw [hW, ← hsz2]
   exact blk_new _ _
  have hbW : Below w1.heap.size w1 W := by
   rw [hW]
   exact below_alloc (below_alloc (below_alloc (Below.refl _ _) _) _) _
  clear hW hsz1 hsz2
  have hPW : PAt W (w1.heap.size + 1) b toks (toks.map tk) := ⟨⟨c, 0, hp, HROW.out.2.2, by simp, rfl⟩, HROW.out.1.heap (hbW.block b hbl), HROW.out.2.1.1.good, by omega, Nat.lt_of_lt_of_le hbl hbW.size, HROW.out.2.1.2, HROW.out.2.1.1.nums⟩
  have hO := HL.out.2
  have hdW := blk_below HB1.out.2.2 hbW
  have hrW := blk_below HB1.out.2.1 hbW
  have hlt := blk_lt hpp
  have hwW : Below w.heap.size w W := HB1.out.1.trans (hbW.mono (by omega))
  have HX := Lib.hid (And.intro hrW hwW)
  refine (run1_walk fd caps rs (w1.heap.size + 1) (w1.heap.size + 1 + 1) b w1.heap.size w.heap.size o toks (toks.map tk) (rdr toks) (V toks W.heap.size) W hPW hf hdW hpp hg (by omega) (HV.out toks W.heap.size) (HD.out toks _ b W hx hPW (by omega) hbw hwW)).mono ?_
  rintro e w2 ⟨rfl, hS2, hT2⟩
  have hr2 := hS2.blk HX.out.1 (by simp; omega)
  obtain ⟨r0, r1, rf⟩ := blk2p hr2
  have lz2 := hS2.size
  have HS2 := Lib.hid (And.intro hS2 hr2)
  clear hPW hg hp hpp hdW hrW hS2 hr2 hwW
  have hS3 : Spares [o] w w2 := Spares.cut HX.out.2 HS2.out.1 (by omega) (by omega)
  have fin : ∀ (a er : Int), Spares [o] w ((w2.setCell ⟨w.heap.size + 1, 0, none⟩ (.int .i64 a)).setCell ⟨w.heap.size + 1, 1, none⟩ (.int .i64 er)) := fun a er => (hS3.store (.inl (by omega))).store (.inl (by omega))
  have keep : ∀ (a er : Int) (i : Nat), i ≠ w.heap.size + 1 → ((w2.setCell ⟨w.heap.size + 1, 0, none⟩ (.int .i64 a)).setCell ⟨w.heap.size + 1, 1, none⟩ (.int .i64 er)).heap[i]? = w2.heap[i]? := fun a er i hi => (Below.heap_setCell _ _ _ i hi).trans (Below.heap_setCell _ _ _ i hi)
  have HFIN := Lib.hid (And.intro fin keep)
  have hWs : w1.heap.size ≤ W.heap.size := hbW.size
  clear fin keep hS3 hbW
  cases hr : thenEnd (rdr toks) with
  | out => rw [hr] at hT2; exact hT2.elim
  | bad q er =>
   rw [hr] at hT2
   have hG : w2.heap[w1.heap.size]? = some (.cells #[.int .i64 (atOf toks q), .int .i64 er] 27 (0, 0)) := hT2
   obtain ⟨g0, g1, gf⟩ := blk2p hG
   clear hG hT2
   go_wp2_with (fail)
   (try simp only [Exit.inBlock, Exit.then])
   refine bodyPost_ret (results_cell_row rfl _ _ (w.heap.size + 1) 27 #[.int .i64 (atOf toks q), .int .i64 er] (0, 0) _ rfl (blk_set2 HS2.out.2 _ _) Tryz.underlying27 rfl (by kernel_rfl)) rfl ?_
   rw [HQ.out]
   refine ⟨_, _, rfl, HFIN.out.1 _ _, ?_⟩
   unfold RunIs
   rw [hx]
   dsimp only
   rw [hr]
   exact ⟨rfl, rfl⟩
  | ok x s' =>
   rw [hr] at hT2
   obtain ⟨hG, hV2⟩ := hT2
   have HV2 := Lib.hid hV2
   obtain ⟨g0, g1, gf⟩ := blk2p hG
   clear hG hV2
   go_wp2_with (fail)
   (try simp only [Exit.inBlock, Exit.then])
   refine bodyPost_ret (results_cell_row rfl _ _ (w.heap.size + 1) 27 #[.int .i64 0, .int .i64 0] (0, 0) _ rfl (blk_set2 HS2.out.2 _ _) Tryz.underlying27 rfl (by kernel_rfl)) rfl ?_
   rw [HQ.out]
   refine ⟨_, _, rfl, HFIN.out.1 _ _, ?_⟩
   unfold RunIs
   rw [hx]
   dsimp only
   rw [hr]
   exact ⟨rfl, rfl, W.heap.size, by omega, HV.out _ _ _ _ _ HV2.out (fun i h1 h2 => HFIN.out.2 _ _ i (by omega)) (HFIN.out.2 _ _ o (by omega))⟩
end Go.Proofs.YtjafllnbgfcchaaGreatDoor.Px
end
