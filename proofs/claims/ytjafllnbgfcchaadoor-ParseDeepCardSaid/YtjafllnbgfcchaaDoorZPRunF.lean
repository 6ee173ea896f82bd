/- The parser's run over a text, walked. -/
import Derived.Test.YtjafllnbgfcchaaDoorZPRun
import Derived.Test.YtjafllnbgfcchaaDoorZPTok
namespace Go.Proofs.YtjafllnbgfcchaaDoor.Px
set_option linter.unusedVariables false
set_option linter.unusedSimpArgs false
open Go Go.RowKit Go.Proofs.YtjafllnbgfcchaaDoorW.PrintWords Go.Proofs.YtjafllnbgfcchaaDoorW.PrintLast Go.Proofs.YtjafllnbgfcchaaDoorW.PrintMore Go.Proofs.YtjafllnbgfcchaaDoor.Lx Go.Proofs.YtjafllnbgfcchaaDoor.XK
attribute [local go_sem ↓] Go.wp_at_zero Go.wp_at_succ
theorem tokCells_get (l : List LX.Tok) (j : Nat) (t : LX.Tok) (h : l[j]? = some t) (i : Nat) (hi : i < 4) : (tokCells l)[j * 4 + i]? = (tokV t.kind t.at_ t.text t.n).toList[i]? := by
  induction l generalizing j with
  | nil => simp at h
  | cons a l ih =>
    have hc : tokCells (a :: l) = (tokV a.kind a.at_ a.text a.n).toList ++ tokCells l := rfl
    rw [hc]
    have h4 : (tokV a.kind a.at_ a.text a.n).toList.length = 4 := rfl
    cases j with
    | zero =>
      simp only [List.getElem?_cons_zero, Option.some.injEq] at h
      subst h
      rw [Nat.zero_mul, Nat.zero_add, List.getElem?_append_left (by omega)]
    | succ j =>
      rw [List.getElem?_append_right (by omega), h4, show (j + 1) * 4 + i - 4 = j * 4 + i from by omega]
      exact ih j (by simpa using h)
theorem row_of_own {w : World} {base : Nat} {v : Value} {r : List LX.Tok} (h : w.ownsRow base 89 4 v r.length (tokCells r)) (hr : 0 < r.length) :
    ∃ b c, v = .slice (some ⟨b, 0, none⟩) r.length c ∧ r.length ≤ c ∧ base ≤ b ∧ b < w.heap.size ∧ RowAt w b r := by
  obtain ⟨hlen, ⟨_, hn⟩ | ⟨g, cap, cur, rfl, hb, hblk, hnc, hmx, hsz, htk⟩⟩ := h
  · omega
  · refine ⟨g, cap, rfl, hnc, hb, blk_lt hblk, fun j t hj => ?_⟩
    have key : ∀ i, i < 4 → ∀ u, (tokV t.kind t.at_ t.text t.n).toList[i]? = some u → w.cell? ⟨g, j * 4 + i, none⟩ = some u := by
      intro i hi u hu
      rw [blk_cell hblk (j * 4 + i)]
      have h1 := tokCells_get r j t hj i hi
      rw [hu, ← htk] at h1
      have h2 : (cur.toList.take (r.length * 4))[j * 4 + i]? = some u := h1
      rw [List.getElem?_take] at h2
      split at h2
      · simpa using h2
      · cases h2
    exact ⟨key 0 (by omega) _ rfl, key 1 (by omega) _ rfl, key 2 (by omega) _ rfl, key 3 (by omega) _ rfl⟩
theorem Spares.cut {w W w2 : World} {p o g : Nat} (h : Below w.heap.size w W) (k : Spares [p, o, g] W w2) (hp : w.heap.size ≤ p) (hg : w.heap.size ≤ g) : Spares [o] w w2 :=
  ⟨k.os.trans h.os, k.tape.trans h.tape, k.output.trans h.output, Nat.le_trans h.size k.size, fun i hi hn => (k.keep i (Nat.lt_of_lt_of_le hi h.size) (by simp at hn ⊢; omega)).trans (h.block i hi)⟩
theorem tk_tkp (l : List LX.Tok) : l.map tk = l.map tkp := rfl
/-- What run hands back: a fault's place and number; where there is none, what was read has been laid. -/
def RunIs {α : Type} (text : LX.B) (rdr : List LX.Tok → PX.Res α) (V : List LX.Tok → Nat → World → α → Prop) (w w' : World) (a er : Int) : Prop :=
  match LX.all text with
  | .error (k, c) => a = k ∧ er = c
  | .ok toks => match thenEnd (rdr toks) with
    | .ok x _ => a = 0 ∧ er = 0 ∧ ∃ n1, w.heap.size ≤ n1 ∧ V toks n1 w' x
    | .bad q e => a = atOf toks q ∧ er = e
    | .out => False
set_option maxHeartbeats 4000000 in
set_option maxRecDepth 100000 in
theorem run_walk {α : Type} (fd : FuncId) (caps rs : Array Value) (o : Nat) (text : ByteArray) (rdr : List LX.Tok → PX.Res α) (V : List LX.Tok → Nat → World → α → Prop) (w : World)
    (hT : Tabs w) (hs : text.size ≤ 4000) (ho : o < w.heap.size) (hf : ∀ args w, (callFunc fd args).run Tryd.prog w = .ok (.enter fd args) w)
    (hVm : ∀ toks n1 W W' x, V toks n1 W x → (∀ i, n1 ≤ i → i < W.heap.size → W'.heap[i]? = W.heap[i]?) → W'.heap[o]? = W.heap[o]? → V toks n1 W' x)
    (hdo : ∀ toks p b W, LX.all text.data.toList = .ok toks → PAt W p b toks (toks.map tk) → w.heap.size ≤ p → w.heap.size ≤ b → Below w.heap.size w W → Calls Tryd.prog fd (caps.push (.pointer (some ⟨p, 0, none⟩)) ++ rs) W fun e W' => Spares [p, o] W W' ∧ DoneIs p b toks W' (rdr toks) (V toks W.heap.size) e) :
    Calls Tryd.prog 40 #[.string text, .func (.func fd) caps rs] w fun e w' => ∃ a er, e = .returned (.agg #[.int .i64 a, .int .i64 er]) ∧ Spares [o] w w' ∧ RunIs text.data.toList rdr V w w' a er := by
  obtain ⟨Q, hQ⟩ : ∃ Q : Ending → World → Prop, Q = fun e w' => ∃ a er, e = .returned (.agg #[.int .i64 a, .int .i64 er]) ∧ Spares [o] w w' ∧ RunIs text.data.toList rdr V w w' a er := ⟨_, rfl⟩
  rw [← hQ]
  have HQ := Lib.hid hQ
  have HV := Lib.hid hVm
  have HD := Lib.hid hdo
  have HT := Lib.hid hT
  have HL := Lib.hid (And.intro hs ho)
  clear hQ hVm hdo hT hs ho
  have hmf : ∀ (fn : Fn) (first cap : Array Value) (w : World), (Instr.makeFunc fn first cap).run Tryd.prog w = .ok (.func fn first cap) w := fun _ _ _ _ => rfl
  have hf1 : ∀ args w, (callFunc 70 args).run Tryd.prog w = .ok (.enter 70 args) w := enters_of Tryd.func70 (by kernel_rfl) rfl
  go_enter Tryd.func40, Tryd.ntmps40
  go_wp2_with (fail)
  refine (all_walk text _ (HT.out.below (below_alloc (below_alloc (Below.refl _ _) _) _)) HL.out.1).mono ?_
  rintro e w1 ⟨hb1, hm⟩
  have hb01 := below_step (below_alloc (below_alloc (Below.refl w.heap.size w) (.cells #[.func (.func fd) caps rs] 96)) (.cells #[.int .i64 0, .int .i64 0] 27)) hb1
  have hres : w1.heap[w.heap.size + 1]? = some (.cells #[.int .i64 0, .int .i64 0] 27 (0, 0)) := blk_below (by have h := blk_new (w.alloc (.cells #[.func (.func fd) caps rs] 96)) (.cells #[.int .i64 0, .int .i64 0] 27); simpa using h) hb1
  have hdb : w1.heap[w.heap.size]? = some (.cells #[.func (.func fd) caps rs] 96 (0, 0)) := blk_below (blk_alloc (blk_new w _) _) hb1
  have lz : w.heap.size + 1 < w1.heap.size := blk_lt hres
  have HB1 := Lib.hid (And.intro hb01 (And.intro hres hdb))
  cases hx : LX.all text.data.toList with
  | error q =>
    obtain ⟨k, c⟩ := q
    rw [hx] at hm
    have hm2 : e = .returned (.tuple #[.slice none 0 0, .agg #[.int .i64 k, .int .i64 c]]) := hm
    subst hm2
    have hc0 := all_err hx
    have hc1 : ((c : Int) != 0) = true := by simp; omega
    have hc2 : ¬ ((c : Int) = 0) := by omega
    obtain ⟨r0, r1, rf⟩ := blk2p hres
    clear hb1 hm hb01 hres hdb
    go_wp2_with (fail)
    (try simp only [Exit.inBlock, Exit.then])
    refine bodyPost_ret (results_cell_row rfl _ _ (w.heap.size + 1) 27 #[.int .i64 k, .int .i64 c] (0, 0) _ rfl (blk_alloc (blk_set2 HB1.out.2.1 _ _) _) Tryd.underlying27 rfl (by kernel_rfl)) rfl ?_
    rw [HQ.out]
    refine ⟨k, c, rfl, ?_, ?_⟩
    · exact ((Spares.of_below HB1.out.1).store (.inl (by omega)) |>.store (.inl (by omega))).alloc
    · unfold RunIs
      rw [hx]
      exact ⟨rfl, rfl⟩
  | ok toks =>
    rw [hx] at hm
    obtain ⟨v, rfl, hown⟩ := hm
    have hok := all_ok hx
    have hpos : 0 < toks.length := by have := hok.1.good.pos; rw [List.length_map] at this; exact this
    obtain ⟨b, c, rfl, hc, hbb, hbl, hrow⟩ := row_of_own hown hpos
    have HROW := Lib.hid (And.intro hrow (And.intro hok hc))
    have hbw : w.heap.size ≤ b := by have := hbb; simp at this; omega
    clear hb1 hb01 hres hdb hown hrow hok hc hbb
    go_wp2_with (fail)
    obtain ⟨W, hW⟩ : ∃ W, W = ((w1.alloc (.cells #[.int .i64 0, .int .i64 0] 27)).alloc (.cells #[.slice (some ⟨b, 0, none⟩) toks.length c, .int .i64 0] 95)).alloc (.cells #[.pointer (some ⟨w1.heap.size + 1, 0, none⟩)] 85) := ⟨_, rfl⟩
    rw [← hW]
    have hsz1 : (w1.alloc (.cells #[.int .i64 0, .int .i64 0] 27)).heap.size = w1.heap.size + 1 := by simp
    have hsz2 : ((w1.alloc (.cells #[.int .i64 0, .int .i64 0] 27)).alloc (.cells #[.slice (some ⟨b, 0, none⟩) toks.length c, .int .i64 0] 95)).heap.size = w1.heap.size + 1 + 1 := by simp
    have hg : W.heap[w1.heap.size]? = some (.cells #[.int .i64 0, .int .i64 0] 27 (0, 0)) := by rw [hW]; exact blk_alloc (blk_alloc (blk_new _ _) _) _
    have hp : W.heap[w1.heap.size + 1]? = some (.cells #[.slice (some ⟨b, 0, none⟩) toks.length c, .int .i64 0] 95 (0, 0)) := by
      rw [hW, ← hsz1]
      exact blk_alloc (blk_new _ _) _
    have hpp : W.heap[w1.heap.size + 1 + 1]? = some (.cells #[.pointer (some ⟨w1.heap.size + 1, 0, none⟩)] 85 (0, 0)) := by
      rw [hW, ← hsz2]
      exact blk_new _ _
    have hbW : Below w1.heap.size w1 W := by
      rw [hW]
      exact below_alloc (below_alloc (below_alloc (Below.refl _ _) _) _) _
    clear hW hsz1 hsz2
    have hPW : PAt W (w1.heap.size + 1) b toks (toks.map tk) := ⟨⟨c, 0, hp, HROW.out.2.2, by simp, rfl⟩, HROW.out.1.heap (hbW.block b hbl), HROW.out.2.1.1.good, by omega, Nat.lt_of_lt_of_le hbl hbW.size, HROW.out.2.1.2, HROW.out.2.1.1.nums⟩
    have hO := HL.out.2
    have hdW := blk_below HB1.out.2.2 hbW
    have hrW := blk_below HB1.out.2.1 hbW
    have hlt := blk_lt hpp
    have hwW : Below w.heap.size w W := HB1.out.1.trans (hbW.mono (by omega))
    have HX := Lib.hid (And.intro hrW hwW)
    refine (run1_walk fd caps rs (w1.heap.size + 1) (w1.heap.size + 1 + 1) b w1.heap.size w.heap.size o toks (toks.map tk) (rdr toks) (V toks W.heap.size) W hPW hf hdW hpp hg (by omega) (HV.out toks W.heap.size) (HD.out toks _ b W hx hPW (by omega) hbw hwW)).mono ?_
    rintro e w2 ⟨rfl, hS2, hT2⟩
    have hr2 := hS2.blk HX.out.1 (by simp; omega)
    obtain ⟨r0, r1, rf⟩ := blk2p hr2
    have lz2 := hS2.size
    have HS2 := Lib.hid (And.intro hS2 hr2)
    clear hPW hg hp hpp hdW hrW hS2 hr2 hwW
    have hS3 : Spares [o] w w2 := Spares.cut HX.out.2 HS2.out.1 (by omega) (by omega)
    have fin : ∀ (a er : Int), Spares [o] w ((w2.setCell ⟨w.heap.size + 1, 0, none⟩ (.int .i64 a)).setCell ⟨w.heap.size + 1, 1, none⟩ (.int .i64 er)) := fun a er => (hS3.store (.inl (by omega))).store (.inl (by omega))
    have keep : ∀ (a er : Int) (i : Nat), i ≠ w.heap.size + 1 → ((w2.setCell ⟨w.heap.size + 1, 0, none⟩ (.int .i64 a)).setCell ⟨w.heap.size + 1, 1, none⟩ (.int .i64 er)).heap[i]? = w2.heap[i]? := fun a er i hi => (Below.heap_setCell _ _ _ i hi).trans (Below.heap_setCell _ _ _ i hi)
    have HFIN := Lib.hid (And.intro fin keep)
    have hWs : w1.heap.size ≤ W.heap.size := hbW.size
    clear fin keep hS3 hbW
    cases hr : thenEnd (rdr toks) with
    | out => rw [hr] at hT2; exact hT2.elim
    | bad q er =>
      rw [hr] at hT2
      have hG : w2.heap[w1.heap.size]? = some (.cells #[.int .i64 (atOf toks q), .int .i64 er] 27 (0, 0)) := hT2
      obtain ⟨g0, g1, gf⟩ := blk2p hG
      clear hG hT2
      go_wp2_with (fail)
      (try simp only [Exit.inBlock, Exit.then])
      refine bodyPost_ret (results_cell_row rfl _ _ (w.heap.size + 1) 27 #[.int .i64 (atOf toks q), .int .i64 er] (0, 0) _ rfl (blk_set2 HS2.out.2 _ _) Tryd.underlying27 rfl (by kernel_rfl)) rfl ?_
      rw [HQ.out]
      refine ⟨_, _, rfl, HFIN.out.1 _ _, ?_⟩
      unfold RunIs
      rw [hx]
      dsimp only
      rw [hr]
      exact ⟨rfl, rfl⟩
    | ok x s' =>
      rw [hr] at hT2
      obtain ⟨hG, hV2⟩ := hT2
      have HV2 := Lib.hid hV2
      obtain ⟨g0, g1, gf⟩ := blk2p hG
      clear hG hV2
      go_wp2_with (fail)
      (try simp only [Exit.inBlock, Exit.then])
      refine bodyPost_ret (results_cell_row rfl _ _ (w.heap.size + 1) 27 #[.int .i64 0, .int .i64 0] (0, 0) _ rfl (blk_set2 HS2.out.2 _ _) Tryd.underlying27 rfl (by kernel_rfl)) rfl ?_
      rw [HQ.out]
      refine ⟨_, _, rfl, HFIN.out.1 _ _, ?_⟩
      unfold RunIs
      rw [hx]
      dsimp only
      rw [hr]
      exact ⟨rfl, rfl, W.heap.size, by omega, HV.out _ _ _ _ _ HV2.out (fun i h1 h2 => HFIN.out.2 _ _ i (by omega)) (HFIN.out.2 _ _ o (by omega))⟩
end Go.Proofs.YtjafllnbgfcchaaDoor.Px
