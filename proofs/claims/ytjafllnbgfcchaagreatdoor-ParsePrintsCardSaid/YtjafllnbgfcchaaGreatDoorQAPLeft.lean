/- Signs that bind to the left, walked. -/
import Derived.Test.YtjafllnbgfcchaaGreatDoorQAGPEx
import Derived.Deep.DeepMust
namespace Go.Proofs.YtjafllnbgfcchaaGreatDoor.Px
set_option linter.unusedVariables false
set_option linter.unusedSimpArgs false
open Go Go.RowKit Go.Proofs.YtjafllnbgfcchaaGreatDoorW.PrintWords Go.Proofs.YtjafllnbgfcchaaGreatDoorW.PrintLast Go.Proofs.YtjafllnbgfcchaaGreatDoorW.PrintMore Go.Proofs.YtjafllnbgfcchaaGreatDoor.Lx Go.Proofs.YtjafllnbgfcchaaGreatDoor.XK
attribute [local go_sem ↓] Go.wp_at_zero Go.wp_at_succ

theorem lit_Rok {α : Type} (d : Kd α) (e : Nat) {w : World} {base : Nat} {ok : Nat → Prop} (xs : List α) (inner : List Value) (hrep : Reps (d.M w base ok) d.sz xs inner) (hb : base ≤ w.heap.size) (hok : ok w.heap.size) (hm : xs.length ≤ 1000) :
    d.R e (w.alloc (.cells inner.toArray e)) base ok (.slice (some ⟨w.heap.size, 0, none⟩) xs.length xs.length) xs := by
  refine ⟨fun k hk => by obtain rfl : w.heap.size = k := by simpa [Value.ownBlock] using hk
                         exact hok, inner, ⟨hrep.1, .inr ⟨w.heap.size, xs.length, inner.toArray, rfl, hb, heap_alloc_new w _, Nat.le_refl _, by unfold maxLen; omega, by simp [hrep.1], ?_⟩⟩, hrep.imp_ fun x c hM => ?_⟩
  · rw [List.take_of_length_le (by simp [hrep.1])]
  · refine d.M_mono (fun k hk => ⟨hk.1, fun e => ?_⟩) (d.M_move (w1 := w.alloc (.cells inner.toArray _)) (fun k hk => Below.heap_alloc w _ k hk.2.2.1) (d.M_bound hM))
    have h1 : k = w.heap.size := by simpa [Value.ownBlock] using e
    have := hk.2.2.1
    omega
structure Kq (n g : Nat) (W W' : World) : Prop where
  size : W.heap.size ≤ W'.heap.size
  keep : ∀ k, n ≤ k → k ≠ g → k < W.heap.size → W'.heap[k]? = W.heap[k]?
section
variable {n g : Nat} {W W' : World}
theorem Kq.refl : Kq n g W W := ⟨Nat.le_refl _, fun _ _ _ _ => rfl⟩
theorem Kq.alloc {o : Obj} (h : Kq n g W W') : Kq n g W (W'.alloc o) := ⟨by have := h.size; simp; omega, fun k hk hn hl => (Below.heap_alloc W' o k (Nat.lt_of_lt_of_le hl h.size)).trans (h.keep k hk hn hl)⟩
theorem Kq.drewN {m : Nat} (h : Kq n g W W') : Kq n g W (W'.drewN m) := ⟨h.size, h.keep⟩
theorem Kq.drew (h : Kq n g W W') : Kq n g W W'.drew := ⟨h.size, h.keep⟩
theorem Kq.store {j : Nat} {v : Value} (h : Kq n g W W') : Kq n g W (W'.setCell ⟨g, j, none⟩ v) := ⟨by simpa [World.setCell] using h.size, fun k hk hn hl => (Below.heap_setCell W' ⟨g, j, none⟩ v k hn).trans (h.keep k hk hn hl)⟩
theorem Kq.only {p : Nat} {W1 : World} (hp : p < n) (hO : Only p W' W1) (h : Kq n g W W') : Kq n g W W1 := ⟨Nat.le_trans h.size hO.size, fun k hk hn hl => (hO.keep k (Nat.lt_of_lt_of_le hl h.size) (by omega)).trans (h.keep k hk hn hl)⟩
end
theorem ExM.kq {n0 n1 g : Nat} {ok : Nat → Prop} {W W' : World} {x : S54} {c : List Value} (h : k54.M W n1 ok x c) (hn : n0 ≤ n1) (hok : ∀ k, ok k → n1 ≤ k → k ≠ g) (hk : Kq n1 g W W') : k54.M W' n0 (fun k => k ≠ g) x c :=
  k54.M_lower hn (k54.M_mono (fun k hk' => hok k hk'.1 hk'.2.1) (k54.M_move (fun k hk' => hk.keep k hk'.2.1 (hok k hk'.1 hk'.2.1) hk'.2.2.1) (k54.M_bound h)))
theorem build2q {toks : List LX.Tok} {n0 g gr : Nat} {w : World} {x y : PX.Ex} {c d : List Value} (hn : n0 ≤ w.heap.size) (hgr : w.heap.size ≠ g) (h : k54.M w n0 (fun k => k ≠ g) (real toks x) c) (h2 : k54.M w n0 (fun k => k ≠ g) (real toks y) d) (hg : w.heap.size = gr) (k a : Nat) (n : Int) (m : PX.B) (o : Bool) :
    k54.M (w.alloc (.cells (c ++ d).toArray 54)) n0 (fun k => k ≠ g) (real toks (.mk k a n m o [x, y])) [.int .i64 k, .int .i64 (atOf toks a), .int .i64 n, .string ⟨m.toArray⟩, .bool o, .slice (some ⟨gr, 0, none⟩) 2 2] := by
  subst hg
  have hr := Reps.snoc (Reps.snoc (Reps.none (k54.M w n0 (fun k => k ≠ g)) k54.sz) h (k54.K_len (k54.K_of_M h))) h2 (k54.K_len (k54.K_of_M h2))
  exact k54_mkM _ _ _ (real toks (.mk k a n m o [x, y])) (lit_Rok k54 54 [real toks x, real toks y] (c ++ d) hr hn hgr (by simp))
theorem build1q {toks : List LX.Tok} {n0 g gr : Nat} {w : World} {x : PX.Ex} {c : List Value} (hn : n0 ≤ w.heap.size) (hgr : w.heap.size ≠ g) (h : k54.M w n0 (fun k => k ≠ g) (real toks x) c) (hg : w.heap.size = gr) (k a : Nat) (n : Int) (m : PX.B) (o : Bool) :
    k54.M (w.alloc (.cells c.toArray 54)) n0 (fun k => k ≠ g) (real toks (.mk k a n m o [x])) [.int .i64 k, .int .i64 (atOf toks a), .int .i64 n, .string ⟨m.toArray⟩, .bool o, .slice (some ⟨gr, 0, none⟩) 1 1] := by
  subst hg
  have hr := Reps.snoc (Reps.none (k54.M w n0 (fun k => k ≠ g)) k54.sz) h (k54.K_len (k54.K_of_M h))
  exact k54_mkM _ _ _ (real toks (.mk k a n m o [x])) (lit_Rok k54 54 [real toks x] c hr hn hgr (by simp))
theorem St.cons {p b g : Nat} {o : Obj} {toks : List LX.Tok} {w W : World} {s : List PX.T} {l : List (Nat × Obj)} (h : St p b toks w W s l) (hg : w.heap.size ≤ g) (hb : W.heap[g]? = some o) : St p b toks w W s ((g, o) :: l) :=
  ⟨h.only, h.pat, h.pl, h.bl, fun x hx => by
    rcases List.mem_cons.1 hx with rfl | hx
    · exact ⟨hg, hb⟩
    · exact h.loc x hx⟩
structure LeftAt (p b : Nat) (toks : List LX.Tok) (w : World) (g : Nat) (wr : World) (s : List PX.T) (x : PX.Ex) (A : Option Addr) (n c : Nat) : Prop where
  st : St p b toks w wr s [(g, .cells #[.int .i64 x.kind, .int .i64 (atOf toks x.place), .int .i64 x.n, .string ⟨x.name.toArray⟩, .bool x.off, .slice A n c] 54), (w.heap.size, .cells #[.int .i64 0, .int .i64 0, .int .i64 0, .string ⟨#[]⟩, .bool false, .slice none 0 0] 54)]
  m : k54.M wr (w.heap.size + 1) (fun k => k ≠ g) (real toks x) [.int .i64 x.kind, .int .i64 (atOf toks x.place), .int .i64 x.n, .string ⟨x.name.toArray⟩, .bool x.off, .slice A n c]
  gw : w.heap.size < g
set_option maxHeartbeats 4000000 in
set_option maxRecDepth 100000 in
theorem left_walk {p b : Nat} {toks : List LX.Tok} (fk : FuncId) (hf : ∀ args w, (callFunc fk args).run Tryz.prog w = .ok (.enter fk args) w) (lvl k : Nat) (hk : ∀ j, j ≤ k → ReadsEx p b toks fk (PX.bin j (lvl + 1))) (g : Nat) (s : List PX.T) (w : World) (h : PAt w p b toks s)
    (hl : TextsAt w g (PX.levelSigns lvl)) (hg : g < w.heap.size) (hgp : g ≠ p) (hlen : (PX.levelSigns lvl).length ≤ 100)
    (hout : ((PX.bin k (lvl + 1) s).bind fun a s1 => PX.left k lvl a s1).isOut = false) :
    Calls Tryz.prog 175 #[.pointer (some ⟨p, 0, none⟩), .func (.func fk) #[.pointer (some ⟨p, 0, none⟩)] #[], .slice (some ⟨g, 0, none⟩) (PX.levelSigns lvl).length (PX.levelSigns lvl).length] w fun e w' => RdIs p b toks w ((PX.bin k (lvl + 1) s).bind fun a s1 => PX.left k lvl a s1) (ExV toks w.heap.size) e w' := by
  obtain ⟨R, hR⟩ : ∃ R, ((PX.bin k (lvl + 1) s).bind fun a s1 => PX.left k lvl a s1) = R := ⟨_, rfl⟩
  rw [hR] at hout ⊢
  have H := Lib.hid h
  have HK := Lib.hid hk
  have HR := Lib.hid hR
  have HO := Lib.hid hout
  have HL := Lib.hid (And.intro hl (And.intro hg (And.intro hgp hlen)))
  clear h hk hR hout hl hg hgp hlen
  obtain ⟨Q, hQ⟩ : ∃ Q, RdIs p b toks w R (ExV toks w.heap.size) = Q := ⟨_, rfl⟩
  rw [show (fun e w' => RdIs p b toks w R (ExV toks w.heap.size) e w') = Q from hQ]
  have HQ := Lib.hid hQ
  clear hQ
  go_enter Tryz.func175, Tryz.ntmps175
  go_wp2_with (fail)
  have HS := Lib.hid (St.start (w := w) H.out)
  refine (ReadsEx.call (HK.out k (Nat.le_refl _)) HS.out.new (Res_in HR.out HO.out)).mono ?_
  rintro e w1 ⟨hO, hm⟩
  have HWw1 := Lib.hid hO
  clear hO
  cases hr : PX.bin k (lvl + 1) s with
  | out => rw [hr] at hm; exact hm.elim
  | bad q er =>
    rw [hr] at hm
    obtain ⟨rfl, hO2⟩ := hm
    have hF := HR.out
    rw [hr] at hF
    unfold Pan
    (try simp only [Exit.inBlock, Exit.then])
    rw [← HQ.out]
    exact ⟨rfl, RdIs.bad hF hO2⟩
  | ok x s2 =>
    rw [hr] at hm
    obtain ⟨hS, v, rfl, hV⟩ := hm
    have hR := HR.out
    rw [hr] at hR
    rw [bind_ok] at hR
    clear HR hr
    have HR := Lib.hid hR
    have HS := Lib.hid hS
    clear hR hS
    have lz_w1 : w.heap.size < w1.heap.size := blk_lt HS.out.l0
    obtain ⟨A_x, n_x, c_x, rfl, hM⟩ := hV.cells
    have HM_x := Lib.hid (k54.M_lower (base' := w.heap.size + 1) (by simp) hM)
    clear hV hM
    go_wp2_with (fail)
    have hst : LeftAt p b toks w w1.heap.size (w1.alloc (.cells #[.int .i64 x.kind, .int .i64 (atOf toks x.place), .int .i64 x.n, .string ⟨x.name.toArray⟩, .bool x.off, .slice A_x n_x c_x] 54)) s2 x A_x n_x c_x := by
      refine ⟨HS.out.new, ?_, lz_w1⟩
      exact k54.M_mono (fun k hk => Nat.ne_of_lt hk.2.2) (Kd.M_below (k54.M_mono (fun k hk => (⟨trivial, hk.2.1, hk.2.2.1⟩ : True ∧ _ ≤ k ∧ k < w1.heap.size)) (k54.M_bound HM_x.out)) (below_alloc (Below.refl _ _) _))
    obtain ⟨ga, hga⟩ : ∃ ga, ga = w1.heap.size := ⟨_, rfl⟩
    rw [← hga] at hst ⊢
    have HST := Lib.hid hst
    have HK2 := Lib.hid HR.out
    clear hst HM_x hga
    go_loopg [] (k + 1) (fun m wr => ∃ kk x s' A n c, m = kk + 1 ∧ kk ≤ k ∧ Hid (PX.left kk lvl x s' = R) ∧ Hid (LeftAt p b toks w ga wr s' x A n c))
    case atStart => exact ⟨k, x, s2, A_x, n_x, c_x, rfl, Nat.le_refl _, HR, HST⟩
    case round =>
      obtain ⟨kk, x', s', A, n, c, rfl, hkk, HR', HA⟩ := hrel
      clear HR HS HST
      have HR := HR'
      clear HR'
      cases kk with
      | zero =>
        have h0 := HR.out
        rw [PX.left] at h0
        have h1 := HO.out
        rw [← h0] at h1
        cases h1
      | succ kk =>
        have hR := HR.out
        rw [PX.left] at hR
        clear HR
        have HR := Lib.hid hR
        have HS := Lib.hid HA.out.st
        have HM := Lib.hid HA.out.m
        have hgw := HA.out.gw
        clear hR
        have hl2 : TextsAt wr g (PX.levelSigns lvl) := fun j y hy => by
          have h1 := HL.out.1 j y hy
          unfold World.cell? at h1 ⊢
          rw [HS.out.only.keep g HL.out.2.1 HL.out.2.2.1]
          exact h1
        have hgs : g < wr.heap.size := Nat.lt_of_lt_of_le HL.out.2.1 HS.out.only.size
        have HL2 := Lib.hid (And.intro hl2 hgs)
        clear hl2 hgs
        go_wp2_with (fail)
        refine (take_walk p b g _ toks s' (PX.levelSigns lvl) wr HS.out.pat HL2.out.1 HL2.out.2 HL.out.2.2.2 HL.out.2.2.1).mono ?_
        rintro e w2 ⟨hO, hP, t, hp, hat, rfl⟩
        have hS := HS.out.call hO hP
        have HW2x := Lib.hid hO
        have HT := Lib.hid (And.intro hp hat)
        clear hO hP hp hat
        obtain ⟨B, hB⟩ : ∃ B, PX.is (PX.levelSigns lvl) s' = B := ⟨_, rfl⟩
        rw [hB] at hS ⊢
        have hR := HR.out
        rw [hB] at hR
        clear HR hB HS
        unfold tokA tokV
        cases B with
        | false =>
          simp only [Bool.false_eq_true, if_false] at hR hS
          have HR := Lib.hid hR
          have HS := Lib.hid hS
          clear hR hS
          obtain ⟨q0_0, q0_1, q0_2, q0_3, q0_4, q0_5, q0_f⟩ := blk6 HS.out.l0
          obtain ⟨q1_0, q1_1, q1_2, q1_3, q1_4, q1_5, q1_f⟩ := blk6 HS.out.l1
          have q0_l := blk_lt HS.out.l0
          have q1_l := blk_lt HS.out.l1
          have hpl := H.out.plt
          go_wp2_with (fail)
          (try simp only [Exit.inBlock, Exit.then])
          refine bodyPost_ret (results_cell_row rfl _ _ w.heap.size 54 _ (0, 0) _ rfl (blk_alloc' (blk_set6 HS.out.l1 _ _ _ _ _ _)) Tryz.underlying54 rfl (by kernel_rfl)) rfl ?_
          rw [← HQ.out]
          refine RdIs.ok HR.out (St.only (b := b) (toks := toks) (s := s') (l := []) ?_) (St.pat (w := w) (l := []) ?_) ⟨_, rfl, ?_⟩
          · repeat (first | with_reducible exact HS.out.drop.drop | with_reducible apply St.alloc | (with_reducible refine St.store ?_ ?_ ?_; omega; (intro x hx; simp at hx)))
          · repeat (first | with_reducible exact HS.out.drop.drop | with_reducible apply St.alloc | (with_reducible refine St.store ?_ ?_ ?_; omega; (intro x hx; simp at hx)))
          · refine ExM.kp (n1 := w.heap.size + 1) (k54.M_mono (fun _ _ => trivial) HM.out) (by omega) ?_
            repeat (first | with_reducible exact Kp.refl | with_reducible apply Kp.alloc | (with_reducible refine Kp.store ?_ ?_; omega) | (with_reducible refine Kp.only ?_ HW2x.out ?_; omega))
        | true =>
          simp only [if_true] at hR hS
          have HR := Lib.hid hR
          have HS := Lib.hid hS
          clear hR hS
          have lz_w2 : w.heap.size < w2.heap.size := blk_lt HS.out.l1
          have lg_w2 : ga < w2.heap.size := blk_lt HS.out.l0
          go_wp2_with (fail)
          obtain ⟨w3, hW⟩ : ∃ W, W = w2.alloc (Obj.cells #[.int .i64 t.kind, .int .i64 t.at_, .string ⟨t.text.toArray⟩, .int .u64 t.n] 35) := ⟨_, rfl⟩
          rw [← hW]
          have HSX := Lib.hid (HS.out.new (o := Obj.cells #[.int .i64 t.kind, .int .i64 t.at_, .string ⟨t.text.toArray⟩, .int .u64 t.n] 35))
          rw [← hW] at HSX
          have HS := HSX
          clear HSX
          have HWw3 := Lib.hid ((Only.refl p w2).alloc (Obj.cells #[.int .i64 t.kind, .int .i64 t.at_, .string ⟨t.text.toArray⟩, .int .u64 t.n] 35))
          rw [← hW] at HWw3
          clear hW
          have lz_w3 : w.heap.size < w3.heap.size := blk_lt HS.out.l2
          have q0 := HS.out.l0
          obtain ⟨q0_0, q0_1, q0_2, q0_3, q0_f⟩ := blk4 q0
          have q0_l := blk_lt q0
          clear q0
          have q1 := HS.out.l1
          obtain ⟨q1_0, q1_1, q1_2, q1_3, q1_4, q1_5, q1_f⟩ := blk6 q1
          have q1_l := blk_lt q1
          clear q1
          have q2 := HS.out.l2
          obtain ⟨q2_0, q2_1, q2_2, q2_3, q2_4, q2_5, q2_f⟩ := blk6 q2
          have q2_l := blk_lt q2
          clear q2
          have hkk2 : kk ≤ k := by omega
          have ne_ga : w.heap.size ≠ ga := by omega
          have htg : w.heap.size ≤ ga := Nat.le_of_lt hgw
          obtain ⟨y0, y1, y2, y3, y4, y5, y6, y7⟩ : w3.cell? ⟨w2.heap.size, 1, none⟩ = some (.int .i64 t.at_) ∧ w3.cell? ⟨w2.heap.size, 2, none⟩ = some (.string ⟨t.text.toArray⟩) ∧ w3.cell? ⟨ga, 0, none⟩ = some (.int .i64 x'.kind) ∧ w3.cell? ⟨ga, 1, none⟩ = some (.int .i64 (atOf toks x'.place)) ∧ w3.cell? ⟨ga, 2, none⟩ = some (.int .i64 x'.n) ∧ w3.cell? ⟨ga, 3, none⟩ = some (.string ⟨x'.name.toArray⟩) ∧ w3.cell? ⟨ga, 4, none⟩ = some (.bool x'.off) ∧ w3.cell? ⟨ga, 5, none⟩ = some (.slice A n c) := ⟨(blk4 HS.out.l0).2.1, (blk4 HS.out.l0).2.2.1, (blk6 HS.out.l1).1, (blk6 HS.out.l1).2.1, (blk6 HS.out.l1).2.2.1, (blk6 HS.out.l1).2.2.2.1, (blk6 HS.out.l1).2.2.2.2.1, (blk6 HS.out.l1).2.2.2.2.2.1⟩
          have HIN := Lib.hid (Res_in HR.out HO.out)
          go_region_with (first | ((with_reducible refine (ReadsEx.call (HK.out kk hkk2) HS.out.drew HIN.out).mono ?_); rintro e w5 ⟨hO, hm⟩; refine Told.part hm ?_ ?_; (focus intro q er hr he hO2; subst he; have hF := HR.out; rw [hr] at hF; unfold Pan; (try simp only [Exit.inBlock, Exit.then]); rw [← HQ.out]; exact ⟨rfl, RdIs.bad hF hO2⟩); intro y s4 hr hS v he hV; have hR := HR.out; rw [hr, bind_ok] at hR; have HR2 := Lib.hid hR; obtain ⟨A_y, n_y, c_y, rfl, hM⟩ := hV.cells; subst he; have HM_y := Lib.hid (k54.M_lower (base' := w3.heap.size) (Nat.le_refl _) hM); have HS2 := Lib.hid hS; have HX3 := Lib.hid hS.mid; obtain ⟨z0, z1, z2, z3, z4, z5, z6, z7⟩ : w5.cell? ⟨w2.heap.size, 1, none⟩ = some (.int .i64 t.at_) ∧ w5.cell? ⟨w2.heap.size, 2, none⟩ = some (.string ⟨t.text.toArray⟩) ∧ w5.cell? ⟨ga, 0, none⟩ = some (.int .i64 x'.kind) ∧ w5.cell? ⟨ga, 1, none⟩ = some (.int .i64 (atOf toks x'.place)) ∧ w5.cell? ⟨ga, 2, none⟩ = some (.int .i64 x'.n) ∧ w5.cell? ⟨ga, 3, none⟩ = some (.string ⟨x'.name.toArray⟩) ∧ w5.cell? ⟨ga, 4, none⟩ = some (.bool x'.off) ∧ w5.cell? ⟨ga, 5, none⟩ = some (.slice A n c) := ⟨(blk4 HS2.out.l0).2.1, (blk4 HS2.out.l0).2.2.1, (blk6 HS2.out.l1).1, (blk6 HS2.out.l1).2.1, (blk6 HS2.out.l1).2.2.1, (blk6 HS2.out.l1).2.2.2.1, (blk6 HS2.out.l1).2.2.2.2.1, (blk6 HS2.out.l1).2.2.2.2.2.1⟩; obtain ⟨r0, r1, r2, r3, r4, r5, rf⟩ := blk6 HS2.out.l1; have l_0 := blk_lt HS2.out.l0; have l_1 := blk_lt HS2.out.l1; have l_2 := blk_lt HS2.out.l2; have HW2 := Lib.hid hO; clear hO hS hM hV hr hR hm))
          all_goals
            go_wp2_with (fail)
            go_roundg (kk + 1)
            case measure => omega
            case rel =>
              have hS5 := St.store6 (g := ga) (v0 := .int .i64 6) (v1 := .int .i64 t.at_) (v2 := .int .i64 0) (v3 := .string ⟨t.text.toArray⟩) (v4 := .bool false) (v5 := .slice (some ⟨w5.heap.size, 0, none⟩) 2 2) htg (NB.cons ne_ga NB.nil) HX3.out.drop
              refine ⟨kk, .mk 6 s'.length 0 (PX.peek s').text false [x', y], s4, some ⟨w5.heap.size, 0, none⟩, 2, 2, rfl, hkk2, HR2, Lib.hid ⟨St.cons hS5.alloc htg ?_, ?_, hgw⟩⟩
              · rw [HT.out.1]
                show _ = some (Obj.cells #[.int .i64 6, .int .i64 (atOf toks s'.length), .int .i64 0, .string ⟨t.text.toArray⟩, .bool false, .slice (some ⟨w5.heap.size, 0, none⟩) 2 2] 54)
                rw [HT.out.2]
                exact blk_alloc' (blk_set6 HS2.out.l1 _ _ _ _ _ _)
              · have hpl := H.out.plt
                have hM1 := ExM.kq (g := ga) (W' := (((((w5.setCell ⟨ga, 0, none⟩ (.int .i64 6)).setCell ⟨ga, 1, none⟩ (.int .i64 t.at_)).setCell ⟨ga, 2, none⟩ (.int .i64 0)).setCell ⟨ga, 3, none⟩ (.string ⟨t.text.toArray⟩)).setCell ⟨ga, 4, none⟩ (.bool false)).setCell ⟨ga, 5, none⟩ (.slice (some ⟨w5.heap.size, 0, none⟩) 2 2)) HM.out (Nat.le_refl _) (fun _ h _ => h) (by repeat (first | with_reducible exact Kq.refl | with_reducible apply Kq.store | with_reducible apply Kq.alloc | with_reducible apply Kq.drew | (with_reducible refine Kq.only ?_ HWw3.out ?_; omega) | (with_reducible refine Kq.only ?_ HW2x.out ?_; omega) | (with_reducible refine Kq.only ?_ HW2.out ?_; omega)))
                have hM2 := ExM.kq (n0 := w.heap.size + 1) (g := ga) (W' := (((((w5.setCell ⟨ga, 0, none⟩ (.int .i64 6)).setCell ⟨ga, 1, none⟩ (.int .i64 t.at_)).setCell ⟨ga, 2, none⟩ (.int .i64 0)).setCell ⟨ga, 3, none⟩ (.string ⟨t.text.toArray⟩)).setCell ⟨ga, 4, none⟩ (.bool false)).setCell ⟨ga, 5, none⟩ (.slice (some ⟨w5.heap.size, 0, none⟩) 2 2)) HM_y.out (by omega) (fun k _ hk => by omega) (by repeat (first | with_reducible exact Kq.refl | with_reducible apply Kq.store))
                have hb := build2q (by rw [size_set6]; omega) (by rw [size_set6]; omega) hM1 hM2 (size_set6 _ _ _ _ _ _ _ _) 6 s'.length 0 t.text false
                rw [HT.out.2] at hb
                rw [HT.out.1]
                show k54.M _ _ _ (real toks (.mk 6 s'.length 0 t.text false [x', y])) [.int .i64 6, .int .i64 (atOf toks s'.length), .int .i64 0, .string ⟨t.text.toArray⟩, .bool false, .slice (some ⟨w5.heap.size, 0, none⟩) 2 2]
                rw [HT.out.2]
                exact hb
end Go.Proofs.YtjafllnbgfcchaaGreatDoor.Px
