/- What binds most closely, walked. -/
import Derived.Test.YtjafllnbgfcchaaGreatDoorQAPAwait
import Derived.Deep.DeepMust
import Derived.Deep.RegionLaw
import Derived.Deep.AppendLies
namespace Go.Proofs.YtjafllnbgfcchaaGreatDoor.Px
set_option linter.unusedVariables false
set_option linter.unusedSimpArgs false
open Go Go.RowKit Go.Proofs.YtjafllnbgfcchaaGreatDoorW.PrintWords Go.Proofs.YtjafllnbgfcchaaGreatDoorW.PrintLast Go.Proofs.YtjafllnbgfcchaaGreatDoorW.PrintMore Go.Proofs.YtjafllnbgfcchaaGreatDoor.Lx Go.Proofs.YtjafllnbgfcchaaGreatDoor.XK
attribute [local go_sem ↓] Go.wp_at_zero Go.wp_at_succ
def mergeGo (k a : Nat) (m : PX.B) : Nat → List PX.Ex → List PX.T → PX.Res PX.Ex
  | 0, done, s => .ok (.mk 12 a 0 m false done) s
  | n + 1, done, s => (PX.want [40] s).bind fun _ s2 => (PX.expr k s2).bind fun e s3 => (PX.want [41] s3).bind fun _ s4 => mergeGo k a m n (done ++ [e]) s4
theorem St.grown2 {p b : Nat} {toks : List LX.Tok} {w W W' : World} {s : List PX.T} {l : List (Nat × Obj)} {row : Option Nat} (h : St p b toks w W s l) (hg : W.grownBy W' row) (hr : ∀ q, row = some q → w.heap.size ≤ q ∧ ∀ x ∈ l, x.1 ≠ q) : St p b toks w W' s l := by
  have hne : ∀ k, k < w.heap.size → some k ≠ row := fun k hk e => by have := (hr k e.symm).1; omega
  have hsz := h.sz
  have hpl := h.pl
  have hbl := h.bl
  refine ⟨⟨hg.os.trans h.only.os, hg.tape.trans h.only.tape, hg.output.trans h.only.output, Nat.le_trans hsz hg.size, fun i hi hn => (hg.block i (by omega) (hne i hi)).trans (h.only.keep i hi hn)⟩, ?_, hpl, hbl, fun x hx => ⟨(h.loc x hx).1, (hg.block x.1 (blk_lt (h.loc x hx).2) (fun e => (hr x.1 e.symm).2 x hx rfl)).trans (h.loc x hx).2⟩⟩
  obtain ⟨c, k, hk⟩ := h.pat.blk
  exact ⟨⟨c, k, (hg.block p (by omega) (hne p hpl)).trans hk.1, hk.2⟩, h.pat.row.heap (hg.block b (by omega) (hne b hbl)), h.pat.good, h.pat.ne, by have := hg.size; omega, h.pat.few, h.pat.nums⟩
theorem RowR.kq {n0 n1 g : Nat} {W W' : World} {v : Value} {xs : List S54} (h : k54.R 54 W n1 (fun k => k ≠ g) v xs) (hn : n0 ≤ n1) (hk : Kq n1 g W W') : k54.R 54 W' n0 (fun k => k ≠ g) v xs :=
  Kd.R_lower (Kd.R_mono (Kd.R_move (Kd.R_bound h) (fun k hk' => hk.keep k hk'.2.1 hk'.1 hk'.2.2.1)) (fun _ hk => hk.1)) hn
theorem Kq.low {n g h j : Nat} {v : Value} {W W' : World} (hh : h < n) (hk : Kq n g W W') : Kq n g W (W'.setCell ⟨h, j, none⟩ v) := ⟨by simpa [World.setCell] using hk.size, fun k hn hg hl => (Below.heap_setCell W' ⟨h, j, none⟩ v k (by show k ≠ h; omega)).trans (hk.keep k hn hg hl)⟩
theorem with_kidsq (toks : List LX.Tok) {W W' : World} {n0 n1 g : Nat} {v : Value} {l : List PX.Ex} (h : k54.R 54 W n1 (fun q => q ≠ g) v (reals toks l)) (hn : n0 ≤ n1) (hk : Kq n1 g W W') (k a : Nat) (n : Int) (m : PX.B) (o : Bool) : k54.M W' n0 (fun _ => True) (real toks (.mk k a n m o l)) [.int .i64 k, .int .i64 (atOf toks a), .int .i64 n, .string ⟨m.toArray⟩, .bool o, v] :=
  k54_mkM W' n0 _ (real toks (.mk k a n m o l)) (Kd.R_mono (RowR.kq h hn hk) (fun _ _ => trivial))
theorem reads_one {W : World} {b : Nat} {x : S54} {cs : List Value} (hb : W.heap[b]? = some (.cells cs.toArray 54 (0, 0))) (hs : cs.length = 6) : ReadsRow (fun x' cs' => x' = x ∧ cs' = cs) k54.sz W (some ⟨b, 0, none⟩) 1 [x] := by
  refine ⟨rfl, by decide, fun _ => ⟨_, rfl, fun j p hj => ?_⟩⟩
  match j, hj with
  | 0, hj =>
    obtain rfl := Option.some.inj hj
    refine ⟨cs, hs, ⟨rfl, rfl⟩, fun i u hu => ?_⟩
    have ha : (⟨b, 0, none⟩ : Addr).add (0 * k54.sz + i) = ⟨b, i, none⟩ := by
      rw [Nat.zero_mul, Nat.zero_add]
      unfold Addr.add
      by_cases h0 : i = 0 <;> simp [h0]
    rw [ha, blk_cell hb i]
    simpa using hu
  | j + 1, hj => simp at hj
theorem calls_of {p b : Nat} {toks : List LX.Tok} (k : Nat) (ihs : ∀ j, j ≤ k → ReadsEx p b toks 74 (PX.expr j)) (hk2 : k ≤ 1000000) : ReadsCall p b toks k := by
  cases k with
  | zero =>
    intro m a kk nn s w h hout
    rw [PX.call] at hout
    cases hout
  | succ k => exact call_step (fun j hj => ihs j (by omega)) (by omega)
theorem St.calls {p b : Nat} {toks : List LX.Tok} {k : Nat} (hc : ReadsCall p b toks k) {s : List PX.T} {w W : World} {l : List (Nat × Obj)} (h : St p b toks w W s l) (m : PX.B) (a : Nat) {v : Int} (hv : atOf toks a = v) {kk nn : Int} (hout : (PX.call k m a s).isOut = false) :
    Calls Tryz.prog 132 #[.pointer (some ⟨p, 0, none⟩), .agg #[.int .i64 kk, .int .i64 v, .string ⟨m.toArray⟩, .int .u64 nn]] W fun e w' => Only p W w' ∧ Told p b toks w l (PX.call k m a s) (ExV toks W.heap.size) e w' := by
  subst hv
  refine (hc m a kk nn s W h.pat hout).mono ?_
  intro e w' hm
  exact ⟨hm.1, hm.told h⟩
theorem St.awaits {p b : Nat} {toks : List LX.Tok} {k : Nat} (hk2 : k ≤ 1000000) {s : List PX.T} {w W : World} {l : List (Nat × Obj)} (h : St p b toks w W s l) (a : Nat) {v : Int} (hv : atOf toks a = v) (hout : (awaitP k a s).isOut = false) :
    Calls Tryz.prog 209 #[.pointer (some ⟨p, 0, none⟩), .int .i64 v] W fun e w' => Only p W w' ∧ Told p b toks w l (awaitP k a s) (ExV toks W.heap.size) e w' := by
  subst hv
  refine (await_walk hk2 a s W h.pat hout).mono ?_
  intro e w' hm
  exact ⟨hm.1, hm.told h⟩

set_option maxHeartbeats 16000000 in
set_option maxRecDepth 100000 in
theorem primary_step {p b k : Nat} {toks : List LX.Tok} (ih : ∀ j, j ≤ k → ReadsEx p b toks 74 (PX.expr j)) (hkm : k ≤ 1000000) : ReadsEx p b toks 208 (PX.primary (k + 1)) := by
  intro s w h hout
  obtain ⟨R, hR⟩ : ∃ R, PX.primary (k + 1) s = R := ⟨_, rfl⟩
  rw [hR] at hout ⊢
  rw [PX.primary] at hR
  try dsimp only at hR
  have hfd := fld2
  have H := Lib.hid h
  have IH := Lib.hid ih
  have HR := Lib.hid hR
  have HO := Lib.hid hout
  clear h ih hR hout
  obtain ⟨Q, hQ⟩ : ∃ Q, RdIs p b toks w R (ExV toks w.heap.size) = Q := ⟨_, rfl⟩
  rw [show (fun e w' => RdIs p b toks w R (ExV toks w.heap.size) e w') = Q from hQ]
  have HQ := Lib.hid hQ
  clear hQ
  go_enter Tryz.func208, Tryz.ntmps208
  go_wp2_with (fail)
  have HS := Lib.hid (St.start (w := w) H.out)
  refine (St.peeks HS.out.new).mono ?_
  rintro e w1 ⟨hO, hS, t2, hp, hat, rfl⟩
  have HWw1 := Lib.hid hO
  have Ht2 := Lib.hid (And.intro hp hat)
  clear hO hp hat
  unfold tokA tokV
  have HS := Lib.hid hS
  clear hS
  have lz_w1 : w.heap.size < w1.heap.size := blk_lt HS.out.l0
  rcases Nat.decEq t2.kind 2 with hk | hk
  ·
    have hc : ((PX.peek s).kind == 2) = false := by rw [Ht2.out.1]; simpa [tk] using hk
    have hR := HR.out
    simp only [hc, Bool.false_eq_true, if_false] at hR
    have HR := Lib.hid hR
    have HKt2 := Lib.hid hk
    have hk1 : ((t2.kind : Int) == 2) = false := by simp; omega
    have hk2 : ((t2.kind : Int) != 2) = true := by simp; omega
    have hk3 : ¬ ((t2.kind : Int) = 2) := by omega
    clear hk hc hR
    rcases Nat.decEq t2.kind 1 with hk | hk
    ·
      have hc : ((PX.peek s).kind == 1) = false := by rw [Ht2.out.1]; simpa [tk] using hk
      have hR := HR.out
      simp only [hc, Bool.false_eq_true, if_false] at hR
      have HR := Lib.hid hR
      have HKt2 := Lib.hid hk
      have hk1 : ((t2.kind : Int) == 1) = false := by simp; omega
      have hk2 : ((t2.kind : Int) != 1) = true := by simp; omega
      have hk3 : ¬ ((t2.kind : Int) = 1) := by omega
      clear hk hc hR
      have q0 := HS.out.l0
      obtain ⟨q0_0, q0_1, q0_2, q0_3, q0_4, q0_5, q0_f⟩ := blk6 q0
      have q0_l := blk_lt q0
      clear q0
      go_wp2_with (fail)
      refine (St.takes [[116, 114, 117, 101], [102, 97, 108, 115, 101], [109, 101, 114, 103, 101], [97, 119, 97, 105, 116], [40]] HS.out.new (by simp) (by decide)).mono ?_
      rintro e w3 ⟨hg, hO, hS, t4, hp, hat, rfl⟩
      have HWw3 := Lib.hid hO
      have Ht4 := Lib.hid (And.intro hp hat)
      clear hO hp hat hg
      obtain ⟨B, hB⟩ : ∃ B, PX.is [[116, 114, 117, 101], [102, 97, 108, 115, 101], [109, 101, 114, 103, 101], [97, 119, 97, 105, 116], [40]] s = B := ⟨_, rfl⟩
      rw [hB] at hS ⊢
      have hR := HR.out
      rw [hB] at hR
      have HBw3 := Lib.hid hB
      clear HR hB
      unfold tokA tokV
      cases B with
      | false =>
        simp only [Bool.false_eq_true, if_false] at hR hS
        have HR := Lib.hid hR
        have HS := Lib.hid hS
        clear hR hS
        have lz_w3 : w.heap.size < w3.heap.size := blk_lt HS.out.l1
        go_wp2_with (fail)
        refine (St.fails (α := PX.Ex) HS.out.new).mono ?_
        rintro e w5 ⟨q, er, hq, rfl, hO2⟩
        have hF := HR.out
        rw [hq] at hF
        unfold Pan
        (try simp only [Exit.inBlock, Exit.then])
        rw [← HQ.out]
        exact ⟨rfl, RdIs.bad hF hO2⟩
      | true =>
        simp only [if_true] at hR hS
        have HR := Lib.hid hR
        have HS := Lib.hid hS
        clear hR hS
        have lz_w3 : w.heap.size < w3.heap.size := blk_lt HS.out.l1
        have q0 := HS.out.l0
        obtain ⟨q0_0, q0_1, q0_2, q0_3, q0_f⟩ := blk4 q0
        have q0_l := blk_lt q0
        clear q0
        have q1 := HS.out.l1
        obtain ⟨q1_0, q1_1, q1_2, q1_3, q1_4, q1_5, q1_f⟩ := blk6 q1
        have q1_l := blk_lt q1
        clear q1
        rcases decEq t2.text [109, 101, 114, 103, 101] with hw | hw
        ·
          have hc : ((PX.peek s).text == [109, 101, 114, 103, 101]) = false := by rw [Ht2.out.1]; simp [tk, hw]
          have hR := HR.out
          simp only [hc, Bool.false_eq_true, if_false] at hR
          have HR := Lib.hid hR
          have hw_merge : (t2.text == [109, 101, 114, 103, 101]) = false := by simp [hw]
          clear hR hc
          clear hw
          rcases decEq t2.text [97, 119, 97, 105, 116] with hw | hw
          ·
            have hc : ((PX.peek s).text == [97, 119, 97, 105, 116]) = false := by rw [Ht2.out.1]; simp [tk, hw]
            have hR := HR.out
            simp only [hc, Bool.false_eq_true, if_false] at hR
            have HR := Lib.hid hR
            have hw_await : (t2.text == [97, 119, 97, 105, 116]) = false := by simp [hw]
            clear hR hc
            clear hw
            rcases decEq t2.text [40] with hw | hw
            ·
              have hc : ((PX.peek s).text == [40]) = false := by rw [Ht2.out.1]; simp [tk, hw]
              have hR := HR.out
              simp only [hc, Bool.false_eq_true, if_false] at hR
              have HR := Lib.hid hR
              have hw_br : (t2.text == [40]) = false := by simp [hw]
              clear hR hc
              clear hw
              have q0 := HS.out.l0
              obtain ⟨q0_0, q0_1, q0_2, q0_3, q0_f⟩ := blk4 q0
              have q0_l := blk_lt q0
              clear q0
              have q1 := HS.out.l1
              obtain ⟨q1_0, q1_1, q1_2, q1_3, q1_4, q1_5, q1_f⟩ := blk6 q1
              have q1_l := blk_lt q1
              clear q1
              go_wp2_with (fail)
              refine (St.truths HS.out.new Ht2.out.1 Ht2.out.2).mono ?_
              rintro e w6 ⟨hO, hm⟩
              have HWw6 := Lib.hid hO
              clear hO
              cases hr : PX.Res.ok (PX.truth s) s.tail with
              | out => rw [hr] at hm; exact hm.elim
              | bad q er =>
                rw [hr] at hm
                obtain ⟨rfl, hO2⟩ := hm
                have hF := HR.out
                rw [hr] at hF
                unfold Pan
                (try simp only [Exit.inBlock, Exit.then])
                rw [← HQ.out]
                exact ⟨rfl, RdIs.bad hF hO2⟩
              | ok x s7 =>
                rw [hr] at hm
                obtain ⟨hS, v, rfl, hV⟩ := hm
                have hR := HR.out
                rw [hr] at hR
                clear HR hr
                have HR := Lib.hid hR
                have HS := Lib.hid hS
                clear hR hS
                have lz_w6 : w.heap.size < w6.heap.size := blk_lt HS.out.l2
                obtain ⟨A_x, n_x, c_x, rfl, hM⟩ := hV.cells
                have HM_x := Lib.hid (k54.M_lower (base' := w.heap.size + 1) (by first | omega | (simp [World.setCell]; omega)) hM)
                clear hV hM
                have q2 := HS.out.l2
                obtain ⟨q2_0, q2_1, q2_2, q2_3, q2_4, q2_5, q2_f⟩ := blk6 q2
                have q2_l := blk_lt q2
                clear q2
                go_wp2_with (fail)
                have hpl := H.out.plt
                (try simp only [Exit.inBlock, Exit.then])
                refine bodyPost_ret (results_cell_row rfl _ _ w.heap.size 54 _ (0, 0) _ rfl (blk_set6 HS.out.l2 _ _ _ _ _ _) Tryz.underlying54 rfl (by kernel_rfl)) rfl ?_
                rw [← HQ.out]
                refine RdIs.ok HR.out (St.only (b := b) (toks := toks) (s := s7) (l := []) ?_) (St.pat (w := w) (l := []) ?_) ⟨_, rfl, ExM.kp HM_x.out (by omega) ?_⟩
                · repeat (first | with_reducible exact HS.out.drop.drop.drop | with_reducible apply St.alloc | with_reducible apply St.drewN | with_reducible apply St.drew | (with_reducible refine St.store ?_ ?_ ?_; omega; (intro x hx; simp at hx)))
                · repeat (first | with_reducible exact HS.out.drop.drop.drop | with_reducible apply St.alloc | with_reducible apply St.drewN | with_reducible apply St.drew | (with_reducible refine St.store ?_ ?_ ?_; omega; (intro x hx; simp at hx)))
                · repeat (first | with_reducible exact Kp.refl | with_reducible apply Kp.alloc | with_reducible apply Kp.drew | (with_reducible refine Kp.store ?_ ?_; omega) | (with_reducible refine Kp.only ?_ HWw6.out ?_; omega) | (with_reducible refine Kp.only ?_ HWw3.out ?_; omega) | (with_reducible refine Kp.only ?_ HWw1.out ?_; omega))
            ·
              have hc : ((PX.peek s).text == [40]) = true := by rw [Ht2.out.1]; simp [tk, hw]
              have hR := HR.out
              simp only [hc, if_true] at hR
              have HR := Lib.hid hR
              have hw_br : (t2.text == [40]) = true := by simp [hw]
              clear hR hc
              have HW_t := Lib.hid hw
              clear hw
              go_wp2_with (fail)
              refine (ReadsEx.call (IH.out k (Nat.le_refl _)) HS.out.new (Res_in HR.out HO.out)).mono ?_
              rintro e w8 ⟨hO, hm⟩
              have HWw8 := Lib.hid hO
              clear hO
              cases hr : PX.expr k s.tail with
              | out => rw [hr] at hm; exact hm.elim
              | bad q er =>
                rw [hr] at hm
                obtain ⟨rfl, hO2⟩ := hm
                have hF := HR.out
                rw [hr] at hF
                unfold Pan
                (try simp only [Exit.inBlock, Exit.then])
                rw [← HQ.out]
                exact ⟨rfl, RdIs.bad hF hO2⟩
              | ok x s9 =>
                rw [hr] at hm
                obtain ⟨hS, v, rfl, hV⟩ := hm
                have hR := HR.out
                rw [hr] at hR
                rw [bind_ok] at hR
                clear HR hr
                have HR := Lib.hid hR
                have HS := Lib.hid hS
                clear hR hS
                have lz_w8 : w.heap.size < w8.heap.size := blk_lt HS.out.l2
                obtain ⟨A_x, n_x, c_x, rfl, hM⟩ := hV.cells
                have HM_x := Lib.hid (k54.M_lower (base' := w3.heap.size + 1) (by simp) hM)
                clear hV hM
                go_wp2_with (fail)
                refine (St.wants [41] HS.out.new (by simp)).mono ?_
                rintro e w10 ⟨hO, hm⟩
                have HWw10 := Lib.hid hO
                clear hO
                cases hr : PX.want [41] s9 with
                | out => rw [hr] at hm; exact hm.elim
                | bad q er =>
                  rw [hr] at hm
                  obtain ⟨rfl, hO2⟩ := hm
                  have hF := HR.out
                  rw [hr] at hF
                  unfold Pan
                  (try simp only [Exit.inBlock, Exit.then])
                  rw [← HQ.out]
                  exact ⟨rfl, RdIs.bad hF hO2⟩
                | ok _u s11 =>
                  rw [hr] at hm
                  obtain ⟨hS, v, rfl, hV⟩ := hm
                  have hR := HR.out
                  rw [hr] at hR
                  rw [bind_ok] at hR
                  clear HR hr
                  have HR := Lib.hid hR
                  have HS := Lib.hid hS
                  clear hR hS
                  have lz_w10 : w.heap.size < w10.heap.size := blk_lt HS.out.l3
                  clear hV
                  have q0 := HS.out.l0
                  obtain ⟨q0_0, q0_1, q0_2, q0_3, q0_4, q0_5, q0_f⟩ := blk6 q0
                  have q0_l := blk_lt q0
                  clear q0
                  have q3 := HS.out.l3
                  obtain ⟨q3_0, q3_1, q3_2, q3_3, q3_4, q3_5, q3_f⟩ := blk6 q3
                  have q3_l := blk_lt q3
                  clear q3
                  go_wp2_with (fail)
                  have hpl := H.out.plt
                  (try simp only [Exit.inBlock, Exit.then])
                  refine bodyPost_ret (results_cell_row rfl _ _ w.heap.size 54 _ (0, 0) _ rfl (blk_set6 HS.out.l3 _ _ _ _ _ _) Tryz.underlying54 rfl (by kernel_rfl)) rfl ?_
                  rw [← HQ.out]
                  refine RdIs.ok HR.out (St.only (b := b) (toks := toks) (s := s11) (l := []) ?_) (St.pat (w := w) (l := []) ?_) ⟨_, rfl, ExM.kp HM_x.out (by omega) ?_⟩
                  · repeat (first | with_reducible exact HS.out.drop.drop.drop.drop | with_reducible apply St.alloc | with_reducible apply St.drewN | with_reducible apply St.drew | (with_reducible refine St.store ?_ ?_ ?_; omega; (intro x hx; simp at hx)))
                  · repeat (first | with_reducible exact HS.out.drop.drop.drop.drop | with_reducible apply St.alloc | with_reducible apply St.drewN | with_reducible apply St.drew | (with_reducible refine St.store ?_ ?_ ?_; omega; (intro x hx; simp at hx)))
                  · repeat (first | with_reducible exact Kp.refl | with_reducible apply Kp.alloc | with_reducible apply Kp.drew | (with_reducible refine Kp.store ?_ ?_; omega) | (with_reducible refine Kp.only ?_ HWw10.out ?_; omega) | (with_reducible refine Kp.only ?_ HWw8.out ?_; omega) | (with_reducible refine Kp.only ?_ HWw3.out ?_; omega) | (with_reducible refine Kp.only ?_ HWw1.out ?_; omega))
          ·
            have hc : ((PX.peek s).text == [97, 119, 97, 105, 116]) = true := by rw [Ht2.out.1]; simp [tk, hw]
            have hR := HR.out
            simp only [hc, if_true] at hR
            have HR := Lib.hid hR
            have hw_await : (t2.text == [97, 119, 97, 105, 116]) = true := by simp [hw]
            clear hR hc
            have HW_t := Lib.hid hw
            clear hw
            have hR : awaitP k s.length s.tail = R := HR.out
            have HR := Lib.hid hR
            clear hR
            have q0 := HS.out.l0
            obtain ⟨q0_0, q0_1, q0_2, q0_3, q0_f⟩ := blk4 q0
            have q0_l := blk_lt q0
            clear q0
            have q1 := HS.out.l1
            obtain ⟨q1_0, q1_1, q1_2, q1_3, q1_4, q1_5, q1_f⟩ := blk6 q1
            have q1_l := blk_lt q1
            clear q1
            go_wp2_with (fail)
            refine (St.awaits hkm HS.out.new s.length Ht2.out.2 (HR.out ▸ HO.out)).mono ?_
            rintro e w12 ⟨hO, hm⟩
            have HWw12 := Lib.hid hO
            clear hO
            cases hr : awaitP k s.length s.tail with
            | out => rw [hr] at hm; exact hm.elim
            | bad q er =>
              rw [hr] at hm
              obtain ⟨rfl, hO2⟩ := hm
              have hF := HR.out
              rw [hr] at hF
              unfold Pan
              (try simp only [Exit.inBlock, Exit.then])
              rw [← HQ.out]
              exact ⟨rfl, RdIs.bad hF hO2⟩
            | ok x s13 =>
              rw [hr] at hm
              obtain ⟨hS, v, rfl, hV⟩ := hm
              have hR := HR.out
              rw [hr] at hR
              clear HR hr
              have HR := Lib.hid hR
              have HS := Lib.hid hS
              clear hR hS
              have lz_w12 : w.heap.size < w12.heap.size := blk_lt HS.out.l2
              obtain ⟨A_x, n_x, c_x, rfl, hM⟩ := hV.cells
              have HM_x := Lib.hid (k54.M_lower (base' := w.heap.size + 1) (by first | omega | (simp [World.setCell]; omega)) hM)
              clear hV hM
              have q2 := HS.out.l2
              obtain ⟨q2_0, q2_1, q2_2, q2_3, q2_4, q2_5, q2_f⟩ := blk6 q2
              have q2_l := blk_lt q2
              clear q2
              go_wp2_with (fail)
              have hpl := H.out.plt
              (try simp only [Exit.inBlock, Exit.then])
              refine bodyPost_ret (results_cell_row rfl _ _ w.heap.size 54 _ (0, 0) _ rfl (blk_set6 HS.out.l2 _ _ _ _ _ _) Tryz.underlying54 rfl (by kernel_rfl)) rfl ?_
              rw [← HQ.out]
              refine RdIs.ok HR.out (St.only (b := b) (toks := toks) (s := s13) (l := []) ?_) (St.pat (w := w) (l := []) ?_) ⟨_, rfl, ExM.kp HM_x.out (by omega) ?_⟩
              · repeat (first | with_reducible exact HS.out.drop.drop.drop | with_reducible apply St.alloc | with_reducible apply St.drewN | with_reducible apply St.drew | (with_reducible refine St.store ?_ ?_ ?_; omega; (intro x hx; simp at hx)))
              · repeat (first | with_reducible exact HS.out.drop.drop.drop | with_reducible apply St.alloc | with_reducible apply St.drewN | with_reducible apply St.drew | (with_reducible refine St.store ?_ ?_ ?_; omega; (intro x hx; simp at hx)))
              · repeat (first | with_reducible exact Kp.refl | with_reducible apply Kp.alloc | with_reducible apply Kp.drew | (with_reducible refine Kp.store ?_ ?_; omega) | (with_reducible refine Kp.only ?_ HWw12.out ?_; omega) | (with_reducible refine Kp.only ?_ HWw3.out ?_; omega) | (with_reducible refine Kp.only ?_ HWw1.out ?_; omega))
        ·
          have hc : ((PX.peek s).text == [109, 101, 114, 103, 101]) = true := by rw [Ht2.out.1]; simp [tk, hw]
          have hR := HR.out
          simp only [hc, if_true] at hR
          have HR := Lib.hid hR
          have hw_merge : (t2.text == [109, 101, 114, 103, 101]) = true := by simp [hw]
          clear hR hc
          have HW_t := Lib.hid hw
          clear hw
          go_wp2_with (fail)
          obtain ⟨w14, hW⟩ : ∃ W, W = w3.alloc (Obj.cells #[.int .i64 t4.kind, .int .i64 t4.at_, .string ⟨t4.text.toArray⟩, .int .u64 t4.n] 35) := ⟨_, rfl⟩
          rw [← hW]
          have HSX := Lib.hid (HS.out.new (o := Obj.cells #[.int .i64 t4.kind, .int .i64 t4.at_, .string ⟨t4.text.toArray⟩, .int .u64 t4.n] 35))
          rw [← hW] at HSX
          have HS := HSX
          clear HSX
          have HWw14 := Lib.hid ((Only.refl p w3).alloc (Obj.cells #[.int .i64 t4.kind, .int .i64 t4.at_, .string ⟨t4.text.toArray⟩, .int .u64 t4.n] 35))
          rw [← hW] at HWw14
          clear hW
          have lz_w14 : w.heap.size < w14.heap.size := blk_lt HS.out.l2
          have q0 := HS.out.l0
          obtain ⟨q0_0, q0_1, q0_2, q0_3, q0_f⟩ := blk4 q0
          have q0_l := blk_lt q0
          clear q0
          have q1 := HS.out.l1
          obtain ⟨q1_0, q1_1, q1_2, q1_3, q1_f⟩ := blk4 q1
          have q1_l := blk_lt q1
          clear q1
          have q2 := HS.out.l2
          obtain ⟨q2_0, q2_1, q2_2, q2_3, q2_4, q2_5, q2_f⟩ := blk6 q2
          have q2_l := blk_lt q2
          clear q2
          have hR := HR.out
          have HR : Hid ((PX.name s.tail).bind (fun m s1 => mergeGo k s.length m 2 [] s1) = R) := Lib.hid hR
          clear hR
          have hS0 : (w14.drew).cell? ⟨w1.heap.size, 1, none⟩ = some (.int .i64 t2.at_) := (blk4 HS.out.drew.l1).2.1
          have hS0a : ∀ o, ((w14.alloc o).drew).cell? ⟨w1.heap.size, 1, none⟩ = some (.int .i64 t2.at_) := fun o => (blk4 (HS.out.alloc (o := o)).drew.l1).2.1
          go_cut [6] (fun u wc => ∃ gE m s7, u = .pointer (some ⟨gE, 0, none⟩) ∧ w.heap.size < gE ∧ Hid (mergeGo k s.length m 2 [] s7 = R) ∧ Hid (St p b toks w wc s7 [(gE, Obj.cells #[.int .i64 12, .int .i64 (atOf toks s.length), .int .i64 0, .string ⟨m.toArray⟩, .bool false, .slice none 0 0] 54), (w.heap.size, Obj.cells #[.int .i64 0, .int .i64 0, .int .i64 0, .string ⟨#[]⟩, .bool false, .slice none 0 0] 54)]))
          case first =>
            go_region_with (first | (go_at_call 80; (first | ((with_reducible refine (St.names HS.out.drew).mono ?_); have mkB := Lib.hid trivial) | ((with_reducible refine (St.names HS.out.new.drew).mono ?_); have mkA := Lib.hid trivial)); go_must (rintro e w15 ⟨hO, hm⟩; refine Told.part hm ?_ ?_; (focus intro q er hr he hO2; subst he; have hF := HR.out; rw [hr] at hF; unfold Pan; (try simp only [Exit.inBlock, Exit.then]); rw [← HQ.out]; exact ⟨rfl, RdIs.bad hF hO2⟩); intro m s16 hr hS v he hV; have hR := HR.out; rw [hr, bind_ok] at hR; have HR2 := Lib.hid hR; obtain ⟨km, nm, rfl⟩ := hV; subst he; have HS2 := Lib.hid hS; have HW2 := Lib.hid hO; (first | (have _t := mkB; have z0 := (blk4 HS2.out.l1).2.1; have lt_t := blk_lt HS2.out.l1) | (have _t := mkA; have z0 := (blk4 HS2.out.l2).2.1; have lt_t := blk_lt HS2.out.l2; obtain ⟨e0, e1, e2, e3, e4, e5, ef⟩ := blk6 HS2.out.l0)); have l_2 := HS2.out.sz; clear hO hr hR hm)))
            all_goals
              go_wp2_with (fail)
              go_meet
              case rel =>
                have hpl := H.out.plt
                have hne6 : w.heap.size ≠ w14.heap.size := by omega
                have hsz6 := HW2.out.size
                have hsz5 : w14.heap.size ≤ w15.heap.size := by first | exact hsz6 | (simpa using hsz6) | (simp at hsz6; omega)
                first
                | (have _tk := mkB
                   refine ⟨w15.heap.size, m, s16, rfl, by omega, HR2, Lib.hid ?_⟩
                   rw [Ht2.out.2]
                   have hS9 := St.newg (g := w15.heap.size) (o := Obj.cells #[.int .i64 12, .int .i64 t2.at_, .int .i64 0, .string ⟨m.toArray⟩, .bool false, .slice none 0 0] 54) rfl (HS2.out.sub (l' := [(w.heap.size, Obj.cells #[.int .i64 0, .int .i64 0, .int .i64 0, .string ⟨#[]⟩, .bool false, .slice none 0 0] 54)]) (fun x hx => by obtain rfl := List.mem_singleton.1 hx; simp))
                   first | exact hS9 | exact hS9.drewN | exact hS9.drew)
                | (have _tk := mkA
                   refine ⟨w14.heap.size, m, s16, rfl, by omega, HR2, Lib.hid ?_⟩
                   rw [Ht2.out.2]
                   have hS5 := St.store6 (g := w14.heap.size) (v0 := .int .i64 12) (v1 := .int .i64 t2.at_) (v2 := .int .i64 0) (v3 := .string ⟨m.toArray⟩) (v4 := .bool false) (v5 := .slice none 0 0) (by omega) (NB.cons hne6 NB.nil) (HS2.out.sub (l' := [(w.heap.size, Obj.cells #[.int .i64 0, .int .i64 0, .int .i64 0, .string ⟨#[]⟩, .bool false, .slice none 0 0] 54)]) (fun x hx => by obtain rfl := List.mem_singleton.1 hx; simp))
                   first
                   | exact St.cons hS5 (by omega) (blk_set6 HS2.out.l0 _ _ _ _ _ _)
                   | exact St.cons hS5.drew (by omega) (blk_set6 HS2.out.l0 _ _ _ _ _ _))
          case rest =>
            obtain ⟨gE, m, s7, rfl, hgE, HR', HS'⟩ := hcut
            clear HR HS
            have HR := HR'
            have HS := HS'
            clear HR' HS'
            have lgE := blk_lt HS.out.l0
            have lz_c := blk_lt HS.out.l1
            go_wp2_with (fail)
            go_loopg [79] 3 (fun mm u wr => ∃ (n : Nat) (done : List PX.Ex) (s' : List PX.T) (A : Option Addr) (c : Nat), mm = n + 1 ∧ done.length + n = 2 ∧ u = .int .i64 done.length ∧ Hid (mergeGo k s.length m n done s' = R) ∧ Hid (St p b toks w wr s' [(gE, Obj.cells #[.int .i64 12, .int .i64 (atOf toks s.length), .int .i64 0, .string ⟨m.toArray⟩, .bool false, .slice A done.length c] 54), (w.heap.size, Obj.cells #[.int .i64 0, .int .i64 0, .int .i64 0, .string ⟨#[]⟩, .bool false, .slice none 0 0] 54)]) ∧ Hid (k54.R 54 wr (w.heap.size + 1) (fun q => q ≠ gE) (.slice A done.length c) (reals toks done)))
            case atStart => exact ⟨2, [], s7, none, 0, rfl, rfl, rfl, HR, HS, Lib.hid (Kd.R_nil _ _ _ _ _)⟩
            case round =>
              obtain ⟨n, done, s', A, c, rfl, hin, rfl, HR', HS', HRW⟩ := hrel
              clear HR HS
              have HR := HR'
              have HS := HS'
              clear HR' HS'
              have lz_wr : w.heap.size < wr.heap.size := blk_lt HS.out.l1
              have lg_wr : gE < wr.heap.size := blk_lt HS.out.l0
              have hpl := H.out.plt
              cases n with
              | zero =>
                have hi3 : ¬ ((done.length : Nat) : Int) < 2 := by omega
                have hi4 : decide (((done.length : Nat) : Int) < 2) = false := by simp; omega
                obtain ⟨q0_0, q0_1, q0_2, q0_3, q0_4, q0_5, q0_f⟩ := blk6 HS.out.l0
                obtain ⟨q1_0, q1_1, q1_2, q1_3, q1_4, q1_5, q1_f⟩ := blk6 HS.out.l1
                have hne_g : ¬ (gE = w.heap.size) := by omega
                have hne_g2 : ¬ (w.heap.size = gE) := by omega
                go_wp2_with (fail)
                (try simp only [Exit.inBlock, Exit.then])
                refine bodyPost_ret (results_cell_row rfl _ _ w.heap.size 54 _ (0, 0) _ rfl (blk_set6 HS.out.l1 _ _ _ _ _ _) Tryz.underlying54 rfl (by kernel_rfl)) rfl ?_
                rw [← HQ.out]
                refine RdIs.ok HR.out (St.only (b := b) (toks := toks) (s := s') (l := []) ?_) (St.pat (w := w) (l := []) ?_) ⟨_, rfl, with_kidsq (n0 := w.heap.size) toks HRW.out (by omega) ?_ 12 s.length 0 m false⟩
                · repeat (first | with_reducible exact HS.out.drop.drop | with_reducible apply St.alloc | (with_reducible refine St.store ?_ ?_ ?_; omega; (intro x hx; simp at hx)))
                · repeat (first | with_reducible exact HS.out.drop.drop | with_reducible apply St.alloc | (with_reducible refine St.store ?_ ?_ ?_; omega; (intro x hx; simp at hx)))
                · repeat (first | with_reducible exact Kq.refl | with_reducible apply Kq.alloc | with_reducible apply Kq.drew | (with_reducible refine Kq.low ?_ ?_; omega))
              | succ n =>
                have hi2 : ((done.length : Nat) : Int) < 2 := by omega
                have hR := HR.out
                rw [mergeGo] at hR
                clear HR
                have HR := Lib.hid hR
                clear hR
                go_wp2_with (fail)
                refine (St.wants [40] HS.out (by simp)).mono ?_
                rintro e w17 ⟨hO, hm⟩
                have HWw17 := Lib.hid hO
                clear hO
                cases hr : PX.want [40] s' with
                | out => rw [hr] at hm; exact hm.elim
                | bad q er =>
                  rw [hr] at hm
                  obtain ⟨rfl, hO2⟩ := hm
                  have hF := HR.out
                  rw [hr] at hF
                  unfold Pan
                  (try simp only [Exit.inBlock, Exit.then])
                  rw [← HQ.out]
                  exact ⟨rfl, RdIs.bad hF hO2⟩
                | ok _u s18 =>
                  rw [hr] at hm
                  obtain ⟨hS, v, rfl, hV⟩ := hm
                  have hR := HR.out
                  rw [hr] at hR
                  rw [bind_ok] at hR
                  clear HR hr
                  have HR := Lib.hid hR
                  have HS := Lib.hid hS
                  clear hR hS
                  have lz_w17 : w.heap.size < w17.heap.size := blk_lt HS.out.l1
                  clear hV
                  go_wp2_with (fail)
                  have hS0 : (w17.drew).cell? ⟨gE, 5, none⟩ = some (.slice A done.length c) := (blk6 HS.out.drew.l0).2.2.2.2.2.1
                  have hSf : ∀ j, w17.frozen? ⟨gE, j, none⟩ = false := (blk6 HS.out.l0).2.2.2.2.2.2
                  have lgS : gE < w17.heap.size := blk_lt HS.out.l0
                  have hnb : ∀ q, (Value.slice A done.length c).ownBlock = some q → q < w17.heap.size := fun q hq => Nat.lt_of_lt_of_le ((Kd.R_bound HRW.out).1 q hq).2.2.1 (by have := HWw17.out.size; exact this)
                  have hng : ∀ q, (Value.slice A done.length c).ownBlock = some q → q ≠ gE := fun q hq => ((Kd.R_bound HRW.out).1 q hq).1
                  have hnw : ∀ q, (Value.slice A done.length c).ownBlock = some q → w.heap.size + 1 ≤ q := fun q hq => ((Kd.R_bound HRW.out).1 q hq).2.1
                  have HNB := Lib.hid (And.intro hnb (And.intro hng hnw))
                  have HIN := Lib.hid (Res_in HR.out HO.out)
                  have hlen2 : ((reals toks done).length + 1) * 72 ≤ 140737488355328 := by rw [reals_len]; omega
                  have HL2 := Lib.hid hlen2
                  clear hnb hng hnw hlen2
                  have hY5 := (blk6 HS.out.l0).2.2.2.2.2.1
                  go_region_law
                    (first
                    | (go_simp; go_at_call 74; go_must (refine (ReadsEx.call (IH.out k (Nat.le_refl _)) HS.out.drew HIN.out).mono ?_; rintro e w19 ⟨hO, hm⟩; refine Told.part hm ?_ ?_; (focus intro q er hr he hO2; subst he; have hF := HR.out; rw [hr] at hF; unfold Pan; (try simp only [Exit.inBlock, Exit.then]); rw [← HQ.out]; exact ⟨rfl, RdIs.bad hF hO2⟩); intro y s20 hr hS v he hV; have hR := HR.out; rw [hr, bind_ok] at hR; have HR2 := Lib.hid hR; obtain ⟨A_y, n_y, c_y, rfl, hM⟩ := hV.cells; subst he; have HM_y := Lib.hid (k54.M_lower (base' := w17.heap.size) (Nat.le_refl _) hM); have HS2 := Lib.hid hS; have HW2 := Lib.hid hO; have hS1 : w19.cell? ⟨gE, 5, none⟩ = some (.slice A done.length c) := (blk6 HS2.out.l0).2.2.2.2.2.1; have hS2 : ∀ o, (w19.alloc o).cell? ⟨gE, 5, none⟩ = some (.slice A done.length c) := fun o => (blk6 HS2.out.alloc.l0).2.2.2.2.2.1; have HRW2 := Lib.hid (RowR.kq (n0 := w.heap.size + 1) (W' := w19) HRW.out (Nat.le_refl _) (by repeat (first | with_reducible exact Kq.refl | with_reducible apply Kq.alloc | with_reducible apply Kq.drew | with_reducible apply Kq.drewN | (with_reducible refine Kq.only ?_ HWw17.out ?_; omega) | (with_reducible refine Kq.only ?_ HW2.out ?_; omega)))); have l_2 : w17.heap.size ≤ w19.heap.size := HW2.out.size; clear hO hS hM hV hr hR hm))
                    | (refine Kd.R_append_rows_step k54 (w0 := w19) (Rr := fun x' cs' => x' = real toks y ∧ cs' = [.int .i64 y.kind, .int .i64 (atOf toks y.place), .int .i64 y.n, .string ⟨y.name.toArray⟩, .bool y.off, .slice A_y n_y c_y]) (w.heap.size + 1) (by rfl) (.tmp 87) (.tmp 90) 52 54 _ 72 (by rfl) Tryz.underlying52 info_ex rfl (by decide) (by decide) (.slice A done.length c) (reals toks done) [real toks y] (some ⟨w19.heap.size, 0, none⟩) 1 1 (fun q => q ≠ gE) (fun q => w17.heap.size ≤ q) (by rfl) (by rfl) ?aO ?aR ?aK ?aH ?aF ?aB ?aS ?aL ?_; (case aO => exact Kd.R_alloc HRW2.out _); (case aR => exact reads_one (blk_new _ _) rfl); (case aK => exact (fun x' cs' hx => by obtain ⟨rfl, rfl⟩ := hx; exact Kd.M_below (k54.M_lower (by omega) (k54.M_mono (fun q hq => hq.2.1) (k54.M_bound HM_y.out))) (below_alloc (Below.refl _ _) _))); (case aH => exact (fun q hq => ⟨Nat.ne_of_gt (Nat.lt_of_lt_of_le lgS hq), fun e => Nat.lt_irrefl _ (Nat.lt_of_lt_of_le (HNB.out.1 q e.symm) hq)⟩)); (case aF => exact (fun q hq => Nat.ne_of_gt (Nat.lt_of_lt_of_le lgS (Nat.le_trans l_2 (Nat.le_trans (Nat.le_of_lt (by simp)) hq))))); (case aB => exact (below_alloc (Below.refl _ _) _).mono (by omega)); (case aS => (simp; omega)); (case aL => exact HL2.out); intro v1 w9 hR1 hb1 hg1 hat1; obtain ⟨A9, c9, hv⟩ := Kd.R_slice hR1; have hln : (reals toks done ++ [real toks y]).length = done.length + 1 := (by rw [List.length_append, reals_len]; rfl); rw [hln] at hv; subst hv; have hBK : w9.heap[gE]? = some (Obj.cells #[.int .i64 12, .int .i64 (atOf toks s.length), .int .i64 0, .string ⟨m.toArray⟩, .bool false, .slice A done.length c] 54) := (hg1.block gE (blk_lt HS2.out.alloc.l0) (fun e => HNB.out.2.1 gE e.symm rfl)).trans HS2.out.alloc.l0; have hS3 := (blk6 hBK).2.2.2.2.2.1; have hSf3 := (blk6 hBK).2.2.2.2.2.2; have HBK := Lib.hid hBK; have HR1 := Lib.hid hR1; have HG1 := Lib.hid hg1; clear hR1 hb1 hg1 hat1 hBK))
                  all_goals
                    have hS9 : St p b toks w w9 s20 [(gE, Obj.cells #[.int .i64 12, .int .i64 (atOf toks s.length), .int .i64 0, .string ⟨m.toArray⟩, .bool false, .slice A done.length c] 54), (w.heap.size, Obj.cells #[.int .i64 0, .int .i64 0, .int .i64 0, .string ⟨#[]⟩, .bool false, .slice none 0 0] 54)] := St.grown2 HS2.out.alloc HG1.out (fun q hq => ⟨by have := HNB.out.2.2 q hq; omega, fun x hx => by
                      have h1 := HNB.out.2.1 q hq
                      have h2 := HNB.out.2.2 q hq
                      rcases List.mem_cons.1 hx with rfl | hx
                      · exact fun e => h1 e.symm
                      · obtain rfl := List.mem_singleton.1 hx
                        show w.heap.size ≠ q
                        omega⟩)
                    have hS9' : St p b toks w (w9.setCell ⟨gE, 5, none⟩ (.slice A9 (done.length + 1) c9)) s20 [(gE, Obj.cells #[.int .i64 12, .int .i64 (atOf toks s.length), .int .i64 0, .string ⟨m.toArray⟩, .bool false, .slice A9 (done.length + 1) c9] 54), (w.heap.size, Obj.cells #[.int .i64 0, .int .i64 0, .int .i64 0, .string ⟨#[]⟩, .bool false, .slice none 0 0] 54)] := St.cons (St.store (g := gE) (by omega) (NB.cons (by omega) NB.nil) hS9.drop) (by omega) (blk_set HBK.out 5 _)
                    have hR9 := RowR.kq HR1.out (Nat.le_refl _) (Kq.store (j := 5) (v := .slice A9 (done.length + 1) c9) Kq.refl)
                    obtain ⟨w21, hW⟩ : ∃ W, W = w9.setCell ⟨gE, 5, none⟩ (.slice A9 (done.length + 1) c9) := ⟨_, rfl⟩
                    rw [← hW] at hS9' hR9 ⊢
                    clear hS9 hW HS HR
                    have HS := Lib.hid hS9'
                    have HR9 := Lib.hid hR9
                    have HR := HR2
                    clear hS9' hR9 HR2 HS2 HBK HR1 HG1 hS1 hS2 hS3 hSf3 hY5 hS0 hSf
                    go_wp2_with (fail)
                    refine (St.wants [41] HS.out (by simp)).mono ?_
                    rintro e w22 ⟨hO, hm⟩
                    have HWw22 := Lib.hid hO
                    clear hO
                    cases hr : PX.want [41] s20 with
                    | out => rw [hr] at hm; exact hm.elim
                    | bad q er =>
                      rw [hr] at hm
                      obtain ⟨rfl, hO2⟩ := hm
                      have hF := HR.out
                      rw [hr] at hF
                      unfold Pan
                      (try simp only [Exit.inBlock, Exit.then])
                      rw [← HQ.out]
                      exact ⟨rfl, RdIs.bad hF hO2⟩
                    | ok _u s23 =>
                      rw [hr] at hm
                      obtain ⟨hS, v, rfl, hV⟩ := hm
                      have hR := HR.out
                      rw [hr] at hR
                      rw [bind_ok] at hR
                      clear HR hr
                      have HR := Lib.hid hR
                      have HS := Lib.hid hS
                      clear hR hS
                      have lz_w22 : w.heap.size < w22.heap.size := blk_lt HS.out.l1
                      clear hV
                      go_wp2_with (fail)
                      go_roundg (n + 1)
                      case measure => omega
                      case rel =>
                        have hl : (done ++ [y]).length = done.length + 1 := by simp
                        refine ⟨n, done ++ [y], s23, A9, c9, rfl, by omega, by rw [hl]; rfl, HR, ?_, ?_⟩
                        · rw [hl]
                          exact HS
                        · rw [hl, reals_append]
                          exact Lib.hid (RowR.kq HR9.out (Nat.le_refl _) (by repeat (first | with_reducible exact Kq.refl | with_reducible apply Kq.alloc | with_reducible apply Kq.drew | (with_reducible refine Kq.only ?_ HWw22.out ?_; omega))))
    ·
      have hc : ((PX.peek s).kind == 1) = true := by rw [Ht2.out.1]; simpa [tk] using hk
      have hR := HR.out
      simp only [hc, if_true] at hR
      have HR := Lib.hid hR
      have HKt2 := Lib.hid hk
      have hk1 : ((t2.kind : Int) == 1) = true := by simp; omega
      have hk2 : ((t2.kind : Int) != 1) = false := by simp; omega
      have hk3 : ((t2.kind : Int) = 1) := by omega
      clear hk hc hR
      obtain ⟨tX, cX, kX, hbX, _, _, hlX, _, _, _, _⟩ := HS.out.pat.head
      have HBX := Lib.hid hbX
      obtain ⟨p0, p1, pf⟩ := blk2p hbX
      have p_l := HS.out.pat.plt
      have hsm := HS.out.pat.few
      have hk9 : (kX : Int) + 1 ≤ 9223372036854775807 := by omega
      have hne5 : (PX.peek s).kind ≠ 5 := by rw [Ht2.out.1]; simp [tk, HKt2.out]
      have HNE := Lib.hid hne5
      have hpl := H.out.plt
      clear hbX hsm hlX hne5
      have np_0 : ¬ (w.heap.size = p) := by omega
      have q0 := HS.out.l0
      obtain ⟨q0_0, q0_1, q0_2, q0_3, q0_4, q0_5, q0_f⟩ := blk6 q0
      have q0_l := blk_lt q0
      clear q0
      go_wp2_with (fail)
      have hpk : (PX.peek s).text = t2.text := by rw [Ht2.out.1]; rfl
      have hR := HR.out
      rw [hpk] at hR
      have HR := Lib.hid hR
      clear hR hpk
      refine (St.iss [[40]] ((HS.out.adv HBX.out HNE.out).newg (g := w1.heap.size) (by simp [World.setCell])) (by simp) (by decide)).mono ?_
      rintro e w24 ⟨hO, hS, rfl⟩
      have HWw24 := Lib.hid hO
      clear hO
      obtain ⟨B, hB⟩ : ∃ B, PX.is [[40]] s.tail = B := ⟨_, rfl⟩
      rw [hB]
      have hR := HR.out
      rw [hB] at hR
      have HBw24 := Lib.hid hB
      clear HR hB
      have HS := Lib.hid hS
      clear hS
      cases B with
      | false =>
        simp only [Bool.false_eq_true, if_false] at hR
        have HR := Lib.hid hR
        clear hR
        have lz_w24 : w.heap.size < w24.heap.size := blk_lt HS.out.l1
        have q0 := HS.out.l0
        obtain ⟨q0_0, q0_1, q0_2, q0_3, q0_f⟩ := blk4 q0
        have q0_l := blk_lt q0
        clear q0
        have q1 := HS.out.l1
        obtain ⟨q1_0, q1_1, q1_2, q1_3, q1_4, q1_5, q1_f⟩ := blk6 q1
        have q1_l := blk_lt q1
        clear q1
        go_wp2_with (fail)
        have hpl := H.out.plt
        (try simp only [Exit.inBlock, Exit.then])
        refine bodyPost_ret (results_cell_row rfl _ _ w.heap.size 54 _ (0, 0) _ rfl (blk_set6 HS.out.l1 _ _ _ _ _ _) Tryz.underlying54 rfl (by kernel_rfl)) rfl ?_
        rw [← HQ.out]
        refine RdIs.ok HR.out (St.only (b := b) (toks := toks) (s := s.tail) (l := []) ?_) (St.pat (w := w) (l := []) ?_) ⟨_, rfl, ?_⟩
        · repeat (first | with_reducible exact HS.out.drop.drop | with_reducible apply St.alloc | with_reducible apply St.drewN | with_reducible apply St.drew | (with_reducible refine St.store ?_ ?_ ?_; omega; (intro x hx; simp at hx)))
        · repeat (first | with_reducible exact HS.out.drop.drop | with_reducible apply St.alloc | with_reducible apply St.drewN | with_reducible apply St.drew | (with_reducible refine St.store ?_ ?_ ?_; omega; (intro x hx; simp at hx)))
        · rw [← Ht2.out.2]
          exact leaf_M toks _ _ 3 s.length 0 t2.text false
      | true =>
        simp only [if_true] at hR
        have HR := Lib.hid hR
        clear hR
        have lz_w24 : w.heap.size < w24.heap.size := blk_lt HS.out.l1
        have q0 := HS.out.l0
        obtain ⟨q0_0, q0_1, q0_2, q0_3, q0_f⟩ := blk4 q0
        have q0_l := blk_lt q0
        clear q0
        have q1 := HS.out.l1
        obtain ⟨q1_0, q1_1, q1_2, q1_3, q1_4, q1_5, q1_f⟩ := blk6 q1
        have q1_l := blk_lt q1
        clear q1
        go_wp2_with (fail)
        refine (St.calls (calls_of k IH.out hkm) HS.out t2.text s.length Ht2.out.2 (HR.out ▸ HO.out)).mono ?_
        rintro e w25 ⟨hO, hm⟩
        have HWw25 := Lib.hid hO
        clear hO
        cases hr : PX.call k t2.text s.length s.tail with
        | out => rw [hr] at hm; exact hm.elim
        | bad q er =>
          rw [hr] at hm
          obtain ⟨rfl, hO2⟩ := hm
          have hF := HR.out
          rw [hr] at hF
          unfold Pan
          (try simp only [Exit.inBlock, Exit.then])
          rw [← HQ.out]
          exact ⟨rfl, RdIs.bad hF hO2⟩
        | ok x s26 =>
          rw [hr] at hm
          obtain ⟨hS, v, rfl, hV⟩ := hm
          have hR := HR.out
          rw [hr] at hR
          clear HR hr
          have HR := Lib.hid hR
          have HS := Lib.hid hS
          clear hR hS
          have lz_w25 : w.heap.size < w25.heap.size := blk_lt HS.out.l1
          obtain ⟨A_x, n_x, c_x, rfl, hM⟩ := hV.cells
          have HM_x := Lib.hid (k54.M_lower (base' := w.heap.size + 1) (by first | omega | (simp [World.setCell]; omega)) hM)
          clear hV hM
          have q1 := HS.out.l1
          obtain ⟨q1_0, q1_1, q1_2, q1_3, q1_4, q1_5, q1_f⟩ := blk6 q1
          have q1_l := blk_lt q1
          clear q1
          go_wp2_with (fail)
          have hpl := H.out.plt
          (try simp only [Exit.inBlock, Exit.then])
          refine bodyPost_ret (results_cell_row rfl _ _ w.heap.size 54 _ (0, 0) _ rfl (blk_set6 HS.out.l1 _ _ _ _ _ _) Tryz.underlying54 rfl (by kernel_rfl)) rfl ?_
          rw [← HQ.out]
          refine RdIs.ok HR.out (St.only (b := b) (toks := toks) (s := s26) (l := []) ?_) (St.pat (w := w) (l := []) ?_) ⟨_, rfl, ExM.kp HM_x.out (by omega) ?_⟩
          · repeat (first | with_reducible exact HS.out.drop.drop | with_reducible apply St.alloc | with_reducible apply St.drewN | with_reducible apply St.drew | (with_reducible refine St.store ?_ ?_ ?_; omega; (intro x hx; simp at hx)))
          · repeat (first | with_reducible exact HS.out.drop.drop | with_reducible apply St.alloc | with_reducible apply St.drewN | with_reducible apply St.drew | (with_reducible refine St.store ?_ ?_ ?_; omega; (intro x hx; simp at hx)))
          · repeat (first | with_reducible exact Kp.refl | with_reducible apply Kp.alloc | with_reducible apply Kp.drew | (with_reducible refine Kp.store ?_ ?_; omega) | (with_reducible refine Kp.only ?_ HWw25.out ?_; omega) | (with_reducible refine Kp.only ?_ HWw24.out ?_; omega) | (with_reducible refine Kp.only ?_ HWw1.out ?_; omega))
  ·
    have hc : ((PX.peek s).kind == 2) = true := by rw [Ht2.out.1]; simpa [tk] using hk
    have hR := HR.out
    simp only [hc, if_true] at hR
    have HR := Lib.hid hR
    have HKt2 := Lib.hid hk
    have hk1 : ((t2.kind : Int) == 2) = true := by simp; omega
    have hk2 : ((t2.kind : Int) != 2) = false := by simp; omega
    have hk3 : ((t2.kind : Int) = 2) := by omega
    clear hk hc hR
    obtain ⟨tX, cX, kX, hbX, _, _, hlX, _, _, _, _⟩ := HS.out.pat.head
    have HBX := Lib.hid hbX
    obtain ⟨p0, p1, pf⟩ := blk2p hbX
    have p_l := HS.out.pat.plt
    have hsm := HS.out.pat.few
    have hk9 : (kX : Int) + 1 ≤ 9223372036854775807 := by omega
    have hne5 : (PX.peek s).kind ≠ 5 := by rw [Ht2.out.1]; simp [tk, HKt2.out]
    have HNE := Lib.hid hne5
    have hpl := H.out.plt
    clear hbX hsm hlX hne5
    have np_0 : ¬ (w.heap.size = p) := by omega
    have q0 := HS.out.l0
    obtain ⟨q0_0, q0_1, q0_2, q0_3, q0_4, q0_5, q0_f⟩ := blk6 q0
    have q0_l := blk_lt q0
    clear q0
    go_wp2_with (fail)
    have hS1 := (HS.out).adv HBX.out HNE.out
    have hn := HS.out.pat.num Ht2.out.1
    refine (St.numbers (p := p) (b := b) (toks := toks) (w := w) (s := s) (l := [(w.heap.size, Obj.cells #[.int .i64 0, .int .i64 0, .int .i64 0, .string ⟨#[]⟩, .bool false, .slice none 0 0] 54)]) ?_ Ht2.out.1 Ht2.out.2 hn s.length Ht2.out.2 false).mono ?_
    · repeat (first | with_reducible exact hS1 | with_reducible apply St.alloc | (with_reducible refine St.store ?_ (NB.cons ?_ NB.nil) ?_; omega; omega))
    rintro e w27 ⟨hO, hm⟩
    have HWw27 := Lib.hid hO
    clear hO
    cases hr : PX.number s s.length false with
    | out => rw [hr] at hm; exact hm.elim
    | bad q er =>
      rw [hr] at hm
      obtain ⟨rfl, hO2⟩ := hm
      have hF := HR.out
      rw [hr] at hF
      unfold Pan
      (try simp only [Exit.inBlock, Exit.then])
      rw [← HQ.out]
      exact ⟨rfl, RdIs.bad hF hO2⟩
    | ok x s28 =>
      rw [hr] at hm
      obtain ⟨hS, v, rfl, hV⟩ := hm
      have hR := HR.out
      rw [hr] at hR
      clear HR hr
      have HR := Lib.hid hR
      have HS := Lib.hid hS
      clear hR hS hS1
      have lz_w27 : w.heap.size < w27.heap.size := blk_lt HS.out.l0
      obtain ⟨A_x, n_x, c_x, rfl, hM⟩ := hV.cells
      have HM_x := Lib.hid (k54.M_lower (base' := w.heap.size + 1) (by simp [World.setCell]; omega) hM)
      clear hV hM
      have q0 := HS.out.l0
      obtain ⟨q0_0, q0_1, q0_2, q0_3, q0_4, q0_5, q0_f⟩ := blk6 q0
      have q0_l := blk_lt q0
      clear q0
      go_wp2_with (fail)
      have hpl := H.out.plt
      (try simp only [Exit.inBlock, Exit.then])
      refine bodyPost_ret (results_cell_row rfl _ _ w.heap.size 54 _ (0, 0) _ rfl (blk_set6 HS.out.l0 _ _ _ _ _ _) Tryz.underlying54 rfl (by kernel_rfl)) rfl ?_
      rw [← HQ.out]
      refine RdIs.ok HR.out (St.only (b := b) (toks := toks) (s := s28) (l := []) ?_) (St.pat (w := w) (l := []) ?_) ⟨_, rfl, ExM.kp HM_x.out (by omega) ?_⟩
      · repeat (first | with_reducible exact HS.out.drop | with_reducible apply St.alloc | with_reducible apply St.drewN | with_reducible apply St.drew | (with_reducible refine St.store ?_ ?_ ?_; omega; (intro x hx; simp at hx)))
      · repeat (first | with_reducible exact HS.out.drop | with_reducible apply St.alloc | with_reducible apply St.drewN | with_reducible apply St.drew | (with_reducible refine St.store ?_ ?_ ?_; omega; (intro x hx; simp at hx)))
      · repeat (first | with_reducible exact Kp.refl | with_reducible apply Kp.alloc | with_reducible apply Kp.drew | (with_reducible refine Kp.store ?_ ?_; omega) | (with_reducible refine Kp.only ?_ HWw27.out ?_; omega) | (with_reducible refine Kp.only ?_ HWw1.out ?_; omega))
end Go.Proofs.YtjafllnbgfcchaaGreatDoor.Px
