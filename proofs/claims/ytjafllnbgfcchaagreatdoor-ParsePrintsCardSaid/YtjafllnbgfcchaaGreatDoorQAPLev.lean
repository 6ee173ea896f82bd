/- The four levels of signs that bind to the left, walked. -/
import Derived.Test.YtjafllnbgfcchaaGreatDoorQAPLeft
import Derived.Deep.DeepMust
namespace Go.Proofs.YtjafllnbgfcchaaGreatDoor.Px
set_option linter.unusedVariables false
set_option linter.unusedSimpArgs false
open Go Go.RowKit Go.Proofs.YtjafllnbgfcchaaGreatDoorW.PrintWords Go.Proofs.YtjafllnbgfcchaaGreatDoorW.PrintLast Go.Proofs.YtjafllnbgfcchaaGreatDoorW.PrintMore Go.Proofs.YtjafllnbgfcchaaGreatDoor.Lx Go.Proofs.YtjafllnbgfcchaaGreatDoor.XK
attribute [local go_sem ↓] Go.wp_at_zero Go.wp_at_succ

theorem unary_bin {p b : Nat} {toks : List LX.Tok} (j : Nat) (ih : ∀ i, i < j → ReadsEx p b toks 205 (PX.unary i)) : ReadsEx p b toks 205 (PX.bin j 5) := by
 intro s w h hout
 cases j with
 | zero => cases hout
 | succ j =>
  have e : PX.bin (j + 1) 5 s = PX.unary j s := by rw [PX.bin, if_neg (by decide), if_pos rfl]
  rw [e] at hout ⊢
  exact ih j (Nat.lt_succ_self j) s w h hout
theorem left_at {p b : Nat} {toks : List LX.Tok} (fk : FuncId) (hf : ∀ args w, (callFunc fk args).run Tryz.prog w = .ok (.enter fk args) w) (lvl k : Nat) (hk : ∀ j, j ≤ k → ReadsEx p b toks fk (PX.bin j (lvl + 1))) (l : List PX.B) (hl : PX.levelSigns lvl = l) {g : Nat} {w W : World} {s : List PX.T} {o : List (Nat × Obj)} (h : St p b toks w W s o) (hg : W.heap.size = g) (hlen : l.length ≤ 100)
  (hout : ((PX.bin k (lvl + 1) s).bind fun a s1 => PX.left k lvl a s1).isOut = false) :
  Calls Tryz.prog 175 #[.pointer (some ⟨p, 0, none⟩), .func (.func fk) #[.pointer (some ⟨p, 0, none⟩)] #[], .slice (some ⟨g, 0, none⟩) l.length l.length] (W.alloc (.cells (l.map fun x => Value.string ⟨x.toArray⟩).toArray 9)) fun e w' => Told p b toks w o ((PX.bin k (lvl + 1) s).bind fun a s1 => PX.left k lvl a s1) (ExV toks (W.heap.size + 1)) e w' := by
 subst hl
 have hp := h.pat.plt
 refine (left_walk fk hf lvl k hk g s _ (h.pat.alloc _) (texts_new (PX.levelSigns lvl) hg) (by subst hg; simp) (by omega) hlen hout).mono ?_
 intro e w' hm
 have e2 : (W.alloc (.cells ((PX.levelSigns lvl).map fun x => Value.string ⟨x.toArray⟩).toArray 9)).heap.size = W.heap.size + 1 := by simp
 rw [← e2]
 exact hm.told h.alloc
set_option maxHeartbeats 4000000 in
set_option maxRecDepth 100000 in
theorem or_step {p b k : Nat} {toks : List LX.Tok} (ihs : ∀ j, j ≤ k → Walks p b toks j) : ReadsEx p b toks 160 (PX.bin (k + 1) 0) := by
 intro s w h hout
 obtain ⟨R, hR⟩ : ∃ R, PX.bin (k + 1) 0 s = R := ⟨_, rfl⟩
 rw [hR] at hout ⊢
 rw [PX.bin, if_neg (by decide), if_neg (by decide)] at hR
 have H := Lib.hid h
 have HK : Hid (∀ j, j ≤ k → ReadsEx p b toks 176 (PX.bin j 1)) := Lib.hid (fun j hj => (ihs j hj).and_)
 have HR := Lib.hid hR
 have HO := Lib.hid hout
 clear h ihs hR hout
 obtain ⟨Q, hQ⟩ : ∃ Q, RdIs p b toks w R (ExV toks w.heap.size) = Q := ⟨_, rfl⟩
 rw [show (fun e w' => RdIs p b toks w R (ExV toks w.heap.size) e w') = Q from hQ]
 have HQ := Lib.hid hQ
 clear hQ
 have hmf : ∀ (fn : Fn) (first cap : Array Value) (w : World), (Instr.makeFunc fn first cap).run Tryz.prog w = .ok (.func fn first cap) w := fun _ _ _ _ => rfl
 have hf : ∀ args w, (callFunc 176 args).run Tryz.prog w = .ok (.enter 176 args) w := enters_of Tryz.func176 (by kernel_rfl) rfl
 have HF := Lib.hid hf
 clear hf
 have hout2 : ((PX.bin k 1 s).bind fun a s1 => PX.left k 0 a s1).isOut = false := by rw [HR.out]; exact HO.out
 have HO2 := Lib.hid hout2
 clear hout2
 go_enter Tryz.func160, Tryz.ntmps160
 go_wp2_with (fail)
 clear hmf
 refine (left_at 176 HF.out 0 k HK.out [[111, 114], [120, 111, 114]] rfl ((St.start (w := w) H.out).new (o := Obj.cells #[.int .i64 0, .int .i64 0, .int .i64 0, .string ⟨#[]⟩, .bool false, .slice none 0 0] 54)) (by simp) (by decide) HO2.out).mono ?_
 rintro e w1 hm
 obtain ⟨R', hR'⟩ : ∃ R', R' = R := ⟨_, rfl⟩
 rw [HR.out, ← hR'] at hm
 cases R' with
 | out => exact hm.elim
 | bad q er =>
  obtain ⟨rfl, hO2⟩ := hm
  unfold Pan
  (try simp only [Exit.inBlock, Exit.then])
  rw [← HQ.out]
  exact ⟨rfl, RdIs.bad hR' hO2⟩
 | ok x s1 =>
  obtain ⟨hS, v, rfl, hV⟩ := hm
  clear HR
  have HR := Lib.hid hR'
  have HS := Lib.hid hS
  clear hR' hS
  obtain ⟨A_x, n_x, c_x, rfl, hM⟩ := hV.cells
  have HM_x := Lib.hid (k54.M_lower (base' := w.heap.size + 1) (by simp; try omega) hM)
  clear hV hM
  have q0 := HS.out.l0
  obtain ⟨q0_0, q0_1, q0_2, q0_3, q0_4, q0_5, q0_f⟩ := blk6 q0
  have q0_l := blk_lt q0
  clear q0
  go_wp2_with (fail)
  have hpl := H.out.plt
  (try simp only [Exit.inBlock, Exit.then])
  refine bodyPost_ret (results_cell_row rfl _ _ w.heap.size 54 _ (0, 0) _ rfl (blk_set6 HS.out.l0 _ _ _ _ _ _) Tryz.underlying54 rfl (by kernel_rfl)) rfl ?_
  rw [← HQ.out]
  refine RdIs.ok HR.out (St.only (b := b) (toks := toks) (s := s1) (l := []) ?_) (St.pat (w := w) (l := []) ?_) ⟨_, rfl, ExM.kp HM_x.out (by omega) ?_⟩
  ·repeat (first | with_reducible exact HS.out.drop | with_reducible apply St.alloc | with_reducible apply St.drewN | with_reducible apply St.drew | (with_reducible refine St.store ?_ ?_ ?_; omega; (intro x hx; simp at hx)))
  ·repeat (first | with_reducible exact HS.out.drop | with_reducible apply St.alloc | with_reducible apply St.drewN | with_reducible apply St.drew | (with_reducible refine St.store ?_ ?_ ?_; omega; (intro x hx; simp at hx)))
  ·repeat (first | with_reducible exact Kp.refl | with_reducible apply Kp.alloc | with_reducible apply Kp.drew | (with_reducible refine Kp.store ?_ ?_; omega))
set_option maxHeartbeats 4000000 in
set_option maxRecDepth 100000 in
theorem and_step {p b k : Nat} {toks : List LX.Tok} (ihs : ∀ j, j ≤ k → Walks p b toks j) : ReadsEx p b toks 176 (PX.bin (k + 1) 1) := by
 intro s w h hout
 obtain ⟨R, hR⟩ : ∃ R, PX.bin (k + 1) 1 s = R := ⟨_, rfl⟩
 rw [hR] at hout ⊢
 rw [PX.bin, if_neg (by decide), if_neg (by decide)] at hR
 have H := Lib.hid h
 have HK : Hid (∀ j, j ≤ k → ReadsEx p b toks 187 (PX.bin j 2)) := Lib.hid (fun j hj => (ihs j hj).not_)
 have HR := Lib.hid hR
 have HO := Lib.hid hout
 clear h ihs hR hout
 obtain ⟨Q, hQ⟩ : ∃ Q, RdIs p b toks w R (ExV toks w.heap.size) = Q := ⟨_, rfl⟩
 rw [show (fun e w' => RdIs p b toks w R (ExV toks w.heap.size) e w') = Q from hQ]
 have HQ := Lib.hid hQ
 clear hQ
 have hmf : ∀ (fn : Fn) (first cap : Array Value) (w : World), (Instr.makeFunc fn first cap).run Tryz.prog w = .ok (.func fn first cap) w := fun _ _ _ _ => rfl
 have hf : ∀ args w, (callFunc 187 args).run Tryz.prog w = .ok (.enter 187 args) w := enters_of Tryz.func187 (by kernel_rfl) rfl
 have HF := Lib.hid hf
 clear hf
 have hout2 : ((PX.bin k 2 s).bind fun a s1 => PX.left k 1 a s1).isOut = false := by rw [HR.out]; exact HO.out
 have HO2 := Lib.hid hout2
 clear hout2
 go_enter Tryz.func176, Tryz.ntmps176
 go_wp2_with (fail)
 clear hmf
 refine (left_at 187 HF.out 1 k HK.out [[97, 110, 100]] rfl ((St.start (w := w) H.out).new (o := Obj.cells #[.int .i64 0, .int .i64 0, .int .i64 0, .string ⟨#[]⟩, .bool false, .slice none 0 0] 54)) (by simp) (by decide) HO2.out).mono ?_
 rintro e w1 hm
 obtain ⟨R', hR'⟩ : ∃ R', R' = R := ⟨_, rfl⟩
 rw [HR.out, ← hR'] at hm
 cases R' with
 | out => exact hm.elim
 | bad q er =>
  obtain ⟨rfl, hO2⟩ := hm
  unfold Pan
  (try simp only [Exit.inBlock, Exit.then])
  rw [← HQ.out]
  exact ⟨rfl, RdIs.bad hR' hO2⟩
 | ok x s1 =>
  obtain ⟨hS, v, rfl, hV⟩ := hm
  clear HR
  have HR := Lib.hid hR'
  have HS := Lib.hid hS
  clear hR' hS
  obtain ⟨A_x, n_x, c_x, rfl, hM⟩ := hV.cells
  have HM_x := Lib.hid (k54.M_lower (base' := w.heap.size + 1) (by simp; try omega) hM)
  clear hV hM
  have q0 := HS.out.l0
  obtain ⟨q0_0, q0_1, q0_2, q0_3, q0_4, q0_5, q0_f⟩ := blk6 q0
  have q0_l := blk_lt q0
  clear q0
  go_wp2_with (fail)
  have hpl := H.out.plt
  (try simp only [Exit.inBlock, Exit.then])
  refine bodyPost_ret (results_cell_row rfl _ _ w.heap.size 54 _ (0, 0) _ rfl (blk_set6 HS.out.l0 _ _ _ _ _ _) Tryz.underlying54 rfl (by kernel_rfl)) rfl ?_
  rw [← HQ.out]
  refine RdIs.ok HR.out (St.only (b := b) (toks := toks) (s := s1) (l := []) ?_) (St.pat (w := w) (l := []) ?_) ⟨_, rfl, ExM.kp HM_x.out (by omega) ?_⟩
  ·repeat (first | with_reducible exact HS.out.drop | with_reducible apply St.alloc | with_reducible apply St.drewN | with_reducible apply St.drew | (with_reducible refine St.store ?_ ?_ ?_; omega; (intro x hx; simp at hx)))
  ·repeat (first | with_reducible exact HS.out.drop | with_reducible apply St.alloc | with_reducible apply St.drewN | with_reducible apply St.drew | (with_reducible refine St.store ?_ ?_ ?_; omega; (intro x hx; simp at hx)))
  ·repeat (first | with_reducible exact Kp.refl | with_reducible apply Kp.alloc | with_reducible apply Kp.drew | (with_reducible refine Kp.store ?_ ?_; omega))
set_option maxHeartbeats 4000000 in
set_option maxRecDepth 100000 in
theorem sum_step {p b k : Nat} {toks : List LX.Tok} (ihs : ∀ j, j ≤ k → Walks p b toks j) : ReadsEx p b toks 198 (PX.bin (k + 1) 3) := by
 intro s w h hout
 obtain ⟨R, hR⟩ : ∃ R, PX.bin (k + 1) 3 s = R := ⟨_, rfl⟩
 rw [hR] at hout ⊢
 rw [PX.bin, if_neg (by decide), if_neg (by decide)] at hR
 have H := Lib.hid h
 have HK : Hid (∀ j, j ≤ k → ReadsEx p b toks 204 (PX.bin j 4)) := Lib.hid (fun j hj => (ihs j hj).term)
 have HR := Lib.hid hR
 have HO := Lib.hid hout
 clear h ihs hR hout
 obtain ⟨Q, hQ⟩ : ∃ Q, RdIs p b toks w R (ExV toks w.heap.size) = Q := ⟨_, rfl⟩
 rw [show (fun e w' => RdIs p b toks w R (ExV toks w.heap.size) e w') = Q from hQ]
 have HQ := Lib.hid hQ
 clear hQ
 have hmf : ∀ (fn : Fn) (first cap : Array Value) (w : World), (Instr.makeFunc fn first cap).run Tryz.prog w = .ok (.func fn first cap) w := fun _ _ _ _ => rfl
 have hf : ∀ args w, (callFunc 204 args).run Tryz.prog w = .ok (.enter 204 args) w := enters_of Tryz.func204 (by kernel_rfl) rfl
 have HF := Lib.hid hf
 clear hf
 have hout2 : ((PX.bin k 4 s).bind fun a s1 => PX.left k 3 a s1).isOut = false := by rw [HR.out]; exact HO.out
 have HO2 := Lib.hid hout2
 clear hout2
 go_enter Tryz.func198, Tryz.ntmps198
 go_wp2_with (fail)
 clear hmf
 refine (left_at 204 HF.out 3 k HK.out [[43], [45]] rfl ((St.start (w := w) H.out).new (o := Obj.cells #[.int .i64 0, .int .i64 0, .int .i64 0, .string ⟨#[]⟩, .bool false, .slice none 0 0] 54)) (by simp) (by decide) HO2.out).mono ?_
 rintro e w1 hm
 obtain ⟨R', hR'⟩ : ∃ R', R' = R := ⟨_, rfl⟩
 rw [HR.out, ← hR'] at hm
 cases R' with
 | out => exact hm.elim
 | bad q er =>
  obtain ⟨rfl, hO2⟩ := hm
  unfold Pan
  (try simp only [Exit.inBlock, Exit.then])
  rw [← HQ.out]
  exact ⟨rfl, RdIs.bad hR' hO2⟩
 | ok x s1 =>
  obtain ⟨hS, v, rfl, hV⟩ := hm
  clear HR
  have HR := Lib.hid hR'
  have HS := Lib.hid hS
  clear hR' hS
  obtain ⟨A_x, n_x, c_x, rfl, hM⟩ := hV.cells
  have HM_x := Lib.hid (k54.M_lower (base' := w.heap.size + 1) (by simp; try omega) hM)
  clear hV hM
  have q0 := HS.out.l0
  obtain ⟨q0_0, q0_1, q0_2, q0_3, q0_4, q0_5, q0_f⟩ := blk6 q0
  have q0_l := blk_lt q0
  clear q0
  go_wp2_with (fail)
  have hpl := H.out.plt
  (try simp only [Exit.inBlock, Exit.then])
  refine bodyPost_ret (results_cell_row rfl _ _ w.heap.size 54 _ (0, 0) _ rfl (blk_set6 HS.out.l0 _ _ _ _ _ _) Tryz.underlying54 rfl (by kernel_rfl)) rfl ?_
  rw [← HQ.out]
  refine RdIs.ok HR.out (St.only (b := b) (toks := toks) (s := s1) (l := []) ?_) (St.pat (w := w) (l := []) ?_) ⟨_, rfl, ExM.kp HM_x.out (by omega) ?_⟩
  ·repeat (first | with_reducible exact HS.out.drop | with_reducible apply St.alloc | with_reducible apply St.drewN | with_reducible apply St.drew | (with_reducible refine St.store ?_ ?_ ?_; omega; (intro x hx; simp at hx)))
  ·repeat (first | with_reducible exact HS.out.drop | with_reducible apply St.alloc | with_reducible apply St.drewN | with_reducible apply St.drew | (with_reducible refine St.store ?_ ?_ ?_; omega; (intro x hx; simp at hx)))
  ·repeat (first | with_reducible exact Kp.refl | with_reducible apply Kp.alloc | with_reducible apply Kp.drew | (with_reducible refine Kp.store ?_ ?_; omega))
set_option maxHeartbeats 4000000 in
set_option maxRecDepth 100000 in
theorem term_step {p b k : Nat} {toks : List LX.Tok} (ihs : ∀ j, j ≤ k → Walks p b toks j) : ReadsEx p b toks 204 (PX.bin (k + 1) 4) := by
 intro s w h hout
 obtain ⟨R, hR⟩ : ∃ R, PX.bin (k + 1) 4 s = R := ⟨_, rfl⟩
 rw [hR] at hout ⊢
 rw [PX.bin, if_neg (by decide), if_neg (by decide)] at hR
 have H := Lib.hid h
 have HK : Hid (∀ j, j ≤ k → ReadsEx p b toks 205 (PX.bin j 5)) := Lib.hid (fun j hj => unary_bin j (fun i hi => (ihs i (by omega)).unary))
 have HR := Lib.hid hR
 have HO := Lib.hid hout
 clear h ihs hR hout
 obtain ⟨Q, hQ⟩ : ∃ Q, RdIs p b toks w R (ExV toks w.heap.size) = Q := ⟨_, rfl⟩
 rw [show (fun e w' => RdIs p b toks w R (ExV toks w.heap.size) e w') = Q from hQ]
 have HQ := Lib.hid hQ
 clear hQ
 have hmf : ∀ (fn : Fn) (first cap : Array Value) (w : World), (Instr.makeFunc fn first cap).run Tryz.prog w = .ok (.func fn first cap) w := fun _ _ _ _ => rfl
 have hf : ∀ args w, (callFunc 205 args).run Tryz.prog w = .ok (.enter 205 args) w := enters_of Tryz.func205 (by kernel_rfl) rfl
 have HF := Lib.hid hf
 clear hf
 have hout2 : ((PX.bin k 5 s).bind fun a s1 => PX.left k 4 a s1).isOut = false := by rw [HR.out]; exact HO.out
 have HO2 := Lib.hid hout2
 clear hout2
 go_enter Tryz.func204, Tryz.ntmps204
 go_wp2_with (fail)
 clear hmf
 refine (left_at 205 HF.out 4 k HK.out [[42], [47], [109, 111, 100]] rfl ((St.start (w := w) H.out).new (o := Obj.cells #[.int .i64 0, .int .i64 0, .int .i64 0, .string ⟨#[]⟩, .bool false, .slice none 0 0] 54)) (by simp) (by decide) HO2.out).mono ?_
 rintro e w1 hm
 obtain ⟨R', hR'⟩ : ∃ R', R' = R := ⟨_, rfl⟩
 rw [HR.out, ← hR'] at hm
 cases R' with
 | out => exact hm.elim
 | bad q er =>
  obtain ⟨rfl, hO2⟩ := hm
  unfold Pan
  (try simp only [Exit.inBlock, Exit.then])
  rw [← HQ.out]
  exact ⟨rfl, RdIs.bad hR' hO2⟩
 | ok x s1 =>
  obtain ⟨hS, v, rfl, hV⟩ := hm
  clear HR
  have HR := Lib.hid hR'
  have HS := Lib.hid hS
  clear hR' hS
  obtain ⟨A_x, n_x, c_x, rfl, hM⟩ := hV.cells
  have HM_x := Lib.hid (k54.M_lower (base' := w.heap.size + 1) (by simp; try omega) hM)
  clear hV hM
  have q0 := HS.out.l0
  obtain ⟨q0_0, q0_1, q0_2, q0_3, q0_4, q0_5, q0_f⟩ := blk6 q0
  have q0_l := blk_lt q0
  clear q0
  go_wp2_with (fail)
  have hpl := H.out.plt
  (try simp only [Exit.inBlock, Exit.then])
  refine bodyPost_ret (results_cell_row rfl _ _ w.heap.size 54 _ (0, 0) _ rfl (blk_set6 HS.out.l0 _ _ _ _ _ _) Tryz.underlying54 rfl (by kernel_rfl)) rfl ?_
  rw [← HQ.out]
  refine RdIs.ok HR.out (St.only (b := b) (toks := toks) (s := s1) (l := []) ?_) (St.pat (w := w) (l := []) ?_) ⟨_, rfl, ExM.kp HM_x.out (by omega) ?_⟩
  ·repeat (first | with_reducible exact HS.out.drop | with_reducible apply St.alloc | with_reducible apply St.drewN | with_reducible apply St.drew | (with_reducible refine St.store ?_ ?_ ?_; omega; (intro x hx; simp at hx)))
  ·repeat (first | with_reducible exact HS.out.drop | with_reducible apply St.alloc | with_reducible apply St.drewN | with_reducible apply St.drew | (with_reducible refine St.store ?_ ?_ ?_; omega; (intro x hx; simp at hx)))
  ·repeat (first | with_reducible exact Kp.refl | with_reducible apply Kp.alloc | with_reducible apply Kp.drew | (with_reducible refine Kp.store ?_ ?_; omega))
end Go.Proofs.YtjafllnbgfcchaaGreatDoor.Px
