/- A call behind its name, walked. -/
import Derived.Test.YtjafllnbgfcchaaGreatDoorQAPRow
import Derived.Deep.DeepMust
namespace Go.Proofs.YtjafllnbgfcchaaGreatDoor.Px
set_option linter.unusedVariables false
set_option linter.unusedSimpArgs false
open Go Go.RowKit Go.Proofs.YtjafllnbgfcchaaGreatDoorW.PrintWords Go.Proofs.YtjafllnbgfcchaaGreatDoorW.PrintLast Go.Proofs.YtjafllnbgfcchaaGreatDoorW.PrintMore Go.Proofs.YtjafllnbgfcchaaGreatDoor.Lx Go.Proofs.YtjafllnbgfcchaaGreatDoor.XK
attribute [local go_sem ↓] Go.wp_at_zero Go.wp_at_succ
abbrev ReadsCall (p b : Nat) (toks : List LX.Tok) (k : Nat) : Prop :=
 ∀ (m : PX.B) (a : Nat) (kk nn : Int) (s : List PX.T) (w : World), PAt w p b toks s → (PX.call k m a s).isOut = false → Calls Tryz.prog 132 #[.pointer (some ⟨p, 0, none⟩), .agg #[.int .i64 kk, .int .i64 (atOf toks a), .string ⟨m.toArray⟩, .int .u64 nn]] w fun e w' => RdIs p b toks w (PX.call k m a s) (ExV toks w.heap.size) e w'
theorem St.rows {p b : Nat} {toks : List LX.Tok} (fk : FuncId) (hf : ∀ args w, (callFunc fk args).run Tryz.prog w = .ok (.enter fk args) w) (rd : Nat → List PX.T → PX.Res PX.Ex) (rows : Nat → List PX.T → PX.Res (List PX.Ex)) (hrow : Rows_ rd rows) (k : Nat) (hk : ∀ j, j < k → ReadsEx p b toks fk (rd j)) (hk2 : k ≤ 1000000)
  {s : List PX.T} {w W : World} {l : List (Nat × Obj)} (h : St p b toks w W s l) (hout : (rows k s).isOut = false) :
  Calls Tryz.prog 162 #[.pointer (some ⟨p, 0, none⟩), .func (.func fk) #[.pointer (some ⟨p, 0, none⟩)] #[]] W fun e w' => Only p W w' ∧ Told p b toks w l (rows k s) (RowV toks W.heap.size) e w' := by
 refine (row_walk fk hf rd rows hrow k hk hk2 s W h.pat hout).mono ?_
 intro e w' hm
 exact ⟨hm.1, hm.told h⟩
theorem with_kids (toks : List LX.Tok) {W W' : World} {n0 n1 : Nat} {v : Value} {l : List PX.Ex} (h : RowV toks n1 W l v) (hn : n0 ≤ n1) (hk : Kp n1 W W') (k a : Nat) (n : Int) (m : PX.B) (o : Bool) : k54.M W' n0 (fun _ => True) (real toks (.mk k a n m o l)) [.int .i64 k, .int .i64 (atOf toks a), .int .i64 n, .string ⟨m.toArray⟩, .bool o, v] :=
 k54_mkM W' n0 _ (real toks (.mk k a n m o l)) (RowR.kp h hn hk)

set_option maxHeartbeats 4000000 in
set_option maxRecDepth 100000 in
theorem call_step {p b k : Nat} {toks : List LX.Tok} (ihs : ∀ j, j < k → ReadsEx p b toks 74 (PX.expr j)) (hk2 : k ≤ 1000000) : ReadsCall p b toks (k + 1) := by
 intro m a kk nn s w h hout
 obtain ⟨R, hR⟩ : ∃ R, PX.call (k + 1) m a s = R := ⟨_, rfl⟩
 rw [hR] at hout ⊢
 rw [PX.call] at hR
 have H := Lib.hid h
 have IH := Lib.hid ihs
 have HR := Lib.hid hR
 have HO := Lib.hid hout
 have hf : ∀ args w, (callFunc 74 args).run Tryz.prog w = .ok (.enter 74 args) w := enters_of Tryz.func74 (by kernel_rfl) rfl
 have HF := Lib.hid hf
 clear h ihs hR hout hf
 obtain ⟨Q, hQ⟩ : ∃ Q, RdIs p b toks w R (ExV toks w.heap.size) = Q := ⟨_, rfl⟩
 rw [show (fun e w' => RdIs p b toks w R (ExV toks w.heap.size) e w') = Q from hQ]
 have HQ := Lib.hid hQ
 clear hQ
 have hmf : ∀ (fn : Fn) (first cap : Array Value) (w : World), (Instr.makeFunc fn first cap).run Tryz.prog w = .ok (.func fn first cap) w := fun _ _ _ _ => rfl
 go_enter Tryz.func132, Tryz.ntmps132
 go_wp2_with (fail)
 have HS := Lib.hid ((((St.start (w := w) H.out).alloc (o := .cells #[.int .i64 kk, .int .i64 (atOf toks a), .string ⟨m.toArray⟩, .int .u64 nn] 35)).newg (g := w.heap.size + 1) (o := Obj.cells #[.int .i64 0, .int .i64 0, .int .i64 0, .string ⟨#[]⟩, .bool false, .slice none 0 0] 54) (by simp)).newg (g := w.heap.size + 1 + 1) (o := Obj.cells #[.int .i64 13, .int .i64 (atOf toks a), .int .i64 0, .string ⟨m.toArray⟩, .bool false, .slice none 0 0] 54) (by simp))
 refine (St.wants [40] HS.out (by simp)).mono ?_
 rintro e w1 ⟨hO, hm⟩
 have HWw1 := Lib.hid hO
 clear hO
 cases hr : PX.want [40] s with
 | out => rw [hr] at hm; exact hm.elim
 | bad q er =>
  rw [hr] at hm
  obtain ⟨rfl, hO2⟩ := hm
  have hF := HR.out
  rw [hr] at hF
  unfold Pan
  (try simp only [Exit.inBlock, Exit.then])
  rw [← HQ.out]
  exact ⟨rfl, RdIs.bad hF hO2⟩
 | ok _u s2 =>
  rw [hr] at hm
  obtain ⟨hS, v, rfl, hV⟩ := hm
  have hR := HR.out
  rw [hr] at hR
  rw [bind_ok] at hR
  clear HR hr
  have HR := Lib.hid hR
  have HS := Lib.hid hS
  clear hR hS
  clear hV
  go_wp2_with (fail)
  refine (St.takes [[41]] HS.out (by simp) (by decide)).mono ?_
  rintro e w3 ⟨hg, hO, hS, t4, hp, hat, rfl⟩
  have HWw3 := Lib.hid hO
  have Ht4 := Lib.hid (And.intro hp hat)
  clear hO hp hat hg
  obtain ⟨B, hB⟩ : ∃ B, PX.is [[41]] s2 = B := ⟨_, rfl⟩
  rw [hB] at hS ⊢
  have hR := HR.out
  rw [hB] at hR
  have HBw3 := Lib.hid hB
  clear HR hB
  unfold tokA tokV
  cases B with
  | false =>
   simp only [Bool.false_eq_true, if_false] at hR hS
   have HR := Lib.hid hR
   have HS := Lib.hid hS
   clear hR hS
   go_wp2_with (fail)
   have HSZw3 := HS
   have hb_l := blk_lt HS.out.l0
   have hb_r := blk_lt HS.out.l1
   refine (St.rows 74 HF.out PX.expr PX.exprs exprs_rows k (fun j hj => IH.out j hj) hk2 HS.out.new (Res_in HR.out HO.out)).mono ?_
   rintro e w5 ⟨hO, hm⟩
   have HWw5 := Lib.hid hO
   clear hO
   cases hr : PX.exprs k s2 with
   | out => rw [hr] at hm; exact hm.elim
   | bad q er =>
    rw [hr] at hm
    obtain ⟨rfl, hO2⟩ := hm
    have hF := HR.out
    rw [hr] at hF
    unfold Pan
    (try simp only [Exit.inBlock, Exit.then])
    rw [← HQ.out]
    exact ⟨rfl, RdIs.bad hF hO2⟩
   | ok l s6 =>
    rw [hr] at hm
    obtain ⟨hS, v, rfl, hV⟩ := hm
    have hR := HR.out
    rw [hr] at hR
    rw [bind_ok] at hR
    clear HR hr
    have HR := Lib.hid hR
    have HS := Lib.hid hS
    clear hR hS
    obtain ⟨A_l, c_l, hv⟩ := Kd.R_slice hV
    subst hv
    have HV := Lib.hid hV
    clear hV
    have q1 := HS.out.l1
    obtain ⟨q1_0, q1_1, q1_2, q1_3, q1_4, q1_5, q1_f⟩ := blk6 q1
    have q1_l := blk_lt q1
    clear q1
    have q2 := HS.out.l2
    obtain ⟨q2_0, q2_1, q2_2, q2_3, q2_4, q2_5, q2_f⟩ := blk6 q2
    have q2_l := blk_lt q2
    clear q2
    go_wp2_with (fail)
    (try simp only [Exit.inBlock, Exit.then])
    refine bodyPost_ret (results_cell_row rfl _ _ (w.heap.size + 1) 54 _ (0, 0) _ rfl (blk_set6 (blk_far HS.out.l2 (p := ⟨w.heap.size + 1 + 1, 5, none⟩) (by simp) _) _ _ _ _ _ _) Tryz.underlying54 rfl (by kernel_rfl)) rfl ?_
    rw [← HQ.out]
    have hz : w.heap.size ≤ w3.heap.size := HSZw3.out.sz
    refine RdIs.ok HR.out (St.only (b := b) (toks := toks) (s := s6) (l := []) ?_) (St.pat (w := w) (l := []) ?_) ⟨_, rfl, with_kids toks HV.out (by simp; omega) ?_ 13 a 0 m false⟩
    ·repeat (first | with_reducible exact HS.out.drop.drop.drop | with_reducible apply St.alloc | with_reducible apply St.drewN | with_reducible apply St.drew | (with_reducible refine St.store ?_ ?_ ?_; omega; (intro x hx; simp at hx)))
    ·repeat (first | with_reducible exact HS.out.drop.drop.drop | with_reducible apply St.alloc | with_reducible apply St.drewN | with_reducible apply St.drew | (with_reducible refine St.store ?_ ?_ ?_; omega; (intro x hx; simp at hx)))
    ·simp only [World.size_alloc]
     repeat (first | with_reducible exact Kp.refl | with_reducible apply Kp.alloc | with_reducible apply Kp.drew | (with_reducible refine Kp.store ?_ ?_; omega) | (with_reducible refine Kp.only ?_ HWw5.out ?_; omega) | (with_reducible refine Kp.only ?_ HWw3.out ?_; omega) | (with_reducible refine Kp.only ?_ HWw1.out ?_; omega))
  | true =>
   simp only [if_true] at hR hS
   have HR := Lib.hid hR
   have HS := Lib.hid hS
   clear hR hS
   have q0 := HS.out.l0
   obtain ⟨q0_0, q0_1, q0_2, q0_3, q0_4, q0_5, q0_f⟩ := blk6 q0
   have q0_l := blk_lt q0
   clear q0
   have q1 := HS.out.l1
   obtain ⟨q1_0, q1_1, q1_2, q1_3, q1_4, q1_5, q1_f⟩ := blk6 q1
   have q1_l := blk_lt q1
   clear q1
   go_wp2_with (fail)
   (try simp only [Exit.inBlock, Exit.then])
   refine bodyPost_ret (results_cell_row rfl _ _ (w.heap.size + 1) 54 _ (0, 0) _ rfl (blk_alloc' (blk_set6 HS.out.l1 _ _ _ _ _ _)) Tryz.underlying54 rfl (by kernel_rfl)) rfl ?_
   rw [← HQ.out]
   refine RdIs.ok HR.out (St.only (b := b) (toks := toks) (s := s2.tail) (l := []) ?_) (St.pat (w := w) (l := []) ?_) ⟨_, rfl, leaf_M toks _ _ 13 a 0 m false⟩
   ·repeat (first | with_reducible exact HS.out.drop.drop | with_reducible apply St.alloc | with_reducible apply St.drewN | with_reducible apply St.drew | (with_reducible refine St.store ?_ ?_ ?_; omega; (intro x hx; simp at hx)))
   ·repeat (first | with_reducible exact HS.out.drop.drop | with_reducible apply St.alloc | with_reducible apply St.drewN | with_reducible apply St.drew | (with_reducible refine St.store ?_ ?_ ?_; omega; (intro x hx; simp at hx)))
end Go.Proofs.YtjafllnbgfcchaaGreatDoor.Px
