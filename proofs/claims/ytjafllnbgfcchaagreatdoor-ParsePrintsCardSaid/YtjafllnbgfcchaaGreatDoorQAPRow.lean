/- A row of expressions up to a bracket, walked. -/
import Derived.Test.YtjafllnbgfcchaaGreatDoorQAPLeft
import Derived.Deep.DeepMust
import Derived.Maps.AppendAt
import Derived.OwnWalk
import Derived.Deep.AppendLies
namespace Go.Proofs.YtjafllnbgfcchaaGreatDoor.Px
set_option linter.unusedVariables false
set_option linter.unusedSimpArgs false
open Go Go.RowKit Go.Proofs.YtjafllnbgfcchaaGreatDoorW.PrintWords Go.Proofs.YtjafllnbgfcchaaGreatDoorW.PrintLast Go.Proofs.YtjafllnbgfcchaaGreatDoorW.PrintMore Go.Proofs.YtjafllnbgfcchaaGreatDoor.Lx Go.Proofs.YtjafllnbgfcchaaGreatDoor.XK
attribute [local go_sem ↓] Go.wp_at_zero Go.wp_at_succ
def RowV (toks : List LX.Tok) (n0 : Nat) (w : World) (l : List PX.Ex) (v : Value) : Prop := k54.R 54 w n0 (fun _ => True) v (reals toks l)
theorem reals_append (toks : List LX.Tok) (l : List PX.Ex) (e : PX.Ex) : reals toks (l ++ [e]) = reals toks l ++ [real toks e] := by
 rw [reals_map, reals_map]; simp
theorem reals_len (toks : List LX.Tok) (l : List PX.Ex) : (reals toks l).length = l.length := by rw [reals_map]; simp
structure Rows_ (rd : Nat → List PX.T → PX.Res PX.Ex) (rows : Nat → List PX.T → PX.Res (List PX.Ex)) : Prop where
 zero : ∀ s, rows 0 s = .out
 succ : ∀ k s, rows (k + 1) s = (rd k s).bind fun e s1 => if PX.is [[44]] s1 then (rows k s1.tail).bind fun l s2 => .ok (e :: l) s2 else (PX.want [41] s1).bind fun _ s2 => .ok [e] s2
def rowGo (rows : Nat → List PX.T → PX.Res (List PX.Ex)) (done : List PX.Ex) (k : Nat) (s : List PX.T) : PX.Res (List PX.Ex) :=
 if PX.is [[44]] s then (rows k s.tail).bind fun l s2 => .ok (done ++ l) s2 else (PX.want [41] s).bind fun _ s2 => .ok done s2
theorem rowGo_first {rd : Nat → List PX.T → PX.Res PX.Ex} {rows : Nat → List PX.T → PX.Res (List PX.Ex)} (h : Rows_ rd rows) (k : Nat) (s : List PX.T) : rows (k + 1) s = (rd k s).bind fun e s1 => rowGo rows [e] k s1 := by
 rw [h.succ]
 rfl
theorem bind_assoc_ {α β γ : Type} (r : PX.Res α) (f : α → List PX.T → PX.Res β) (g : β → List PX.T → PX.Res γ) : (r.bind f).bind g = r.bind fun a s => (f a s).bind g := by cases r <;> rfl
theorem bind_ite {β γ : Type} (c : Bool) (a b : PX.Res β) (g : β → List PX.T → PX.Res γ) : (if c = true then a else b).bind g = if c = true then a.bind g else b.bind g := by split <;> rfl
theorem rowGo_next {rd : Nat → List PX.T → PX.Res PX.Ex} {rows : Nat → List PX.T → PX.Res (List PX.Ex)} (h : Rows_ rd rows) (done : List PX.Ex) (k : Nat) (s : List PX.T) (hi : PX.is [[44]] s = true) :
  rowGo rows done (k + 1) s = (rd k s.tail).bind fun e s1 => rowGo rows (done ++ [e]) k s1 := by
 unfold rowGo
 rw [if_pos hi, h.succ, bind_assoc_]
 congr 1
 funext e s1
 rw [bind_ite, bind_assoc_, bind_assoc_]
 simp [PX.Res.bind]
theorem RowR.kp {n0 n1 : Nat} {W W' : World} {v : Value} {xs : List S54} (h : k54.R 54 W n1 (fun _ => True) v xs) (hn : n0 ≤ n1) (hk : Kp n1 W W') : k54.R 54 W' n0 (fun _ => True) v xs :=
 Kd.R_lower (Kd.R_mono (Kd.R_move (Kd.R_bound h) (fun k hk' => hk.keep k hk'.2.1 hk'.2.2.1)) (fun _ _ => trivial)) hn
theorem St.grown {p b : Nat} {toks : List LX.Tok} {w W W' : World} {s : List PX.T} {row : Option Nat} (h : St p b toks w W s []) (hg : W.grownBy W' row) (hr : ∀ q, row = some q → w.heap.size ≤ q) : St p b toks w W' s [] := by
 have hne : ∀ k, k < w.heap.size → some k ≠ row := fun k hk e => by have := hr k e.symm; omega
 have hsz := h.sz
 have hpl := h.pl
 have hbl := h.bl
 refine ⟨⟨hg.os.trans h.only.os, hg.tape.trans h.only.tape, hg.output.trans h.only.output, Nat.le_trans hsz hg.size, fun i hi hn => (hg.block i (by omega) (hne i hi)).trans (h.only.keep i hi hn)⟩, ?_, hpl, hbl, fun x hx => by simp at hx⟩
 obtain ⟨c, k, hk⟩ := h.pat.blk
 exact ⟨⟨c, k, (hg.block p (by omega) (hne p hpl)).trans hk.1, hk.2⟩, h.pat.row.heap (hg.block b (by omega) (hne b hbl)), h.pat.good, h.pat.ne, by have := hg.size; omega, h.pat.few, h.pat.nums⟩
theorem St.newg {p b g : Nat} {toks : List LX.Tok} {w W : World} {s : List PX.T} {l : List (Nat × Obj)} {o : Obj} (hg : W.heap.size = g) (h : St p b toks w W s l) : St p b toks w (W.alloc o) s ((g, o) :: l) := by
 subst hg
 exact h.new
theorem exprs_rows : Rows_ PX.expr PX.exprs := ⟨fun s => by rw [PX.exprs], fun k s => by rw [PX.exprs]⟩
theorem lits_rows : Rows_ (fun _ => PX.literal) PX.lits := ⟨fun s => by rw [PX.lits], fun k s => by rw [PX.lits]⟩
theorem info_ex : (Tryz.prog.info? 54).map (fun i => (i.zero, i.size, i.bytes)) = some (some (.agg #[.int .i64 0, .int .i64 0, .int .i64 0, .string ⟨#[]⟩, .bool false, .slice none 0 0]), 6, 72) := by kernel_rfl

set_option maxHeartbeats 4000000 in
set_option maxRecDepth 100000 in
theorem row_walk {p b : Nat} {toks : List LX.Tok} (fk : FuncId) (hf : ∀ args w, (callFunc fk args).run Tryz.prog w = .ok (.enter fk args) w) (rd : Nat → List PX.T → PX.Res PX.Ex) (rows : Nat → List PX.T → PX.Res (List PX.Ex)) (hrow : Rows_ rd rows) (k : Nat) (hk : ∀ j, j < k → ReadsEx p b toks fk (rd j)) (hk2 : k ≤ 1000000)
  (s : List PX.T) (w : World) (h : PAt w p b toks s) (hout : (rows k s).isOut = false) :
  Calls Tryz.prog 162 #[.pointer (some ⟨p, 0, none⟩), .func (.func fk) #[.pointer (some ⟨p, 0, none⟩)] #[]] w fun e w' => RdIs p b toks w (rows k s) (RowV toks w.heap.size) e w' := by
 cases k with
 | zero => rw [hrow.zero] at hout; cases hout
 | succ k =>
  obtain ⟨R, hR⟩ : ∃ R, rows (k + 1) s = R := ⟨_, rfl⟩
  rw [hR] at hout ⊢
  rw [rowGo_first hrow] at hR
  have H := Lib.hid h
  have HK := Lib.hid hk
  have HRow := Lib.hid hrow
  have HR := Lib.hid hR
  have HO := Lib.hid hout
  clear h hk hR hout hrow
  obtain ⟨Q, hQ⟩ : ∃ Q, RdIs p b toks w R (RowV toks w.heap.size) = Q := ⟨_, rfl⟩
  rw [show (fun e w' => RdIs p b toks w R (RowV toks w.heap.size) e w') = Q from hQ]
  have HQ := Lib.hid hQ
  clear hQ
  go_enter Tryz.func162, Tryz.ntmps162
  go_wp2_with (fail)
  have HS := Lib.hid (St.start (w := w) H.out)
  refine (ReadsEx.call (HK.out k (by omega)) (St.start (w := w) H.out) (Res_in HR.out HO.out)).mono ?_
  rintro e w1 ⟨hO, hm⟩
  have HWw1 := Lib.hid hO
  clear hO
  cases hr : rd k s with
  | out => rw [hr] at hm; exact hm.elim
  | bad q er =>
   rw [hr] at hm
   obtain ⟨rfl, hO2⟩ := hm
   have hF := HR.out
   rw [hr] at hF
   unfold Pan
   (try simp only [Exit.inBlock, Exit.then])
   rw [← HQ.out]
   exact ⟨rfl, RdIs.bad hF hO2⟩
  | ok x s2 =>
   rw [hr] at hm
   obtain ⟨hS, v, rfl, hV⟩ := hm
   have hR := HR.out
   rw [hr] at hR
   rw [bind_ok] at hR
   clear HR hr
   have HR := Lib.hid hR
   have HS := Lib.hid hS
   clear hR hS
   obtain ⟨A_x, n_x, c_x, rfl, hM⟩ := hV.cells
   have HM_x := Lib.hid hM
   clear hV hM
   go_wp2_with (fail)
   have hst : k54.R 54 (w1.alloc (.cells #[.int .i64 x.kind, .int .i64 (atOf toks x.place), .int .i64 x.n, .string ⟨x.name.toArray⟩, .bool x.off, .slice A_x n_x c_x] 54)) w.heap.size (fun _ => True) (.slice (some ⟨w1.heap.size, 0, none⟩) 1 1) (reals toks [x]) :=
    lit_R k54 54 [real toks x] _ (Reps.snoc (Reps.none (k54.M w1 w.heap.size (fun _ => True)) k54.sz) HM_x.out rfl) HS.out.sz (by simp)
   have HS := Lib.hid (HS.out.alloc (o := .cells #[.int .i64 x.kind, .int .i64 (atOf toks x.place), .int .i64 x.n, .string ⟨x.name.toArray⟩, .bool x.off, .slice A_x n_x c_x] 54))
   have HRR := Lib.hid hst
   clear hst HM_x
   go_loopg [5] (k + 1) (fun m u wr => ∃ kk done s', m = kk + 1 ∧ done.length + kk ≤ k + 1 ∧ Hid (rowGo rows done kk s' = R) ∧ Hid (St p b toks w wr s' []) ∧ Hid (k54.R 54 wr w.heap.size (fun _ => True) u (reals toks done)))
   case atStart => exact ⟨k, [x], s2, rfl, by simp; omega, HR, HS, HRR⟩
   case round =>
    obtain ⟨kk, done, s', rfl, hkk, HR', HS', HRW⟩ := hrel
    clear HR HS HRR
    have HR := HR'
    have HS := HS'
    clear HR' HS'
    have hR := HR.out
    unfold rowGo at hR
    have HRG := HR
    have HR := Lib.hid hR
    clear hR
    obtain ⟨Au, cu, hu⟩ := Kd.R_slice HRW.out
    rw [reals_len] at hu
    subst hu
    go_wp2_with (fail)
    refine (St.takes [[44]] HS.out (by simp) (by decide)).mono ?_
    rintro e w3 ⟨hg, hO, hS, t4, hp, hat, rfl⟩
    have HWw3 := Lib.hid hO
    have Ht4 := Lib.hid (And.intro hp hat)
    clear hO hp hat hg
    obtain ⟨B, hB⟩ : ∃ B, PX.is [[44]] s' = B := ⟨_, rfl⟩
    rw [hB] at hS ⊢
    have hR := HR.out
    rw [hB] at hR
    have HBw3 := Lib.hid hB
    clear HR hB
    unfold tokA tokV
    cases B with
    | false =>
     simp only [Bool.false_eq_true, if_false] at hR hS
     have HR := Lib.hid hR
     have HS := Lib.hid hS
     clear hR hS
     go_wp2_with (fail)
     refine (St.wants [41] HS.out.new (by simp)).mono ?_
     rintro e w5 ⟨hO, hm⟩
     have HWw5 := Lib.hid hO
     clear hO
     cases hr : PX.want [41] s' with
     | out => rw [hr] at hm; exact hm.elim
     | bad q er =>
      rw [hr] at hm
      obtain ⟨rfl, hO2⟩ := hm
      have hF := HR.out
      rw [hr] at hF
      unfold Pan
      (try simp only [Exit.inBlock, Exit.then])
      rw [← HQ.out]
      exact ⟨rfl, RdIs.bad hF hO2⟩
     | ok _u s6 =>
      rw [hr] at hm
      obtain ⟨hS, v, rfl, hV⟩ := hm
      have hR := HR.out
      rw [hr] at hR
      rw [bind_ok] at hR
      clear HR hr
      have HR := Lib.hid hR
      have HS := Lib.hid hS
      clear hR hS
      clear hV
      go_wp2_with (fail)
      show Q (Ending.returned (Value.slice Au done.length cu)) _
      rw [← HQ.out]
      have hpl := H.out.plt
      refine RdIs.ok HR.out HS.out.only HS.out.pat (RowR.kp HRW.out (Nat.le_refl _) ?_)
      repeat (first | with_reducible exact Kp.refl | with_reducible apply Kp.alloc | with_reducible apply Kp.drew | (with_reducible refine Kp.store ?_ ?_; omega) | (with_reducible refine Kp.only ?_ HWw5.out ?_; omega) | (with_reducible refine Kp.only ?_ HWw3.out ?_; omega))
    | true =>
     simp only [if_true] at hR hS
     have HR := Lib.hid hR
     have HS := Lib.hid hS
     clear hR hS
     cases kk with
     | zero =>
      have h0 := HR.out
      rw [HRow.out.zero] at h0
      have h1 := HO.out
      rw [← h0] at h1
      cases h1
     | succ kk =>
      have hR := HRG.out
      rw [rowGo_next HRow.out done kk s' HBw3.out] at hR
      clear HR HRG
      have HR := Lib.hid hR
      clear hR
      go_wp2_with (fail)
      have hsz3 := HS.out.sz
      refine (ReadsEx.call (HK.out kk (by omega)) HS.out.alloc (Res_in HR.out HO.out)).mono ?_
      rintro e w7 ⟨hO, hm⟩
      have HWw7 := Lib.hid hO
      clear hO
      cases hr : rd kk s'.tail with
      | out => rw [hr] at hm; exact hm.elim
      | bad q er =>
       rw [hr] at hm
       obtain ⟨rfl, hO2⟩ := hm
       have hF := HR.out
       rw [hr] at hF
       unfold Pan
       (try simp only [Exit.inBlock, Exit.then])
       rw [← HQ.out]
       exact ⟨rfl, RdIs.bad hF hO2⟩
      | ok y s8 =>
       rw [hr] at hm
       obtain ⟨hS, v, rfl, hV⟩ := hm
       have hR := HR.out
       rw [hr] at hR
       rw [bind_ok] at hR
       clear HR hr
       have HR := Lib.hid hR
       have HS := Lib.hid hS
       clear hR hS
       obtain ⟨A_y, n_y, c_y, rfl, hM⟩ := hV.cells
       have HM_y := Lib.hid (k54.M_lower (base' := w3.heap.size) (by simp) hM)
       clear hV hM
       have hpl := H.out.plt
       have hs3 := HWw3.out.size
       have hrw : k54.R 54 w7 w.heap.size (fun _ => True) (.slice Au done.length cu) (reals toks done) := RowR.kp HRW.out (Nat.le_refl _) (by repeat (first | with_reducible exact Kp.refl | with_reducible apply Kp.alloc | with_reducible apply Kp.drew | (with_reducible refine Kp.store ?_ ?_; omega) | (with_reducible refine Kp.only ?_ HWw7.out ?_; omega) | (with_reducible refine Kp.only ?_ HWw3.out ?_; omega)))
       have hown := HRW.out.1
       have hlt := Kd.R_bound HRW.out
       have hnb : ∀ q, (Value.slice Au done.length cu).ownBlock = some q → q < w3.heap.size := fun q hq => Nat.lt_of_lt_of_le (hlt.1 q hq).2.2.1 hs3
       have HX := Lib.hid (And.intro hrw hnb)
       have hlen : (done.length + 1) * 72 ≤ 140737488355328 := by omega
       have hlen2 : ((reals toks done).length + 1) * 72 ≤ 140737488355328 := by rw [reals_len]; exact hlen
       have hsz := HS.out.sz
       have hwb := Below.refl w.heap.size w7
       have HL2 := Lib.hid (And.intro hlen2 hwb)
       clear hown hlt hrw hnb hlen hlen2 hwb
       go_wp2_with (first | (at_builtin; go_must (refine Kd.R_append k54 (w0 := w7) w.heap.size rfl (.tmp 27) (.tmp 30) 52 54 _ 72 rfl Tryz.underlying52 info_ex rfl (by decide) (by decide) (.slice Au done.length cu) (reals toks done) (real toks y) [.int .i64 y.kind, .int .i64 (atOf toks y.place), .int .i64 y.n, .string ⟨y.name.toArray⟩, .bool y.off, .slice A_y n_y c_y] (fun _ => True) (fun q => w3.heap.size ≤ q) rfl rfl ?_ ?_ (fun _ _ => trivial) HX.out.1 HL2.out.2 hsz HL2.out.1 ?_)))
       ·exact k54.M_lower hsz3 (k54.M_mono (fun q hq => hq.2.1) (k54.M_bound HM_y.out))
       ·exact fun q hq => ⟨trivial, fun e => by have := HX.out.2 q e.symm; omega⟩
       intro v1 w9 hR1 hb1 hg1 hat1
       have HR1 := Lib.hid (And.intro hR1 (And.intro hg1 hat1))
       clear hR1 hb1 hg1 hat1
       go_wp2_with (fail)
       go_roundg (kk + 1)
       case measure => omega
       case rel =>
        refine ⟨kk, done ++ [y], s8, rfl, by simp; omega, HR, Lib.hid (St.grown HS.out HR1.out.2.1 (fun q hq => ?_)), ?_⟩
        ·exact HRW.out.1 q hq |> fun _ => (Kd.R_bound HRW.out).1 q hq |>.2.1
        ·rw [reals_append]
         exact Lib.hid HR1.out.1
end Go.Proofs.YtjafllnbgfcchaaGreatDoor.Px
