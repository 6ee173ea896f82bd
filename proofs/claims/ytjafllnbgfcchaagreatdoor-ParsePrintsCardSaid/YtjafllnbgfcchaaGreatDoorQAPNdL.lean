/- What a node's walk takes: its equations in Lean, what a node is in memory, the calls that read its parts. -/
import Derived.Test.YtjafllnbgfcchaaGreatDoorQAGPAdd
import Derived.Test.YtjafllnbgfcchaaGreatDoorQAGPDecl
namespace Go.Proofs.YtjafllnbgfcchaaGreatDoor.Px
set_option linter.unusedVariables false
set_option linter.unusedSimpArgs false
open Go Go.RowKit Go.Proofs.YtjafllnbgfcchaaGreatDoorW.PrintWords Go.Proofs.YtjafllnbgfcchaaGreatDoorW.PrintLast Go.Proofs.YtjafllnbgfcchaaGreatDoorW.PrintMore Go.Proofs.YtjafllnbgfcchaaGreatDoor.Lx Go.Proofs.YtjafllnbgfcchaaGreatDoor.XK
def realN (toks : List LX.Tok) (x : PX.Nd) : S50 := ⟨⟨x.name.toArray⟩, atOf toks x.place, x.ins.map (realD toks), x.outs.map (realD toks), x.vars.map (realD toks), x.eqs.map (realQ toks)⟩
def NdV (toks : List LX.Tok) (n0 : Nat) (w : World) (x : PX.Nd) (v : Value) : Prop := ∃ c : List Value, v = .agg c.toArray ∧ k50.M w n0 (fun _ => True) (realN toks x) c
def eqsGo {β : Type} (K : Nat) (C : List PX.Eq → List PX.T → PX.Res β) (done : List PX.Eq) (k : Nat) (s : List PX.T) : PX.Res β := (PX.eqs K k s).bind fun l s1 => C (done ++ l) s1
theorem eqsGo_first {β : Type} (K : Nat) (C : List PX.Eq → List PX.T → PX.Res β) (k : Nat) (s : List PX.T) : (PX.eqs K k s).bind C = eqsGo K C [] k s := rfl
theorem eqsGo_zero {β : Type} (K : Nat) (C : List PX.Eq → List PX.T → PX.Res β) (done : List PX.Eq) (s : List PX.T) : eqsGo K C done 0 s = .out := rfl
theorem eqsGo_next {β : Type} (K : Nat) (C : List PX.Eq → List PX.T → PX.Res β) (done : List PX.Eq) (k : Nat) (s : List PX.T) :
  eqsGo K C done (k + 1) s = if PX.is [[116, 101, 108]] s = true then C done s else (PX.eq K s).bind fun q s1 => eqsGo K C (done ++ [q]) k s1 := by
 unfold eqsGo
 rw [PX.eqs, bind_ite, bind_assoc_]
 congr 1
 ·simp [PX.Res.bind]
 ·congr 1
  funext q s1
  rw [bind_assoc_]
  congr 1
  funext l s2
  simp [PX.Res.bind]
theorem St.eq_ {p b : Nat} {toks : List LX.Tok} {w W : World} {s : List PX.T} {l : List (Nat × Obj)} (h : St p b toks w W s l) (K : Nat) (hK : K ≤ 900000) (hout : (PX.eq K s).isOut = false) :
  Calls Tryz.prog 84 #[.pointer (some ⟨p, 0, none⟩)] W fun e w' => Only p W w' ∧ Told p b toks w l (PX.eq K s) (EqV toks W.heap.size) e w' := by
 refine (eq_walk K hK s W h.pat hout).mono ?_
 intro e w' hm
 exact ⟨hm.1, hm.told h⟩
theorem St.decls_ {p b : Nat} {toks : List LX.Tok} {w W : World} {s : List PX.T} {l : List (Nat × Obj)} (h : St p b toks w W s l) (K : Nat) (hK : K ≤ 1000000) (hout : (PX.decls K s).isOut = false) :
  Calls Tryz.prog 81 #[.pointer (some ⟨p, 0, none⟩)] W fun e w' => Only p W w' ∧ Told p b toks w l (PX.decls K s) (DcsV toks W.heap.size) e w' := by
 refine (decls_walk K hK s W h.pat hout).mono ?_
 intro e w' hm
 exact ⟨hm.1, hm.told h⟩
theorem St.vars_ {p b : Nat} {toks : List LX.Tok} {w W : World} {s : List PX.T} {l : List (Nat × Obj)} (h : St p b toks w W s l) (K : Nat) (hK : K ≤ 1000000) (hout : (PX.vars K s).isOut = false) :
  Calls Tryz.prog 82 #[.pointer (some ⟨p, 0, none⟩)] W fun e w' => Only p W w' ∧ Told p b toks w l (PX.vars K s) (DcsV toks W.heap.size) e w' := by
 refine (vars_walk K hK s W h.pat hout).mono ?_
 intro e w' hm
 exact ⟨hm.1, hm.told h⟩
theorem DcsR.kq {n0 n1 g : Nat} {W W' : World} {v : Value} {xs : List S147} (h : k147.R 147 W n1 (fun k => k ≠ g) v xs) (hn : n0 ≤ n1) (hk : Kq n1 g W W') : k147.R 147 W' n0 (fun k => k ≠ g) v xs :=
 Kd.R_lower (Kd.R_mono (Kd.R_move (Kd.R_bound h) (fun k hk' => hk.keep k hk'.2.1 hk'.1 hk'.2.2.1)) (fun k hk' => hk'.1)) hn
theorem EqsR.kq {n0 n1 g : Nat} {W W' : World} {v : Value} {xs : List S56} (h : k56.R 56 W n1 (fun k => k ≠ g) v xs) (hn : n0 ≤ n1) (hk : Kq n1 g W W') : k56.R 56 W' n0 (fun k => k ≠ g) v xs :=
 Kd.R_lower (Kd.R_mono (Kd.R_move (Kd.R_bound h) (fun k hk' => hk.keep k hk'.2.1 hk'.1 hk'.2.2.1)) (fun k hk' => hk'.1)) hn
theorem DcsR.bd {n0 g : Nat} {W : World} {v : Value} {xs : List S147} (h : k147.R 147 W n0 (fun k => k ≠ g) v xs) : k147.R 147 W n0 (fun k => k ≠ g ∧ k < W.heap.size) v xs :=
 Kd.R_mono (Kd.R_bound h) (fun k hk => ⟨hk.1, hk.2.2.1⟩)
theorem DcsR.kf {n0 m g : Nat} {W W' : World} {v : Value} {xs : List S147} (h : k147.R 147 W n0 (fun k => k ≠ g ∧ k < m) v xs) (hk : ∀ q, n0 ≤ q → q ≠ g → q < m → q < W.heap.size → W'.heap[q]? = W.heap[q]?) : k147.R 147 W' n0 (fun k => k ≠ g ∧ k < m) v xs :=
 Kd.R_mono (Kd.R_move (Kd.R_bound h) (fun k hk' => hk k hk'.2.1 hk'.1.1 hk'.1.2 hk'.2.2.1)) (fun k hk' => hk'.1)
theorem EqV.cells {toks : List LX.Tok} {n0 : Nat} {w : World} {q : PX.Eq} {v : Value} (h : EqV toks n0 w q v) : ∃ A n c A' n' c', v = .agg #[.slice A n c, .bool q.async, .int .i64 q.e.kind, .int .i64 (atOf toks q.e.place), .int .i64 q.e.n, .string ⟨q.e.name.toArray⟩, .bool q.e.off, .slice A' n' c'] ∧
  k56.M w n0 (fun _ => True) (realQ toks q) [.slice A n c, .bool q.async, .int .i64 q.e.kind, .int .i64 (atOf toks q.e.place), .int .i64 q.e.n, .string ⟨q.e.name.toArray⟩, .bool q.e.off, .slice A' n' c'] := by
 obtain ⟨c, rfl, hM⟩ := h
 obtain ⟨v0, v7, rfl, hR0, hR7⟩ := k56_openM hM
 obtain ⟨A, cp, rfl⟩ := Kd.R_slice hR0
 obtain ⟨A', cp', rfl⟩ := Kd.R_slice hR7
 obtain ⟨l, o, x⟩ := q
 cases x
 exact ⟨_, _, _, _, _, _, rfl, hM⟩
theorem info_eq : (Tryz.prog.info? 56).map (fun i => (i.zero, i.size, i.bytes)) = some (some (.agg #[.slice none 0 0, .bool false, .int .i64 0, .int .i64 0, .int .i64 0, .string ⟨#[]⟩, .bool false, .slice none 0 0]), 8, 104) := by kernel_rfl
theorem info_nd : (Tryz.prog.info? 50).map (fun i => (i.zero, i.size, i.bytes)) = some (some (.agg #[.string ⟨#[]⟩, .int .i64 0, .slice none 0 0, .slice none 0 0, .slice none 0 0, .slice none 0 0]), 6, 120) := by kernel_rfl
theorem reads_onek {α : Type} (kd : Kd α) {W : World} {b : Nat} {t : TypeId} {x : α} {cs : List Value} (hb : W.heap[b]? = some (.cells cs.toArray t (0, 0))) (hs : cs.length = kd.sz) : ReadsRow (fun x' cs' => x' = x ∧ cs' = cs) kd.sz W (some ⟨b, 0, none⟩) 1 [x] := by
 refine ⟨rfl, by decide, fun _ => ⟨_, rfl, fun j p hj => ?_⟩⟩
 match j, hj with
 | 0, hj =>
  obtain rfl := Option.some.inj hj
  refine ⟨cs, hs, ⟨rfl, rfl⟩, fun i u hu => ?_⟩
  have ha : (⟨b, 0, none⟩ : Addr).add (0 * kd.sz + i) = ⟨b, i, none⟩ := by
   rw [Nat.zero_mul, Nat.zero_add]
   unfold Addr.add
   by_cases h0 : i = 0 <;> simp [h0]
  rw [ha, blk_cell hb i]
  simpa using hu
 | j + 1, hj => simp at hj
end Go.Proofs.YtjafllnbgfcchaaGreatDoor.Px
