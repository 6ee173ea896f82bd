/- parse.Expr, walked: the expression of a text, or its fault. -/
import Derived.Test.YtjafllnbgfcchaaDoorZEGPCaught
import Derived.Test.YtjafllnbgfcchaaDoorZEPKnot
import Derived.Test.YtjafllnbgfcchaaDoorZEPDeep
namespace Go.Proofs.YtjafllnbgfcchaaDoor.Px
set_option linter.unusedVariables false
set_option linter.unusedSimpArgs false
open Go Go.RowKit Go.Proofs.YtjafllnbgfcchaaDoorW.PrintWords Go.Proofs.YtjafllnbgfcchaaDoorW.PrintLast Go.Proofs.YtjafllnbgfcchaaDoorW.PrintMore Go.Proofs.YtjafllnbgfcchaaDoor.Lx Go.Proofs.YtjafllnbgfcchaaDoor.XK
attribute [local go_sem ↓] Go.wp_at_zero Go.wp_at_succ
def ExprV (o : Nat) (toks : List LX.Tok) (n1 : Nat) (W : World) (x : PX.Ex) : Prop := ∃ A c, W.heap[o]? = some (.cells #[.int .i64 x.kind, .int .i64 (atOf toks x.place), .int .i64 x.n, .string ⟨x.name.toArray⟩, .bool x.off, .slice A (reals toks x.kids).length c] 43 (0, 0)) ∧
 k43.M W n1 (fun _ => True) (real toks x) [.int .i64 x.kind, .int .i64 (atOf toks x.place), .int .i64 x.n, .string ⟨x.name.toArray⟩, .bool x.off, .slice A (reals toks x.kids).length c]
theorem ExprV.move {o : Nat} {toks : List LX.Tok} {n1 : Nat} {W W' : World} {x : PX.Ex} (h : ExprV o toks n1 W x) (hk : ∀ i, n1 ≤ i → i < W.heap.size → W'.heap[i]? = W.heap[i]?) (ho : W'.heap[o]? = W.heap[o]?) : ExprV o toks n1 W' x := by
 obtain ⟨A, c, hb, hM⟩ := h
 exact ⟨A, c, ho.trans hb, k43.M_mono (fun _ _ => trivial) (k43.M_move (fun k hk' => hk k hk'.2.1 hk'.2.2.1) (k43.M_bound hM))⟩
theorem ExV.cells' {toks : List LX.Tok} {n0 : Nat} {w : World} {x : PX.Ex} {v : Value} (h : ExV toks n0 w x v) : ∃ A c, v = .agg #[.int .i64 x.kind, .int .i64 (atOf toks x.place), .int .i64 x.n, .string ⟨x.name.toArray⟩, .bool x.off, .slice A (reals toks x.kids).length c] ∧ k43.M w n0 (fun _ => True) (real toks x) [.int .i64 x.kind, .int .i64 (atOf toks x.place), .int .i64 x.n, .string ⟨x.name.toArray⟩, .bool x.off, .slice A (reals toks x.kids).length c] := by
 obtain ⟨c, rfl, hM⟩ := h
 obtain ⟨v5, rfl, hR⟩ := k43_openM hM
 obtain ⟨A, cp, rfl⟩ := Kd.R_slice hR
 cases x
 exact ⟨A, cp, rfl, hM⟩
theorem ExM.C {toks : List LX.Tok} {n0 : Nat} {w : World} {x : PX.Ex} {A : Option Addr} {c : Nat} (hM : k43.M w n0 (fun _ => True) (real toks x) [.int .i64 x.kind, .int .i64 (atOf toks x.place), .int .i64 x.n, .string ⟨x.name.toArray⟩, .bool x.off, .slice A (reals toks x.kids).length c]) : Kd.C k43 w A (reals toks x.kids).length (reals toks x.kids) ∧ (reals toks x.kids).length ≤ c := by
 obtain ⟨A', c', he, hl, hC⟩ := k43_open (k43.K_of_M hM)
 rw [real_kids] at hl hC he
 simp only [List.cons.injEq, Value.slice.injEq, true_and, and_true] at he
 obtain ⟨_, _, _, _, _, rfl, rfl⟩ := he
 exact ⟨hC, hl⟩
end Go.Proofs.YtjafllnbgfcchaaDoor.Px
