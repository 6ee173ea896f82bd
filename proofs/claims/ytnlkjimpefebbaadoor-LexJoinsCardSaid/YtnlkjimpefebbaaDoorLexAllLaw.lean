/- The lexer's All, walked. -/
import Derived.Test.YtnlkjimpefebbaaDoorLexNext
import Derived.Test.YtnlkjimpefebbaaDoorLexGo
namespace Go.Proofs.YtnlkjimpefebbaaDoor.Lx
set_option linter.unusedVariables false
open Go Go.RowKit Go.Proofs.YtnlkjimpefebbaaDoorW.PrintWords Go.Proofs.YtnlkjimpefebbaaDoorW.PrintLast Go.Proofs.YtnlkjimpefebbaaDoorW.PrintMore

/-- The cells of a row of tokens. -/
def tokCells (l : List LX.Tok) : List Value := (l.map fun t => (tokV t.kind t.at_ t.text t.n).toList).flatten
theorem tokCells_add (l : List LX.Tok) (t : LX.Tok) : tokCells (l ++ [t]) = tokCells l ++ (tokV t.kind t.at_ t.text t.n).toList := by
  simp [tokCells]
/-- What is read from k on. -/
def from_ (s : ByteArray) (k : Nat) : Except (Nat × Nat) (List LX.Tok) := LX.go s.size (s.size - k + 1) (s.data.toList.drop k)
theorem drop_len (s : ByteArray) (k : Nat) : (s.data.toList.drop k).length = s.size - k := by simp
theorem from_end (s : ByteArray) (k : Nat) (h : LX.skip false (s.data.toList.drop k) = s.data.toList.drop s.size) : from_ s k = .ok [⟨5, s.size, [], 0⟩] := by
  unfold from_
  rw [LX.go, h, List.drop_eq_nil_of_le (by simp)]
  rfl
theorem from_err (s : ByteArray) (k k0 c : Nat) (h : LX.skip false (s.data.toList.drop k) = s.data.toList.drop k0) (hk : k0 < s.size) (h1 : LX.one (s.data.toList.drop k0) = .error c) : from_ s k = .error (k0, c) := by
  unfold from_
  rw [LX.go, h, at_head s k0 hk] 
  rw [at_head s k0 hk] at h1
  simp only [List.isEmpty_cons, Bool.false_eq_true, if_false, h1]
  have := drop_len s k0
  rw [at_head s k0 hk] at this
  rw [this, show s.size - (s.size - k0) = k0 from by omega]
theorem from_tok (s : ByteArray) (k k0 kind n : Nat) (t : List UInt8) (h : LX.skip false (s.data.toList.drop k) = s.data.toList.drop k0) (hk : k0 < s.size) (hle : k ≤ k0) (h1 : LX.one (s.data.toList.drop k0) = .ok (kind, t, n)) :
    from_ s k = (from_ s (k0 + t.length)).map (⟨kind, k0, t, n⟩ :: ·) := by
  have hp := LX.one_pos _ _ _ _ h1
  have hl := drop_len s k0
  rw [hl] at hp
  unfold from_
  rw [LX.go, h]
  have he : (s.data.toList.drop k0).isEmpty = false := by rw [at_head s k0 hk]; rfl
  simp only [he, Bool.false_eq_true, if_false, h1, hl]
  rw [List.drop_drop, show s.size - (s.size - k0) = k0 from by omega,
    LX.go_fuel s.size (s.size - (k0 + t.length)) (s.data.toList.drop (k0 + t.length)) (s.size - k) (s.size - (k0 + t.length) + 1) (by rw [drop_len]; exact Nat.le_refl _) (by omega) (by omega)]
  cases LX.go s.size (s.size - (k0 + t.length) + 1) (s.data.toList.drop (k0 + t.length)) <;> rfl
/-- A lexer that has read the tokens 'done' and stands at k. -/
structure AllAt (w0 wr : World) (l f : Nat) (s : ByteArray) (k : Nat) (v : Value) (done : List LX.Tok) : Prop where
  lat : LAt wr l s k
  low : Below w0.heap.size w0 wr
  lnew : w0.heap.size ≤ l
  fault : wr.heap[f]? = some (.cells #[.int .i64 0, .int .i64 0] 27 (0, 0))
  fnew : w0.heap.size ≤ f
  fl : f ≠ l
  row : wr.ownsRow w0.heap.size 36 4 v done.length (tokCells done)
  farl : v.ownBlock ≠ some l
  farf : v.ownBlock ≠ some f
  few : done.length ≤ k
  law : from_ s 0 = (from_ s k).map (done ++ ·)
theorem results_tmp_cell_row {P : Program} {fn : Func} {p u : Tmp} {ty : TypeId} (h : fn.results = #[.tmp u, .cell p ty]) (tmps : Array Value) (w : World) (g : Nat) (t : TypeId) (cs : Array Value) (fr : Nat × Nat) (d : TypeDesc)
    (hp : tmps.getD p undef = .pointer (some ⟨g, 0, none⟩)) (hg : w.heap[g]? = some (.cells cs t fr))
    (hu : P.underlying ty = some d) (hd : (match d with | .struct _ | .array _ _ => true | _ => false) = true) (hi : (P.info? ty).map (·.size) = some cs.size) :
    (results fn tmps).run P w = .ok (.tuple #[tmps.getD u undef, .agg cs]) w := by
  have hp' : tmps[p]?.getD undef = .pointer (some ⟨g, 0, none⟩) := by simpa using hp
  simp [results, h, hp', asAddr, run_loadVar_row w g t ty cs fr d hg hu hd hi]
theorem Only.grown {l : Nat} {w w' : World} (h : Only l w w') : w.grownBy w' (some l) :=
  ⟨h.os, h.tape, h.output, h.size, fun k hk hn => h.keep k hk (fun e => hn (by rw [e]))⟩
theorem AllAt.row_at {w0 wr w2 : World} {l f k : Nat} {s : ByteArray} {v : Value} {done : List LX.Tok} (h : AllAt w0 wr l f s k v done) (hO : Only l wr w2) (o : Obj) :
    (w2.alloc o).ownsRow w0.heap.size 36 4 v done.length (tokCells done) :=
  own_alloc (own_other h.row hO.grown (.inr h.farl)) o
theorem info_tok : (Tryd.prog.info? 36).map (fun i => (i.zero, i.size, i.bytes)) = some (some (.agg (tokV 0 0 [] 0)), 4, 40) := by kernel_rfl
/-- Behind the append of the token that next has read. -/
theorem AllAt.step {w0 wr w1 w2 w5 : World} {l f k k1 k2 : Nat} {s : ByteArray} {v v5 : Value} {done : List LX.Tok} (h : AllAt w0 wr l f s k v done) (hO : Only l wr w2) (hL : LAt w2 l s k2) (kind nn : Nat) (tx : List UInt8) (o : Obj)
    (hk : k ≤ k1) (hk1 : k1 < s.size) (hk2 : k2 = k1 + tx.length) (hskip : LX.skip false (s.data.toList.drop k) = s.data.toList.drop k1) (hone : LX.one (s.data.toList.drop k1) = .ok (kind, tx, nn))
    (hown : w5.ownsRow w0.heap.size 36 4 v5 (done.length + 1) (tokCells done ++ (tokV kind k1 tx nn).toList)) (hb : Below w0.heap.size w0 w5) (hg : (w2.alloc o).grownBy w5 v.ownBlock)
    (hat : v5.ownBlock = v.ownBlock ∨ ∃ b, v5.ownBlock = some b ∧ (w2.alloc o).heap.size ≤ b) : AllAt w0 w5 l f s k2 v5 (done ++ [⟨kind, k1, tx, nn⟩]) := by
  have hlt := hL.lt
  have hf2 := hO.blk h.fault h.fl
  have hflt := blk_lt hf2
  have hsz : (w2.alloc o).heap.size = w2.heap.size + 1 := by simp
  have hp := LX.one_pos _ _ _ _ hone
  refine ⟨⟨?_, hL.le, hL.small⟩, hb, h.lnew, ?_, h.fnew, h.fl, by rw [tokCells_add, List.length_append]; exact hown, ?_, ?_, ?_, ?_⟩
  · exact (hg.block l (by omega) (fun e => h.farl e.symm)).trans ((Below.heap_alloc w2 o l hlt).trans hL.struct)
  · exact (hg.block f (by omega) (fun e => h.farf e.symm)).trans ((Below.heap_alloc w2 o f hflt).trans hf2)
  · rcases hat with e | ⟨b, e, hb⟩
    · rw [e]; exact h.farl
    · rw [e]; simp; omega
  · rcases hat with e | ⟨b, e, hb⟩
    · rw [e]; exact h.farf
    · rw [e]; simp; omega
  · have := h.few
    simp
    omega
  · rw [h.law, from_tok s k k1 kind nn tx hskip hk1 hk hone, ← hk2]
    cases from_ s k2 <;> simp [Except.map]
end Go.Proofs.YtnlkjimpefebbaaDoor.Lx
