/- Joined of: PpW, PpS, PpL. -/
import Derived.Test.YtjafllnbgfcchaaDoorZFGOw
import Derived.Carry
import Derived.WideKeyElems
import Derived.Test.YtjafllnbgfcchaaDoorZFGPFine
import Derived.Test.YtjafllnbgfcchaaDoorZFGPCaught
import Derived.Test.YtjafllnbgfcchaaDoorZFPProgT
import Derived.Test.YtjafllnbgfcchaaDoorZFGXPLx0
section
/- Closures that ask if a name stands at its place; tree.Each with a function that leaves memory as it was: walked. -/
namespace Go.Proofs.YtjafllnbgfcchaaDoor.Pp
set_option linter.unusedVariables false
set_option linter.unusedSimpArgs false
open Go Go.RowKit Go.Proofs.YtjafllnbgfcchaaDoorW.PrintWords Go.Proofs.YtjafllnbgfcchaaDoorW.PrintLast Go.Proofs.YtjafllnbgfcchaaDoorW.PrintMore Go.Proofs.YtjafllnbgfcchaaDoor.Lx Go.Proofs.YtjafllnbgfcchaaDoor.XK Go.Proofs.YtjafllnbgfcchaaDoor.Px Go.Proofs.YtjafllnbgfcchaaDoor.Ck Go.Proofs.YtjafllnbgfcchaaDoor.Ow Go.Proofs.YtjafllnbgfcchaaDoor.Cl
attribute [local go_sem ↓] Go.wp_at_zero Go.wp_at_succ
theorem setCell_same {W : World} {b : Nat} {v : Value} {t : TypeId} {fr : Nat × Nat} (h : W.heap[b]? = some (.cells #[v] t fr)) : W.setCell ⟨b, 0, none⟩ v = W := by
 have hlt : b < W.heap.size := (Array.getElem?_eq_some_iff.1 h).1
 have hb : W.heap[b] = .cells #[v] t fr := (Array.getElem?_eq_some_iff.1 h).2
 have e : ∀ f : Obj → Obj, f (.cells #[v] t fr) = .cells #[v] t fr → W.heap.modify b f = W.heap := by
  intro f hf
  apply Array.ext
  ·simp
  ·intro i h1 h2
   rw [Array.getElem_modify]
   split
   ·rename_i h3
    subst h3
    rw [hb, hf]
   ·rfl
 unfold World.setCell
 rw [e _ rfl]
structure Stands (s m : ByteArray) (a : Int) : Prop where
 h0 : 0 ≤ a
 h1 : a + m.size ≤ s.size
 h2 : s.extract a.toNat (a + m.size).toNat = m
set_option maxHeartbeats 4000000 in
set_option maxRecDepth 100000 in
theorem stands_walk (s m : ByteArray) (a : Int) (bf bs : Nat) (w : World) (h : Stands s m a) (hs : s.size ≤ 100000) (hf : w.heap[bf]? = some (.cells #[.bool true] 4 (0, 0))) (hw : w.cell? ⟨bs, 0, none⟩ = some (.string s)) :
  Calls Tryd.prog 16 #[.string m, .int .i64 a, .pointer (some ⟨bf, 0, none⟩), .pointer (some ⟨bs, 0, none⟩)] w fun e w' => e = .returned (.tuple #[]) ∧ w' = w := by
 have c0 := blk_cell hf 0
 have cf := fun j => blk_frozen hf j
 have cl := blk_lt hf
 have HF := Lib.hid hf
 have HS := Lib.hid h
 obtain ⟨h0, h1, h2⟩ := h
 have i0 : (0 ≤ a) = True := eq_true h0
 have i1 : decide (a ≥ 0) = true := decide_eq_true h0
 have i2 : decide (0 ≤ a) = true := decide_eq_true h0
 have i3 : wrap64 (a + (m.size : Int)) = a + m.size := by unfold wrap64; omega
 have i4 : (a + (m.size : Int) ≤ (s.size : Int)) = True := eq_true h1
 have i5 : decide (a + (m.size : Int) ≤ (s.size : Int)) = true := decide_eq_true h1
 have i6 : (a ≤ a + (m.size : Int)) = True := eq_true (by omega)
 go_enter Tryd.func16, Tryd.ntmps16
 go_wp2_with (fail)
 go_end0
 exact ⟨rfl, setCell_same HF.out⟩
inductive AllE (P : E → Prop) : E → Prop
 | mk (e : E) : P e → (∀ k ∈ e.f5, AllE P k) → AllE P e
set_option maxHeartbeats 4000000 in
set_option maxRecDepth 100000 in
theorem each_walk {w0 : World} (Inv : World → Prop) (hinv : ∀ w w' : World, Inv w → Below w.heap.size w w' → Inv w') (h0 : ∀ w, Inv w → Below w0.heap.size w0 w) (fk : Nat) (rs : Array Value) (hent : ∀ args w, (callFunc fk args).run Tryd.prog w = .ok (.enter fk args) w) (P : E → Prop)
  (hf : ∀ (e : E) (A : Option Addr) (c : Nat) (w : World), P e → ExAt w0 e A c → Inv w → Calls Tryd.prog fk (#[exA e A c] ++ rs) w fun e' w' => e' = .returned (.tuple #[]) ∧ Below w.heap.size w w') {e : E} (he : AllE P e) :
  ∀ (A : Option Addr) (c : Nat) (w : World), ExAt w0 e A c → Inv w → Calls Tryd.prog 18 #[exA e A c, .func (.func fk) #[] rs] w fun e' w' => e' = .returned (.tuple #[]) ∧ Below w.heap.size w w' := by
 induction he with
 | mk e hp hk ih =>
  intro A c w hx hw
  have HX := Lib.hid (And.intro hp (And.intro hx hw))
  have HIH := Lib.hid ih
  have HO := Lib.hid ((Ow.start w).new (q := exO e A c))
  clear hp hx hw ih hk
  go_enter Tryd.func18, Tryd.ntmps18
  go_wp2_with (fail)
  refine (hf e A c _ HX.out.1 HX.out.2.1 (hinv _ _ HX.out.2.2 HO.out.bel)).mono ?_
  rintro e' w1 ⟨rfl, hb⟩
  have HO2 := Lib.hid (HO.out.below hb)
  clear hb HO
  obtain ⟨r0, r1, r2, r3, r4, r5, rf⟩ := blk6 HO2.out.l0
  go_wp2_with (fail)
  clear r0 r1 r2 r3 r4 r5 rf
  go_loopg [12] (e.f5.length + 1) (fun m9 u wr => ∃ i : Nat, u = .int .i64 (i : Int) ∧ i ≤ e.f5.length ∧ m9 = e.f5.length + 1 - i ∧ Hid (Ow w wr [(w.heap.size, exO e A c)]))
  case atStart => exact ⟨0, rfl, by omega, by simp, HO2⟩
  case round =>
   obtain ⟨i, rfl, hi, rfl, HS⟩ := hrel
   clear HO2
   rcases Nat.lt_or_ge i e.f5.length with hlt | hge
   ·obtain ⟨k, hk, hd⟩ := drop_at hlt
    obtain ⟨ad, A', c', hA, x0, x1, x2, x3, x4, x5, hE⟩ := kid_at HX.out.2.1 i k hk
    subst hA
    have hI := hinv _ _ HX.out.2.2 HS.out.bel
    have hb := h0 _ hI
    replace x0 := pw_cell_below hb x0
    replace x1 := pw_cell_below hb x1
    replace x2 := pw_cell_below hb x2
    replace x3 := pw_cell_below hb x3
    replace x4 := pw_cell_below hb x4
    replace x5 := pw_cell_below hb x5
    have xl := World.block_lt_of_cell? _ _ x0
    have xn : ¬ ((ad.add (i * 6)).block = wr.heap.size) := Nat.ne_of_lt xl
    have i0 : ((i : Int) < (e.f5.length : Int)) = True := eq_true (by omega)
    have i1 : decide ((i : Int) < (e.f5.length : Int)) = true := decide_eq_true (by omega)
    have i2 : (0 ≤ (i : Int)) = True := eq_true (by omega)
    have hw9 : wrap64 ((i : Int) + 1) = ((i + 1 : Nat) : Int) := by have h9 := HX.out.2.1.kids.2.1; unfold maxLen at h9; unfold wrap64; omega
    have HK := Lib.hid (And.intro (List.mem_of_getElem? hk) (And.intro hE hI))
    clear hk hd hE hI hb
    go_wp2_with (fail)
    have HT := Lib.hid (HS.out.new (q := exO k A' c'))
    refine (HIH.out k HK.out.1 A' c' _ HK.out.2.1 (hinv _ _ HK.out.2.2 (below_alloc (Below.refl _ _) _))).mono ?_
    rintro e' w9 ⟨rfl, hb⟩
    have HS2 := Lib.hid (HT.out.below hb).drop1
    clear hb
    go_wp2_with (fail)
    go_roundg (e.f5.length + 1 - (i + 1))
    case measure => exact ms9 hlt
    case rel => exact ⟨i + 1, (by first | rfl | rw [hw9]), hlt, rfl, HS2⟩
   ·have i0 : ((i : Int) < (e.f5.length : Int)) = False := eq_false (by omega)
    have i1 : decide ((i : Int) < (e.f5.length : Int)) = false := decide_eq_false (by omega)
    go_wp2_with (fail)
    go_end0
    exact ⟨rfl, HS.out.bel⟩
/-! ### a map made by a literal with whole numbers for keys -/
def ents (l : List (Int × Value)) : Array MapEntry := (l.zipIdx.map fun q => (⟨.int .i64 q.1.1, q.1.2, q.2⟩ : MapEntry)).toArray
def wordOf (k : Int) (m : ByteArray) : ByteArray :=
 if k = 3 ∨ k = 13 ∨ k = 6 then m else if k = 7 then ⟨#[105, 102]⟩ else if k = 8 then ⟨#[45, 62]⟩ else if k = 9 then ⟨#[102, 98, 121]⟩ else if k = 10 then ⟨#[112, 114, 101]⟩
 else if k = 11 then ⟨#[119, 104, 101, 110]⟩ else if k = 12 then ⟨#[109, 101, 114, 103, 101]⟩ else if k = 14 then ⟨#[97, 119, 97, 105, 116]⟩ else if k = 5 then ⟨#[110, 111, 116]⟩ else if k = 4 then ⟨#[45]⟩ else ⟨#[]⟩
theorem mapT : Tryd.prog.underlying 49 = some (.map 3 9) := by kernel_rfl
theorem ents_snoc (l : List (Int × Value)) (k : Int) (v : Value) : ents (l ++ [(k, v)]) = (ents l).push ⟨.int .i64 k, v, l.length⟩ := by
 unfold ents
 rw [List.zipIdx_append, List.map_append]
 simp
theorem checkKey_int (em : Bool) (k : Int) (w : World) : (Instr.checkKey em 10000 3 (.int .i64 k)).run Tryd.prog w = .ok () w := by
 rw [show (10000 : Nat) = 9999 + 1 from rfl, Instr.checkKey, Sem.run_bind, run_underlying Tryd.underlying3]
 rfl
theorem upd_new {W : World} {l : List (Int × Value)} (k : Int) (v : Value) (hf : Instr.findNow (.int .i64) (.int .i64 k) (ents l).toList 0 = some none) :
  (Instr.mapUpdate 49 (.map (some W.heap.size)) (.int .i64 k) v).run Tryd.prog (W.alloc (.map (ents l) l.length)) = .ok () (W.alloc (.map (ents (l ++ [(k, v)])) (l ++ [(k, v)]).length)) := by
 have hb : (W.alloc (.map (ents l) l.length)).heap[W.heap.size]? = some (.map (ents l) l.length) := blk_new W _
 have hk : (Instr.findKey 3 (.int .i64 k) (ents l).toList).run Tryd.prog (W.alloc (.map (ents l) l.length)) = .ok none (W.alloc (.map (ents l) l.length)) := by
  simp [Instr.findKey, run_underlying Tryd.underlying3, hf, Result.andThen]
 rw [ents_snoc]
 simp [Instr.mapUpdate, run_underlying mapT, Go.MapKept.run_getObj_map hb, checkKey_int, hk, Result.andThen]
 rw [Go.MapKept.run_setObj_map _ hb]
 have e : (W.heap.push (.map (ents l) l.length)).setIfInBounds W.heap.size (.map ((ents l).push { key := .int .i64 k, val := v, born := l.length }) (l.length + 1)) = W.heap.push (.map ((ents l).push { key := .int .i64 k, val := v, born := l.length }) (l.length + 1)) := by
  apply Array.ext
  ·simp
  ·intro i h1 h2
   rw [Array.getElem_setIfInBounds (by simpa using h2), Array.getElem_push, Array.getElem_push]
   by_cases hi : i = W.heap.size
   ·subst hi
    simp
   ·have : i < W.heap.size := by simp at h2; omega
    rw [if_neg (fun h => hi h.symm), dif_pos this, dif_pos this]
 show Result.ok () { (W.alloc (.map (ents l) l.length)) with heap := (W.heap.push (.map (ents l) l.length)).setIfInBounds W.heap.size _ } = _
 rw [e]
 rfl
theorem look_at {W : World} {l : List (Int × Value)} (k : Int) (v : ByteArray) (hf : (∃ i, Instr.findNow (.int .i64) (.int .i64 k) (ents l).toList 0 = some (some (i, .string v))) ∨ (Instr.findNow (.int .i64) (.int .i64 k) (ents l).toList 0 = some none ∧ v = ⟨#[]⟩)) :
  (Instr.lookup 49 (.map (some W.heap.size)) (.int .i64 k) false).run Tryd.prog (W.alloc (.map (ents l) l.length)) = .ok (.string v) (W.alloc (.map (ents l) l.length)) := by
 have hb : (W.alloc (.map (ents l) l.length)).heap[W.heap.size]? = some (.map (ents l) l.length) := blk_new W _
 have hz : (zeroValue 9).run Tryd.prog (W.alloc (.map (ents l) l.length)) = .ok (.string ⟨#[]⟩) (W.alloc (.map (ents l) l.length)) := by
  kernel_rfl
 rcases hf with ⟨i, hf⟩ | ⟨hf, rfl⟩
 ·have hk : (Instr.findKey 3 (.int .i64 k) (ents l).toList).run Tryd.prog (W.alloc (.map (ents l) l.length)) = .ok (some (i, .string v)) (W.alloc (.map (ents l) l.length)) := by
   simp [Instr.findKey, run_underlying Tryd.underlying3, hf, Result.andThen]
  simp [Instr.lookup, run_underlying mapT, Go.MapKept.run_getObj_map hb, checkKey_int, hk, Result.andThen]
 ·have hk : (Instr.findKey 3 (.int .i64 k) (ents l).toList).run Tryd.prog (W.alloc (.map (ents l) l.length)) = .ok none (W.alloc (.map (ents l) l.length)) := by
   simp [Instr.findKey, run_underlying Tryd.underlying3, hf, Result.andThen]
  simp [Instr.lookup, run_underlying mapT, Go.MapKept.run_getObj_map hb, checkKey_int, hk, hz, Result.andThen]
def L12 (m : ByteArray) : List (Int × Value) := [(3, .string m), (13, .string m), (6, .string m), (7, .string ⟨#[105, 102]⟩), (8, .string ⟨#[45, 62]⟩), (9, .string ⟨#[102, 98, 121]⟩), (10, .string ⟨#[112, 114, 101]⟩), (11, .string ⟨#[119, 104, 101, 110]⟩), (12, .string ⟨#[109, 101, 114, 103, 101]⟩), (14, .string ⟨#[97, 119, 97, 105, 116]⟩), (5, .string ⟨#[110, 111, 116]⟩), (4, .string ⟨#[45]⟩)]
theorem look_word (m : ByteArray) (k : Int) (h1 : 1 ≤ k) (h2 : k ≤ 14) : (∃ i, Instr.findNow (.int .i64) (.int .i64 k) (ents (L12 m)).toList 0 = some (some (i, .string (wordOf k m)))) ∨ (Instr.findNow (.int .i64) (.int .i64 k) (ents (L12 m)).toList 0 = some none ∧ wordOf k m = ⟨#[]⟩) := by
 obtain rfl | rfl | rfl | rfl | rfl | rfl | rfl | rfl | rfl | rfl | rfl | rfl | rfl | rfl : k = 1 ∨ k = 2 ∨ k = 3 ∨ k = 4 ∨ k = 5 ∨ k = 6 ∨ k = 7 ∨ k = 8 ∨ k = 9 ∨ k = 10 ∨ k = 11 ∨ k = 12 ∨ k = 13 ∨ k = 14 := by omega
 ·exact .inr ⟨rfl, rfl⟩
 ·exact .inr ⟨rfl, rfl⟩
 ·exact .inl ⟨0, rfl⟩
 ·exact .inl ⟨11, rfl⟩
 ·exact .inl ⟨10, rfl⟩
 ·exact .inl ⟨2, rfl⟩
 ·exact .inl ⟨3, rfl⟩
 ·exact .inl ⟨4, rfl⟩
 ·exact .inl ⟨5, rfl⟩
 ·exact .inl ⟨6, rfl⟩
 ·exact .inl ⟨7, rfl⟩
 ·exact .inl ⟨8, rfl⟩
 ·exact .inl ⟨1, rfl⟩
 ·exact .inl ⟨9, rfl⟩
def WordAt (s : ByteArray) (e : E) : Prop := Stands s (wordOf e.f0 e.f3) e.f1 ∧ 1 ≤ e.f0 ∧ e.f0 ≤ 14
set_option maxHeartbeats 4000000 in
set_option maxRecDepth 100000 in
theorem word_walk {w0 : World} (s : ByteArray) (hs : s.size ≤ 100000) (bf bs b6 : Nat) (e : E) (A : Option Addr) (c : Nat) (w : World) (hp : WordAt s e) (hf : w.heap[bf]? = some (.cells #[.bool true] 4 (0, 0))) (hw : w.cell? ⟨bs, 0, none⟩ = some (.string s)) (h6 : w.cell? ⟨b6, 0, none⟩ = some (.func (.func 16) #[] #[.pointer (some ⟨bf, 0, none⟩), .pointer (some ⟨bs, 0, none⟩)])) :
  Calls Tryd.prog 19 (#[exA e A c] ++ #[.pointer (some ⟨b6, 0, none⟩)]) w fun e' w' => e' = .returned (.tuple #[]) ∧ Below w.heap.size w w' := by
 obtain ⟨e0, e1, e2, m, e4, e5⟩ := e
 have HP := Lib.hid hp
 obtain ⟨W, hW⟩ : ∃ W, w.alloc (exO ⟨e0, e1, e2, m, e4, e5⟩ A c) = W := ⟨_, rfl⟩
 have HO : Hid (Ow w W [(w.heap.size, exO ⟨e0, e1, e2, m, e4, e5⟩ A c)]) := Lib.hid (by rw [← hW]; exact (Ow.start w).new)
 have hmk := @run_makeMap Tryd.prog
 obtain ⟨M1, hM1⟩ : ∃ M, ents [(3, .string m)] = M := ⟨_, rfl⟩
 obtain ⟨M2, hM2⟩ : ∃ M, ents [(3, .string m), (13, .string m)] = M := ⟨_, rfl⟩
 obtain ⟨M3, hM3⟩ : ∃ M, ents [(3, .string m), (13, .string m), (6, .string m)] = M := ⟨_, rfl⟩
 obtain ⟨M4, hM4⟩ : ∃ M, ents [(3, .string m), (13, .string m), (6, .string m), (7, .string ⟨#[105, 102]⟩)] = M := ⟨_, rfl⟩
 obtain ⟨M5, hM5⟩ : ∃ M, ents [(3, .string m), (13, .string m), (6, .string m), (7, .string ⟨#[105, 102]⟩), (8, .string ⟨#[45, 62]⟩)] = M := ⟨_, rfl⟩
 obtain ⟨M6, hM6⟩ : ∃ M, ents [(3, .string m), (13, .string m), (6, .string m), (7, .string ⟨#[105, 102]⟩), (8, .string ⟨#[45, 62]⟩), (9, .string ⟨#[102, 98, 121]⟩)] = M := ⟨_, rfl⟩
 obtain ⟨M7, hM7⟩ : ∃ M, ents [(3, .string m), (13, .string m), (6, .string m), (7, .string ⟨#[105, 102]⟩), (8, .string ⟨#[45, 62]⟩), (9, .string ⟨#[102, 98, 121]⟩), (10, .string ⟨#[112, 114, 101]⟩)] = M := ⟨_, rfl⟩
 obtain ⟨M8, hM8⟩ : ∃ M, ents [(3, .string m), (13, .string m), (6, .string m), (7, .string ⟨#[105, 102]⟩), (8, .string ⟨#[45, 62]⟩), (9, .string ⟨#[102, 98, 121]⟩), (10, .string ⟨#[112, 114, 101]⟩), (11, .string ⟨#[119, 104, 101, 110]⟩)] = M := ⟨_, rfl⟩
 obtain ⟨M9, hM9⟩ : ∃ M, ents [(3, .string m), (13, .string m), (6, .string m), (7, .string ⟨#[105, 102]⟩), (8, .string ⟨#[45, 62]⟩), (9, .string ⟨#[102, 98, 121]⟩), (10, .string ⟨#[112, 114, 101]⟩), (11, .string ⟨#[119, 104, 101, 110]⟩), (12, .string ⟨#[109, 101, 114, 103, 101]⟩)] = M := ⟨_, rfl⟩
 obtain ⟨M10, hM10⟩ : ∃ M, ents [(3, .string m), (13, .string m), (6, .string m), (7, .string ⟨#[105, 102]⟩), (8, .string ⟨#[45, 62]⟩), (9, .string ⟨#[102, 98, 121]⟩), (10, .string ⟨#[112, 114, 101]⟩), (11, .string ⟨#[119, 104, 101, 110]⟩), (12, .string ⟨#[109, 101, 114, 103, 101]⟩), (14, .string ⟨#[97, 119, 97, 105, 116]⟩)] = M := ⟨_, rfl⟩
 obtain ⟨M11, hM11⟩ : ∃ M, ents [(3, .string m), (13, .string m), (6, .string m), (7, .string ⟨#[105, 102]⟩), (8, .string ⟨#[45, 62]⟩), (9, .string ⟨#[102, 98, 121]⟩), (10, .string ⟨#[112, 114, 101]⟩), (11, .string ⟨#[119, 104, 101, 110]⟩), (12, .string ⟨#[109, 101, 114, 103, 101]⟩), (14, .string ⟨#[97, 119, 97, 105, 116]⟩), (5, .string ⟨#[110, 111, 116]⟩)] = M := ⟨_, rfl⟩
 obtain ⟨M12, hM12⟩ : ∃ M, ents [(3, .string m), (13, .string m), (6, .string m), (7, .string ⟨#[105, 102]⟩), (8, .string ⟨#[45, 62]⟩), (9, .string ⟨#[102, 98, 121]⟩), (10, .string ⟨#[112, 114, 101]⟩), (11, .string ⟨#[119, 104, 101, 110]⟩), (12, .string ⟨#[109, 101, 114, 103, 101]⟩), (14, .string ⟨#[97, 119, 97, 105, 116]⟩), (5, .string ⟨#[110, 111, 116]⟩), (4, .string ⟨#[45]⟩)] = M := ⟨_, rfl⟩
 have u0 : (Instr.mapUpdate 49 (.map (some W.heap.size)) (.int .i64 3) (.string m)).run Tryd.prog (W.alloc (.map #[] 0)) = .ok () (W.alloc (.map M1 1)) := by
  rw [← hM1]
  exact upd_new (l := []) 3 (.string m) rfl
 have u1 : (Instr.mapUpdate 49 (.map (some W.heap.size)) (.int .i64 13) (.string m)).run Tryd.prog (W.alloc (.map M1 1)) = .ok () (W.alloc (.map M2 2)) := by
  rw [← hM2, ← hM1]
  exact upd_new (l := [(3, .string m)]) 13 (.string m) rfl
 have u2 : (Instr.mapUpdate 49 (.map (some W.heap.size)) (.int .i64 6) (.string m)).run Tryd.prog (W.alloc (.map M2 2)) = .ok () (W.alloc (.map M3 3)) := by
  rw [← hM3, ← hM2]
  exact upd_new (l := [(3, .string m), (13, .string m)]) 6 (.string m) rfl
 have u3 : (Instr.mapUpdate 49 (.map (some W.heap.size)) (.int .i64 7) (.string ⟨#[105, 102]⟩)).run Tryd.prog (W.alloc (.map M3 3)) = .ok () (W.alloc (.map M4 4)) := by
  rw [← hM4, ← hM3]
  exact upd_new (l := [(3, .string m), (13, .string m), (6, .string m)]) 7 (.string ⟨#[105, 102]⟩) rfl
 have u4 : (Instr.mapUpdate 49 (.map (some W.heap.size)) (.int .i64 8) (.string ⟨#[45, 62]⟩)).run Tryd.prog (W.alloc (.map M4 4)) = .ok () (W.alloc (.map M5 5)) := by
  rw [← hM5, ← hM4]
  exact upd_new (l := [(3, .string m), (13, .string m), (6, .string m), (7, .string ⟨#[105, 102]⟩)]) 8 (.string ⟨#[45, 62]⟩) rfl
 have u5 : (Instr.mapUpdate 49 (.map (some W.heap.size)) (.int .i64 9) (.string ⟨#[102, 98, 121]⟩)).run Tryd.prog (W.alloc (.map M5 5)) = .ok () (W.alloc (.map M6 6)) := by
  rw [← hM6, ← hM5]
  exact upd_new (l := [(3, .string m), (13, .string m), (6, .string m), (7, .string ⟨#[105, 102]⟩), (8, .string ⟨#[45, 62]⟩)]) 9 (.string ⟨#[102, 98, 121]⟩) rfl
 have u6 : (Instr.mapUpdate 49 (.map (some W.heap.size)) (.int .i64 10) (.string ⟨#[112, 114, 101]⟩)).run Tryd.prog (W.alloc (.map M6 6)) = .ok () (W.alloc (.map M7 7)) := by
  rw [← hM7, ← hM6]
  exact upd_new (l := [(3, .string m), (13, .string m), (6, .string m), (7, .string ⟨#[105, 102]⟩), (8, .string ⟨#[45, 62]⟩), (9, .string ⟨#[102, 98, 121]⟩)]) 10 (.string ⟨#[112, 114, 101]⟩) rfl
 have u7 : (Instr.mapUpdate 49 (.map (some W.heap.size)) (.int .i64 11) (.string ⟨#[119, 104, 101, 110]⟩)).run Tryd.prog (W.alloc (.map M7 7)) = .ok () (W.alloc (.map M8 8)) := by
  rw [← hM8, ← hM7]
  exact upd_new (l := [(3, .string m), (13, .string m), (6, .string m), (7, .string ⟨#[105, 102]⟩), (8, .string ⟨#[45, 62]⟩), (9, .string ⟨#[102, 98, 121]⟩), (10, .string ⟨#[112, 114, 101]⟩)]) 11 (.string ⟨#[119, 104, 101, 110]⟩) rfl
 have u8 : (Instr.mapUpdate 49 (.map (some W.heap.size)) (.int .i64 12) (.string ⟨#[109, 101, 114, 103, 101]⟩)).run Tryd.prog (W.alloc (.map M8 8)) = .ok () (W.alloc (.map M9 9)) := by
  rw [← hM9, ← hM8]
  exact upd_new (l := [(3, .string m), (13, .string m), (6, .string m), (7, .string ⟨#[105, 102]⟩), (8, .string ⟨#[45, 62]⟩), (9, .string ⟨#[102, 98, 121]⟩), (10, .string ⟨#[112, 114, 101]⟩), (11, .string ⟨#[119, 104, 101, 110]⟩)]) 12 (.string ⟨#[109, 101, 114, 103, 101]⟩) rfl
 have u9 : (Instr.mapUpdate 49 (.map (some W.heap.size)) (.int .i64 14) (.string ⟨#[97, 119, 97, 105, 116]⟩)).run Tryd.prog (W.alloc (.map M9 9)) = .ok () (W.alloc (.map M10 10)) := by
  rw [← hM10, ← hM9]
  exact upd_new (l := [(3, .string m), (13, .string m), (6, .string m), (7, .string ⟨#[105, 102]⟩), (8, .string ⟨#[45, 62]⟩), (9, .string ⟨#[102, 98, 121]⟩), (10, .string ⟨#[112, 114, 101]⟩), (11, .string ⟨#[119, 104, 101, 110]⟩), (12, .string ⟨#[109, 101, 114, 103, 101]⟩)]) 14 (.string ⟨#[97, 119, 97, 105, 116]⟩) rfl
 have u10 : (Instr.mapUpdate 49 (.map (some W.heap.size)) (.int .i64 5) (.string ⟨#[110, 111, 116]⟩)).run Tryd.prog (W.alloc (.map M10 10)) = .ok () (W.alloc (.map M11 11)) := by
  rw [← hM11, ← hM10]
  exact upd_new (l := [(3, .string m), (13, .string m), (6, .string m), (7, .string ⟨#[105, 102]⟩), (8, .string ⟨#[45, 62]⟩), (9, .string ⟨#[102, 98, 121]⟩), (10, .string ⟨#[112, 114, 101]⟩), (11, .string ⟨#[119, 104, 101, 110]⟩), (12, .string ⟨#[109, 101, 114, 103, 101]⟩), (14, .string ⟨#[97, 119, 97, 105, 116]⟩)]) 5 (.string ⟨#[110, 111, 116]⟩) rfl
 have u11 : (Instr.mapUpdate 49 (.map (some W.heap.size)) (.int .i64 4) (.string ⟨#[45]⟩)).run Tryd.prog (W.alloc (.map M11 11)) = .ok () (W.alloc (.map M12 12)) := by
  rw [← hM12, ← hM11]
  exact upd_new (l := [(3, .string m), (13, .string m), (6, .string m), (7, .string ⟨#[105, 102]⟩), (8, .string ⟨#[45, 62]⟩), (9, .string ⟨#[102, 98, 121]⟩), (10, .string ⟨#[112, 114, 101]⟩), (11, .string ⟨#[119, 104, 101, 110]⟩), (12, .string ⟨#[109, 101, 114, 103, 101]⟩), (14, .string ⟨#[97, 119, 97, 105, 116]⟩), (5, .string ⟨#[110, 111, 116]⟩)]) 4 (.string ⟨#[45]⟩) rfl
 have lk : (Instr.lookup 49 (.map (some W.heap.size)) (.int .i64 e0) false).run Tryd.prog (W.alloc (.map M12 12)) = .ok (.string (wordOf e0 m)) (W.alloc (.map M12 12)) := by
  rw [← hM12]
  exact look_at (l := L12 m) e0 (wordOf e0 m) (look_word m e0 hp.2.1 hp.2.2)
 have ob := fun o : Obj => (Ow.below HO.out (below_alloc (Below.refl _ _) o)).l0
 have b0 := fun o : Obj => blk_cell (ob o) 0
 have b1 := fun o : Obj => blk_cell (ob o) 1
 have b3 := fun o : Obj => blk_cell (ob o) 3
 have f6 := fun o : Obj => pw_cell_below (Ow.below HO.out (below_alloc (Below.refl _ _) o)).bel h6
 have HF := Lib.hid (And.intro hf (And.intro hw h6))
 obtain ⟨wd, hwd⟩ : ∃ wd, wordOf e0 m = wd := ⟨_, rfl⟩
 rw [hwd] at lk
 have HS : Hid (Stands s wd e1) := Lib.hid (by rw [← hwd]; exact hp.1)
 clear hp hf hw h6 ob hwd hM1 hM2 hM3 hM4 hM5 hM6 hM7 hM8 hM9 hM10 hM11 hM12
 go_enter Tryd.func19, Tryd.ntmps19
 change Code.wp _ _ _ _ _
 go_wp2_with (fail)
 have HB := Lib.hid (Ow.below HO.out (below_alloc (Below.refl _ _) (.map M12 12))).bel
 refine (stands_walk s wd e1 bf bs _ HS.out hs (blk_below HF.out.1 HB.out) (pw_cell_below HB.out HF.out.2.1)).mono ?_
 rintro e' w1 ⟨rfl, rfl⟩
 go_wp2_with (fail)
 go_end0
 exact ⟨rfl, HB.out⟩
end Go.Proofs.YtjafllnbgfcchaaDoor.Pp
end
section
/- What the parser reads stands, byte by byte, where it says. -/
namespace Go.Proofs.YtjafllnbgfcchaaDoor.Pp
set_option linter.unusedVariables false
set_option linter.unusedSimpArgs false
open Go Go.RowKit Go.Proofs.YtjafllnbgfcchaaDoor.XK Go.Proofs.YtjafllnbgfcchaaDoor.Px Go.Proofs.YtjafllnbgfcchaaDoor.Cl
def At (s t : LX.B) (a : Nat) : Prop := a + t.length ≤ s.length ∧ (s.drop a).take t.length = t
theorem one_prefix (l : LX.B) (k : Nat) (t : LX.B) (n : Nat) (h : LX.one l = .ok (k, t, n)) : t <+: l := by
 unfold LX.one at h
 split at h
 ·cases h
 ·rename_i c r
  split at h
  ·dsimp only at h
   split at h
   ·cases h
    exact List.takeWhile_prefix _
   ·split at h
    ·cases h
    ·cases h
     exact List.takeWhile_prefix _
  ·split at h
   ·dsimp only at h
    split at h
    ·cases h
    ·split at h
     ·cases h
     ·cases h
      exact List.takeWhile_prefix _
   ·split at h
    ·rename_i s hs
     cases h
     have := List.find?_some hs
     exact List.isPrefixOf_iff_prefix.1 this
    ·cases h
theorem skip_suffix : ∀ (b : Bool) (l : LX.B), LX.skip b l <:+ l
 | _, [] => by cases ‹Bool› <;> exact List.suffix_refl _
 | true, c :: r => by
  rw [LX.skip]
  split
  ·exact (skip_suffix false r).trans (List.suffix_cons _ _)
  ·exact (skip_suffix true r).trans (List.suffix_cons _ _)
 | false, [c] => by
  rw [LX.skip]
  split
  ·exact (skip_suffix false []).trans (List.suffix_cons _ _)
  ·exact List.suffix_refl _
 | false, c :: d :: r => by
  rw [LX.skip]
  split
  ·exact (skip_suffix false (d :: r)).trans (List.suffix_cons _ _)
  ·split
   ·exact (skip_suffix true (d :: r)).trans (List.suffix_cons _ _)
   ·exact List.suffix_refl _
theorem at_prefix {s l t : LX.B} (hs : l <:+ s) (ht : t <+: l) : At s t (s.length - l.length) := by
 obtain ⟨a, rfl⟩ := hs
 obtain ⟨b, rfl⟩ := ht
 have e : (a ++ (t ++ b)).length - (t ++ b).length = a.length := by rw [List.length_append]; omega
 rw [e]
 refine ⟨by simp only [List.length_append]; omega, ?_⟩
 rw [List.drop_left, List.take_left]
theorem go_at (s : LX.B) : ∀ (k : Nat) (l : LX.B) (r : List LX.Tok), l <:+ s → LX.go s.length k l = .ok r → ∀ t ∈ r, At s t.text t.at_
 | 0, l, r, hs, h, t, ht => by
  rw [LX.go] at h
  cases h
  simp at ht
 | k + 1, l, r, hs, h, t, ht => by
  rw [LX.go] at h
  split at h
  ·cases h
   simp only [List.mem_singleton] at ht
   subst ht
   exact ⟨Nat.le_refl _, by simp⟩
  ·have hs2 : LX.skip false l <:+ s := (skip_suffix false l).trans hs
   cases ho : LX.one (LX.skip false l) with
   | error e => rw [ho] at h; cases h
   | ok q =>
    obtain ⟨kind, tx, n⟩ := q
    rw [ho] at h
    dsimp only at h
    cases hg : LX.go s.length k ((LX.skip false l).drop tx.length) with
    | error e => rw [hg] at h; cases h
    | ok r' =>
     rw [hg] at h
     cases h
     rcases List.mem_cons.1 ht with rfl | ht
     ·exact at_prefix hs2 (one_prefix _ _ _ _ ho)
     ·exact go_at s k _ r' ((List.drop_suffix _ _).trans hs2) hg t ht
theorem all_at {s : LX.B} {r : List LX.Tok} (h : LX.all s = .ok r) : ∀ t ∈ r, At s t.text t.at_ := by
 unfold LX.all at h
 split at h
 ·cases h
 ·exact go_at s _ s r (List.suffix_refl _) h
theorem stands_of {s : ByteArray} {t : LX.B} {a : Nat} (h : At s.data.toList t a) : Stands s ⟨t.toArray⟩ (a : Int) := by
 have hl : s.data.toList.length = s.size := by show s.data.toList.length = s.data.size; simp
 have ht : (⟨t.toArray⟩ : ByteArray).size = t.length := by show t.toArray.size = _; simp
 obtain ⟨h1, h2⟩ := h
 refine ⟨Int.natCast_nonneg _, by rw [ht]; omega, ?_⟩
 apply ByteArray.ext
 rw [ht, show ((a : Int) + (t.length : Int)).toNat = a + t.length from by omega, Int.toNat_natCast, ByteArray.data_extract]
 apply Array.toList_inj.1
 rw [Array.toList_extract, List.extract_eq_take_drop, show a + t.length - a = t.length from by omega]
 show _ = t.toArray.toList
 rw [h2]
theorem stands_empty {s : ByteArray} {t : LX.B} {a : Nat} (h : At s.data.toList t a) : Stands s ⟨#[]⟩ (a : Int) := by
 have h9 : At s.data.toList [] a := ⟨by have := h.1; simp only [List.length_nil]; omega, by simp⟩
 exact stands_of h9
section
variable {s : ByteArray} {toks : List LX.Tok} (ha : LX.all s.data.toList = .ok toks)
include ha
theorem here_at {q : Nat} (h : PX.Here (toks.map tk) q) : At s.data.toList (PX.tokAt (toks.map tk) q).text (toks[toks.length - q]?.getD default).at_ := by
 obtain ⟨h1, h2⟩ := h
 rw [List.length_map] at h2
 have hl : toks.length - q < toks.length := by omega
 have e : (PX.tokAt (toks.map tk) q).text = (toks[toks.length - q]).text := by
  unfold PX.tokAt PX.peek
  rw [List.length_map, ← List.map_drop, List.drop_eq_getElem_cons hl]
  rfl
 rw [e, List.getElem?_eq_getElem hl, Option.getD_some]
 exact all_at ha _ (List.getElem_mem hl)
theorem name_stands {q : Nat} {m : PX.B} (h : PX.NameAt (toks.map tk) q m) : Stands s ⟨m.toArray⟩ (atOf toks q) := by
 have h9 := here_at ha h.1
 rw [h.2.2] at h9
 exact stands_of h9
omit ha in
theorem word_eq (k : Nat) (m : PX.B) (h1 : 1 ≤ k) (h2 : k ≤ 14) : wordOf (k : Int) ⟨m.toArray⟩ = ⟨(PX.wordOf k m).toArray⟩ := by
 obtain rfl | rfl | rfl | rfl | rfl | rfl | rfl | rfl | rfl | rfl | rfl | rfl | rfl | rfl : k = 1 ∨ k = 2 ∨ k = 3 ∨ k = 4 ∨ k = 5 ∨ k = 6 ∨ k = 7 ∨ k = 8 ∨ k = 9 ∨ k = 10 ∨ k = 11 ∨ k = 12 ∨ k = 13 ∨ k = 14 := by omega
 all_goals rfl
theorem word_stands {x : PX.Ex} (h : PX.Stood (toks.map tk) x) (hk : 1 ≤ x.kind ∧ x.kind ≤ 14) : WordAt s (real toks x) := by
 have h9 := here_at ha h.1
 obtain ⟨k, q, n, m, o, l⟩ := x
 have hk : 1 ≤ k ∧ k ≤ 14 := hk
 refine ⟨?_, by show 1 ≤ (k : Int); omega, by show (k : Int) ≤ 14; omega⟩
 show Stands s (wordOf (k : Int) ⟨m.toArray⟩) (atOf toks q)
 rw [word_eq k m hk.1 hk.2]
 rcases h.2 with hw | hw
 ·have hw : PX.wordOf k m = [] := hw
  rw [hw]
  exact stands_empty h9
 ·have hw : (PX.tokAt (toks.map tk) q).text = PX.wordOf k m := hw
  rw [← hw]
  exact stands_of h9
theorem all_words : ∀ (x : PX.Ex), (∀ y ∈ PX.flatE x, PX.Stood (toks.map tk) y ∧ 1 ≤ y.kind ∧ y.kind ≤ 14) → AllE (WordAt s) (real toks x)
 | .mk k q n m o l, h => by
  refine .mk _ (word_stands ha (h _ (by rw [PX.flatE]; exact List.mem_cons_self)).1 (h _ (by rw [PX.flatE]; exact List.mem_cons_self)).2) ?_
  show ∀ e ∈ reals toks l, _
  rw [reals_map]
  intro e he
  obtain ⟨y, hy, rfl⟩ := List.mem_map.1 he
  have := List.sizeOf_lt_of_mem hy
  exact all_words y fun z hz => h z (by rw [PX.flatE]; exact List.mem_cons_of_mem _ (PX.mem_flats.2 ⟨y, hy, hz⟩))
 termination_by x => SizeOf.sizeOf x
end
theorem kind_gram (toks : List PX.T) : PX.Gram toks (fun e => ∀ x ∈ PX.flatE e, 1 ≤ x.kind ∧ x.kind ≤ 14) := by
 have key : ∀ k q n m o l, 1 ≤ k → k ≤ 14 → (∀ e ∈ l, ∀ x ∈ PX.flatE e, 1 ≤ x.kind ∧ x.kind ≤ 14) → ∀ x ∈ PX.flatE (.mk k q n m o l), 1 ≤ x.kind ∧ x.kind ≤ 14 := by
  intro k q n m o l h1 h2 hl x hx
  rw [PX.flatE] at hx
  rcases List.mem_cons.1 hx with rfl | hx
  ·exact ⟨h1, h2⟩
  ·obtain ⟨e, he, hx⟩ := PX.mem_flats.1 hx
   exact hl e he x hx
 constructor
 ·intro q n hq _ _
  exact key _ _ _ _ _ _ (by decide) (by decide) (by simp)
 ·intro q n hq _
  exact key _ _ _ _ _ _ (by decide) (by decide) (by simp)
 ·intro q m h
  exact key _ _ _ _ _ _ (by decide) (by decide) (by simp)
 ·intro q a h ha
  exact key _ _ _ _ _ _ (by decide) (by decide) (by simpa using ha)
 ·intro q a h ha
  exact key _ _ _ _ _ _ (by decide) (by decide) (by simpa using ha)
 ·intro q l a b h _ ha hb
  exact key _ _ _ _ _ _ (by decide) (by decide) (by simpa using ⟨ha, hb⟩)
 ·intro q a b c h ha hb hc
  exact key _ _ _ _ _ _ (by decide) (by decide) (by simpa using ⟨ha, hb, hc⟩)
 ·intro q a b h ha hb
  exact key _ _ _ _ _ _ (by decide) (by decide) (by simpa using ⟨ha, hb⟩)
 ·intro q a b h _ ha hb
  exact key _ _ _ _ _ _ (by decide) (by decide) (by simpa using ⟨ha, hb⟩)
 ·intro q a h ha
  exact key _ _ _ _ _ _ (by decide) (by decide) (by simpa using ha)
 ·intro q m q2 o a h _ ha
  exact key _ _ _ _ _ _ (by decide) (by decide) (by simpa using ha)
 ·intro q m q2 a b h _ ha hb
  exact key _ _ _ _ _ _ (by decide) (by decide) (by simpa using ⟨ha, hb⟩)
 ·intro q m l h hl
  exact key _ _ _ _ _ _ (by decide) (by decide) hl
 ·intro q m q2 l h _ hl
  exact key _ _ _ _ _ _ (by decide) (by decide) (fun e he => (hl e he).1)
structure NodeStands (s : ByteArray) (n : N) : Prop where
 name : Stands s n.f0 n.f1
 decs : ∀ d ∈ n.f2 ++ n.f3 ++ n.f4, Stands s d.f0 d.f1
 left : ∀ q ∈ n.f5, ∀ x ∈ q.f0, Stands s x.f0 x.f1
 ex : ∀ q ∈ n.f5, AllE (WordAt s) q.f2
theorem node_stands {s : ByteArray} {toks : List LX.Tok} {K : Nat} {l : List PX.Nd} {rest : List PX.T} (ha : LX.all s.data.toList = .ok toks) (hp : PX.program K (toks.map tk) = .ok l rest) : ∀ n ∈ l.map (realN toks), NodeStands s n := by
 have hk := all_ok ha
 have hn : ∀ t ∈ toks.map tk, t.n ≤ 9223372036854775808 := fun t ht => by
  obtain ⟨u, hu, rfl⟩ := List.mem_map.1 ht
  exact hk.1.nums u hu
 have h1 := (PX.program_is (PX.place_gram (toks.map tk)) hn hk.1.good hp).1
 have h2 := (PX.program_is (kind_gram (toks.map tk)) hn hk.1.good hp).1
 intro n hn
 obtain ⟨m, hm, rfl⟩ := List.mem_map.1 hn
 have a1 := h1 m hm
 have a2 := h2 m hm
 refine ⟨name_stands ha a1.name, fun d hd => ?_, fun q hq x hx => ?_, fun q hq => ?_⟩
 ·have hd : d ∈ m.ins.map (realD toks) ++ m.outs.map (realD toks) ++ m.vars.map (realD toks) := hd
  rw [List.mem_append, List.mem_append] at hd
  rcases hd with (hd | hd) | hd
  ·obtain ⟨y, hy, rfl⟩ := List.mem_map.1 hd
   exact name_stands ha (a1.ins y hy).1.name
  ·obtain ⟨y, hy, rfl⟩ := List.mem_map.1 hd
   exact name_stands ha (a1.outs y hy).1.name
  ·obtain ⟨y, hy, rfl⟩ := List.mem_map.1 hd
   exact name_stands ha (a1.vars y hy).name
 ·obtain ⟨y, hy, rfl⟩ := List.mem_map.1 (show q ∈ m.eqs.map (realQ toks) from hq)
  obtain ⟨z, hz, rfl⟩ := List.mem_map.1 (show x ∈ y.left.map (realL toks) from hx)
  exact name_stands ha ((a1.eqs y hy).left z hz)
 ·obtain ⟨y, hy, rfl⟩ := List.mem_map.1 (show q ∈ m.eqs.map (realQ toks) from hq)
  exact all_words ha _ fun z hz => ⟨(a1.eqs y hy).e z hz, (a2.eqs y hy).e z hz⟩
end Go.Proofs.YtjafllnbgfcchaaDoor.Pp
end
section
/- The law ParsePlaces, walked. -/
namespace Go.Proofs.YtjafllnbgfcchaaDoor.Pp
set_option linter.unusedVariables false
set_option linter.unusedSimpArgs false
open Go Go.RowKit Go.Proofs.YtjafllnbgfcchaaDoorW.PrintWords Go.Proofs.YtjafllnbgfcchaaDoorW.PrintLast Go.Proofs.YtjafllnbgfcchaaDoorW.PrintMore Go.Proofs.YtjafllnbgfcchaaDoor.Lx Go.Proofs.YtjafllnbgfcchaaDoor.XK Go.Proofs.YtjafllnbgfcchaaDoor.XPL Go.Proofs.YtjafllnbgfcchaaDoor.Px Go.Proofs.YtjafllnbgfcchaaDoor.Ck Go.Proofs.YtjafllnbgfcchaaDoor.Ow Go.Proofs.YtjafllnbgfcchaaDoor.Cl
attribute [local go_sem ↓] Go.wp_at_zero Go.wp_at_succ
attribute [local go_sem high] eqA27
theorem run_store_func {P : Program} {a : Addr} {w : World} {m : Mode} (f : Fn) (c r : Array Value) : (store a (.func f c r) m).run P w = stored P w a (.func f c r) m := run_store P w a _ m rfl
attribute [local go_sem] run_store_func
abbrev fv (bf bs : Nat) : Value := .func (.func 16) #[] #[.pointer (some ⟨bf, 0, none⟩), .pointer (some ⟨bs, 0, none⟩)]
structure Base (V : World) (s : ByteArray) (bf bs b6 : Nat) : Prop where
 hf : V.heap[bf]? = some (.cells #[.bool true] 4 (0, 0))
 hs : V.cell? ⟨bs, 0, none⟩ = some (.string s)
 h6 : V.cell? ⟨b6, 0, none⟩ = some (fv bf bs)
 sz : s.size ≤ 100000
theorem Base.below {V W : World} {s : ByteArray} {bf bs b6 : Nat} (h : Base V s bf bs b6) (hb : Below V.heap.size V W) : Base W s bf bs b6 := ⟨blk_below h.hf hb, pw_cell_below hb h.hs, pw_cell_below hb h.h6, h.sz⟩
theorem stands_call {V : World} {s m : ByteArray} {a : Int} {bf bs b6 : Nat} (h : Base V s bf bs b6) (hm : Stands s m a) :
  Calls Tryd.prog 16 #[.string m, .int .i64 a, .pointer (some ⟨bf, 0, none⟩), .pointer (some ⟨bs, 0, none⟩)] V fun e w' => e = .returned (.tuple #[]) ∧ w' = V := stands_walk s m a bf bs V hm h.sz h.hf h.hs
theorem each_call {V w : World} {s : ByteArray} {bf bs b6 : Nat} (h : Base V s bf bs b6) (hb : Below V.heap.size V w) {e : E} (he : AllE (WordAt s) e) (A : Option Addr) (c : Nat) (hx : ExAt V e A c) :
  Calls Tryd.prog 18 #[exA e A c, .func (.func 19) #[] #[.pointer (some ⟨b6, 0, none⟩)]] w fun e' w' => e' = .returned (.tuple #[]) ∧ Below w.heap.size w w' :=
 each_walk (w0 := V) (fun X => Below V.heap.size V X) (fun w w' h1 h2 => h1.trans (h2.mono h1.size)) (fun w h1 => h1) 19 #[.pointer (some ⟨b6, 0, none⟩)] (enters_of Tryd.func19 (by kernel_rfl) rfl) (WordAt s)
  (fun e A c w hp hx hw => word_walk (w0 := V) s h.sz bf bs b6 e A c w hp (h.below hw).hf (h.below hw).hs (h.below hw).h6) he A c w hx hb
theorem all2_walk {V w : World} {n : N} {B2 : Option Addr} {b2 : Nat} {B3 : Option Addr} {b3 : Nat} {B4 : Option Addr} {b4 : Nat} {B5 : Option Addr} {b5 : Nat} (h : NdAt V n B2 b2 B3 b3 B4 b4 B5 b5) (hf : n.f2.length + n.f3.length + n.f4.length ≤ 1000000) (hb : Below V.heap.size V w) (ds : List D) (hd : n.f2 ++ n.f3 ++ n.f4 = ds) :
  Calls Tryd.prog 17 #[ndA n B2 b2 B3 b3 B4 b4 B5 b5] w fun e w' => ∃ A c, e = .returned (.slice A ds.length c) ∧ Kd.C k39 w' A ds.length ds ∧ Below w.heap.size w w' := by
 have hA : tree_All.f n.f0 n.f1 n.f2 n.f3 n.f4 n.f5 = some (n.f2 ++ n.f3 ++ n.f4) := by
  unfold tree_All.f
  rw [Option.bind_some, if_pos (by simp only [List.length_nil]; omega), Option.bind_some, if_pos (by simp only [List.length_append, List.length_nil]; omega), Option.bind_some, if_pos (by simp only [List.length_append, List.length_nil]; omega)]
  simp
 rw [hd] at hA
 refine (tree_All.calls _ _ _ _ _ _ _ _ _ _ _ _ _ _ _ w (Kd.C_below h.h2 hb) h.m2 (Kd.C_below h.h3 hb) h.m3 (Kd.C_below h.h4 hb) h.m4 (Kd.C_below h.h5 hb) h.m5 hA).mono ?_
 rintro e w' ⟨v, rfl, hR, hb⟩
 obtain ⟨A, c, rfl, _, hC⟩ := Kd.R_reads hR
 exact ⟨A, c, rfl, hC, hb⟩
theorem cut_f (s : ByteArray) : girandolelaw01_Cut.f s 1500 = some (if 1500 < s.size then s.extract 0 1500 else s) := by
 unfold girandolelaw01_Cut.f
 by_cases h : 1500 < s.size
 ·rw [if_pos (by omega), if_pos (by decide), if_pos (by omega), if_pos h]
  rfl
 ·rw [if_neg (by omega), if_neg h]
theorem cut_size (s : ByteArray) : (if 1500 < s.size then s.extract 0 1500 else s).size ≤ 1500 := by
 split
 ·rw [ByteArray.size_extract]
  omega
 ·omega
theorem awake_ok : girandolelaw03_awake.f = some true := by decide +kernel
abbrev ftO (a e : Int) : Obj := .cells #[.int .i64 a, .int .i64 e] 27 (0, 0)
set_option maxHeartbeats 4000000 in
set_option maxRecDepth 100000 in
theorem law_walk (s0 : ByteArray) (w : World) (hT : XPL.Tabs w) :
  Calls Tryd.prog 3 #[.string s0] w fun e w' => e = .returned (.bool true) ∧ Below w.heap.size w w' := by
 obtain ⟨s, hs⟩ : ∃ s, (if 1500 < s0.size then s0.extract 0 1500 else s0) = s := ⟨_, rfl⟩
 have hsz := cut_size s0
 have hcut := cut_f s0
 rw [hs] at hsz hcut
 have HC := Lib.hid (And.intro hcut hsz)
 have HT := Lib.hid hT
 have HO := Lib.hid ((Ow.start w).new (q := .cells #[.string s0] 9 (0, 0)))
 clear hs hsz hcut hT
 go_enter Tryd.func3, Tryd.ntmps3
 go_wp2_with (fail)
 refine (girandolelaw01_Cut.calls s0 1500 s _ HC.out.1).mono ?_
 rintro e w1 ⟨rfl, hd⟩
 obtain ⟨n1, rfl⟩ := hd
 have HO1 := Lib.hid (HO.out.drewN (n := n1))
 generalize hW1 : World.drewN _ n1 = W1 at HO1 ⊢
 have c0 := blk_cell HO1.out.l0 0
 have cf := fun j => blk_frozen HO1.out.l0 j
 have cl := blk_lt HO1.out.l0
 clear hW1 HO
 go_wp2_with (fail)
 have HO2 := Lib.hid (HO1.out.put (j := 0) (v := .string s) (fun y hy => by simp at hy))
 generalize hW2 : W1.setCell _ _ = W2 at HO2 ⊢
 clear hW2 c0 cf cl HO1
 refine (girandolelaw03_awake.calls true _ awake_ok (XPL.Tabs.below HT.out HO2.out.bel)).mono ?_
 rintro e w3 ⟨rfl, hb⟩
 have HO3 := Lib.hid (HO2.out.below hb)
 clear hb HO2
 have c0 : w3.cell? ⟨w.heap.size, 0, none⟩ = some (.string s) := blk_cell HO3.out.l0 0
 have cl := blk_lt HO3.out.l0
 go_wp2_with (fail)
 refine (Px.parseProgram_walk s _ (XPL.Tabs.below HT.out HO3.out.bel) (by have := HC.out.2; omega)).mono ?_
 rintro e w4 ⟨hb, hI⟩
 have HO4 := Lib.hid (HO3.out.below hb)
 clear c0 cl
 have hI2 : (∃ a er, er ≠ 0 ∧ e = .returned (.tuple #[.slice none 0 0, .agg #[.int .i64 a, .int .i64 er]])) ∨ ∃ l A cp, e = .returned (.tuple #[.slice A l.length cp, .agg #[.int .i64 0, .int .i64 0]]) ∧ Kd.C k34 w4 A l.length l ∧ (∀ n ∈ l, NodeStands s n ∧ n.f2.length + n.f3.length + n.f4.length ≤ 1000000) := by
  unfold Px.ProgIs at hI
  cases hx : LX.all s.data.toList with
  | error q =>
   obtain ⟨k, c⟩ := q
   rw [hx] at hI
   exact .inl ⟨_, _, by have := all_err hx; omega, hI⟩
  | ok toks =>
   rw [hx] at hI
   dsimp only at hI
   cases hr : PX.program (Px.rounds toks) (toks.map tk) with
   | out => rw [hr] at hI; exact hI.elim
   | bad q c =>
    rw [hr] at hI
    exact .inl ⟨_, _, by have := PX.Errs.program q c hr; omega, hI⟩
   | ok l s' =>
    rw [hr] at hI
    obtain ⟨v, he, hR⟩ := hI
    obtain ⟨A, cp, rfl, hl, hC⟩ := Kd.R_reads hR
    refine .inr ⟨l.map (Px.realN toks), A, cp, he, hC, fun n hn => ⟨node_stands hx hr n hn, ?_⟩⟩
    obtain ⟨m, hm, rfl⟩ := List.mem_map.1 hn
    have h1 := PX.szN_le hm
    have h2 := PX.program_size hr
    generalize (l.map PX.szN).sum = S at h1 h2
    have h3 := (all_ok hx).2
    rw [List.length_map] at h2
    unfold PX.szN at h1
    show (m.ins.map _).length + (m.outs.map _).length + (m.vars.map _).length ≤ _
    rw [List.length_map, List.length_map, List.length_map]
    omega
 clear hI hb
 rcases hI2 with ⟨a, er, her, rfl⟩ | ⟨l, A, cp, rfl, hC, hN⟩
 ·have HO5 := Lib.hid (HO4.out.new (q := ftO a er))
  have i0 : (er == 0) = false := beq_eq_false_iff_ne.2 her
  have i1 : (er = 0) = False := eq_false her
  clear her
  go_wp2_with (fail)
  go_ret
  exact ⟨rfl, HO5.out.bel⟩
 ·have HN := Lib.hid (And.intro hC hN)
  clear hC hN
  go_wp2_with (fail)
  have HV0 := Lib.hid (((HO4.out.newg (g := w4.heap.size) (q := ftO 0 0) rfl).newg (g := w4.heap.size + 1) (q := .cells #[.bool true] 4 (0, 0)) (by simp)).newg (g := w4.heap.size + 1 + 1) (q := .cells #[fv (w4.heap.size + 1) w.heap.size] 30 (0, 0)) (by simp))
  generalize hV : World.alloc _ _ = V at HV0 ⊢
  generalize hbf : w4.heap.size + 1 = bf at HV0 ⊢
  have hC4 : Kd.C k34 V A l.length l := by
   rw [← hV]
   exact Kd.C_below HN.out.1 (below_alloc (below_alloc (below_alloc (Below.refl _ _) _) _) _)
  have HB : Hid (Base V s bf w.heap.size (bf + 1)) := Lib.hid ⟨HV0.out.l1, blk_cell HV0.out.l3 0, blk_cell HV0.out.l0 0, by have := HC.out.2; omega⟩
  have HM := Lib.hid (And.intro hC4 HN.out.2)
  have HW := Lib.hid HV0.out.bel
  have HI : Hid (Below V.heap.size V V) := Lib.hid (Below.refl _ _)
  clear hV hbf hC4 HV0 HO4 HO3 HN
  go_loopg [33] (l.length + 1) (fun m9 u wr => ∃ i : Nat, u = .int .i64 (i : Int) ∧ i ≤ l.length ∧ m9 = l.length + 1 - i ∧ Hid (Below V.heap.size V wr))
  case atStart => exact ⟨0, rfl, by omega, by simp, HI⟩
  case round =>
   obtain ⟨i, rfl, hi, rfl, HI'⟩ := hrel
   obtain ⟨wo, rfl⟩ : ∃ wo, wo = wr := ⟨wr, rfl⟩
   clear HI
   have HI := HI'
   clear HI'
   rcases Nat.lt_or_ge i l.length with hlt | hge
   ·obtain ⟨n, hdk, hdd⟩ := drop_at hlt
    obtain ⟨ad2, C2, c2, C3, c3, C4, c4, C5, c5, hA2, y0, y1, y2, y3, y4, y5, hq⟩ := node_at HM.out.1 i n hdk
    have hst := HM.out.2 n (List.mem_of_getElem? hdk)
    have HQ := Lib.hid (And.intro hq hst)
    have hb := HI.out
    replace y0 := pw_cell_below hb y0
    replace y1 := pw_cell_below hb y1
    replace y2 := pw_cell_below hb y2
    replace y3 := pw_cell_below hb y3
    replace y4 := pw_cell_below hb y4
    replace y5 := pw_cell_below hb y5
    have xl := World.block_lt_of_cell? _ _ y0
    have xn : ¬ ((ad2.add (i * 6)).block = wo.heap.size) := Nat.ne_of_lt xl
    have i0 : ((i : Int) < (l.length : Int)) = True := eq_true (by omega)
    have i1 : decide ((i : Int) < (l.length : Int)) = true := decide_eq_true (by omega)
    have i2 : (0 ≤ (i : Int)) = True := eq_true (by omega)
    have hw9 : wrap64 ((i : Int) + 1) = ((i + 1 : Nat) : Int) := by have h9 := HM.out.1.2.1; unfold maxLen at h9; unfold wrap64; omega
    have hB := HB.out.below HI.out
    have c6 := hB.h6
    have l6 := World.block_lt_of_cell? _ _ c6
    have n6 : ¬ (bf + 1 = wo.heap.size) := Nat.ne_of_lt l6
    clear hdk hdd hq hst hb hB
    subst hA2
    go_wp2_with (fail)
    have HO := Lib.hid ((Ow.start wo).new (q := ndO n C2 c2 C3 c3 C4 c4 C5 c5))
    have HX := Lib.hid (HI.out.trans (HO.out.bel.mono HI.out.size))
    refine (stands_call (HB.out.below HX.out) HQ.out.2.1.name).mono ?_
    rintro e w5 ⟨rfl, rfl⟩
    generalize hX : wo.alloc _ = X at HO HX ⊢
    generalize hgx : wo.heap.size = gx at HO ⊢
    clear hX c6 l6 n6 y0 y1 y2 y3 y4 y5 xl xn
    obtain ⟨m0, m1, m2, m3, m4, m5, mf⟩ := blk6 HO.out.l0
    have ml := blk_lt HO.out.l0
    obtain ⟨ds, hds⟩ : ∃ ds, n.f2 ++ n.f3 ++ n.f4 = ds := ⟨_, rfl⟩
    have HDS := Lib.hid hds
    clear hds
    go_wp2_with (fail)
    refine (all2_walk HQ.out.1 HQ.out.2.2 HX.out ds HDS.out).mono ?_
    rintro e w6 ⟨Av, cv, rfl, hCv, hb⟩
    have HS := Lib.hid (HO.out.below hb)
    have HCV := Lib.hid hCv
    have HW6 : Hid (Below w6.heap.size w6 w6) := Lib.hid (Below.refl _ _)
    clear hCv hb m0 m1 m2 m3 m4 m5 mf ml HO
    go_wp2_with (fail)
    go_loopg [46] (ds.length + 1) (fun m9 u wr2 => ∃ j : Nat, u = .int .i64 (j : Int) ∧ j ≤ ds.length ∧ m9 = ds.length + 1 - j ∧ Hid (Ow wo wr2 [(gx, ndO n C2 c2 C3 c3 C4 c4 C5 c5)]) ∧ Hid (Below w6.heap.size w6 wr2))
    case atStart => exact ⟨0, rfl, by omega, by simp, HS, HW6⟩
    case round =>
     obtain ⟨j, rfl, hj, rfl, HS', HW'⟩ := hrel
     clear HS HW6
     have HS := HS'
     have HW6 := HW'
     clear HS' HW'
     rcases Nat.lt_or_ge j ds.length with hjl | hjg
     ·obtain ⟨d, hdk, hdd⟩ := drop_at hjl
      obtain ⟨ad3, hA3, y0, y1, y2, y3, y4, y5⟩ := dec_at HCV.out j d hdk
      have HZ := Lib.hid (HQ.out.2.1.decs d (by rw [HDS.out]; exact List.mem_of_getElem? hdk))
      have hb := HW6.out
      replace y0 := pw_cell_below hb y0
      replace y1 := pw_cell_below hb y1
      replace y2 := pw_cell_below hb y2
      replace y3 := pw_cell_below hb y3
      replace y4 := pw_cell_below hb y4
      replace y5 := pw_cell_below hb y5
      have xl := World.block_lt_of_cell? _ _ y0
      have xn : ¬ ((ad3.add (j * 6)).block = wr.heap.size) := Nat.ne_of_lt xl
      have j0 : ((j : Int) < (ds.length : Int)) = True := eq_true (by omega)
      have j1 : decide ((j : Int) < (ds.length : Int)) = true := decide_eq_true (by omega)
      have j2 : (0 ≤ (j : Int)) = True := eq_true (by omega)
      have hw8 : wrap64 ((j : Int) + 1) = ((j + 1 : Nat) : Int) := by have h9 := HCV.out.2.1; unfold maxLen at h9; unfold wrap64; omega
      have c6 := (HB.out.below (HI.out.trans (HS.out.bel.mono HI.out.size))).h6
      have l6 := World.block_lt_of_cell? _ _ c6
      have n6 : ¬ (bf + 1 = wr.heap.size) := Nat.ne_of_lt l6
      clear hb hdk hdd
      subst hA3
      go_wp2_with (fail)
      have HU := Lib.hid (HS.out.new (q := dcO d))
      have HW7 := Lib.hid (below_alloc HW6.out (dcO d))
      refine (stands_call (HB.out.below (HI.out.trans (HU.out.bel.mono HI.out.size))) HZ.out).mono ?_
      rintro e w5 ⟨rfl, rfl⟩
      have HS2 := Lib.hid HU.out.drop1
      go_wp2_with (fail)
      go_roundg (ds.length + 1 - (j + 1))
      case measure => exact ms9 hjl
      case rel => exact ⟨j + 1, (by first | rw [hw8] | rfl), hjl, rfl, HS2, HW7⟩
     ·have j0 : ((j : Int) < (ds.length : Int)) = False := eq_false (by omega)
      have j1 : decide ((j : Int) < (ds.length : Int)) = false := decide_eq_false (by omega)
      obtain ⟨m0, m1, m2, m3, m4, m5, mf⟩ := blk6 HS.out.l0
      have ml := blk_lt HS.out.l0
      go_wp2_with (fail)
      clear m0 m1 m2 m3 m4 m5 mf ml HW6 HCV
      go_loopg [60] (n.f5.length + 1) (fun m9 u wr2 => ∃ k : Nat, u = .int .i64 (k : Int) ∧ k ≤ n.f5.length ∧ m9 = n.f5.length + 1 - k ∧ Hid (Ow wo wr2 [(gx, ndO n C2 c2 C3 c3 C4 c4 C5 c5)]))
      case atStart => exact ⟨0, rfl, by omega, by simp, HS⟩
      case round =>
       obtain ⟨k, rfl, hk, rfl, HS'⟩ := hrel
       obtain ⟨wp, rfl⟩ : ∃ wp, wp = wr := ⟨wr, rfl⟩
       clear HS
       have HS := HS'
       clear HS'
       rcases Nat.lt_or_ge k n.f5.length with hkl | hkg
       ·obtain ⟨q, hqk, hqd⟩ := drop_at hkl
        obtain ⟨ad4, A0, c0, A7, c7, hA4, y0, y1, y2, y3, y4, y5, y6, y7, hq⟩ := eq_at HQ.out.1.h5 k q hqk
        have hmem := List.mem_of_getElem? hqk
        have HE := Lib.hid (And.intro hq (And.intro (HQ.out.2.1.left q hmem) (HQ.out.2.1.ex q hmem)))
        have hb := HI.out.trans (HS.out.bel.mono HI.out.size)
        replace y0 := pw_cell_below hb y0
        replace y1 := pw_cell_below hb y1
        replace y2 := pw_cell_below hb y2
        replace y3 := pw_cell_below hb y3
        replace y4 := pw_cell_below hb y4
        replace y5 := pw_cell_below hb y5
        replace y6 := pw_cell_below hb y6
        replace y7 := pw_cell_below hb y7
        have xl := World.block_lt_of_cell? _ _ y0
        have xn : ¬ ((ad4.add (k * 8)).block = wp.heap.size) := Nat.ne_of_lt xl
        have k0 : ((k : Int) < (n.f5.length : Int)) = True := eq_true (by omega)
        have k1 : decide ((k : Int) < (n.f5.length : Int)) = true := decide_eq_true (by omega)
        have k2 : (0 ≤ (k : Int)) = True := eq_true (by omega)
        have hw9' : wrap64 ((k : Int) + 1) = ((k + 1 : Nat) : Int) := by have h9 := HQ.out.1.h5.2.1; unfold maxLen at h9; unfold wrap64; omega
        clear hb hqk hqd hq hmem
        subst hA4
        go_wp2_with (fail)
        have HT := Lib.hid (HS.out.new (q := eqO q A0 c0 A7 c7))
        generalize hgq : wp.heap.size = gq at HT ⊢
        generalize hY : wp.alloc _ = Y at HT ⊢
        clear hY hgq y0 y1 y2 y3 y4 y5 y6 y7 xl xn
        go_loopg [67] (q.f0.length + 1) (fun m9 u wr2 => ∃ j : Nat, u = .int .i64 (j : Int) ∧ j ≤ q.f0.length ∧ m9 = q.f0.length + 1 - j ∧ Hid (Ow wo wr2 [(gq, eqO q A0 c0 A7 c7), (gx, ndO n C2 c2 C3 c3 C4 c4 (some ad4) c5)]))
        case atStart => exact ⟨0, rfl, by omega, by simp, HT⟩
        case round =>
         obtain ⟨j, rfl, hj, rfl, HT'⟩ := hrel
         clear HT
         have HT := HT'
         clear HT'
         have HY := Lib.hid (HI.out.trans (HT.out.bel.mono HI.out.size))
         rcases Nat.lt_or_ge j q.f0.length with hjl | hjg
         ·obtain ⟨x, hxk, hxd⟩ := drop_at hjl
          obtain ⟨ad5, hA5, l0, l1⟩ := left_at HE.out.1.left j x hxk
          have HZ := Lib.hid (HE.out.2.1 x (List.mem_of_getElem? hxk))
          subst hA5
          have hb := HY.out
          replace l0 := pw_cell_below hb l0
          replace l1 := pw_cell_below hb l1
          have ll := World.block_lt_of_cell? _ _ l0
          have ln : ¬ ((ad5.add (j * 2)).block = wr.heap.size) := Nat.ne_of_lt ll
          have j0 : ((j : Int) < (q.f0.length : Int)) = True := eq_true (by omega)
          have j1 : decide ((j : Int) < (q.f0.length : Int)) = true := decide_eq_true (by omega)
          have j2 : (0 ≤ (j : Int)) = True := eq_true (by omega)
          have hw8 : wrap64 ((j : Int) + 1) = ((j + 1 : Nat) : Int) := by have h9 := HE.out.1.left.2.1; unfold maxLen at h9; unfold wrap64; omega
          have c6 := (HB.out.below HY.out).h6
          have l6 := World.block_lt_of_cell? _ _ c6
          have n6 : ¬ (bf + 1 = wr.heap.size) := Nat.ne_of_lt l6
          clear hb hxk hxd
          go_wp2_with (fail)
          have HU := Lib.hid (HT.out.new (q := lfO x))
          refine (stands_call (HB.out.below (HI.out.trans (HU.out.bel.mono HI.out.size))) HZ.out).mono ?_
          rintro e w5 ⟨rfl, rfl⟩
          have HS2 := Lib.hid HU.out.drop1
          go_wp2_with (fail)
          go_roundg (q.f0.length + 1 - (j + 1))
          case measure => exact ms9 hjl
          case rel => exact ⟨j + 1, (by first | rw [hw8] | rfl), hjl, rfl, HS2⟩
         ·have j0 : ((j : Int) < (q.f0.length : Int)) = False := eq_false (by omega)
          have j1 : decide ((j : Int) < (q.f0.length : Int)) = false := decide_eq_false (by omega)
          obtain ⟨q0, q1, q2, q3, q4, q5, q6, q7, qf⟩ := Cl.blk8 HT.out.l0
          have ql := blk_lt HT.out.l0
          go_wp2_with (fail)
          refine (each_call HB.out HY.out HE.out.2.2 A7 c7 HE.out.1.ex).mono ?_
          rintro e w5 ⟨rfl, hb⟩
          have HS2 := Lib.hid (HT.out.below hb).drop1
          clear hb
          go_wp2_with (fail)
          go_roundg (n.f5.length + 1 - (k + 1))
          case measure => exact ms9 hkl
          case rel => exact ⟨k + 1, (by first | rw [hw9'] | rfl), hkl, rfl, HS2⟩
       ·have k0 : ((k : Int) < (n.f5.length : Int)) = False := eq_false (by omega)
        have k1 : decide ((k : Int) < (n.f5.length : Int)) = false := decide_eq_false (by omega)
        have HI2 := Lib.hid (HI.out.trans (HS.out.bel.mono HI.out.size))
        go_wp2_with (fail)
        go_roundg (l.length + 1 - (i + 1))
        case measure => exact ms9 hlt
        case rel => exact ⟨i + 1, (by first | rw [hw9] | rfl), hlt, rfl, HI2⟩
   ·have i0 : ((i : Int) < (l.length : Int)) = False := eq_false (by omega)
    have i1 : decide ((i : Int) < (l.length : Int)) = false := decide_eq_false (by omega)
    have cf := blk_cell (HB.out.below HI.out).hf 0
    go_wp2_with (fail)
    go_ret
    exact ⟨rfl, HW.out.trans (HI.out.mono HW.out.size)⟩
end Go.Proofs.YtjafllnbgfcchaaDoor.Pp
end
