/- The lexer's words and its tokens, walked. -/
import Derived.Test.YtjafllnbgfcchaaGreatDoorQALexRun
import Derived.Lib.LaidTab
import Derived.Laws.Rows
import Derived.Laws.ResultCell
namespace Go.Proofs.YtjafllnbgfcchaaGreatDoor.Lx
set_option linter.unusedVariables false
open Go Go.RowKit Go.Proofs.YtjafllnbgfcchaaGreatDoorW.PrintWords Go.Proofs.YtjafllnbgfcchaaGreatDoorW.PrintLast Go.Proofs.YtjafllnbgfcchaaGreatDoorW.PrintMore
def Tabs (w : World) : Prop := Lib.TabIs Tryz.prog w "strings.asciiSpace" .u8 Lib.asciiSpaceTab
theorem Tabs.below {w0 w : World} (h : Tabs w0) (hb : Below w0.heap.size w0 w) : Tabs w := by
 unfold Tabs Lib.TabIs World.var? at h ⊢
 rw [← h]
 cases hg : Tryz.prog.globalNamed "strings.asciiSpace" with
 | none => rfl
 | some g =>
  simp only [Option.bind_some]
  have hlt : g < w0.heap.size := by
   rw [hg] at h
   simp only [Option.bind_some] at h
   rcases Nat.lt_or_ge g w0.heap.size with h1 | h1
   ·exact h1
   ·rw [Array.getElem?_eq_none h1] at h
    cases h
  rw [hb.block g hlt]
theorem results_cell_row_tmp {P : Program} {fn : Func} {p u : Tmp} {ty : TypeId} (h : fn.results = #[.cell p ty, .tmp u]) (tmps : Array Value) (w : World) (g : Nat) (t : TypeId) (cs : Array Value) (fr : Nat × Nat) (d : TypeDesc)
  (hp : tmps.getD p undef = .pointer (some ⟨g, 0, none⟩)) (hg : w.heap[g]? = some (.cells cs t fr))
  (hu : P.underlying ty = some d) (hd : (match d with | .struct _ | .array _ _ => true | _ => false) = true) (hi : (P.info? ty).map (·.size) = some cs.size) :
  (results fn tmps).run P w = .ok (.tuple #[.agg cs, tmps.getD u undef]) w := by
 have hp' : tmps[p]?.getD undef = .pointer (some ⟨g, 0, none⟩) := by simpa using hp
 simp [results, h, hp', asAddr, run_loadVar_row w g t ty cs fr d hg hu hd hi]

def strs (l : List (List UInt8)) : List Value := l.map fun b => .string ⟨b.toArray⟩
theorem ascii_of {l : List UInt8} (h : l.all (fun b => b < 128) = true) (j : Nat) (b : UInt8) (hb : l[j]? = some b) : b.toNat < 128 := by
 have := List.all_eq_true.1 h b (List.mem_of_getElem? hb)
 simpa [UInt8.lt_iff_toNat_lt] using this

theorem words_walk (w : World) (h : Tabs w) :
  Calls Tryz.prog 164 #[] w fun e w' => e = .returned (.slice (some ⟨w.heap.size, 0, none⟩) 25 25) ∧ w' = w.alloc (.cells (strs LX.words).toArray 9) := by
 have H := Lib.hid h
 clear h
 go_enter Tryz.func164, Tryz.ntmps164
 go_wp2_with (first | (go_at_call 165; refine (Tryz.strings_Fields _ _ (by decide +kernel) (fun j b hb => ascii_of (by decide +kernel) j b hb) H.out).mono ?_; rintro e w' ⟨rfl, rfl⟩))
 go_ret
 exact ⟨by kernel_rfl, by kernel_rfl⟩
theorem signs_walk (w : World) (h : Tabs w) :
  Calls Tryz.prog 138 #[] w fun e w' => e = .returned (.slice (some ⟨w.heap.size, 0, none⟩) 16 16) ∧ w' = w.alloc (.cells (strs LX.signs).toArray 9) := by
 have H := Lib.hid h
 clear h
 go_enter Tryz.func138, Tryz.ntmps138
 go_wp2_with (first | (go_at_call 165; refine (Tryz.strings_Fields _ _ (by decide +kernel) (fun j b hb => ascii_of (by decide +kernel) j b hb) H.out).mono ?_; rintro e w' ⟨rfl, rfl⟩))
 go_ret
 exact ⟨by kernel_rfl, by kernel_rfl⟩

theorem strs_at (w0 : World) (l : List (List UInt8)) (n : Nat) (b : Nat) (w : World) (hb : w.heap[b]? = some (.cells (strs l).toArray n (0, 0))) (i : Nat) (hi : i < l.length) : w.cell? ⟨b, i, none⟩ = some (.string ⟨l[i].toArray⟩) := by
 simp [World.cell?, hb, strs, hi]
theorem toList_data (s : ByteArray) : s.toList = s.data.toList := by
 obtain ⟨⟨l⟩⟩ := s
 exact ByteArray.toList_mk l
set_option maxHeartbeats 4000000 in
theorem kept_walk (s : ByteArray) (w : World) (h : Tabs w) :
  Calls Tryz.prog 137 #[.string s] w fun e w' => e = .returned (.bool (LX.words.contains s.data.toList)) ∧ Below w.heap.size w w' := by
 have H := Lib.hid h
 clear h
 have hlen : LX.words.length = 25 := by decide +kernel
 go_enter Tryz.func137, Tryz.ntmps137
 go_wp2_with (first | (go_at_call 164; refine (words_walk _ H.out).mono ?_; rintro e w' ⟨rfl, rfl⟩))
 obtain ⟨W, hW⟩ : ∃ W, w.alloc (.cells (strs LX.words).toArray 9) = W := ⟨_, rfl⟩
 rw [hW]
 have HC : Hid (∀ i (hi : i < LX.words.length), W.cell? ⟨w.heap.size, i, none⟩ = some (.string ⟨LX.words[i].toArray⟩)) := by
  intro i hi
  rw [← hW]
  exact strs_at w _ 9 _ _ (heap_alloc_new w _) i hi
 have HB : Hid (Below w.heap.size w W) := by
  rw [← hW]
  exact below_alloc (Below.refl _ _) _
 clear hW
 go_loopw [4, 7] (fun u v wr => ∃ i : Nat, i ≤ 25 ∧ v = .int .i64 i ∧ wr = W ∧ Hid (∀ j (hj : j < LX.words.length), j < i → LX.words[j] ≠ s.data.toList)) (fun _ v _ => 25 - (intOf v).toNat)
 case atStart => exact ⟨0, by omega, rfl, rfl, Lib.hid (fun j _ hj => by omega)⟩
 case round =>
  obtain ⟨i, hi, rfl, rfl, HN⟩ := hrel
  rcases Nat.lt_or_ge i 25 with hlt | hge
  ·have hlt' : (i : Int) < 25 := by omega
   have hc := HC.out i (by omega)
   go_wp2_with fail
   ·have he : (LX.words[i] == s.toList) = true := by assumption
    go_ret
    refine ⟨Eq.trans (b := Ending.returned (Value.bool _)) rfl (congrArg (fun b => Ending.returned (Value.bool b)) ?_), HB.out⟩
    rw [toList_data] at he
    rw [← eq_of_beq he]
    symm
    rw [List.contains_iff_mem]
    exact List.getElem_mem _
   ·have he : (LX.words[i] == s.toList) = false := by assumption
    refine ⟨⟨i + 1, by omega, by simp, by first | trivial | rfl, Lib.hid (fun j hj hji => ?_)⟩, ?_⟩
    ·rcases Nat.lt_or_ge j i with h1 | h1
     ·exact HN.out j hj h1
     ·obtain rfl : j = i := by omega
      rw [toList_data] at he
      exact fun e => by simp at he; exact he e
    ·simp [intOf]
     omega
  ·obtain rfl : i = 25 := by omega
   go_wp2_with fail
   go_ret
   refine ⟨Eq.trans (b := Ending.returned (Value.bool _)) rfl (congrArg (fun b => Ending.returned (Value.bool b)) ?_), HB.out⟩
   symm
   rw [Bool.eq_false_iff]
   intro hc
   rw [List.contains_iff_mem] at hc
   obtain ⟨j, hj, e⟩ := List.mem_iff_getElem.1 hc
   exact HN.out j hj (by omega) e
def tokV (kind k : Nat) (t : List UInt8) (n : Nat) : Array Value := #[.int .i64 kind, .int .i64 k, .string ⟨t.toArray⟩, .int .u64 n]
def OneIs (l : Nat) (s : ByteArray) (k : Nat) (w : World) (e : Ending) (w' : World) : Prop := ∃ k', LAt w' l s k' ∧ Only l w w' ∧
 match LX.one (s.data.toList.drop k) with
 | .ok (kind, t, n) => e = .returned (.tuple #[.agg (tokV kind k t n), .int .i64 0]) ∧ k' = k + t.length
 | .error c => e = .returned (.tuple #[.agg (tokV 0 0 [] 0), .int .i64 c])
structure TAt (w : World) (g : Nat) (a b : Int) (t : ByteArray) (n : Int) : Prop where
 struct : w.heap[g]? = some (.cells #[.int .i64 a, .int .i64 b, .string t, .int .u64 n] 35 (0, 0))
theorem TAt.c {w : World} {g : Nat} {a b n : Int} {t : ByteArray} (h : TAt w g a b t n) : w.cell? ⟨g, 0, none⟩ = some (.int .i64 a) ∧ w.cell? ⟨g, 1, none⟩ = some (.int .i64 b) ∧ w.cell? ⟨g, 2, none⟩ = some (.string t) ∧ w.cell? ⟨g, 3, none⟩ = some (.int .u64 n) ∧ (∀ j, w.frozen? ⟨g, j, none⟩ = false) :=
 ⟨blk_cell h.struct 0, blk_cell h.struct 1, blk_cell h.struct 2, blk_cell h.struct 3, fun j => blk_frozen h.struct j⟩
theorem TAt.only {w w' : World} {g l : Nat} {a b n : Int} {t : ByteArray} (h : TAt w g a b t n) (k : Only l w w') (hn : g ≠ l) : TAt w' g a b t n := ⟨k.blk h.struct hn⟩
theorem TAt.below {w w' : World} {g : Nat} {a b n : Int} {t : ByteArray} (h : TAt w g a b t n) (k : Below w.heap.size w w') : TAt w' g a b t n := ⟨blk_below h.struct k⟩
theorem TAt.far {w : World} {g g' : Nat} {a b n : Int} {t : ByteArray} (h : TAt w g a b t n) (hn : g ≠ g') (j : Nat) (v : Value) : TAt (w.setCell ⟨g', j, none⟩ v) g a b t n := ⟨blk_far h.struct hn _⟩
theorem TAt.far' {w : World} {g g' : Nat} {a b n : Int} {t : ByteArray} {j : Nat} {v : Value} (hn : g ≠ g') (h : TAt w g a b t n) : TAt (w.setCell ⟨g', j, none⟩ v) g a b t n := h.far hn j v
theorem TAt.drewN {w : World} {g : Nat} {a b n : Int} {t : ByteArray} (h : TAt w g a b t n) (m : Nat) : TAt (w.drewN m) g a b t n := ⟨h.struct⟩
theorem TAt.kind {w : World} {g : Nat} {a b n : Int} {t : ByteArray} (h : TAt w g a b t n) (a' : Int) : TAt (w.setCell ⟨g, 0, none⟩ (.int .i64 a')) g a' b t n := ⟨blk_set h.struct 0 _⟩
theorem TAt.place {w : World} {g : Nat} {a b n : Int} {t : ByteArray} (h : TAt w g a b t n) (b' : Int) : TAt (w.setCell ⟨g, 1, none⟩ (.int .i64 b')) g a b' t n := ⟨blk_set h.struct 1 _⟩
theorem TAt.text {w : World} {g : Nat} {a b n : Int} {t : ByteArray} (h : TAt w g a b t n) (t' : ByteArray) : TAt (w.setCell ⟨g, 2, none⟩ (.string t')) g a b t' n := ⟨blk_set h.struct 2 _⟩
theorem TAt.num {w : World} {g : Nat} {a b n : Int} {t : ByteArray} (h : TAt w g a b t n) (n' : Int) : TAt (w.setCell ⟨g, 3, none⟩ (.int .u64 n')) g a b t n' := ⟨blk_set h.struct 3 _⟩

theorem extract_list (s : ByteArray) (a b : Nat) : (s.extract a b).data.toList = (s.data.toList.drop a).take (b - a) := by
 simp
theorem one_word (l : List UInt8) (c : UInt8) (r : List UInt8) (e : l = c :: r) (hc : LX.letter c = true) :
  LX.one l = if LX.words.contains (l.takeWhile LX.word) then .ok (3, l.takeWhile LX.word, 0) else if (l.takeWhile LX.word).length > 30 then .error 3 else .ok (1, l.takeWhile LX.word, 0) := by
 subst e
 simp only [LX.one, hc, if_true]
theorem LAt.store' {w : World} {l k g j : Nat} {v : Value} {s : ByteArray} (hg : l ≠ g) (h : LAt w l s k) : LAt (w.setCell ⟨g, j, none⟩ v) l s k := h.store hg j v
theorem Only.store' {l g j : Nat} {v : Value} {w w' : World} (hg : w.heap.size ≤ g) (h : Only l w w') : Only l w (w'.setCell ⟨g, j, none⟩ v) := h.store hg j v
theorem run_end {s t : ByteArray} {k k1 : Nat} (p : UInt8 → Bool) (ht : s.extract k k1 = t) (h1 : k ≤ k1) (h2 : k1 ≤ s.size) (hw : (s.data.toList.drop k).takeWhile p = (s.data.toList.drop k).take (k1 - k)) :
  (s.data.toList.drop k).takeWhile p = t.data.toList ∧ k1 = k + t.data.toList.length := by
 have e : t.data.toList = (s.data.toList.drop k).take (k1 - k) := by rw [← ht]; exact extract_list s k k1
 refine ⟨hw.trans e.symm, ?_⟩
 rw [e]
 simp
 omega
end Go.Proofs.YtjafllnbgfcchaaGreatDoor.Lx
