/- The lexer's methods, walked. -/
import Derived.Test.YtjafllnbgfcchaaGreatDoorQAWMore
import Derived.Test.YtjafllnbgfcchaaGreatDoorProg
import Derived.Test.YtjafllnbgfcchaaGreatDoorQAShelf
import Derived.Test.YtjafllnbgfcchaaGreatDoorQALexPure
import Derived.WalkKit
import Derived.BigRegion
import Derived.BigQuiet
import Derived.WalkLawsBesides
import Derived.Lib.Hide
import Derived.Lib.IndexBytes
import Derived.Deep.DeepCutAuto
import Derived.Deep.RegionHeld3
import Derived.Deep.LoopGhost
namespace Go.Proofs.YtjafllnbgfcchaaGreatDoor.Lx
set_option linter.unusedVariables false
open Go Go.RowKit Go.Proofs.YtjafllnbgfcchaaGreatDoorW.PrintWords Go.Proofs.YtjafllnbgfcchaaGreatDoorW.PrintLast Go.Proofs.YtjafllnbgfcchaaGreatDoorW.PrintMore
structure LAt (w : World) (l : Nat) (s : ByteArray) (k : Nat) : Prop where
 struct : w.heap[l]? = some (.cells #[.string s, .int .i64 k] 98 (0, 0))
 le : k ≤ s.size
 small : s.size ≤ 4000
theorem LAt.c0 {w : World} {l k : Nat} {s : ByteArray} (h : LAt w l s k) : w.cell? ⟨l, 0, none⟩ = some (.string s) ∧ w.cell? ⟨l, 1, none⟩ = some (.int .i64 k) ∧ (∀ j, w.frozen? ⟨l, j, none⟩ = false) := by
 have h1 := h.struct
 refine ⟨?_, ?_, fun j => ?_⟩ <;> simp [World.cell?, World.frozen?, h1]
theorem LAt.drewN {w : World} {l k : Nat} {s : ByteArray} (h : LAt w l s k) (n : Nat) : LAt (w.drewN n) l s k := ⟨h.struct, h.le, h.small⟩
theorem LAt.put {w : World} {l k : Nat} {s : ByteArray} (h : LAt w l s k) (k' : Nat) {i : Int} (hi : i = k') (hk : k' ≤ s.size) : LAt (w.setCell ⟨l, 1, none⟩ (.int .i64 i)) l s k' := by
 subst hi
 exact ⟨blk_set h.struct 1 _, hk, h.small⟩
structure Only (l : Nat) (w w' : World) : Prop where
 os : w'.os = w.os
 tape : w'.tape = w.tape
 output : w'.output = w.output
 size : w.heap.size ≤ w'.heap.size
 keep : ∀ i, i < w.heap.size → i ≠ l → w'.heap[i]? = w.heap[i]?
theorem Only.refl (l : Nat) (w : World) : Only l w w := ⟨rfl, rfl, rfl, Nat.le_refl _, fun _ _ _ => rfl⟩
theorem Only.trans {l : Nat} {w w1 w2 : World} (h : Only l w w1) (k : Only l w1 w2) : Only l w w2 :=
 ⟨k.os.trans h.os, k.tape.trans h.tape, k.output.trans h.output, Nat.le_trans h.size k.size, fun i hi hn => (k.keep i (Nat.lt_of_lt_of_le hi h.size) hn).trans (h.keep i hi hn)⟩
theorem Only.drewN {l : Nat} {w w' : World} (h : Only l w w') (n : Nat) : Only l w (w'.drewN n) := ⟨h.os, h.tape, h.output, h.size, h.keep⟩
theorem Only.put {l : Nat} {w w' : World} (h : Only l w w') (j : Nat) (v : Value) : Only l w (w'.setCell ⟨l, j, none⟩ v) :=
 ⟨h.os, h.tape, h.output, by simpa [World.setCell] using h.size, fun i hi hn => (Below.heap_setCell _ _ _ i hn).trans (h.keep i hi hn)⟩
theorem Only.store {l g : Nat} {w w' : World} (h : Only l w w') (hg : w.heap.size ≤ g) (j : Nat) (v : Value) : Only l w (w'.setCell ⟨g, j, none⟩ v) :=
 ⟨h.os, h.tape, h.output, by simpa [World.setCell] using h.size, fun i hi hn => (Below.heap_setCell _ _ _ i (by show i ≠ g; omega)).trans (h.keep i hi hn)⟩
theorem Only.alloc {l : Nat} {w w' : World} (h : Only l w w') (o : Obj) : Only l w (w'.alloc o) :=
 ⟨h.os, h.tape, h.output, by have := h.size; simp; omega, fun i hi hn => (Below.heap_alloc _ _ _ (Nat.lt_of_lt_of_le hi h.size)).trans (h.keep i hi hn)⟩
theorem Only.of_below {l : Nat} {w w' : World} (h : Below w.heap.size w w') : Only l w w' := ⟨h.os, h.tape, h.output, h.size, fun i hi _ => h.block i hi⟩
theorem Only.below {l : Nat} {w w' w0 : World} {B : Nat} (h : Only l w w') (hb : Below B w0 w) (hl : B ≤ l) (hw : l < w.heap.size) : Below B w0 w' :=
 ⟨h.os.trans hb.os, h.tape.trans hb.tape, h.output.trans hb.output, Nat.le_trans hb.size h.size, fun i hi => (h.keep i (by omega) (by omega)).trans (hb.block i hi)⟩
theorem Only.blk {l g : Nat} {w w' : World} {o : Obj} (h : Only l w w') (hg : w.heap[g]? = some o) (hn : g ≠ l) : w'.heap[g]? = some o := (h.keep g (blk_lt hg) hn).trans hg
theorem LAt.lt {w : World} {l k : Nat} {s : ByteArray} (h : LAt w l s k) : l < w.heap.size := blk_lt h.struct
theorem LAt.below {w w' : World} {l k : Nat} {s : ByteArray} (h : LAt w l s k) (hb : Below w.heap.size w w') : LAt w' l s k := ⟨blk_below h.struct hb, h.le, h.small⟩
theorem LAt.alloc {w : World} {l k : Nat} {s : ByteArray} (h : LAt w l s k) (o : Obj) : LAt (w.alloc o) l s k := ⟨(Below.heap_alloc w o l h.lt).trans h.struct, h.le, h.small⟩
theorem LAt.store {w : World} {l k g : Nat} {s : ByteArray} (h : LAt w l s k) (hg : l ≠ g) (j : Nat) (v : Value) : LAt (w.setCell ⟨g, j, none⟩ v) l s k := ⟨blk_far h.struct hg _, h.le, h.small⟩

theorem letter_iff (c : UInt8) : LX.letter c = true ↔ (97 ≤ c.toNat ∧ c.toNat ≤ 122) ∨ (65 ≤ c.toNat ∧ c.toNat ≤ 90) ∨ c.toNat = 95 := by
 simp only [LX.letter, Bool.or_eq_true, Bool.and_eq_true, decide_eq_true_eq, UInt8.le_iff_toNat_le, beq_iff_eq, or_assoc]
 rw [← UInt8.toNat_inj]
 rfl
theorem digit_iff (c : UInt8) : LX.digit c = true ↔ (48 ≤ c.toNat ∧ c.toNat ≤ 57) := by
 simp only [LX.digit, Bool.and_eq_true, decide_eq_true_eq, UInt8.le_iff_toNat_le]
 rfl
set_option maxHeartbeats 4000000 in
theorem letter_walk (c : UInt8) (w : World) :
  Calls Tryz.prog 87 #[.int .u8 c.toNat] w fun e w' => e = .returned (.bool (LX.letter c)) ∧ w' = w := by
 go_enter Tryz.func87, Tryz.ntmps87
 go_wp2
 all_goals
  go_ret
  refine ⟨Eq.trans (b := Ending.returned (Value.bool _)) rfl (congrArg (fun b => Ending.returned (Value.bool b)) ?_), rfl⟩
  rw [Bool.eq_iff_iff, letter_iff]
  simp
  try omega
theorem digit_walk (c : UInt8) (w : World) :
  Calls Tryz.prog 89 #[.int .u8 c.toNat] w fun e w' => e = .returned (.bool (LX.digit c)) ∧ w' = w := by
 go_enter Tryz.func89, Tryz.ntmps89
 go_wp2
 all_goals
  go_ret
  refine ⟨Eq.trans (b := Ending.returned (Value.bool _)) rfl (congrArg (fun b => Ending.returned (Value.bool b)) ?_), rfl⟩
  rw [Bool.eq_iff_iff, digit_iff]
  simp
  try omega
theorem word_walk (c : UInt8) (w : World) :
  Calls Tryz.prog 136 #[.int .u8 c.toNat] w fun e w' => e = .returned (.bool (LX.word c)) ∧ w' = w := by
 go_enter Tryz.func136, Tryz.ntmps136
 go_wp2_with (first
  | (go_at_call 87; refine (letter_walk _ _).mono ?_; rintro e w' ⟨rfl, rfl⟩)
  | (go_at_call 89; refine (digit_walk _ _).mono ?_; rintro e w' ⟨rfl, rfl⟩))
 all_goals
  go_ret
  refine ⟨Eq.trans (b := Ending.returned (Value.bool _)) rfl (congrArg (fun b => Ending.returned (Value.bool b)) ?_), rfl⟩
  simp [LX.word, *]
theorem at_head (s : ByteArray) (k : Nat) (hk : k < s.size) : s.data.toList.drop k = s[k] :: s.data.toList.drop (k + 1) := by
 have : k < s.data.toList.length := by simpa using hk
 rw [List.drop_eq_getElem_cons this]
 rfl

set_option maxHeartbeats 4000000 in
theorem run_walk (f : Nat) (hf : ∀ args w, (callFunc f args).run Tryz.prog w = .ok (.enter f args) w) (p : UInt8 → Bool) (hp : ∀ (c : UInt8) w, Calls Tryz.prog f #[.int .u8 c.toNat] w fun e w' => e = .returned (.bool (p c)) ∧ w' = w) (l k : Nat) (s : ByteArray) (w : World) (h : LAt w l s k) :
  Calls Tryz.prog 135 #[.pointer (some ⟨l, 0, none⟩), .func (.func f) #[] #[]] w fun e w' => ∃ k', e = .returned (.string (s.extract k k')) ∧ LAt w' l s k' ∧ Only l w w' ∧ k ≤ k' ∧ (s.data.toList.drop k).takeWhile p = (s.data.toList.drop k).take (k' - k) := by
 have H := Lib.hid h
 obtain ⟨c0, c1, fz⟩ := h.c0
 clear h
 go_enter Tryz.func135, Tryz.ntmps135
 go_wp2_with fail
 go_loopg [] (s.size - k) (fun g wr => ∃ k', g = s.size - k' ∧ Hid (LAt wr l s k' ∧ Only l w wr ∧ k ≤ k' ∧ (s.data.toList.drop k).takeWhile p = (s.data.toList.drop k).take (k' - k) ++ (s.data.toList.drop k').takeWhile p))
 case atStart => exact ⟨k, rfl, Lib.hid ⟨H.out, Only.refl _ _, Nat.le_refl _, by simp⟩⟩
 case round =>
  obtain ⟨k', rfl, HR⟩ := hrel
  obtain ⟨c0, c1, fz⟩ := HR.out.1.c0
  have hle := HR.out.1.le
  have hsm := HR.out.1.small
  rcases Nat.lt_or_ge k' s.size with hlt | hge
  ·have hlt' : (k' : Int) < (s.size : Int) := by omega
   go_wp2_with fail
   go_quiet (first | ((with_reducible refine (hp (s[k']'hlt) _).mono ?_); rintro e w1 ⟨rfl, rfl⟩; exact ⟨rfl, _, rfl⟩))
   go_wp2_with fail
   ·have hpt : p s[k'] = true := by assumption
    go_roundg (s.size - (k' + 1))
    case measure => omega
    case rel =>
     refine ⟨k' + 1, rfl, Lib.hid ⟨LAt.put (by repeat (first | exact HR.out.1 | apply LAt.drewN)) (k' + 1) (by omega) (by omega), Only.put (by repeat (first | exact HR.out.2.1 | apply Only.drewN)) _ _, by have := HR.out.2.2.1; omega, ?_⟩⟩
     have h1 := HR.out.2.2.1
     rw [HR.out.2.2.2, at_head s k' hlt, List.takeWhile_cons, if_pos hpt, show k' + 1 - k = (k' - k) + 1 from by omega, List.take_add]
     have h2 : List.take 1 (List.drop (k' - k) (List.drop k s.data.toList)) = [s[k']] := by
      rw [List.drop_drop, show k + (k' - k) = k' from by omega, at_head s k' hlt]
      rfl
     rw [h2]
     simp
   ·have hpf : p s[k'] = false := by assumption
    have h1 : (k : Int) ≤ (k' : Int) := by have := HR.out.2.2.1; omega
    have h2 : (k' : Int) ≤ (s.size : Int) := by omega
    have h3 : k ≤ k' := by omega
    go_quiet (fail)
    go_wp2_with fail
    go_ret
    refine ⟨k', by rfl, by repeat (first | exact HR.out.1 | apply LAt.drewN), by repeat (first | exact HR.out.2.1 | apply Only.drewN), HR.out.2.2.1, ?_⟩
    rw [HR.out.2.2.2, at_head s k' hlt, List.takeWhile_cons, if_neg (by simp [hpf])]
    simp
  ·have hb : decide (k' < s.size) = false := by simp; omega
   have h1 : (k : Int) ≤ (k' : Int) := by have := HR.out.2.2.1; omega
   have h2 : (k' : Int) ≤ (s.size : Int) := by omega
   have h3 : k ≤ k' := by omega
   go_wp2_with fail
   go_quiet (fail)
   go_wp2_with fail
   go_quiet (fail)
   go_wp2_with fail
   go_ret
   refine ⟨k', by rfl, by repeat (first | exact HR.out.1 | apply LAt.drewN), by repeat (first | exact HR.out.2.1 | apply Only.drewN), HR.out.2.2.1, ?_⟩
   rw [HR.out.2.2.2, List.drop_eq_nil_of_le (i := k') (by simpa using hge)]
   simp
theorem run_word (l k : Nat) (s : ByteArray) (w : World) (h : LAt w l s k) :
  Calls Tryz.prog 135 #[.pointer (some ⟨l, 0, none⟩), .func (.func 136) #[] #[]] w fun e w' => ∃ k', e = .returned (.string (s.extract k k')) ∧ LAt w' l s k' ∧ Only l w w' ∧ k ≤ k' ∧ (s.data.toList.drop k).takeWhile LX.word = (s.data.toList.drop k).take (k' - k) :=
 run_walk 136 (enters_of Tryz.func136 (by kernel_rfl) rfl) LX.word word_walk l k s w h
theorem run_digit (l k : Nat) (s : ByteArray) (w : World) (h : LAt w l s k) :
  Calls Tryz.prog 135 #[.pointer (some ⟨l, 0, none⟩), .func (.func 89) #[] #[]] w fun e w' => ∃ k', e = .returned (.string (s.extract k k')) ∧ LAt w' l s k' ∧ Only l w w' ∧ k ≤ k' ∧ (s.data.toList.drop k).takeWhile LX.digit = (s.data.toList.drop k).take (k' - k) :=
 run_walk 89 (enters_of Tryz.func89 (by kernel_rfl) rfl) LX.digit digit_walk l k s w h
set_option maxHeartbeats 4000000 in
theorem blanks_walk (l k : Nat) (s : ByteArray) (w : World) (h : LAt w l s k) :
  Calls Tryz.prog 45 #[.pointer (some ⟨l, 0, none⟩)] w fun e w' => e = .returned (.tuple #[]) ∧ ∃ k', LAt w' l s k' ∧ Only l w w' ∧ k ≤ k' ∧ LX.skip false (s.data.toList.drop k) = s.data.toList.drop k' := by
 have H := Lib.hid h
 clear h
 go_enter Tryz.func45, Tryz.ntmps45
 go_wp2_with fail
 go_loopg [] (s.size - k) (fun g wr => ∃ k', g = s.size - k' ∧ Hid (LAt wr l s k' ∧ Only l w wr ∧ k ≤ k' ∧ LX.skip false (s.data.toList.drop k) = LX.skip false (s.data.toList.drop k')))
 case atStart => exact ⟨k, rfl, Lib.hid ⟨H.out, Only.refl _ _, Nat.le_refl _, rfl⟩⟩
 case round =>
  obtain ⟨k', rfl, HR⟩ := hrel
  obtain ⟨c0, c1, fz⟩ := HR.out.1.c0
  have hle := HR.out.1.le
  have hsm := HR.out.1.small
  rcases Nat.lt_or_ge k' s.size with hlt | hge
  ·have hb : decide ((k' : Int) < (s.size : Int)) = true := by simp; omega
   have hlt' : (k' : Int) < (s.size : Int) := by omega
   clear hb
   go_wp2_with fail
   go_quiet (fail)
   go_wp2_with fail
   go_quiet (first | (go_at_call 85; refine (Tryz.strings_IndexByte _ _ _).mono ?_; rintro e w1 ⟨rfl, rfl⟩; exact ⟨rfl, _, rfl⟩))
   go_wp2_with fail
   ·-- a blank
    go_roundg (s.size - (k' + 1))
    case measure => omega
    case rel =>
     have hbl := (LX.blank_index s[k']).1 (by assumption)
     refine ⟨k' + 1, rfl, Lib.hid ⟨(HR.out.1.drewN _).put (k' + 1) (by omega) (by omega), (HR.out.2.1.drewN _).put _ _, by have := HR.out.2.2.1; omega, ?_⟩⟩
     rw [HR.out.2.2.2, at_head s k' hlt, LX.skip_blank _ _ hbl]
   ·have hnb : ¬ (LX.blank s[k'] = true) := fun e => by have := (LX.blank_index s[k']).2 e; omega
    have HNB := Lib.hid hnb
    clear hnb
    have hle2 : (k' : Int) ≤ (s.size : Int) := by omega
    go_wp2_with fail
    go_quiet (first | (go_at_call 86; refine (Tryz.strings_HasPrefix _ _ _).mono ?_; rintro e w1 ⟨rfl, rfl⟩; exact ⟨rfl, _, rfl⟩))
    go_wp2_with fail
    ·have hpre : Lib.hasPrefix (s.extract k' s.size).data.toList [45, 45] = true := by assumption
     obtain ⟨n, hn⟩ : ∃ n, Lib.indexByte (s.extract k' s.size).data.toList 10 = n := ⟨_, rfl⟩
     have e := Lib.extract_to_end s k'
     have hskip : LX.skip false (s.data.toList.drop k') = if n < 0 then [] else LX.skip false ((s.data.toList.drop k').drop n.toNat) := by
      rw [← hn, e]
      exact LX.skip_remark _ (by rw [e] at hpre; exact hpre)
     have hbnd : n < (s.size : Int) - k' ∧ -1 ≤ n ∧ n ≠ 0 := by
      have h1 := LX.indexByte_lt (s.data.toList.drop k') 10
      rw [e] at hn
      rw [hn, List.length_drop, show s.data.toList.length = s.size from by simp] at h1
      refine ⟨by omega, h1.2, ?_⟩
      rintro rfl
      rw [e] at hpre
      rw [at_head s k' hlt] at hn hpre
      simp [Lib.hasPrefix, List.isPrefixOf] at hpre
      have h3 := hpre.1
      rw [← h3] at hn
      simp only [Lib.indexByte] at hn
      split at hn
      ·rename_i hx; revert hx; decide
      ·split at hn
       ·omega
       ·rename_i hx
        simp at hx
        omega
     have HSK := Lib.hid (And.intro hskip hbnd)
     clear hskip hbnd e hpre
     have hle2 : (k' : Int) ≤ (s.size : Int) := by omega
     have hn2 : Lib.indexByte (List.take (s.size - k') (List.drop k' s.data.toList)) 10 = n := by
      rw [List.take_of_length_le (by simp), ← Lib.extract_to_end]; exact hn
     clear hn
     have hnz : -1 ≤ n := HSK.out.2.2.1
     have hnx : n < (s.size : Int) - k' := HSK.out.2.1
     go_quiet (first | (go_at_call 85; refine (Tryz.strings_IndexByte _ _ _).mono ?_; rintro e w1 ⟨rfl, rfl⟩; exact ⟨rfl, _, rfl⟩))
     go_wp2_with fail
     ·have hneg : n < 0 := by assumption
      go_quiet (fail)
      go_wp2_with fail
      go_roundg 0
      case measure => omega
      case rel =>
       refine ⟨s.size, by omega, Lib.hid ⟨LAt.put (by repeat (first | exact HR.out.1 | apply LAt.drewN)) s.size (by omega) (by omega), Only.put (by repeat (first | exact HR.out.2.1 | apply Only.drewN)) _ _, by have := HR.out.2.2.1; omega, ?_⟩⟩
       rw [HR.out.2.2.2, HSK.out.1, if_pos hneg, List.drop_eq_nil_of_le (by simp)]
       rfl
     ·have hpos : 0 ≤ n := by assumption
      obtain ⟨m, rfl⟩ : ∃ m : Nat, n = m := ⟨n.toNat, by omega⟩
      go_roundg (s.size - (k' + m))
      case measure =>
       have := HSK.out.2.2.2
       omega
      case rel =>
       have h1 := HSK.out.2
       refine ⟨k' + m, rfl, Lib.hid ⟨LAt.put (by repeat (first | exact HR.out.1 | apply LAt.drewN)) (k' + m) (by omega) (by omega), Only.put (by repeat (first | exact HR.out.2.1 | apply Only.drewN)) _ _, by have := HR.out.2.2.1; omega, ?_⟩⟩
       rw [HR.out.2.2.2, HSK.out.1, if_neg (by omega), List.drop_drop]
       congr 2
    ·((try simp only [Exit.inBlock, Exit.then]); first | (refine bodyPost_ret (results_none rfl _ _ _) rfl ?_) | (refine bodyPost_end (results_none rfl _ _ _) rfl ?_))
     refine ⟨by rfl, k', by repeat (first | exact HR.out.1 | apply LAt.drewN), by repeat (first | exact HR.out.2.1 | apply Only.drewN), HR.out.2.2.1, ?_⟩
     rw [HR.out.2.2.2]
     refine LX.skip_other _ ?_ ?_
     ·intro c r hc
      rw [at_head s k' hlt] at hc
      obtain ⟨rfl, _⟩ := List.cons.inj hc
      exact Bool.eq_false_iff.2 HNB.out
     ·rw [← Lib.extract_to_end s k']
      assumption
  ·go_wp2_with fail
   go_quiet (fail)
   go_wp2_with fail
   ((try simp only [Exit.inBlock, Exit.then]); first | (refine bodyPost_ret (results_none rfl _ _ _) rfl ?_) | (refine bodyPost_end (results_none rfl _ _ _) rfl ?_))
   refine ⟨by rfl, k', by repeat (first | exact HR.out.1 | apply LAt.drewN), by repeat (first | exact HR.out.2.1 | apply Only.drewN), HR.out.2.2.1, ?_⟩
   rw [HR.out.2.2.2, List.drop_eq_nil_of_le (by simpa using hge)]
   rfl
end Go.Proofs.YtjafllnbgfcchaaGreatDoor.Lx
