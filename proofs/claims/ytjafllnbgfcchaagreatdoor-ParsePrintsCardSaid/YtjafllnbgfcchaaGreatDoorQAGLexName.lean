/- Joined of: LexGo, LexName, LexNum, LexSign, LexNext, LexAllLaw, LexAll. -/
import Derived.Test.YtjafllnbgfcchaaGreatDoorQALexPure
import Derived.Test.YtjafllnbgfcchaaGreatDoorQALexWords
import Derived.Lib.LaidTab
import Derived.Laws.Rows
import Derived.Laws.ResultCell
import Derived.Laws.IdiomStrings
section
/- The plain lexer: its steps. No program in sight. -/
namespace Go.Proofs.YtjafllnbgfcchaaGreatDoor
namespace LX
theorem takeWhile_len (p : UInt8 → Bool) (l : B) : (l.takeWhile p).length ≤ l.length := by
 induction l with
 | nil => simp
 | cons a r ih => rw [List.takeWhile_cons]; split <;> simp <;> omega
theorem signs_pos : ∀ x ∈ signs, 1 ≤ x.length := by decide
theorem one_pos (l : B) (k : Nat) (t : B) (n : Nat) (h : one l = .ok (k, t, n)) : 1 ≤ t.length ∧ t.length ≤ l.length := by
 match l, h with
 | [], h => simp [one] at h
 | c :: r, h =>
  unfold one at h
  simp only at h
  by_cases hl : letter c = true
  ·have hw : word c = true := by simp [word, hl]
   have ht : (c :: r).takeWhile word = t := by
    rw [if_pos hl] at h
    split at h
    ·simp at h; exact h.2.1
    ·split at h
     ·cases h
     ·simp at h; exact h.2.1
   have h2 := takeWhile_len word (c :: r)
   rw [ht] at h2
   refine ⟨?_, h2⟩
   rw [← ht, List.takeWhile_cons, if_pos hw]
   simp
  ·rw [if_neg hl] at h
   by_cases hd : digit c = true
   ·rw [if_pos hd] at h
    have ht : (c :: r).takeWhile digit = t := by
     split at h
     ·cases h
     ·split at h
      ·cases h
      ·simp at h; exact h.2.1
    have h2 := takeWhile_len digit (c :: r)
    rw [ht] at h2
    refine ⟨?_, h2⟩
    rw [← ht, List.takeWhile_cons, if_pos hd]
    simp
   ·rw [if_neg hd] at h
    cases hf : signs.find? (fun s => s.isPrefixOf (c :: r)) with
    | none => rw [hf] at h; cases h
    | some x =>
     rw [hf] at h
     simp at h
     obtain ⟨_, rfl, _⟩ := h
     exact ⟨signs_pos x (List.mem_of_find?_eq_some hf), (List.isPrefixOf_iff_prefix.1 (by have := List.find?_some hf; exact this)).length_le⟩
theorem skip_len (b : Bool) (l : B) : (skip b l).length ≤ l.length := by
 induction l generalizing b with
 | nil => cases b <;> simp [skip]
 | cons c r ih =>
  cases b with
  | true => simp only [skip]; split <;> (refine Nat.le_trans (ih _) ?_; simp)
  | false =>
   simp only [skip]
   split
   ·refine Nat.le_trans (ih _) ?_; simp
   ·split
    ·split
     ·refine Nat.le_trans (ih _) ?_; simp
     ·simp
    ·simp
theorem go_fuel (total : Nat) : ∀ (n : Nat) (l : B) (a b : Nat), l.length ≤ n → n + 1 ≤ a → n + 1 ≤ b → go total a l = go total b l := by
 intro n
 induction n with
 | zero =>
  intro l a b hl ha hb
  obtain ⟨a, rfl⟩ : ∃ m, a = m + 1 := ⟨a - 1, by omega⟩
  obtain ⟨b, rfl⟩ : ∃ m, b = m + 1 := ⟨b - 1, by omega⟩
  have : l = [] := List.length_eq_zero_iff.1 (by omega)
  subst this
  simp [go, skip]
 | succ n ih =>
  intro l a b hl ha hb
  obtain ⟨a, rfl⟩ : ∃ m, a = m + 1 := ⟨a - 1, by omega⟩
  obtain ⟨b, rfl⟩ : ∃ m, b = m + 1 := ⟨b - 1, by omega⟩
  have hs := skip_len false l
  simp only [go]
  split
  ·rfl
  ·cases ho : one (skip false l) with
   | error e => rfl
   | ok p =>
    obtain ⟨kind, t, m⟩ := p
    have hp := one_pos _ _ _ _ ho
    have h2 : ((skip false l).drop t.length).length ≤ n := by rw [List.length_drop]; omega
    simp only
    rw [ih ((skip false l).drop t.length) a b h2 (by omega) (by omega)]
theorem skip_skip (b : Bool) (l : B) : skip false (skip b l) = skip b l := by
 induction l generalizing b with
 | nil => cases b <;> rfl
 | cons c r ih =>
  cases b with
  | true => simp only [skip]; split <;> exact ih _
  | false =>
   simp only [skip]
   by_cases hb : blank c = true
   ·rw [if_pos hb]; exact ih _
   ·rw [if_neg hb]
    cases r with
    | nil => simp [skip, hb]
    | cons d r' =>
     simp only
     by_cases h2 : (c == 45 && d == 45) = true
     ·rw [if_pos h2]; exact ih _
     ·rw [if_neg h2]; simp [skip, hb, h2]
end LX
end Go.Proofs.YtjafllnbgfcchaaGreatDoor
end
section
/- The lexer's names, walked. -/
namespace Go.Proofs.YtjafllnbgfcchaaGreatDoor.Lx
set_option linter.unusedVariables false
open Go Go.RowKit Go.Proofs.YtjafllnbgfcchaaGreatDoorW.PrintWords Go.Proofs.YtjafllnbgfcchaaGreatDoorW.PrintLast Go.Proofs.YtjafllnbgfcchaaGreatDoorW.PrintMore

set_option maxHeartbeats 4000000 in
theorem name_walk (l k : Nat) (s : ByteArray) (w0 w : World) (hT : Tabs w0) (hb : Below w0.heap.size w0 w) (hl : w0.heap.size ≤ l) (h : LAt w l s k) (hk : k < s.size) (hc : LX.letter s[k] = true) :
  Calls Tryz.prog 88 #[.pointer (some ⟨l, 0, none⟩)] w fun e w' => OneIs l s k w e w' := by
 have H := Lib.hid h
 obtain ⟨c0, c1, fz⟩ := h.c0
 have HT := Lib.hid hT
 have HB := Lib.hid hb
 have b1 := fun o => (h.alloc o).c0.2.1
 have hlt := h.lt
 clear h hT hb
 obtain ⟨Q, hQ⟩ : ∃ Q, OneIs l s k w = Q := ⟨_, rfl⟩
 rw [show (fun e w' => OneIs l s k w e w') = Q from hQ]
 have HQ := Lib.hid hQ
 clear hQ
 go_enter Tryz.func88, Tryz.ntmps88
 go_wp2_with (fail)
 refine (run_word l k s _ ((H.out.alloc _).alloc _)).mono ?_
 rintro e w1 ⟨k1, rfl, hL1, hO1, hk1, hw1⟩
 have hA1 : TAt w1 w.heap.size 0 0 ⟨#[]⟩ 0 := ⟨hO1.blk ((Below.heap_alloc _ _ _ (by simp)).trans (blk_new w _)) (by omega)⟩
 have hB1 : TAt w1 (w.heap.size + 1) 1 k ⟨#[]⟩ 0 := ⟨hO1.blk (heap_alloc2_new w _ _) (by omega)⟩
 have hO : Only l w w1 := (((Only.refl l w).alloc _).alloc _).trans hO1
 clear hO1
 have HH := Lib.hid (And.intro hL1 (And.intro hA1 (And.intro hO (And.intro hk1 hw1))))
 obtain ⟨a0, a1, a2, a3, af⟩ := hA1.c
 obtain ⟨d0, d1, d2, d3, df⟩ := hB1.c
 clear hL1 hO hk1 hw1 hA1
 have HB1 := Lib.hid hB1
 clear hB1
 go_wp2_with (fail)
 have hb2 : Below w0.heap.size w0 w1 := HH.out.2.2.1.below HB.out hl hlt
 have hgb : w0.heap.size ≤ w.heap.size + 1 := by omega
 refine (kept_walk _ _ (HT.out.below (hb2.setCell hgb _))).mono ?_
 rintro e w2 ⟨rfl, hb3⟩
 obtain ⟨t, ht⟩ : ∃ t, s.extract k k1 = t := ⟨_, rfl⟩
 rw [ht] at hb3 ⊢
 clear hb2 hgb a0 a1 a2 a3 af d0 d1 d2 d3 df
 have hA2 : TAt w2 w.heap.size 0 0 ⟨#[]⟩ 0 := (HH.out.2.1.far (by omega) _ _).below hb3
 have hB2 : TAt w2 (w.heap.size + 1) 1 k t 0 := (HB1.out.text t).below hb3
 have hL2 : LAt w2 l s k1 := (HH.out.1.store (by omega) _ _).below hb3
 have hO2 : Only l w w2 := (HH.out.2.2.1.store (by omega) _ _).trans (Only.of_below hb3)
 have HW := Lib.hid (And.intro ht HH.out.2.2.2)
 clear ht hb3 HH HB1
 obtain ⟨a0, a1, a2, a3, af⟩ := hA2.c
 obtain ⟨d0, d1, d2, d3, df⟩ := hB2.c
 have HH := Lib.hid (And.intro hL2 (And.intro hO2 (And.intro hA2 hB2)))
 clear hL2 hO2 hA2 hB2
 go_wp2_with (fail)
 ·have hin : t.data.toList ∈ LX.words := by assumption
  (try simp only [Exit.inBlock, Exit.then])
  refine bodyPost_ret (results_cell_row_tmp rfl _ _ w.heap.size 35 (tokV 3 k t.data.toList 0) (0, 0) _ rfl (TAt.struct (a := 3) (b := k) (t := t) (n := 0) (by repeat (first | exact HH.out.2.2.1 | apply TAt.num | apply TAt.text | apply TAt.place | apply TAt.kind | (apply TAt.far'; (show w.heap.size ≠ w.heap.size + 1); omega)))) Tryz.underlying35 rfl (by kernel_rfl)) rfl ?_
  rw [← HQ.out]
  obtain ⟨et, ek⟩ := run_end LX.word HW.out.1 HW.out.2.1 HH.out.1.le HW.out.2.2
  refine ⟨k1, by repeat (first | exact HH.out.1 | (apply LAt.store'; omega)), by repeat (first | exact HH.out.2.1 | (apply Only.store'; omega)), ?_⟩
  rw [one_word _ _ _ (at_head s k hk) hc, et, if_pos (by simpa using hin)]
  exact ⟨by rfl, ek⟩
 ·have hin : ¬ t.data.toList ∈ LX.words := by assumption
  have hbig : 30 < (t.size : Int) := by assumption
  (try simp only [Exit.inBlock, Exit.then])
  refine bodyPost_ret (results_cell_row_tmp rfl _ _ w.heap.size 35 (tokV 0 0 [] 0) (0, 0) _ rfl (TAt.struct (a := 0) (b := 0) (t := ⟨#[]⟩) (n := 0) (by repeat (first | exact HH.out.2.2.1 | apply TAt.num | apply TAt.text | apply TAt.place | apply TAt.kind))) Tryz.underlying35 rfl (by kernel_rfl)) rfl ?_
  rw [← HQ.out]
  obtain ⟨et, ek⟩ := run_end LX.word HW.out.1 HW.out.2.1 HH.out.1.le HW.out.2.2
  refine ⟨k1, by repeat (first | exact HH.out.1 | (apply LAt.store'; omega)), by repeat (first | exact HH.out.2.1 | (apply Only.store'; omega)), ?_⟩
  rw [one_word _ _ _ (at_head s k hk) hc, et, if_neg (by simpa using hin), if_pos (by simp; omega)]
  rfl
 ·have hin : ¬ t.data.toList ∈ LX.words := by assumption
  have hbig : (t.size : Int) ≤ 30 := by assumption
  (try simp only [Exit.inBlock, Exit.then])
  refine bodyPost_ret (results_cell_row_tmp rfl _ _ w.heap.size 35 (tokV 1 k t.data.toList 0) (0, 0) _ rfl (TAt.struct (a := 1) (b := k) (t := t) (n := 0) (by repeat (first | exact HH.out.2.2.1 | apply TAt.num | apply TAt.text | apply TAt.place | apply TAt.kind))) Tryz.underlying35 rfl (by kernel_rfl)) rfl ?_
  rw [← HQ.out]
  obtain ⟨et, ek⟩ := run_end LX.word HW.out.1 HW.out.2.1 HH.out.1.le HW.out.2.2
  refine ⟨k1, by repeat (first | exact HH.out.1 | (apply LAt.store'; omega)), by repeat (first | exact HH.out.2.1 | (apply Only.store'; omega)), ?_⟩
  rw [one_word _ _ _ (at_head s k hk) hc, et, if_neg (by simpa using hin), if_neg (by simp; omega)]
  exact ⟨by rfl, ek⟩
end Go.Proofs.YtjafllnbgfcchaaGreatDoor.Lx
end
section
/- The lexer's numbers, walked. -/
namespace Go.Proofs.YtjafllnbgfcchaaGreatDoor.Lx
set_option linter.unusedVariables false
open Go Go.RowKit Go.Proofs.YtjafllnbgfcchaaGreatDoorW.PrintWords Go.Proofs.YtjafllnbgfcchaaGreatDoorW.PrintLast Go.Proofs.YtjafllnbgfcchaaGreatDoorW.PrintMore

theorem one_digit (l : List UInt8) (c : UInt8) (r : List UInt8) (e : l = c :: r) (hc : LX.letter c = false) (hd : LX.digit c = true) :
  LX.one l = if c == 48 && (l.takeWhile LX.digit).length > 1 then .error 1 else match LX.numGo 0 (l.takeWhile LX.digit) with | none => .error 3 | some n => .ok (2, l.takeWhile LX.digit, n) := by
 subst e
 simp only [LX.one, hc, hd, Bool.false_eq_true, if_false, if_true]
 split
 ·rfl
 ·cases LX.numGo 0 ((c :: r).takeWhile LX.digit) <;> rfl
structure NumAt (w wr : World) (l k k1 bb : Nat) (s t : ByteArray) (N : Nat) : Prop where
 lat : LAt wr l s k1
 only : Only l w wr
 zero : TAt wr w.heap.size 0 0 ⟨#[]⟩ 0
 tok : TAt wr (w.heap.size + 1) 2 k t N
 bytes : ∀ j (hj : j < t.size), wr.cell? ⟨bb, j, none⟩ = some (.int .u8 (t[j]'hj).toNat)
 far : w.heap.size + 1 < bb
 small : N ≤ 9223372036854775808
theorem NumAt.next {w wr : World} {l k k1 bb : Nat} {s t : ByteArray} {N : Nat} (h : NumAt w wr l k k1 bb s t N) (hl : l < w.heap.size) (M : Nat) (hM : M ≤ 9223372036854775808) (i : Int) (hi : i = (M : Int)) :
  NumAt w (wr.setCell ⟨w.heap.size + 1, 3, none⟩ (.int .u64 i)) l k k1 bb s t M := by
 subst hi
 have hf := h.far
 have hne : bb ≠ w.heap.size + 1 := by omega
 refine ⟨h.lat.store (by omega) _ _, h.only.store (by omega) _ _, h.zero.far (by omega) _ _, h.tok.num _, fun j hj => ?_, hf, hM⟩
 exact (World.cell?_of_block (w := wr) (Below.heap_setCell wr ⟨w.heap.size + 1, 3, none⟩ _ bb hne)).trans (h.bytes j hj)
theorem num_bound (N e : Nat) (h : (N : Int) ≤ (9223372036854775808 - (e : Int)) / 10) (he : e ≤ 9) : 10 * N + e ≤ 9223372036854775808 := by
 omega
theorem num_neg (N e : Nat) (h : (N : Int) ≤ (9223372036854775808 - (e : Int)) / 10) (he : e ≤ 9) : ¬ ((9223372036854775808 - e) / 10 < N) := by
 omega
theorem num_pos (N e : Nat) (h : (9223372036854775808 - (e : Int)) / 10 < (N : Int)) (he : e ≤ 9) : (9223372036854775808 - e) / 10 < N := by
 omega
theorem num_cast (N e : Nat) : (10 * (N : Int) + (e : Int)) = ((10 * N + e : Nat) : Int) := by
 push_cast
 rfl
theorem num_cast1 (i : Nat) : (i : Int) + 1 = ((i + 1 : Nat) : Int) := by
 push_cast
 rfl
theorem num_wrap (i n : Nat) (h : i < n) (hn : n ≤ 4000) : wrap64 ((i : Int) + 1) = ((i + 1 : Nat) : Int) := by
 unfold wrap64
 omega
theorem num_meas (n i : Nat) (h : i < n) : n - (intOf (Value.int .i64 ((i : Int) + 1))).toNat < n - (intOf (Value.int .i64 (i : Int))).toNat := by
 simp only [intOf]
 omega
theorem num_step (t : ByteArray) (i N e : Nat) (hi : i < t.size) (he : (t[i]'hi).toNat = e + 48) :
  LX.numGo N (t.data.toList.drop i) = if (9223372036854775808 - e) / 10 < N then none else LX.numGo (10 * N + e) (t.data.toList.drop (i + 1)) := by
 rw [at_head t i hi]
 simp only [LX.numGo]
 rw [show (t[i]'hi).toNat - 48 = e from by omega]
theorem byte_in (s : ByteArray) (k : Nat) (hk : k < s.size) : s.data.toList[k]? = some s[k] := by
 have h' : k < s.data.toList.length := by simpa using hk
 rw [List.getElem?_eq_getElem h']
 simp
 rfl
set_option maxHeartbeats 4000000 in
set_option maxRecDepth 100000 in
theorem number_walk (l k : Nat) (s : ByteArray) (w0 w : World) (hT : Tabs w0) (hb : Below w0.heap.size w0 w) (hl : w0.heap.size ≤ l) (h : LAt w l s k) (hk : k < s.size) (hc : LX.letter s[k] = false) (hd : LX.digit s[k] = true) :
  Calls Tryz.prog 90 #[.pointer (some ⟨l, 0, none⟩)] w fun e w' => OneIs l s k w e w' := by
 have H := Lib.hid h
 obtain ⟨c0, c1, fz⟩ := h.c0
 have HT := Lib.hid hT
 have HB := Lib.hid hb
 have b1 := fun o => (h.alloc o).c0.2.1
 have hlt := h.lt
 have HK := Lib.hid (And.intro hc hd)
 clear h hT hb hc hd
 obtain ⟨Q, hQ⟩ : ∃ Q, OneIs l s k w = Q := ⟨_, rfl⟩
 rw [show (fun e w' => OneIs l s k w e w') = Q from hQ]
 have HQ := Lib.hid hQ
 clear hQ
 go_enter Tryz.func90, Tryz.ntmps90
 go_wp2_with (fail)
 refine (run_digit l k s _ ((H.out.alloc _).alloc _)).mono ?_
 rintro e w1 ⟨k1, rfl, hL1, hO1, hk1, hw1⟩
 have hA1 : TAt w1 w.heap.size 0 0 ⟨#[]⟩ 0 := ⟨hO1.blk ((Below.heap_alloc _ _ _ (by simp)).trans (blk_new w _)) (by omega)⟩
 have hB1 : TAt w1 (w.heap.size + 1) 2 k ⟨#[]⟩ 0 := ⟨hO1.blk (heap_alloc2_new w _ _) (by omega)⟩
 have hO : Only l w w1 := (((Only.refl l w).alloc _).alloc _).trans hO1
 clear hO1
 obtain ⟨t, ht⟩ : ∃ t, s.extract k k1 = t := ⟨_, rfl⟩
 rw [ht]
 obtain ⟨et, ek⟩ := run_end LX.digit ht hk1 hL1.le hw1
 have htk : t.data.toList = s[k] :: (s.data.toList.drop (k + 1)).takeWhile LX.digit := by
  rw [← et, at_head s k hk, List.takeWhile_cons, if_pos HK.out.2]
 have hsz : 0 < t.size := by
  have : t.size = t.data.toList.length := by simp
  rw [this, htk]
  simp
 have ht0 : t[0] = s[k] := by
  have h1 : t.data.toList[0]? = some t[0] := by
   rw [List.getElem?_eq_getElem (by simpa using hsz)]
   rfl
  rw [htk] at h1
  simpa using h1.symm
 have hds : ∀ c ∈ t.data.toList, LX.digit c = true := by
  rw [← et]
  intro c hc
  have : ∀ (l : List UInt8), c ∈ l.takeWhile LX.digit → LX.digit c = true := by
   intro l
   induction l with
   | nil => simp
   | cons a r ih =>
    rw [List.takeWhile_cons]
    split
    ·intro h
     rcases List.mem_cons.1 h with rfl | h
     ·assumption
     ·exact ih h
    ·simp
  exact this _ hc
 have HH := Lib.hid (And.intro hL1 (And.intro hA1 (And.intro hO hB1)))
 have HW := Lib.hid (And.intro et (And.intro ek hds))
 obtain ⟨a0, a1, a2, a3, af⟩ := hA1.c
 obtain ⟨d0, d1, d2, d3, df⟩ := hB1.c
 clear hL1 hO hw1 hA1 hB1 et ek hds htk
 have HT0 := Lib.hid ht0
 clear ht0
 have hsz' : (0 : Int) < (t.size : Int) := by omega
 clear ht
 obtain ⟨c, hc⟩ : ∃ c : Nat, t[0].toNat = c := ⟨_, rfl⟩
 have hcv := fun W => run_bytes_of_string (P := Tryz.prog) W 9 74 5 t Tryz.underlying9 Tryz.underlying74 Tryz.underlying5
 obtain ⟨CP, hCP⟩ : ∃ CP : World → Nat, ∀ W, grownCap W t.size 0 5 = CP W := ⟨_, fun _ => rfl⟩
 simp only [hCP] at hcv
 clear hCP
 have hguard : ((c : Int) = 48 ∧ 1 < (t.size : Int)) ∨ ((c : Int) = 48 ∧ ¬ 1 < (t.size : Int)) ∨ ¬ ((c : Int) = 48) := by omega
 go_wp2_with (fail)
 ·have h48 : (c : Int) = 48 := by assumption
  have h1 : 1 < (t.size : Int) := by assumption
  (try simp only [Exit.inBlock, Exit.then])
  refine bodyPost_ret (results_cell_row_tmp rfl _ _ w.heap.size 35 (tokV 0 0 [] 0) (0, 0) _ rfl (TAt.struct (a := 0) (b := 0) (t := ⟨#[]⟩) (n := 0) (by repeat (first | exact HH.out.2.1 | apply TAt.num | apply TAt.text | apply TAt.place | apply TAt.kind | (apply TAt.far'; (show w.heap.size ≠ w.heap.size + 1); omega)))) Tryz.underlying35 rfl (by kernel_rfl)) rfl ?_
  rw [← HQ.out]
  refine ⟨k1, by repeat (first | exact HH.out.1 | (apply LAt.store'; omega)), by repeat (first | exact HH.out.2.2.1 | (apply Only.store'; omega)), ?_⟩
  rw [one_digit _ _ _ (at_head s k hk) HK.out.1 HK.out.2, HW.out.1]
  have hc48 : s[k] = 48 := by
   rw [← HT0.out, ← UInt8.toNat_inj, hc]
   have h5 : UInt8.toNat 48 = 48 := rfl
   omega
  rw [if_pos (by rw [hc48]; simp; omega)]
  rfl
 all_goals
  have hno : ¬ ((s[k] == 48 && decide (t.data.toList.length > 1)) = true) := by
   intro h
   simp at h
   have h2 : c = 48 := by rw [← hc, HT0.out, h.1]; rfl
   omega
  have HNO := Lib.hid hno
  clear hno
  generalize hW : World.drew (World.alloc _ _) = W
  have hN : NumAt w W l k k1 w1.heap.size s t 0 := by
   have hsz2 : (w1.setCell ⟨w.heap.size + 1, 2, none⟩ (.string t)).heap.size = w1.heap.size := by simp [World.setCell]
   have hgt : w.heap.size + 1 < w1.heap.size := blk_lt HH.out.2.2.2.struct
   have hlw := HH.out.1.lt
   have hLs := HH.out.1.store (show l ≠ w.heap.size + 1 by omega) 2 (.string t)
   have hOs := HH.out.2.2.1.store (show w.heap.size ≤ w.heap.size + 1 by omega) 2 (.string t)
   have hAs := HH.out.2.1.far (show w.heap.size ≠ w.heap.size + 1 by omega) 2 (.string t)
   have hBs := HH.out.2.2.2.text t
   generalize w1.setCell ⟨w.heap.size + 1, 2, none⟩ (.string t) = V at hW hLs hOs hAs hBs hsz2
   rw [← hW]
   refine ⟨(hLs.alloc _).drewN 1, (hOs.alloc _).drewN 1, (hAs.below (below_alloc (Below.refl _ _) _)).drewN 1, (hBs.below (below_alloc (Below.refl _ _) _)).drewN 1, ?_, hgt, by omega⟩
   intro j hj
   have h1 := blk_new V (.cells (bytesRow t (CP V)) 5 ((bytesRow t (CP V)).size, (bytesRow t (CP V)).size + 1))
   rw [hsz2] at h1
   have h2 := byte_in t j hj
   have h3 : (bytesRow t (CP V))[j]? = some (.int .u8 (t[j]'hj).toNat) := by
    unfold bytesRow
    rw [Array.getElem?_append_left (by simpa using hj), Array.getElem?_map, ← Array.getElem?_toList, h2]
    rfl
   show (match (World.drew (V.alloc _)).heap[w1.heap.size]? with | some (.cells cs _ _) => cs[j]? | _ => none) = _
   rw [show (World.drew (V.alloc (.cells (bytesRow t (CP V)) 5 ((bytesRow t (CP V)).size, (bytesRow t (CP V)).size + 1)))).heap[w1.heap.size]? = _ from h1]
   exact h3
  clear hW a0 a1 a2 a3 af d0 d1 d2 d3 df
  go_loopw [6, 7, 31] (fun _ _ v wr => ∃ i N : Nat, i ≤ t.size ∧ v = .int .i64 i ∧ Hid (NumAt w wr l k k1 w1.heap.size s t N) ∧ Hid (LX.numGo 0 t.data.toList = LX.numGo N (t.data.toList.drop i))) (fun _ _ v _ => t.size - (intOf v).toNat)
  case atStart => exact ⟨0, 0, by omega, rfl, Lib.hid hN, Lib.hid (by simp)⟩
  case round =>
   obtain ⟨i, N, hi, rfl, HG, HE⟩ := hrel
   obtain ⟨d0, d1, d2, d3, df⟩ := HG.out.tok.c
   obtain ⟨a0, a1, a2, a3, af⟩ := HG.out.zero.c
   have hNs := HG.out.small
   rcases Nat.lt_or_ge i t.size with hlt2 | hge
   ·have hlt' : (i : Int) < (t.size : Int) := by omega
    have hb := HG.out.bytes i hlt2
    have hd := HW.out.2.2 (t[i]'hlt2) (List.mem_of_getElem? (byte_in t i hlt2))
    rw [digit_iff] at hd
    obtain ⟨e, he⟩ : ∃ e, (t[i]'hlt2).toNat = e + 48 := ⟨(t[i]'hlt2).toNat - 48, by omega⟩
    have he9 : e ≤ 9 := by omega
    have hb2 : wr.cell? ⟨w1.heap.size, i, none⟩ = some (.int .u8 ((e : Int) + 48)) := by rw [hb, he]; rfl
    have HEq := Lib.hid he
    clear hb hd he
    have HTL : Hid (t.size ≤ 4000) := by
     have h5 := HW.out.2.1
     have h6 := HG.out.lat.le
     have h7 := HG.out.lat.small
     have h8 : t.data.toList.length = t.size := by simp
     exact Lib.hid (by omega)
    go_wp2_with fail
    ·have hov : (9223372036854775808 - (e : Int)) / 10 < (N : Int) := by assumption
     (try simp only [Exit.inBlock, Exit.then])
     refine bodyPost_ret (results_cell_row_tmp rfl _ _ w.heap.size 35 (tokV 0 0 [] 0) (0, 0) _ rfl (TAt.struct (a := 0) (b := 0) (t := ⟨#[]⟩) (n := 0) (by repeat (first | exact HG.out.zero | apply TAt.num | apply TAt.text | apply TAt.place | apply TAt.kind | (apply TAt.far'; (show w.heap.size ≠ w.heap.size + 1); omega)))) Tryz.underlying35 rfl (by kernel_rfl)) rfl ?_
     rw [← HQ.out]
     refine ⟨k1, by repeat (first | exact HG.out.lat | (apply LAt.store'; omega)), by repeat (first | exact HG.out.only | (apply Only.store'; omega)), ?_⟩
     rw [one_digit _ _ _ (at_head s k hk) HK.out.1 HK.out.2, HW.out.1]
     rw [if_neg HNO.out, HE.out, num_step t i N e hlt2 HEq.out, if_pos (num_pos N e hov he9)]
     rfl
    ·have hov : (N : Int) ≤ (9223372036854775808 - (e : Int)) / 10 := by assumption
     refine ⟨⟨i + 1, 10 * N + e, hlt2, ?_, Lib.hid ?_, Lib.hid ?_⟩, ?_⟩
     ·first
       | exact congrArg (Value.int .i64) (num_cast1 i)
       | exact congrArg (Value.int .i64) (num_wrap i t.size hlt2 HTL.out)
     ·exact NumAt.next HG.out hlt (10 * N + e) (num_bound N e hov he9) (10 * (N : Int) + (e : Int)) (num_cast N e)
     ·rw [HE.out, num_step t i N e hlt2 HEq.out, if_neg (num_neg N e hov he9)]
     ·first
       | exact num_meas t.size i hlt2
       | (rw [num_wrap i t.size hlt2 HTL.out, ← num_cast1]; exact num_meas t.size i hlt2)
   ·obtain rfl : i = t.size := by omega
    go_wp2_with fail
    (try simp only [Exit.inBlock, Exit.then])
    refine bodyPost_ret (results_cell_row_tmp rfl _ _ w.heap.size 35 (tokV 2 k t.data.toList N) (0, 0) _ rfl (TAt.struct (a := 2) (b := k) (t := t) (n := N) (by repeat (first | exact HG.out.zero | apply TAt.num | apply TAt.text | apply TAt.place | apply TAt.kind | (apply TAt.far'; (show w.heap.size ≠ w.heap.size + 1); omega)))) Tryz.underlying35 rfl (by kernel_rfl)) rfl ?_
    rw [← HQ.out]
    refine ⟨k1, by repeat (first | exact HG.out.lat | (apply LAt.store'; omega)), by repeat (first | exact HG.out.only | (apply Only.store'; omega)), ?_⟩
    rw [one_digit _ _ _ (at_head s k hk) HK.out.1 HK.out.2, HW.out.1]
    rw [if_neg HNO.out, HE.out, List.drop_eq_nil_of_le (by simp)]
    exact ⟨by rfl, HW.out.2.1⟩
end Go.Proofs.YtjafllnbgfcchaaGreatDoor.Lx
end
section
/- The lexer's signs, walked. -/
namespace Go.Proofs.YtjafllnbgfcchaaGreatDoor.Lx
set_option linter.unusedVariables false
open Go Go.RowKit Go.Proofs.YtjafllnbgfcchaaGreatDoorW.PrintWords Go.Proofs.YtjafllnbgfcchaaGreatDoorW.PrintLast Go.Proofs.YtjafllnbgfcchaaGreatDoorW.PrintMore

theorem one_sign (l : List UInt8) (c : UInt8) (r : List UInt8) (e : l = c :: r) (hc : LX.letter c = false) (hd : LX.digit c = false) :
  LX.one l = match LX.signs.find? (fun s => s.isPrefixOf l) with | some s => .ok (4, s, 0) | none => .error 1 := by
 subst e
 cases hf : LX.signs.find? (fun s => s.isPrefixOf (c :: r)) <;> simp [LX.one, hc, hd, hf]
set_option maxHeartbeats 4000000 in
theorem sign_walk (l k : Nat) (s : ByteArray) (w0 w : World) (hT : Tabs w0) (hb : Below w0.heap.size w0 w) (hl : w0.heap.size ≤ l) (h : LAt w l s k) (hk : k < s.size) (hc : LX.letter s[k] = false) (hd : LX.digit s[k] = false) :
  Calls Tryz.prog 91 #[.pointer (some ⟨l, 0, none⟩)] w fun e w' => OneIs l s k w e w' := by
 have H := Lib.hid h
 have HT := Lib.hid hT
 have HB := Lib.hid hb
 have hlt := h.lt
 have hlen : LX.signs.length = 16 := by decide +kernel
 have HK := Lib.hid (And.intro hc hd)
 clear h hT hb hc hd
 obtain ⟨Q, hQ⟩ : ∃ Q, OneIs l s k w = Q := ⟨_, rfl⟩
 rw [show (fun e w' => OneIs l s k w e w') = Q from hQ]
 have HQ := Lib.hid hQ
 clear hQ
 go_enter Tryz.func91, Tryz.ntmps91
 go_wp2_with (fail)
 have hgb : w0.heap.size ≤ w.heap.size := HB.out.size
 refine (signs_walk _ (HT.out.below (HB.out.alloc hgb _))).mono ?_
 rintro e w1 ⟨rfl, rfl⟩
 obtain ⟨W, hW⟩ : ∃ W, (w.alloc (.cells #[.int .i64 0, .int .i64 0, .string ⟨#[]⟩, .int .u64 0] 35)).alloc (.cells (strs LX.signs).toArray 9) = W := ⟨_, rfl⟩
 have hz : (w.alloc (.cells #[.int .i64 0, .int .i64 0, .string ⟨#[]⟩, .int .u64 0] 35)).heap.size = w.heap.size + 1 := by simp
 rw [hW, hz]
 have HC : Hid (∀ i (hi : i < LX.signs.length), W.cell? ⟨w.heap.size + 1, i, none⟩ = some (.string ⟨LX.signs[i].toArray⟩)) := by
  intro i hi
  rw [← hW, ← hz]
  exact strs_at w _ 9 _ _ (heap_alloc_new _ _) i hi
 have HH := Lib.hid (show LAt W l s k ∧ Only l w W ∧ TAt W w.heap.size 0 0 ⟨#[]⟩ 0 from hW ▸ ⟨(H.out.alloc _).alloc _, ((Only.refl l w).alloc _).alloc _, ⟨(Below.heap_alloc _ _ _ (by simp)).trans (blk_new w _)⟩⟩)
 clear hW hz
 go_wp2_with fail
 go_loopw [5, 8] (fun u v wr => ∃ i : Nat, i ≤ 16 ∧ v = .int .i64 i ∧ (∃ n, wr = W.drewN n) ∧ Hid (∀ j (hj : j < LX.signs.length), j < i → LX.signs[j].isPrefixOf (s.data.toList.drop k) = false)) (fun _ v _ => 16 - (intOf v).toNat)
 case atStart => exact ⟨0, by omega, rfl, ⟨0, rfl⟩, Lib.hid (fun j _ hj => by omega)⟩
 case round =>
  obtain ⟨i, hi, rfl, ⟨n, rfl⟩, HN⟩ := hrel
  obtain ⟨c0, c1, fz⟩ := HH.out.1.c0
  obtain ⟨a0, a1, a2, a3, af⟩ := HH.out.2.2.c
  rcases Nat.lt_or_ge i 16 with hlt | hge
  ·have hlt' : (i : Int) < 16 := by omega
   have hle : (k : Int) ≤ (s.size : Int) := by omega
   have hi16 : i < LX.signs.length := by omega
   obtain ⟨x, hx, hc⟩ : ∃ x, LX.signs[i]'hi16 = x ∧ W.cell? ⟨w.heap.size + 1, i, none⟩ = some (.string ⟨x.toArray⟩) := ⟨_, rfl, HC.out i hi16⟩
   have hxl : x.length ≤ 2 := (show ∀ y ∈ LX.signs, y.length ≤ 2 by decide +kernel) x (hx ▸ List.getElem_mem _)
   have hsm := HH.out.1.small
   have hw1 : wrap64 ((k : Int) + (x.length : Int)) = (k : Int) + (x.length : Int) := by unfold wrap64; omega
   have hw2 : wrap64 ((k : Int) + (x.length : Int) - (x.length : Int)) = (k : Int) := by unfold wrap64; omega
   have HX := Lib.hid hx
   clear hx
   go_wp2_with fail
   go_quiet (first | (go_at_call 86; refine (Tryz.strings_HasPrefix _ _ _).mono ?_; rintro e w1 ⟨rfl, rfl⟩; exact ⟨rfl, _, rfl⟩))
   go_wp2_with fail
   ·have hp : Lib.hasPrefix (s.extract k s.size).data.toList x = true := by assumption
    (try simp only [Exit.inBlock, Exit.then])
    have hpre : x <+: s.data.toList.drop k := by
     rw [Lib.extract_to_end] at hp
     exact List.isPrefixOf_iff_prefix.1 hp
    have hkl : k + x.length ≤ s.size := by
     have h1 := hpre.length_le
     rw [List.length_drop, show s.data.toList.length = s.size from by simp] at h1
     omega
    have hgl : w.heap.size ≠ l := by omega
    have hL : LAt ((W.drewN (n + nq)).setCell ⟨l, 1, none⟩ (.int .i64 ((k : Int) + (x.length : Int)))) l s (k + x.length) := (HH.out.1.drewN _).put (k + x.length) (by omega) hkl
    refine bodyPost_ret (results_cell_row_tmp rfl _ _ w.heap.size 35 (tokV 4 k x 0) (0, 0) _ rfl (TAt.struct (a := 4) (b := k) (t := ⟨x.toArray⟩) (n := 0) (by repeat (first | exact HH.out.2.2 | apply TAt.num | apply TAt.text | apply TAt.place | apply TAt.kind | apply TAt.drewN | (apply TAt.far'; exact hgl)))) Tryz.underlying35 rfl (by kernel_rfl)) rfl ?_
    rw [← HQ.out]
    refine ⟨k + x.length, by repeat (first | exact hL | (apply LAt.store'; omega)), by repeat (first | exact HH.out.2.1 | apply Only.drewN | (apply Only.store'; (show w.heap.size ≤ w.heap.size); omega) | apply Only.put), ?_⟩
    rw [one_sign _ _ _ (at_head s k hk) HK.out.1 HK.out.2]
    have hf : LX.signs.find? (fun y => y.isPrefixOf (s.data.toList.drop k)) = some x := by
     rw [List.find?_eq_some_iff_getElem]
     refine ⟨List.isPrefixOf_iff_prefix.2 hpre, i, hi16, HX.out, fun j hj => ?_⟩
     simp [HN.out j (by omega) hj]
    rw [hf]
    exact ⟨by rfl, rfl⟩
   ·have hp : Lib.hasPrefix (s.extract k s.size).data.toList x = false := by assumption
    refine ⟨⟨i + 1, by omega, by simp, ⟨_, rfl⟩, Lib.hid (fun j hj hji => ?_)⟩, ?_⟩
    ·rcases Nat.lt_or_ge j i with h1 | h1
     ·exact HN.out j hj h1
     ·obtain rfl : j = i := by omega
      rw [HX.out, ← Lib.extract_to_end s k]
      exact hp
    ·simp [intOf]
     omega
  ·obtain rfl : i = 16 := by omega
   go_wp2_with fail
   (try simp only [Exit.inBlock, Exit.then])
   refine bodyPost_ret (results_cell_row_tmp rfl _ _ w.heap.size 35 (tokV 0 0 [] 0) (0, 0) _ rfl (TAt.struct (a := 0) (b := 0) (t := ⟨#[]⟩) (n := 0) (by repeat (first | exact HH.out.2.2 | apply TAt.num | apply TAt.text | apply TAt.place | apply TAt.kind | apply TAt.drewN))) Tryz.underlying35 rfl (by kernel_rfl)) rfl ?_
   rw [← HQ.out]
   refine ⟨k, by repeat (first | exact HH.out.1 | apply LAt.drewN | (apply LAt.store'; omega)), by repeat (first | exact HH.out.2.1 | apply Only.drewN | (apply Only.store'; omega)), ?_⟩
   rw [one_sign _ _ _ (at_head s k hk) HK.out.1 HK.out.2]
   have hf : LX.signs.find? (fun x => x.isPrefixOf (s.data.toList.drop k)) = none := by
    rw [List.find?_eq_none]
    intro x hx
    obtain ⟨j, hj, rfl⟩ := List.mem_iff_getElem.1 hx
    simp [HN.out j hj (by omega)]
   rw [hf]
   rfl
end Go.Proofs.YtjafllnbgfcchaaGreatDoor.Lx
end
section
/- The lexer's next token, walked. -/
namespace Go.Proofs.YtjafllnbgfcchaaGreatDoor.Lx
set_option linter.unusedVariables false
open Go Go.RowKit Go.Proofs.YtjafllnbgfcchaaGreatDoorW.PrintWords Go.Proofs.YtjafllnbgfcchaaGreatDoorW.PrintLast Go.Proofs.YtjafllnbgfcchaaGreatDoorW.PrintMore
def NextIs (l : Nat) (s : ByteArray) (k : Nat) (w : World) (e : Ending) (w' : World) : Prop := ∃ k0 k', LAt w' l s k' ∧ Only l w w' ∧ k ≤ k0 ∧ k0 ≤ s.size ∧ LX.skip false (s.data.toList.drop k) = s.data.toList.drop k0 ∧
 if k0 = s.size then e = .returned (.tuple #[.agg (tokV 5 s.size [] 0), .int .i64 0]) ∧ k' = s.size else
 match LX.one (s.data.toList.drop k0) with
 | .ok (kind, t, n) => e = .returned (.tuple #[.agg (tokV kind k0 t n), .int .i64 0]) ∧ k' = k0 + t.length
 | .error c => e = .returned (.tuple #[.agg (tokV 0 0 [] 0), .int .i64 c])
set_option maxHeartbeats 4000000 in
theorem next_walk (l k : Nat) (s : ByteArray) (w0 w : World) (hT : Tabs w0) (hb : Below w0.heap.size w0 w) (hl : w0.heap.size ≤ l) (h : LAt w l s k) :
  Calls Tryz.prog 46 #[.pointer (some ⟨l, 0, none⟩)] w fun e w' => NextIs l s k w e w' := by
 have H := Lib.hid h
 have HT := Lib.hid hT
 have HB := Lib.hid hb
 have hlt := h.lt
 clear h hT hb
 obtain ⟨Q, hQ⟩ : ∃ Q, NextIs l s k w = Q := ⟨_, rfl⟩
 rw [show (fun e w' => NextIs l s k w e w') = Q from hQ]
 have HQ := Lib.hid hQ
 clear hQ
 go_enter Tryz.func46, Tryz.ntmps46
 go_wp2_with (fail)
 refine (blanks_walk l k s _ (H.out.alloc _)).mono ?_
 rintro e w1 ⟨rfl, k0, hL1, hO1, hk0, hskip⟩
 have hA1 : TAt w1 w.heap.size 0 0 ⟨#[]⟩ 0 := ⟨hO1.blk (blk_new w _) (by omega)⟩
 have hO : Only l w w1 := ((Only.refl l w).alloc _).trans hO1
 clear hO1
 have HH := Lib.hid (And.intro hL1 (And.intro hA1 (And.intro hO (And.intro hk0 hskip))))
 obtain ⟨c0, c1, fz⟩ := hL1.c0
 obtain ⟨a0, a1, a2, a3, af⟩ := hA1.c
 have hle := hL1.le
 clear hL1 hO hk0 hskip hA1
 rcases Nat.lt_or_ge k0 s.size with hlt2 | hge
 ·have hb : decide (k0 = s.size) = false := by simp; omega
  have hb2 : (k0 : Int) < (s.size : Int) := by omega
  clear a0 a1 a2 a3 af
  go_wp2_with (fail)
  go_quiet (fail)
  go_wp2_with (fail)
  go_quiet (first | (go_at_call 87; refine (letter_walk _ _).mono ?_; rintro e w1 ⟨rfl, rfl⟩; exact ⟨rfl, _, rfl⟩))
  go_wp2_with (fail)
  ·have hc : LX.letter s[k0] = true := by assumption
   refine (name_walk l k0 s w0 _ HT.out (pw_below_drewN (HH.out.2.2.1.below HB.out hl hlt) _) hl (HH.out.1.drewN _) hlt2 hc).mono ?_
   rintro e w2 ⟨k', hL2, hO2, hm⟩
   have hA2 : TAt w2 w.heap.size 0 0 ⟨#[]⟩ 0 := (HH.out.2.1.drewN _).only hO2 (by omega)
   have HH2 := Lib.hid (And.intro hL2 (And.intro hA2 ((HH.out.2.2.1.drewN _).trans hO2)))
   obtain ⟨a0, a1, a2, a3, af⟩ := hA2.c
   clear hL2 hO2 hA2
   cases hone : LX.one (s.data.toList.drop k0) with
   | ok p =>
    obtain ⟨kind, tx, nn⟩ := p
    rw [hone] at hm
    obtain ⟨rfl, hk'⟩ := hm
    have HM := Lib.hid (And.intro hone hk')
    clear hone hk'
    unfold tokV
    go_wp2_with (fail)
    (try simp only [Exit.inBlock, Exit.then])
    refine bodyPost_ret (results_cell_row_tmp rfl _ _ w.heap.size 35 (tokV kind k0 tx nn) (0, 0) _ rfl (TAt.struct (a := kind) (b := k0) (t := ⟨tx.toArray⟩) (n := nn) (by repeat (first | exact HH2.out.2.1 | apply TAt.num | apply TAt.text | apply TAt.place | apply TAt.kind | apply TAt.drewN))) Tryz.underlying35 rfl (by kernel_rfl)) rfl ?_
    rw [← HQ.out]
    refine ⟨k0, k', by repeat (first | exact HH2.out.1 | apply LAt.drewN | (apply LAt.store'; omega)), by repeat (first | exact HH2.out.2.2 | apply Only.drewN | (apply Only.store'; omega)), HH.out.2.2.2.1, by omega, HH.out.2.2.2.2, ?_⟩
    rw [if_neg (by omega), HM.out.1]
    exact ⟨by rfl, HM.out.2⟩
   | error cd =>
    rw [hone] at hm
    obtain rfl := hm
    have HM := Lib.hid hone
    clear hone
    unfold tokV
    go_wp2_with (fail)
    (try simp only [Exit.inBlock, Exit.then])
    refine bodyPost_ret (results_cell_row_tmp rfl _ _ w.heap.size 35 (tokV 0 0 [] 0) (0, 0) _ rfl (TAt.struct (a := 0) (b := 0) (t := ⟨#[]⟩) (n := 0) (by repeat (first | exact HH2.out.2.1 | apply TAt.num | apply TAt.text | apply TAt.place | apply TAt.kind | apply TAt.drewN))) Tryz.underlying35 rfl (by kernel_rfl)) rfl ?_
    rw [← HQ.out]
    refine ⟨k0, k', by repeat (first | exact HH2.out.1 | apply LAt.drewN | (apply LAt.store'; omega)), by repeat (first | exact HH2.out.2.2 | apply Only.drewN | (apply Only.store'; omega)), HH.out.2.2.2.1, by omega, HH.out.2.2.2.2, ?_⟩
    rw [if_neg (by omega), HM.out]
    rfl
  go_quiet (first | (go_at_call 89; refine (digit_walk _ _).mono ?_; rintro e w1 ⟨rfl, rfl⟩; exact ⟨rfl, _, rfl⟩))
  go_wp2_with (fail)
  ·have hc : LX.letter s[k0] = false := by assumption
   have hd : LX.digit s[k0] = true := by assumption
   refine (number_walk l k0 s w0 _ HT.out (pw_below_drewN (HH.out.2.2.1.below HB.out hl hlt) _) hl (HH.out.1.drewN _) hlt2 hc hd).mono ?_
   rintro e w2 ⟨k', hL2, hO2, hm⟩
   have hA2 : TAt w2 w.heap.size 0 0 ⟨#[]⟩ 0 := (HH.out.2.1.drewN _).only hO2 (by omega)
   have HH2 := Lib.hid (And.intro hL2 (And.intro hA2 ((HH.out.2.2.1.drewN _).trans hO2)))
   obtain ⟨a0, a1, a2, a3, af⟩ := hA2.c
   clear hL2 hO2 hA2
   cases hone : LX.one (s.data.toList.drop k0) with
   | ok p =>
    obtain ⟨kind, tx, nn⟩ := p
    rw [hone] at hm
    obtain ⟨rfl, hk'⟩ := hm
    have HM := Lib.hid (And.intro hone hk')
    clear hone hk'
    unfold tokV
    go_wp2_with (fail)
    (try simp only [Exit.inBlock, Exit.then])
    refine bodyPost_ret (results_cell_row_tmp rfl _ _ w.heap.size 35 (tokV kind k0 tx nn) (0, 0) _ rfl (TAt.struct (a := kind) (b := k0) (t := ⟨tx.toArray⟩) (n := nn) (by repeat (first | exact HH2.out.2.1 | apply TAt.num | apply TAt.text | apply TAt.place | apply TAt.kind | apply TAt.drewN))) Tryz.underlying35 rfl (by kernel_rfl)) rfl ?_
    rw [← HQ.out]
    refine ⟨k0, k', by repeat (first | exact HH2.out.1 | apply LAt.drewN | (apply LAt.store'; omega)), by repeat (first | exact HH2.out.2.2 | apply Only.drewN | (apply Only.store'; omega)), HH.out.2.2.2.1, by omega, HH.out.2.2.2.2, ?_⟩
    rw [if_neg (by omega), HM.out.1]
    exact ⟨by rfl, HM.out.2⟩
   | error cd =>
    rw [hone] at hm
    obtain rfl := hm
    have HM := Lib.hid hone
    clear hone
    unfold tokV
    go_wp2_with (fail)
    (try simp only [Exit.inBlock, Exit.then])
    refine bodyPost_ret (results_cell_row_tmp rfl _ _ w.heap.size 35 (tokV 0 0 [] 0) (0, 0) _ rfl (TAt.struct (a := 0) (b := 0) (t := ⟨#[]⟩) (n := 0) (by repeat (first | exact HH2.out.2.1 | apply TAt.num | apply TAt.text | apply TAt.place | apply TAt.kind | apply TAt.drewN))) Tryz.underlying35 rfl (by kernel_rfl)) rfl ?_
    rw [← HQ.out]
    refine ⟨k0, k', by repeat (first | exact HH2.out.1 | apply LAt.drewN | (apply LAt.store'; omega)), by repeat (first | exact HH2.out.2.2 | apply Only.drewN | (apply Only.store'; omega)), HH.out.2.2.2.1, by omega, HH.out.2.2.2.2, ?_⟩
    rw [if_neg (by omega), HM.out]
    rfl
  ·have hc : LX.letter s[k0] = false := by assumption
   have hd : LX.digit s[k0] = false := by assumption
   refine (sign_walk l k0 s w0 _ HT.out (pw_below_drewN (HH.out.2.2.1.below HB.out hl hlt) _) hl (HH.out.1.drewN _) hlt2 hc hd).mono ?_
   rintro e w2 ⟨k', hL2, hO2, hm⟩
   have hA2 : TAt w2 w.heap.size 0 0 ⟨#[]⟩ 0 := (HH.out.2.1.drewN _).only hO2 (by omega)
   have HH2 := Lib.hid (And.intro hL2 (And.intro hA2 ((HH.out.2.2.1.drewN _).trans hO2)))
   obtain ⟨a0, a1, a2, a3, af⟩ := hA2.c
   clear hL2 hO2 hA2
   cases hone : LX.one (s.data.toList.drop k0) with
   | ok p =>
    obtain ⟨kind, tx, nn⟩ := p
    rw [hone] at hm
    obtain ⟨rfl, hk'⟩ := hm
    have HM := Lib.hid (And.intro hone hk')
    clear hone hk'
    unfold tokV
    go_wp2_with (fail)
    (try simp only [Exit.inBlock, Exit.then])
    refine bodyPost_ret (results_cell_row_tmp rfl _ _ w.heap.size 35 (tokV kind k0 tx nn) (0, 0) _ rfl (TAt.struct (a := kind) (b := k0) (t := ⟨tx.toArray⟩) (n := nn) (by repeat (first | exact HH2.out.2.1 | apply TAt.num | apply TAt.text | apply TAt.place | apply TAt.kind | apply TAt.drewN))) Tryz.underlying35 rfl (by kernel_rfl)) rfl ?_
    rw [← HQ.out]
    refine ⟨k0, k', by repeat (first | exact HH2.out.1 | apply LAt.drewN | (apply LAt.store'; omega)), by repeat (first | exact HH2.out.2.2 | apply Only.drewN | (apply Only.store'; omega)), HH.out.2.2.2.1, by omega, HH.out.2.2.2.2, ?_⟩
    rw [if_neg (by omega), HM.out.1]
    exact ⟨by rfl, HM.out.2⟩
   | error cd =>
    rw [hone] at hm
    obtain rfl := hm
    have HM := Lib.hid hone
    clear hone
    unfold tokV
    go_wp2_with (fail)
    (try simp only [Exit.inBlock, Exit.then])
    refine bodyPost_ret (results_cell_row_tmp rfl _ _ w.heap.size 35 (tokV 0 0 [] 0) (0, 0) _ rfl (TAt.struct (a := 0) (b := 0) (t := ⟨#[]⟩) (n := 0) (by repeat (first | exact HH2.out.2.1 | apply TAt.num | apply TAt.text | apply TAt.place | apply TAt.kind | apply TAt.drewN))) Tryz.underlying35 rfl (by kernel_rfl)) rfl ?_
    rw [← HQ.out]
    refine ⟨k0, k', by repeat (first | exact HH2.out.1 | apply LAt.drewN | (apply LAt.store'; omega)), by repeat (first | exact HH2.out.2.2 | apply Only.drewN | (apply Only.store'; omega)), HH.out.2.2.2.1, by omega, HH.out.2.2.2.2, ?_⟩
    rw [if_neg (by omega), HM.out]
    rfl
 ·obtain rfl : k0 = s.size := by omega
  go_wp2_with (fail)
  go_quiet (fail)
  go_wp2_with (fail)
  (try simp only [Exit.inBlock, Exit.then])
  refine bodyPost_ret (results_cell_row_tmp rfl _ _ w.heap.size 35 (tokV 5 s.size [] 0) (0, 0) _ rfl (TAt.struct (a := 5) (b := s.size) (t := ⟨#[]⟩) (n := 0) (by repeat (first | exact HH.out.2.1 | apply TAt.num | apply TAt.text | apply TAt.place | apply TAt.kind | apply TAt.drewN))) Tryz.underlying35 rfl (by kernel_rfl)) rfl ?_
  rw [← HQ.out]
  refine ⟨s.size, s.size, by repeat (first | exact HH.out.1 | apply LAt.drewN | (apply LAt.store'; omega)), by repeat (first | exact HH.out.2.2.1 | apply Only.drewN | (apply Only.store'; omega)), HH.out.2.2.2.1, by omega, HH.out.2.2.2.2, ?_⟩
  rw [if_pos rfl]
  exact ⟨by rfl, rfl⟩
end Go.Proofs.YtjafllnbgfcchaaGreatDoor.Lx
end
section
/- The lexer's All, walked. -/
namespace Go.Proofs.YtjafllnbgfcchaaGreatDoor.Lx
set_option linter.unusedVariables false
open Go Go.RowKit Go.Proofs.YtjafllnbgfcchaaGreatDoorW.PrintWords Go.Proofs.YtjafllnbgfcchaaGreatDoorW.PrintLast Go.Proofs.YtjafllnbgfcchaaGreatDoorW.PrintMore
def tokCells (l : List LX.Tok) : List Value := (l.map fun t => (tokV t.kind t.at_ t.text t.n).toList).flatten
theorem tokCells_add (l : List LX.Tok) (t : LX.Tok) : tokCells (l ++ [t]) = tokCells l ++ (tokV t.kind t.at_ t.text t.n).toList := by
 simp [tokCells]
def from_ (s : ByteArray) (k : Nat) : Except (Nat × Nat) (List LX.Tok) := LX.go s.size (s.size - k + 1) (s.data.toList.drop k)
theorem drop_len (s : ByteArray) (k : Nat) : (s.data.toList.drop k).length = s.size - k := by simp
theorem from_end (s : ByteArray) (k : Nat) (h : LX.skip false (s.data.toList.drop k) = s.data.toList.drop s.size) : from_ s k = .ok [⟨5, s.size, [], 0⟩] := by
 unfold from_
 rw [LX.go, h, List.drop_eq_nil_of_le (by simp)]
 rfl
theorem from_err (s : ByteArray) (k k0 c : Nat) (h : LX.skip false (s.data.toList.drop k) = s.data.toList.drop k0) (hk : k0 < s.size) (h1 : LX.one (s.data.toList.drop k0) = .error c) : from_ s k = .error (k0, c) := by
 unfold from_
 rw [LX.go, h, at_head s k0 hk] 
 rw [at_head s k0 hk] at h1
 simp only [List.isEmpty_cons, Bool.false_eq_true, if_false, h1]
 have := drop_len s k0
 rw [at_head s k0 hk] at this
 rw [this, show s.size - (s.size - k0) = k0 from by omega]
theorem from_tok (s : ByteArray) (k k0 kind n : Nat) (t : List UInt8) (h : LX.skip false (s.data.toList.drop k) = s.data.toList.drop k0) (hk : k0 < s.size) (hle : k ≤ k0) (h1 : LX.one (s.data.toList.drop k0) = .ok (kind, t, n)) :
  from_ s k = (from_ s (k0 + t.length)).map (⟨kind, k0, t, n⟩ :: ·) := by
 have hp := LX.one_pos _ _ _ _ h1
 have hl := drop_len s k0
 rw [hl] at hp
 unfold from_
 rw [LX.go, h]
 have he : (s.data.toList.drop k0).isEmpty = false := by rw [at_head s k0 hk]; rfl
 simp only [he, Bool.false_eq_true, if_false, h1, hl]
 rw [List.drop_drop, show s.size - (s.size - k0) = k0 from by omega,
  LX.go_fuel s.size (s.size - (k0 + t.length)) (s.data.toList.drop (k0 + t.length)) (s.size - k) (s.size - (k0 + t.length) + 1) (by rw [drop_len]; exact Nat.le_refl _) (by omega) (by omega)]
 cases LX.go s.size (s.size - (k0 + t.length) + 1) (s.data.toList.drop (k0 + t.length)) <;> rfl
structure AllAt (w0 wr : World) (l f : Nat) (s : ByteArray) (k : Nat) (v : Value) (done : List LX.Tok) : Prop where
 lat : LAt wr l s k
 low : Below w0.heap.size w0 wr
 lnew : w0.heap.size ≤ l
 fault : wr.heap[f]? = some (.cells #[.int .i64 0, .int .i64 0] 27 (0, 0))
 fnew : w0.heap.size ≤ f
 fl : f ≠ l
 row : wr.ownsRow w0.heap.size 35 4 v done.length (tokCells done)
 farl : v.ownBlock ≠ some l
 farf : v.ownBlock ≠ some f
 few : done.length ≤ k
 law : from_ s 0 = (from_ s k).map (done ++ ·)
theorem results_tmp_cell_row {P : Program} {fn : Func} {p u : Tmp} {ty : TypeId} (h : fn.results = #[.tmp u, .cell p ty]) (tmps : Array Value) (w : World) (g : Nat) (t : TypeId) (cs : Array Value) (fr : Nat × Nat) (d : TypeDesc)
  (hp : tmps.getD p undef = .pointer (some ⟨g, 0, none⟩)) (hg : w.heap[g]? = some (.cells cs t fr))
  (hu : P.underlying ty = some d) (hd : (match d with | .struct _ | .array _ _ => true | _ => false) = true) (hi : (P.info? ty).map (·.size) = some cs.size) :
  (results fn tmps).run P w = .ok (.tuple #[tmps.getD u undef, .agg cs]) w := by
 have hp' : tmps[p]?.getD undef = .pointer (some ⟨g, 0, none⟩) := by simpa using hp
 simp [results, h, hp', asAddr, run_loadVar_row w g t ty cs fr d hg hu hd hi]
theorem Only.grown {l : Nat} {w w' : World} (h : Only l w w') : w.grownBy w' (some l) :=
 ⟨h.os, h.tape, h.output, h.size, fun k hk hn => h.keep k hk (fun e => hn (by rw [e]))⟩
theorem AllAt.row_at {w0 wr w2 : World} {l f k : Nat} {s : ByteArray} {v : Value} {done : List LX.Tok} (h : AllAt w0 wr l f s k v done) (hO : Only l wr w2) (o : Obj) :
  (w2.alloc o).ownsRow w0.heap.size 35 4 v done.length (tokCells done) :=
 own_alloc (own_other h.row hO.grown (.inr h.farl)) o
theorem info_tok : (Tryz.prog.info? 35).map (fun i => (i.zero, i.size, i.bytes)) = some (some (.agg (tokV 0 0 [] 0)), 4, 40) := by kernel_rfl
theorem AllAt.step {w0 wr w1 w2 w5 : World} {l f k k1 k2 : Nat} {s : ByteArray} {v v5 : Value} {done : List LX.Tok} (h : AllAt w0 wr l f s k v done) (hO : Only l wr w2) (hL : LAt w2 l s k2) (kind nn : Nat) (tx : List UInt8) (o : Obj)
  (hk : k ≤ k1) (hk1 : k1 < s.size) (hk2 : k2 = k1 + tx.length) (hskip : LX.skip false (s.data.toList.drop k) = s.data.toList.drop k1) (hone : LX.one (s.data.toList.drop k1) = .ok (kind, tx, nn))
  (hown : w5.ownsRow w0.heap.size 35 4 v5 (done.length + 1) (tokCells done ++ (tokV kind k1 tx nn).toList)) (hb : Below w0.heap.size w0 w5) (hg : (w2.alloc o).grownBy w5 v.ownBlock)
  (hat : v5.ownBlock = v.ownBlock ∨ ∃ b, v5.ownBlock = some b ∧ (w2.alloc o).heap.size ≤ b) : AllAt w0 w5 l f s k2 v5 (done ++ [⟨kind, k1, tx, nn⟩]) := by
 have hlt := hL.lt
 have hf2 := hO.blk h.fault h.fl
 have hflt := blk_lt hf2
 have hsz : (w2.alloc o).heap.size = w2.heap.size + 1 := by simp
 have hp := LX.one_pos _ _ _ _ hone
 refine ⟨⟨?_, hL.le, hL.small⟩, hb, h.lnew, ?_, h.fnew, h.fl, by rw [tokCells_add, List.length_append]; exact hown, ?_, ?_, ?_, ?_⟩
 ·exact (hg.block l (by omega) (fun e => h.farl e.symm)).trans ((Below.heap_alloc w2 o l hlt).trans hL.struct)
 ·exact (hg.block f (by omega) (fun e => h.farf e.symm)).trans ((Below.heap_alloc w2 o f hflt).trans hf2)
 ·rcases hat with e | ⟨b, e, hb⟩
  ·rw [e]; exact h.farl
  ·rw [e]; simp; omega
 ·rcases hat with e | ⟨b, e, hb⟩
  ·rw [e]; exact h.farf
  ·rw [e]; simp; omega
 ·have := h.few
  simp
  omega
 ·rw [h.law, from_tok s k k1 kind nn tx hskip hk1 hk hone, ← hk2]
  cases from_ s k2 <;> simp [Except.map]
end Go.Proofs.YtjafllnbgfcchaaGreatDoor.Lx
end
section
/- The lexer's All, walked. -/
namespace Go.Proofs.YtjafllnbgfcchaaGreatDoor.Lx
set_option linter.unusedVariables false
open Go Go.RowKit Go.Proofs.YtjafllnbgfcchaaGreatDoorW.PrintWords Go.Proofs.YtjafllnbgfcchaaGreatDoorW.PrintLast Go.Proofs.YtjafllnbgfcchaaGreatDoorW.PrintMore

theorem blk2 {w : World} {g : Nat} {t : TypeId} {a b : Value} (h : w.heap[g]? = some (.cells #[a, b] t (0, 0))) : w.cell? ⟨g, 0, none⟩ = some a ∧ w.cell? ⟨g, 1, none⟩ = some b ∧ ∀ j, w.frozen? ⟨g, j, none⟩ = false :=
 ⟨blk_cell h 0, blk_cell h 1, fun j => blk_frozen h j⟩
theorem blk_set2 {w : World} {g : Nat} {t : TypeId} {a b : Value} (h : w.heap[g]? = some (.cells #[a, b] t (0, 0))) (a' b' : Value) : ((w.setCell ⟨g, 0, none⟩ a').setCell ⟨g, 1, none⟩ b').heap[g]? = some (.cells #[a', b'] t (0, 0)) :=
 blk_put (blk_put h 0 a' rfl) 1 b' rfl
theorem own_set2 {w5 : World} {base f m n : Nat} {v v5 : Value} {xs : List Value} (h : w5.ownsRow base 35 4 v5 n xs) (hf : v.ownBlock ≠ some f) (hat : v5.ownBlock = v.ownBlock ∨ ∃ b, v5.ownBlock = some b ∧ m ≤ b) (hm : f < m) (a b : Value) :
  ((w5.setCell ⟨f, 0, none⟩ a).setCell ⟨f, 1, none⟩ b).ownsRow base 35 4 v5 n xs := by
 have hne : some f ≠ v5.ownBlock := by
  rcases hat with e | ⟨b, e, hb⟩
  ·rw [e]; exact fun e => hf e.symm
  ·rw [e]; simp; omega
 exact own_setCell (own_setCell h hne _) hne _
theorem AllAt.behind {w0 wr w2 w5 : World} {l f k : Nat} {s : ByteArray} {v : Value} {done : List LX.Tok} (h : AllAt w0 wr l f s k v done) (hO : Only l wr w2) (cs : Array Value)
  (hg : (w2.alloc (.cells cs 35)).grownBy w5 v.ownBlock) : w5.heap[f]? = some (.cells #[.int .i64 0, .int .i64 0] 27 (0, 0)) ∧ w5.heap[w2.heap.size]? = some (.cells cs 35 (0, 0)) := by
 have hsz : (w2.alloc (.cells cs 35)).heap.size = w2.heap.size + 1 := by simp
 have hf2 := hO.blk h.fault h.fl
 have hflt := blk_lt hf2
 refine ⟨?_, ?_⟩
 ·exact (hg.block f (by omega) (fun e => h.farf e.symm)).trans ((Below.heap_alloc w2 _ f hflt).trans hf2)
 ·refine (hg.block w2.heap.size (by omega) (fun e => ?_)).trans (blk_new w2 _)
  have h1 := (h.row.lt _ e.symm).2
  have h2 := hO.size
  omega
theorem one_kind (l : List UInt8) (k : Nat) (t : List UInt8) (n : Nat) (h : LX.one l = .ok (k, t, n)) : k ≠ 5 := by
 match l, h with
 | [], h => simp [LX.one] at h
 | c :: r, h =>
  unfold LX.one at h
  simp only at h
  (repeat' split at h) <;> first | (cases h; done) | (simp at h; omega)
theorem one_err (l : List UInt8) (c : Nat) (h : LX.one l = .error c) : c ≠ 0 := by
 match l, h with
 | [], h => simp [LX.one] at h; omega
 | c :: r, h =>
  unfold LX.one at h
  simp only at h
  (repeat' split at h) <;> first | (cases h; done) | (simp at h; omega)
theorem all_from (s : ByteArray) (hs : s.size ≤ 4000) : LX.all s.data.toList = from_ s 0 := by
 unfold LX.all from_
 have : s.data.toList.length = s.size := by simp
 rw [this, if_neg (by omega)]
 rfl
theorem AllAt.start (w : World) (s : ByteArray) (hs : s.size ≤ 4000) : AllAt w ((w.alloc (.cells #[.int .i64 0, .int .i64 0] 27)).alloc (.cells #[.string s, .int .i64 0] 98)) (w.heap.size + 1) w.heap.size s 0 (.slice none 0 0) [] := by
 refine ⟨⟨heap_alloc2_new w _ _, by omega, hs⟩, below_alloc (below_alloc (Below.refl _ _) _) _, by omega, (Below.heap_alloc _ _ _ (by simp)).trans (blk_new w _), by omega, by omega, World.ownsRow_nil _ _ _ _, by simp [Value.ownBlock], by simp [Value.ownBlock], by simp, ?_⟩
 cases from_ s 0 <;> rfl
def AllIs (s : ByteArray) (w : World) (e : Ending) (w' : World) : Prop := Below w.heap.size w w' ∧ match LX.all s.data.toList with
   | .ok r => ∃ v, e = .returned (.tuple #[v, .agg #[.int .i64 0, .int .i64 0]]) ∧ w'.ownsRow w.heap.size 35 4 v r.length (tokCells r)
   | .error (k, c) => e = .returned (.tuple #[.slice none 0 0, .agg #[.int .i64 k, .int .i64 c]])
theorem AllIs.err {w w' wr : World} {l f k k1 c : Nat} {s : ByteArray} {v : Value} {done : List LX.Tok} (hs : s.size ≤ 4000) (h : AllAt w wr l f s k v done) (hb : Below w.heap.size w w')
  (hskip : LX.skip false (s.data.toList.drop k) = s.data.toList.drop k1) (hk : k1 < s.size) (hone : LX.one (s.data.toList.drop k1) = .error c) : AllIs s w (.returned (.tuple #[.slice none 0 0, .agg #[.int .i64 k1, .int .i64 c]])) w' := by
 refine ⟨hb, ?_⟩
 rw [all_from s hs, h.law, from_err s k k1 c hskip hk hone]
 rfl
theorem AllIs.fin {w w' wr : World} {l f k : Nat} {s : ByteArray} {v v5 : Value} {done : List LX.Tok} (hs : s.size ≤ 4000) (h : AllAt w wr l f s k v done) (hb : Below w.heap.size w w')
  (hskip : LX.skip false (s.data.toList.drop k) = s.data.toList.drop s.size) (hown : w'.ownsRow w.heap.size 35 4 v5 (done.length + 1) (tokCells done ++ [.int .i64 5, .int .i64 s.size, .string ⟨#[]⟩, .int .u64 0])) :
  AllIs s w (.returned (.tuple #[v5, .agg #[.int .i64 0, .int .i64 0]])) w' := by
 refine ⟨hb, ?_⟩
 rw [all_from s hs, h.law, from_end s k hskip]
 refine ⟨v5, rfl, ?_⟩
 show w'.ownsRow w.heap.size 35 4 v5 (done ++ [(⟨5, s.size, [], 0⟩ : LX.Tok)]).length (tokCells (done ++ [(⟨5, s.size, [], 0⟩ : LX.Tok)]))
 rw [tokCells_add, List.length_append]
 exact hown
set_option maxHeartbeats 4000000 in
set_option maxRecDepth 100000 in
theorem all_walk (s : ByteArray) (w : World) (hT : Tabs w) (hs : s.size ≤ 4000) :
  Calls Tryz.prog 15 #[.string s] w fun e w' => AllIs s w e w' := by
 have HT := Lib.hid hT
 clear hT
 have hb : ¬ 4000 < (s.size : Int) := by omega
 have hdec : decide (4000 < (s.size : Int)) = false := by simp; omega
 clear hdec
 go_enter Tryz.func15, Tryz.ntmps15
 go_wp2_with (fail)
 go_loopg [5] (s.size + 1) (fun g v wr => ∃ k done, g = s.size + 1 - k ∧ Hid (AllAt w wr (w.heap.size + 1) w.heap.size s k v done))
 case atStart =>
  exact ⟨0, [], by omega, Lib.hid (AllAt.start w s hs)⟩
 case round =>
  obtain ⟨k, done, rfl, HA⟩ := hrel
  go_wp2_with (fail)
  refine (blanks_walk _ _ _ _ HA.out.lat).mono ?_
  rintro e w1 ⟨rfl, k0, hL1, hO1, hk0, hskip⟩
  obtain ⟨c0, c1, fz⟩ := hL1.c0
  have HX := Lib.hid (And.intro hL1 (And.intro hO1 (And.intro hk0 hskip)))
  clear hL1 hO1 hk0 hskip
  go_wp2_with (fail)
  refine (next_walk _ _ _ w _ HT.out (HX.out.2.1.below HA.out.low (by omega) HA.out.lat.lt) (by omega) HX.out.1).mono ?_
  rintro e w2 ⟨k1, k2, hL2, hO2, hk1, hk1s, hskip2, hm⟩
  have hk01 : k1 = k0 := by
   have h1 := HX.out.2.2.2
   have h2 : LX.skip false (s.data.toList.drop k0) = s.data.toList.drop k0 := by rw [← h1]; exact LX.skip_skip _ _
   rw [h2] at hskip2
   have h3 := drop_len s k0
   rw [hskip2, drop_len] at h3
   have := HX.out.1.le
   omega
  subst hk01
  have HY := Lib.hid (And.intro hL2 (And.intro hO2 hk1s))
  clear hL2 hO2 hskip2 hk1 hk1s
  have hO12 : Only (w.heap.size + 1) wr w2 := HX.out.2.1.trans HY.out.2.1
  have HR := fun o => HA.out.row_at hO12 o
  have HB2 := fun o => (hO12.below HA.out.low (by omega) HA.out.lat.lt).alloc (by have := (hO12.below HA.out.low (by omega) HA.out.lat.lt).size; exact this) o
  have HRB := Lib.hid (And.intro HR HB2)
  clear HR HB2 hO12
  have HO12 := Lib.hid (HX.out.2.1.trans HY.out.2.1)
  have hsm := HX.out.1.small
  have hfew := HA.out.few
  have hkk := HX.out.2.2.1
  have hk1s := HX.out.1.le
  have hl40 : (done.length + 1) * 40 ≤ 140737488355328 := by omega
  have hsz2 : ∀ o, w.heap.size ≤ (w2.alloc o).heap.size := fun o => (HRB.out.2 o).size
  have HS2 := Lib.hid (And.intro hsz2 hl40)
  clear hsm hfew hkk hk1s hsz2 hl40
  obtain ⟨fa0, fa1, faf⟩ := blk2 (HO12.out.blk HA.out.fault HA.out.fl)
  by_cases hend : k1 = s.size
  ·rw [if_pos hend] at hm
   obtain ⟨rfl, hk2⟩ := hm
   have HZ := Lib.hid (And.intro hend hk2)
   clear hend hk2 fa0 fa1 faf
   unfold tokV
   go_wp2_with (first | ((with_reducible refine gate_builtin (b := .append) (xs := #[.tmp 32, .tmp 34]) rfl ?_); at_builtin; (refine print_append_cells (w0 := w) w.heap.size rfl (.tmp 32) (.tmp 34) 30 35 (.agg (tokV 0 0 [] 0)) 4 40 rfl Tryz.underlying30 info_tok rfl (by decide) (by decide) u5 done.length (tokCells done) [.int .i64 5, .int .i64 s.size, .string ⟨#[]⟩, .int .u64 0] rfl (show Value.slice (some ⟨w2.heap.size + 1, 0, none⟩) 1 1 = _ by simp) rfl (by simp [Value.oneCell']) (HRB.out.1 _) (HRB.out.2 _) (HS2.out.1 _) HS2.out.2 ?_); intro v5 w5 hown hb5 hg5 hat5; have HG := Lib.hid (HA.out.behind HO12.out _ hg5); obtain ⟨f0, f1, ff⟩ := blk2 HG.out.1; obtain ⟨t0, _, _, _, tf⟩ := TAt.c ⟨HG.out.2⟩; clear c0 c1 fz; have H5 := Lib.hid (And.intro hown (And.intro hb5 (And.intro hg5 hat5))); clear hown hb5 hg5 hat5 HG))
   (try simp only [Exit.inBlock, Exit.then])
   refine bodyPost_ret (results_tmp_cell_row rfl _ _ w.heap.size 27 #[.int .i64 0, .int .i64 0] (0, 0) _ rfl (blk_set2 (HA.out.behind HO12.out _ H5.out.2.2.1).1 _ _) Tryz.underlying27 rfl (by kernel_rfl)) rfl ?_
   exact AllIs.fin hs HA.out (Below.setCell (Below.setCell H5.out.2.1 (Nat.le_refl _) _) (Nat.le_refl _) _) (by rw [HX.out.2.2.2, HZ.out.1]) (own_set2 H5.out.1 HA.out.farf H5.out.2.2.2 (by have h1 := HO12.out.size; have h2 := blk_lt HA.out.fault; simp; omega) _ _)
  ·have hlt : k1 < s.size := by have := HY.out.2.2; omega
   rw [if_neg hend] at hm
   have HE := Lib.hid hlt
   clear hend hlt
   cases hone : LX.one (s.data.toList.drop k1) with
   | error c =>
    rw [hone] at hm
    obtain rfl := hm
    have hc := one_err _ _ hone
    have hcz : ((c : Int) != 0) = true := by rw [bne_iff_ne]; omega
    have HO := Lib.hid hone
    have hflt : w.heap.size < w2.heap.size := by have h1 := HO12.out.size; have h2 := blk_lt HA.out.fault; omega
    have hfne : ¬ (w.heap.size = w2.heap.size) := by omega
    clear hone hc c0 c1 fz
    unfold tokV
    go_wp2_with (fail)
    (try simp only [Exit.inBlock, Exit.then])
    refine bodyPost_ret (results_tmp_cell_row rfl _ _ w.heap.size 27 #[.int .i64 k1, .int .i64 c] (0, 0) _ rfl ((Below.heap_alloc _ _ _ (by simp [World.setCell]; exact hflt)).trans (blk_set2 (HO12.out.blk HA.out.fault HA.out.fl) _ _)) Tryz.underlying27 rfl (by kernel_rfl)) rfl ?_
    exact AllIs.err hs HA.out (below_alloc (Below.setCell (Below.setCell (HO12.out.below HA.out.low (by omega) HA.out.lat.lt) (Nat.le_refl _) _) (Nat.le_refl _) _) _) HX.out.2.2.2 HE.out HO.out
   | ok p =>
    obtain ⟨kind, tx, nn⟩ := p
    rw [hone] at hm
    obtain ⟨rfl, hk2⟩ := hm
    have h5 := one_kind _ _ _ _ hone
    have h5' : ((kind : Int) == 5) = false := by rw [beq_eq_false_iff_ne]; omega
    have HO := Lib.hid (And.intro hone hk2)
    clear hone hk2 h5 fa0 fa1 faf
    unfold tokV
    go_wp2_with (first | ((with_reducible refine gate_builtin (b := .append) (xs := #[.tmp 32, .tmp 34]) rfl ?_); at_builtin; (refine print_append_cells (w0 := w) w.heap.size rfl (.tmp 32) (.tmp 34) 30 35 (.agg (tokV 0 0 [] 0)) 4 40 rfl Tryz.underlying30 info_tok rfl (by decide) (by decide) u5 done.length (tokCells done) [.int .i64 kind, .int .i64 k1, .string ⟨tx.toArray⟩, .int .u64 nn] rfl (show Value.slice (some ⟨w2.heap.size + 1, 0, none⟩) 1 1 = _ by simp) rfl (by simp [Value.oneCell']) (HRB.out.1 _) (HRB.out.2 _) (HS2.out.1 _) HS2.out.2 ?_); intro v5 w5 hown hb5 hg5 hat5; have HG := Lib.hid (HA.out.behind HO12.out _ hg5); obtain ⟨f0, f1, ff⟩ := blk2 HG.out.1; obtain ⟨t0, _, _, _, tf⟩ := TAt.c ⟨HG.out.2⟩; clear c0 c1 fz; have H5 := Lib.hid (And.intro hown (And.intro hb5 (And.intro hg5 hat5))); clear hown hb5 hg5 hat5 HG))
    go_roundg (s.size + 1 - k2)
    case measure =>
     have h1 := LX.one_pos _ _ _ _ HO.out.1
     have h2 := HO.out.2
     have h3 := HX.out.2.2.1
     have h4 := HE.out
     omega
    case rel => exact ⟨k2, done ++ [⟨kind, k1, tx, nn⟩], rfl, Lib.hid (HA.out.step (w1 := w2) HO12.out HY.out.1 kind nn tx _ HX.out.2.2.1 HE.out HO.out.2 HX.out.2.2.2 HO.out.1 H5.out.1 H5.out.2.1 H5.out.2.2.1 H5.out.2.2.2)⟩
end Go.Proofs.YtjafllnbgfcchaaGreatDoor.Lx
end
