/- The lexer's numbers, walked. -/
import Derived.Test.YtnlkjimpefebbaaDoorLexWords
import Derived.Lib.LaidTab
import Derived.Laws.Rows
import Derived.Laws.ResultCell
import Derived.Laws.IdiomStrings
namespace Go.Proofs.YtnlkjimpefebbaaDoor.Lx
set_option linter.unusedVariables false
open Go Go.RowKit Go.Proofs.YtnlkjimpefebbaaDoorW.PrintWords Go.Proofs.YtnlkjimpefebbaaDoorW.PrintLast Go.Proofs.YtnlkjimpefebbaaDoorW.PrintMore


theorem one_digit (l : List UInt8) (c : UInt8) (r : List UInt8) (e : l = c :: r) (hc : LX.letter c = false) (hd : LX.digit c = true) :
    LX.one l = if c == 48 && (l.takeWhile LX.digit).length > 1 then .error 1 else match LX.numGo 0 (l.takeWhile LX.digit) with | none => .error 3 | some n => .ok (2, l.takeWhile LX.digit, n) := by
  subst e
  simp only [LX.one, hc, hd, Bool.false_eq_true, if_false, if_true]
  split
  · rfl
  · cases LX.numGo 0 ((c :: r).takeWhile LX.digit) <;> rfl
/-- What the loop over the digits keeps. -/
structure NumAt (w wr : World) (l k k1 bb : Nat) (s t : ByteArray) (N : Nat) : Prop where
  lat : LAt wr l s k1
  only : Only l w wr
  zero : TAt wr w.heap.size 0 0 ⟨#[]⟩ 0
  tok : TAt wr (w.heap.size + 1) 2 k t N
  bytes : ∀ j (hj : j < t.size), wr.cell? ⟨bb, j, none⟩ = some (.int .u8 (t[j]'hj).toNat)
  far : w.heap.size + 1 < bb
  small : N ≤ 9223372036854775808
theorem NumAt.next {w wr : World} {l k k1 bb : Nat} {s t : ByteArray} {N : Nat} (h : NumAt w wr l k k1 bb s t N) (hl : l < w.heap.size) (M : Nat) (hM : M ≤ 9223372036854775808) (i : Int) (hi : i = (M : Int)) :
    NumAt w (wr.setCell ⟨w.heap.size + 1, 3, none⟩ (.int .u64 i)) l k k1 bb s t M := by
  subst hi
  have hf := h.far
  have hne : bb ≠ w.heap.size + 1 := by omega
  refine ⟨h.lat.store (by omega) _ _, h.only.store (by omega) _ _, h.zero.far (by omega) _ _, h.tok.num _, fun j hj => ?_, hf, hM⟩
  exact (World.cell?_of_block (w := wr) (Below.heap_setCell wr ⟨w.heap.size + 1, 3, none⟩ _ bb hne)).trans (h.bytes j hj)
theorem num_bound (N e : Nat) (h : (N : Int) ≤ (9223372036854775808 - (e : Int)) / 10) (he : e ≤ 9) : 10 * N + e ≤ 9223372036854775808 := by
  omega
theorem num_neg (N e : Nat) (h : (N : Int) ≤ (9223372036854775808 - (e : Int)) / 10) (he : e ≤ 9) : ¬ ((9223372036854775808 - e) / 10 < N) := by
  omega
theorem num_pos (N e : Nat) (h : (9223372036854775808 - (e : Int)) / 10 < (N : Int)) (he : e ≤ 9) : (9223372036854775808 - e) / 10 < N := by
  omega
theorem num_cast (N e : Nat) : (10 * (N : Int) + (e : Int)) = ((10 * N + e : Nat) : Int) := by
  push_cast
  rfl
theorem num_cast1 (i : Nat) : (i : Int) + 1 = ((i + 1 : Nat) : Int) := by
  push_cast
  rfl
theorem num_wrap (i n : Nat) (h : i < n) (hn : n ≤ 4000) : wrap64 ((i : Int) + 1) = ((i + 1 : Nat) : Int) := by
  unfold wrap64
  omega
theorem num_meas (n i : Nat) (h : i < n) : n - (intOf (Value.int .i64 ((i : Int) + 1))).toNat < n - (intOf (Value.int .i64 (i : Int))).toNat := by
  simp only [intOf]
  omega
theorem num_step (t : ByteArray) (i N e : Nat) (hi : i < t.size) (he : (t[i]'hi).toNat = e + 48) :
    LX.numGo N (t.data.toList.drop i) = if (9223372036854775808 - e) / 10 < N then none else LX.numGo (10 * N + e) (t.data.toList.drop (i + 1)) := by
  rw [at_head t i hi]
  simp only [LX.numGo]
  rw [show (t[i]'hi).toNat - 48 = e from by omega]
theorem byte_in (s : ByteArray) (k : Nat) (hk : k < s.size) : s.data.toList[k]? = some s[k] := by
  have h' : k < s.data.toList.length := by simpa using hk
  rw [List.getElem?_eq_getElem h']
  simp
  rfl
set_option maxHeartbeats 4000000 in
set_option maxRecDepth 100000 in
theorem number_walk (l k : Nat) (s : ByteArray) (w0 w : World) (hT : Tabs w0) (hb : Below w0.heap.size w0 w) (hl : w0.heap.size ≤ l) (h : LAt w l s k) (hk : k < s.size) (hc : LX.letter s[k] = false) (hd : LX.digit s[k] = true) :
    Calls Tryd.prog 98 #[.pointer (some ⟨l, 0, none⟩)] w fun e w' => OneIs l s k w e w' := by
  have H := Lib.hid h
  obtain ⟨c0, c1, fz⟩ := h.c0
  have HT := Lib.hid hT
  have HB := Lib.hid hb
  have b1 := fun o => (h.alloc o).c0.2.1
  have hlt := h.lt
  have HK := Lib.hid (And.intro hc hd)
  clear h hT hb hc hd
  obtain ⟨Q, hQ⟩ : ∃ Q, OneIs l s k w = Q := ⟨_, rfl⟩
  rw [show (fun e w' => OneIs l s k w e w') = Q from hQ]
  have HQ := Lib.hid hQ
  clear hQ
  go_enter Tryd.func98, Tryd.ntmps98
  go_wp2_with (fail)
  refine (run_digit l k s _ ((H.out.alloc _).alloc _)).mono ?_
  rintro e w1 ⟨k1, rfl, hL1, hO1, hk1, hw1⟩
  have hA1 : TAt w1 w.heap.size 0 0 ⟨#[]⟩ 0 := ⟨hO1.blk ((Below.heap_alloc _ _ _ (by simp)).trans (blk_new w _)) (by omega)⟩
  have hB1 : TAt w1 (w.heap.size + 1) 2 k ⟨#[]⟩ 0 := ⟨hO1.blk (heap_alloc2_new w _ _) (by omega)⟩
  have hO : Only l w w1 := (((Only.refl l w).alloc _).alloc _).trans hO1
  clear hO1
  obtain ⟨t, ht⟩ : ∃ t, s.extract k k1 = t := ⟨_, rfl⟩
  rw [ht]
  obtain ⟨et, ek⟩ := run_end LX.digit ht hk1 hL1.le hw1
  have htk : t.data.toList = s[k] :: (s.data.toList.drop (k + 1)).takeWhile LX.digit := by
    rw [← et, at_head s k hk, List.takeWhile_cons, if_pos HK.out.2]
  have hsz : 0 < t.size := by
    have : t.size = t.data.toList.length := by simp
    rw [this, htk]
    simp
  have ht0 : t[0] = s[k] := by
    have h1 : t.data.toList[0]? = some t[0] := by
      rw [List.getElem?_eq_getElem (by simpa using hsz)]
      rfl
    rw [htk] at h1
    simpa using h1.symm
  have hds : ∀ c ∈ t.data.toList, LX.digit c = true := by
    rw [← et]
    intro c hc
    have : ∀ (l : List UInt8), c ∈ l.takeWhile LX.digit → LX.digit c = true := by
      intro l
      induction l with
      | nil => simp
      | cons a r ih =>
        rw [List.takeWhile_cons]
        split
        · intro h
          rcases List.mem_cons.1 h with rfl | h
          · assumption
          · exact ih h
        · simp
    exact this _ hc
  have HH := Lib.hid (And.intro hL1 (And.intro hA1 (And.intro hO hB1)))
  have HW := Lib.hid (And.intro et (And.intro ek hds))
  obtain ⟨a0, a1, a2, a3, af⟩ := hA1.c
  obtain ⟨d0, d1, d2, d3, df⟩ := hB1.c
  clear hL1 hO hw1 hA1 hB1 et ek hds htk
  have HT0 := Lib.hid ht0
  clear ht0
  have hsz' : (0 : Int) < (t.size : Int) := by omega
  clear ht
  obtain ⟨c, hc⟩ : ∃ c : Nat, t[0].toNat = c := ⟨_, rfl⟩
  have hcv := fun W => run_bytes_of_string (P := Tryd.prog) W 9 139 5 t Tryd.underlying9 Tryd.underlying139 Tryd.underlying5
  obtain ⟨CP, hCP⟩ : ∃ CP : World → Nat, ∀ W, grownCap W t.size 0 5 = CP W := ⟨_, fun _ => rfl⟩
  simp only [hCP] at hcv
  clear hCP
  have hguard : ((c : Int) = 48 ∧ 1 < (t.size : Int)) ∨ ((c : Int) = 48 ∧ ¬ 1 < (t.size : Int)) ∨ ¬ ((c : Int) = 48) := by omega
  go_wp2_with (fail)
  · have h48 : (c : Int) = 48 := by assumption
    have h1 : 1 < (t.size : Int) := by assumption
    (try simp only [Exit.inBlock, Exit.then])
    refine bodyPost_ret (results_cell_row_tmp rfl _ _ w.heap.size 36 (tokV 0 0 [] 0) (0, 0) _ rfl (TAt.struct (a := 0) (b := 0) (t := ⟨#[]⟩) (n := 0) (by repeat (first | exact HH.out.2.1 | apply TAt.num | apply TAt.text | apply TAt.place | apply TAt.kind | (apply TAt.far'; (show w.heap.size ≠ w.heap.size + 1); omega)))) Tryd.underlying36 rfl (by kernel_rfl)) rfl ?_
    rw [← HQ.out]
    refine ⟨k1, by repeat (first | exact HH.out.1 | (apply LAt.store'; omega)), by repeat (first | exact HH.out.2.2.1 | (apply Only.store'; omega)), ?_⟩
    rw [one_digit _ _ _ (at_head s k hk) HK.out.1 HK.out.2, HW.out.1]
    have hc48 : s[k] = 48 := by
      rw [← HT0.out, ← UInt8.toNat_inj, hc]
      have h5 : UInt8.toNat 48 = 48 := rfl
      omega
    rw [if_pos (by rw [hc48]; simp; omega)]
    rfl
  all_goals
    have hno : ¬ ((s[k] == 48 && decide (t.data.toList.length > 1)) = true) := by
      intro h
      simp at h
      have h2 : c = 48 := by rw [← hc, HT0.out, h.1]; rfl
      omega
    have HNO := Lib.hid hno
    clear hno
    generalize hW : World.drew (World.alloc _ _) = W
    have hN : NumAt w W l k k1 w1.heap.size s t 0 := by
      have hsz2 : (w1.setCell ⟨w.heap.size + 1, 2, none⟩ (.string t)).heap.size = w1.heap.size := by simp [World.setCell]
      have hgt : w.heap.size + 1 < w1.heap.size := blk_lt HH.out.2.2.2.struct
      have hlw := HH.out.1.lt
      have hLs := HH.out.1.store (show l ≠ w.heap.size + 1 by omega) 2 (.string t)
      have hOs := HH.out.2.2.1.store (show w.heap.size ≤ w.heap.size + 1 by omega) 2 (.string t)
      have hAs := HH.out.2.1.far (show w.heap.size ≠ w.heap.size + 1 by omega) 2 (.string t)
      have hBs := HH.out.2.2.2.text t
      generalize w1.setCell ⟨w.heap.size + 1, 2, none⟩ (.string t) = V at hW hLs hOs hAs hBs hsz2
      rw [← hW]
      refine ⟨(hLs.alloc _).drewN 1, (hOs.alloc _).drewN 1, (hAs.below (below_alloc (Below.refl _ _) _)).drewN 1, (hBs.below (below_alloc (Below.refl _ _) _)).drewN 1, ?_, hgt, by omega⟩
      intro j hj
      have h1 := blk_new V (.cells (bytesRow t (CP V)) 5 ((bytesRow t (CP V)).size, (bytesRow t (CP V)).size + 1))
      rw [hsz2] at h1
      have h2 := byte_in t j hj
      have h3 : (bytesRow t (CP V))[j]? = some (.int .u8 (t[j]'hj).toNat) := by
        unfold bytesRow
        rw [Array.getElem?_append_left (by simpa using hj), Array.getElem?_map, ← Array.getElem?_toList, h2]
        rfl
      show (match (World.drew (V.alloc _)).heap[w1.heap.size]? with | some (.cells cs _ _) => cs[j]? | _ => none) = _
      rw [show (World.drew (V.alloc (.cells (bytesRow t (CP V)) 5 ((bytesRow t (CP V)).size, (bytesRow t (CP V)).size + 1)))).heap[w1.heap.size]? = _ from h1]
      exact h3
    clear hW a0 a1 a2 a3 af d0 d1 d2 d3 df
    go_loopw [6, 7, 31] (fun _ _ v wr => ∃ i N : Nat, i ≤ t.size ∧ v = .int .i64 i ∧ Hid (NumAt w wr l k k1 w1.heap.size s t N) ∧ Hid (LX.numGo 0 t.data.toList = LX.numGo N (t.data.toList.drop i))) (fun _ _ v _ => t.size - (intOf v).toNat)
    case atStart => exact ⟨0, 0, by omega, rfl, Lib.hid hN, Lib.hid (by simp)⟩
    case round =>
      obtain ⟨i, N, hi, rfl, HG, HE⟩ := hrel
      obtain ⟨d0, d1, d2, d3, df⟩ := HG.out.tok.c
      obtain ⟨a0, a1, a2, a3, af⟩ := HG.out.zero.c
      have hNs := HG.out.small
      rcases Nat.lt_or_ge i t.size with hlt2 | hge
      · have hlt' : (i : Int) < (t.size : Int) := by omega
        have hb := HG.out.bytes i hlt2
        have hd := HW.out.2.2 (t[i]'hlt2) (List.mem_of_getElem? (byte_in t i hlt2))
        rw [digit_iff] at hd
        obtain ⟨e, he⟩ : ∃ e, (t[i]'hlt2).toNat = e + 48 := ⟨(t[i]'hlt2).toNat - 48, by omega⟩
        have he9 : e ≤ 9 := by omega
        have hb2 : wr.cell? ⟨w1.heap.size, i, none⟩ = some (.int .u8 ((e : Int) + 48)) := by rw [hb, he]; rfl
        have HEq := Lib.hid he
        clear hb hd he
        have HTL : Hid (t.size ≤ 4000) := by
          have h5 := HW.out.2.1
          have h6 := HG.out.lat.le
          have h7 := HG.out.lat.small
          have h8 : t.data.toList.length = t.size := by simp
          exact Lib.hid (by omega)
        go_wp2_with fail
        · have hov : (9223372036854775808 - (e : Int)) / 10 < (N : Int) := by assumption
          (try simp only [Exit.inBlock, Exit.then])
          refine bodyPost_ret (results_cell_row_tmp rfl _ _ w.heap.size 36 (tokV 0 0 [] 0) (0, 0) _ rfl (TAt.struct (a := 0) (b := 0) (t := ⟨#[]⟩) (n := 0) (by repeat (first | exact HG.out.zero | apply TAt.num | apply TAt.text | apply TAt.place | apply TAt.kind | (apply TAt.far'; (show w.heap.size ≠ w.heap.size + 1); omega)))) Tryd.underlying36 rfl (by kernel_rfl)) rfl ?_
          rw [← HQ.out]
          refine ⟨k1, by repeat (first | exact HG.out.lat | (apply LAt.store'; omega)), by repeat (first | exact HG.out.only | (apply Only.store'; omega)), ?_⟩
          rw [one_digit _ _ _ (at_head s k hk) HK.out.1 HK.out.2, HW.out.1]
          rw [if_neg HNO.out, HE.out, num_step t i N e hlt2 HEq.out, if_pos (num_pos N e hov he9)]
          rfl
        · have hov : (N : Int) ≤ (9223372036854775808 - (e : Int)) / 10 := by assumption
          refine ⟨⟨i + 1, 10 * N + e, hlt2, ?_, Lib.hid ?_, Lib.hid ?_⟩, ?_⟩
          · first
              | exact congrArg (Value.int .i64) (num_cast1 i)
              | exact congrArg (Value.int .i64) (num_wrap i t.size hlt2 HTL.out)
          · exact NumAt.next HG.out hlt (10 * N + e) (num_bound N e hov he9) (10 * (N : Int) + (e : Int)) (num_cast N e)
          · rw [HE.out, num_step t i N e hlt2 HEq.out, if_neg (num_neg N e hov he9)]
          · first
              | exact num_meas t.size i hlt2
              | (rw [num_wrap i t.size hlt2 HTL.out, ← num_cast1]; exact num_meas t.size i hlt2)
      · obtain rfl : i = t.size := by omega
        go_wp2_with fail
        (try simp only [Exit.inBlock, Exit.then])
        refine bodyPost_ret (results_cell_row_tmp rfl _ _ w.heap.size 36 (tokV 2 k t.data.toList N) (0, 0) _ rfl (TAt.struct (a := 2) (b := k) (t := t) (n := N) (by repeat (first | exact HG.out.zero | apply TAt.num | apply TAt.text | apply TAt.place | apply TAt.kind | (apply TAt.far'; (show w.heap.size ≠ w.heap.size + 1); omega)))) Tryd.underlying36 rfl (by kernel_rfl)) rfl ?_
        rw [← HQ.out]
        refine ⟨k1, by repeat (first | exact HG.out.lat | (apply LAt.store'; omega)), by repeat (first | exact HG.out.only | (apply Only.store'; omega)), ?_⟩
        rw [one_digit _ _ _ (at_head s k hk) HK.out.1 HK.out.2, HW.out.1]
        rw [if_neg HNO.out, HE.out, List.drop_eq_nil_of_le (by simp)]
        exact ⟨by rfl, HW.out.2.1⟩
end Go.Proofs.YtnlkjimpefebbaaDoor.Lx
