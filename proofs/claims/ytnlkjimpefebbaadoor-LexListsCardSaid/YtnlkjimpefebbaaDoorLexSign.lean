/- The lexer's signs, walked. -/
import Derived.Test.YtnlkjimpefebbaaDoorLexWords
import Derived.Lib.LaidTab
import Derived.Laws.Rows
import Derived.Laws.ResultCell
namespace Go.Proofs.YtnlkjimpefebbaaDoor.Lx
set_option linter.unusedVariables false
open Go Go.RowKit Go.Proofs.YtnlkjimpefebbaaDoorW.PrintWords Go.Proofs.YtnlkjimpefebbaaDoorW.PrintLast Go.Proofs.YtnlkjimpefebbaaDoorW.PrintMore


theorem one_sign (l : List UInt8) (c : UInt8) (r : List UInt8) (e : l = c :: r) (hc : LX.letter c = false) (hd : LX.digit c = false) :
    LX.one l = match LX.signs.find? (fun s => s.isPrefixOf l) with | some s => .ok (4, s, 0) | none => .error 1 := by
  subst e
  cases hf : LX.signs.find? (fun s => s.isPrefixOf (c :: r)) <;> simp [LX.one, hc, hd, hf]
set_option maxHeartbeats 4000000 in
theorem sign_walk (l k : Nat) (s : ByteArray) (w0 w : World) (hT : Tabs w0) (hb : Below w0.heap.size w0 w) (hl : w0.heap.size ≤ l) (h : LAt w l s k) (hk : k < s.size) (hc : LX.letter s[k] = false) (hd : LX.digit s[k] = false) :
    Calls Tryd.prog 99 #[.pointer (some ⟨l, 0, none⟩)] w fun e w' => OneIs l s k w e w' := by
  have H := Lib.hid h
  have HT := Lib.hid hT
  have HB := Lib.hid hb
  have hlt := h.lt
  have hlen : LX.signs.length = 16 := by decide +kernel
  have HK := Lib.hid (And.intro hc hd)
  clear h hT hb hc hd
  obtain ⟨Q, hQ⟩ : ∃ Q, OneIs l s k w = Q := ⟨_, rfl⟩
  rw [show (fun e w' => OneIs l s k w e w') = Q from hQ]
  have HQ := Lib.hid hQ
  clear hQ
  go_enter Tryd.func99, Tryd.ntmps99
  go_wp2_with (fail)
  have hgb : w0.heap.size ≤ w.heap.size := HB.out.size
  refine (signs_walk _ (HT.out.below (HB.out.alloc hgb _))).mono ?_
  rintro e w1 ⟨rfl, rfl⟩
  obtain ⟨W, hW⟩ : ∃ W, (w.alloc (.cells #[.int .i64 0, .int .i64 0, .string ⟨#[]⟩, .int .u64 0] 36)).alloc (.cells (strs LX.signs).toArray 9) = W := ⟨_, rfl⟩
  have hz : (w.alloc (.cells #[.int .i64 0, .int .i64 0, .string ⟨#[]⟩, .int .u64 0] 36)).heap.size = w.heap.size + 1 := by simp
  rw [hW, hz]
  have HC : Hid (∀ i (hi : i < LX.signs.length), W.cell? ⟨w.heap.size + 1, i, none⟩ = some (.string ⟨LX.signs[i].toArray⟩)) := by
    intro i hi
    rw [← hW, ← hz]
    exact strs_at w _ 9 _ _ (heap_alloc_new _ _) i hi
  have HH := Lib.hid (show LAt W l s k ∧ Only l w W ∧ TAt W w.heap.size 0 0 ⟨#[]⟩ 0 from hW ▸ ⟨(H.out.alloc _).alloc _, ((Only.refl l w).alloc _).alloc _, ⟨(Below.heap_alloc _ _ _ (by simp)).trans (blk_new w _)⟩⟩)
  clear hW hz
  go_wp2_with fail
  go_loopw [5, 8] (fun u v wr => ∃ i : Nat, i ≤ 16 ∧ v = .int .i64 i ∧ (∃ n, wr = W.drewN n) ∧ Hid (∀ j (hj : j < LX.signs.length), j < i → LX.signs[j].isPrefixOf (s.data.toList.drop k) = false)) (fun _ v _ => 16 - (intOf v).toNat)
  case atStart => exact ⟨0, by omega, rfl, ⟨0, rfl⟩, Lib.hid (fun j _ hj => by omega)⟩
  case round =>
    obtain ⟨i, hi, rfl, ⟨n, rfl⟩, HN⟩ := hrel
    obtain ⟨c0, c1, fz⟩ := HH.out.1.c0
    obtain ⟨a0, a1, a2, a3, af⟩ := HH.out.2.2.c
    rcases Nat.lt_or_ge i 16 with hlt | hge
    · have hlt' : (i : Int) < 16 := by omega
      have hle : (k : Int) ≤ (s.size : Int) := by omega
      have hi16 : i < LX.signs.length := by omega
      obtain ⟨x, hx, hc⟩ : ∃ x, LX.signs[i]'hi16 = x ∧ W.cell? ⟨w.heap.size + 1, i, none⟩ = some (.string ⟨x.toArray⟩) := ⟨_, rfl, HC.out i hi16⟩
      have hxl : x.length ≤ 2 := (show ∀ y ∈ LX.signs, y.length ≤ 2 by decide +kernel) x (hx ▸ List.getElem_mem _)
      have hsm := HH.out.1.small
      have hw1 : wrap64 ((k : Int) + (x.length : Int)) = (k : Int) + (x.length : Int) := by unfold wrap64; omega
      have hw2 : wrap64 ((k : Int) + (x.length : Int) - (x.length : Int)) = (k : Int) := by unfold wrap64; omega
      have HX := Lib.hid hx
      clear hx
      go_wp2_with fail
      go_quiet (first | (go_at_call 92; refine (Tryd.strings_HasPrefix _ _ _).mono ?_; rintro e w1 ⟨rfl, rfl⟩; exact ⟨rfl, _, rfl⟩))
      go_wp2_with fail
      · have hp : Lib.hasPrefix (s.extract k s.size).data.toList x = true := by assumption
        (try simp only [Exit.inBlock, Exit.then])
        have hpre : x <+: s.data.toList.drop k := by
          rw [Lib.extract_to_end] at hp
          exact List.isPrefixOf_iff_prefix.1 hp
        have hkl : k + x.length ≤ s.size := by
          have h1 := hpre.length_le
          rw [List.length_drop, show s.data.toList.length = s.size from by simp] at h1
          omega
        have hgl : w.heap.size ≠ l := by omega
        have hL : LAt ((W.drewN (n + nq)).setCell ⟨l, 1, none⟩ (.int .i64 ((k : Int) + (x.length : Int)))) l s (k + x.length) := (HH.out.1.drewN _).put (k + x.length) (by omega) hkl
        refine bodyPost_ret (results_cell_row_tmp rfl _ _ w.heap.size 36 (tokV 4 k x 0) (0, 0) _ rfl (TAt.struct (a := 4) (b := k) (t := ⟨x.toArray⟩) (n := 0) (by repeat (first | exact HH.out.2.2 | apply TAt.num | apply TAt.text | apply TAt.place | apply TAt.kind | apply TAt.drewN | (apply TAt.far'; exact hgl)))) Tryd.underlying36 rfl (by kernel_rfl)) rfl ?_
        rw [← HQ.out]
        refine ⟨k + x.length, by repeat (first | exact hL | (apply LAt.store'; omega)), by repeat (first | exact HH.out.2.1 | apply Only.drewN | (apply Only.store'; (show w.heap.size ≤ w.heap.size); omega) | apply Only.put), ?_⟩
        rw [one_sign _ _ _ (at_head s k hk) HK.out.1 HK.out.2]
        have hf : LX.signs.find? (fun y => y.isPrefixOf (s.data.toList.drop k)) = some x := by
          rw [List.find?_eq_some_iff_getElem]
          refine ⟨List.isPrefixOf_iff_prefix.2 hpre, i, hi16, HX.out, fun j hj => ?_⟩
          simp [HN.out j (by omega) hj]
        rw [hf]
        exact ⟨by rfl, rfl⟩
      · have hp : Lib.hasPrefix (s.extract k s.size).data.toList x = false := by assumption
        refine ⟨⟨i + 1, by omega, by simp, ⟨_, rfl⟩, Lib.hid (fun j hj hji => ?_)⟩, ?_⟩
        · rcases Nat.lt_or_ge j i with h1 | h1
          · exact HN.out j hj h1
          · obtain rfl : j = i := by omega
            rw [HX.out, ← Lib.extract_to_end s k]
            exact hp
        · simp [intOf]
          omega
    · obtain rfl : i = 16 := by omega
      go_wp2_with fail
      (try simp only [Exit.inBlock, Exit.then])
      refine bodyPost_ret (results_cell_row_tmp rfl _ _ w.heap.size 36 (tokV 0 0 [] 0) (0, 0) _ rfl (TAt.struct (a := 0) (b := 0) (t := ⟨#[]⟩) (n := 0) (by repeat (first | exact HH.out.2.2 | apply TAt.num | apply TAt.text | apply TAt.place | apply TAt.kind | apply TAt.drewN))) Tryd.underlying36 rfl (by kernel_rfl)) rfl ?_
      rw [← HQ.out]
      refine ⟨k, by repeat (first | exact HH.out.1 | apply LAt.drewN | (apply LAt.store'; omega)), by repeat (first | exact HH.out.2.1 | apply Only.drewN | (apply Only.store'; omega)), ?_⟩
      rw [one_sign _ _ _ (at_head s k hk) HK.out.1 HK.out.2]
      have hf : LX.signs.find? (fun x => x.isPrefixOf (s.data.toList.drop k)) = none := by
        rw [List.find?_eq_none]
        intro x hx
        obtain ⟨j, hj, rfl⟩ := List.mem_iff_getElem.1 hx
        simp [HN.out j hj (by omega)]
      rw [hf]
      rfl
end Go.Proofs.YtnlkjimpefebbaaDoor.Lx
