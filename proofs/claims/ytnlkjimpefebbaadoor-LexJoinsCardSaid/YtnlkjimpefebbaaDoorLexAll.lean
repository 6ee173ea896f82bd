/- The lexer's All, walked. -/
import Derived.Test.YtnlkjimpefebbaaDoorLexAllLaw
namespace Go.Proofs.YtnlkjimpefebbaaDoor.Lx
set_option linter.unusedVariables false
open Go Go.RowKit Go.Proofs.YtnlkjimpefebbaaDoorW.PrintWords Go.Proofs.YtnlkjimpefebbaaDoorW.PrintLast Go.Proofs.YtnlkjimpefebbaaDoorW.PrintMore

theorem blk2 {w : World} {g : Nat} {t : TypeId} {a b : Value} (h : w.heap[g]? = some (.cells #[a, b] t (0, 0))) : w.cell? ⟨g, 0, none⟩ = some a ∧ w.cell? ⟨g, 1, none⟩ = some b ∧ ∀ j, w.frozen? ⟨g, j, none⟩ = false :=
  ⟨blk_cell h 0, blk_cell h 1, fun j => blk_frozen h j⟩
theorem blk_set2 {w : World} {g : Nat} {t : TypeId} {a b : Value} (h : w.heap[g]? = some (.cells #[a, b] t (0, 0))) (a' b' : Value) : ((w.setCell ⟨g, 0, none⟩ a').setCell ⟨g, 1, none⟩ b').heap[g]? = some (.cells #[a', b'] t (0, 0)) :=
  blk_put (blk_put h 0 a' rfl) 1 b' rfl
theorem own_set2 {w5 : World} {base f m n : Nat} {v v5 : Value} {xs : List Value} (h : w5.ownsRow base 36 4 v5 n xs) (hf : v.ownBlock ≠ some f) (hat : v5.ownBlock = v.ownBlock ∨ ∃ b, v5.ownBlock = some b ∧ m ≤ b) (hm : f < m) (a b : Value) :
    ((w5.setCell ⟨f, 0, none⟩ a).setCell ⟨f, 1, none⟩ b).ownsRow base 36 4 v5 n xs := by
  have hne : some f ≠ v5.ownBlock := by
    rcases hat with e | ⟨b, e, hb⟩
    · rw [e]; exact fun e => hf e.symm
    · rw [e]; simp; omega
  exact own_setCell (own_setCell h hne _) hne _
theorem AllAt.behind {w0 wr w2 w5 : World} {l f k : Nat} {s : ByteArray} {v : Value} {done : List LX.Tok} (h : AllAt w0 wr l f s k v done) (hO : Only l wr w2) (cs : Array Value)
    (hg : (w2.alloc (.cells cs 36)).grownBy w5 v.ownBlock) : w5.heap[f]? = some (.cells #[.int .i64 0, .int .i64 0] 27 (0, 0)) ∧ w5.heap[w2.heap.size]? = some (.cells cs 36 (0, 0)) := by
  have hsz : (w2.alloc (.cells cs 36)).heap.size = w2.heap.size + 1 := by simp
  have hf2 := hO.blk h.fault h.fl
  have hflt := blk_lt hf2
  refine ⟨?_, ?_⟩
  · exact (hg.block f (by omega) (fun e => h.farf e.symm)).trans ((Below.heap_alloc w2 _ f hflt).trans hf2)
  · refine (hg.block w2.heap.size (by omega) (fun e => ?_)).trans (blk_new w2 _)
    have h1 := (h.row.lt _ e.symm).2
    have h2 := hO.size
    omega
theorem one_kind (l : List UInt8) (k : Nat) (t : List UInt8) (n : Nat) (h : LX.one l = .ok (k, t, n)) : k ≠ 5 := by
  match l, h with
  | [], h => simp [LX.one] at h
  | c :: r, h =>
    unfold LX.one at h
    simp only at h
    (repeat' split at h) <;> first | (cases h; done) | (simp at h; omega)
theorem one_err (l : List UInt8) (c : Nat) (h : LX.one l = .error c) : c ≠ 0 := by
  match l, h with
  | [], h => simp [LX.one] at h; omega
  | c :: r, h =>
    unfold LX.one at h
    simp only at h
    (repeat' split at h) <;> first | (cases h; done) | (simp at h; omega)
theorem all_from (s : ByteArray) (hs : s.size ≤ 4000) : LX.all s.data.toList = from_ s 0 := by
  unfold LX.all from_
  have : s.data.toList.length = s.size := by simp
  rw [this, if_neg (by omega)]
  rfl
theorem AllAt.start (w : World) (s : ByteArray) (hs : s.size ≤ 4000) : AllAt w ((w.alloc (.cells #[.int .i64 0, .int .i64 0] 27)).alloc (.cells #[.string s, .int .i64 0] 113)) (w.heap.size + 1) w.heap.size s 0 (.slice none 0 0) [] := by
  refine ⟨⟨heap_alloc2_new w _ _, by omega, hs⟩, below_alloc (below_alloc (Below.refl _ _) _) _, by omega, (Below.heap_alloc _ _ _ (by simp)).trans (blk_new w _), by omega, by omega, World.ownsRow_nil _ _ _ _, by simp [Value.ownBlock], by simp [Value.ownBlock], by simp, ?_⟩
  cases from_ s 0 <;> rfl
/-- What All hands back. -/
def AllIs (s : ByteArray) (w : World) (e : Ending) (w' : World) : Prop := Below w.heap.size w w' ∧ match LX.all s.data.toList with
      | .ok r => ∃ v, e = .returned (.tuple #[v, .agg #[.int .i64 0, .int .i64 0]]) ∧ w'.ownsRow w.heap.size 36 4 v r.length (tokCells r)
      | .error (k, c) => e = .returned (.tuple #[.slice none 0 0, .agg #[.int .i64 k, .int .i64 c]])
theorem AllIs.err {w w' wr : World} {l f k k1 c : Nat} {s : ByteArray} {v : Value} {done : List LX.Tok} (hs : s.size ≤ 4000) (h : AllAt w wr l f s k v done) (hb : Below w.heap.size w w')
    (hskip : LX.skip false (s.data.toList.drop k) = s.data.toList.drop k1) (hk : k1 < s.size) (hone : LX.one (s.data.toList.drop k1) = .error c) : AllIs s w (.returned (.tuple #[.slice none 0 0, .agg #[.int .i64 k1, .int .i64 c]])) w' := by
  refine ⟨hb, ?_⟩
  rw [all_from s hs, h.law, from_err s k k1 c hskip hk hone]
  rfl
theorem AllIs.fin {w w' wr : World} {l f k : Nat} {s : ByteArray} {v v5 : Value} {done : List LX.Tok} (hs : s.size ≤ 4000) (h : AllAt w wr l f s k v done) (hb : Below w.heap.size w w')
    (hskip : LX.skip false (s.data.toList.drop k) = s.data.toList.drop s.size) (hown : w'.ownsRow w.heap.size 36 4 v5 (done.length + 1) (tokCells done ++ [.int .i64 5, .int .i64 s.size, .string ⟨#[]⟩, .int .u64 0])) :
    AllIs s w (.returned (.tuple #[v5, .agg #[.int .i64 0, .int .i64 0]])) w' := by
  refine ⟨hb, ?_⟩
  rw [all_from s hs, h.law, from_end s k hskip]
  refine ⟨v5, rfl, ?_⟩
  show w'.ownsRow w.heap.size 36 4 v5 (done ++ [(⟨5, s.size, [], 0⟩ : LX.Tok)]).length (tokCells (done ++ [(⟨5, s.size, [], 0⟩ : LX.Tok)]))
  rw [tokCells_add, List.length_append]
  exact hown
set_option maxHeartbeats 4000000 in
set_option maxRecDepth 100000 in
theorem all_walk (s : ByteArray) (w : World) (hT : Tabs w) (hs : s.size ≤ 4000) :
    Calls Tryd.prog 17 #[.string s] w fun e w' => AllIs s w e w' := by
  have HT := Lib.hid hT
  clear hT
  have hb : ¬ 4000 < (s.size : Int) := by omega
  have hdec : decide (4000 < (s.size : Int)) = false := by simp; omega
  clear hdec
  go_enter Tryd.func17, Tryd.ntmps17
  go_wp2_with (fail)
  go_loopg [5] (s.size + 1) (fun g v wr => ∃ k done, g = s.size + 1 - k ∧ Hid (AllAt w wr (w.heap.size + 1) w.heap.size s k v done))
  case atStart =>
    exact ⟨0, [], by omega, Lib.hid (AllAt.start w s hs)⟩
  case round =>
    obtain ⟨k, done, rfl, HA⟩ := hrel
    go_wp2_with (fail)
    refine (blanks_walk _ _ _ _ HA.out.lat).mono ?_
    rintro e w1 ⟨rfl, k0, hL1, hO1, hk0, hskip⟩
    obtain ⟨c0, c1, fz⟩ := hL1.c0
    have HX := Lib.hid (And.intro hL1 (And.intro hO1 (And.intro hk0 hskip)))
    clear hL1 hO1 hk0 hskip
    go_wp2_with (fail)
    refine (next_walk _ _ _ w _ HT.out (HX.out.2.1.below HA.out.low (by omega) HA.out.lat.lt) (by omega) HX.out.1).mono ?_
    rintro e w2 ⟨k1, k2, hL2, hO2, hk1, hk1s, hskip2, hm⟩
    have hk01 : k1 = k0 := by
      have h1 := HX.out.2.2.2
      have h2 : LX.skip false (s.data.toList.drop k0) = s.data.toList.drop k0 := by rw [← h1]; exact LX.skip_skip _ _
      rw [h2] at hskip2
      have h3 := drop_len s k0
      rw [hskip2, drop_len] at h3
      have := HX.out.1.le
      omega
    subst hk01
    have HY := Lib.hid (And.intro hL2 (And.intro hO2 hk1s))
    clear hL2 hO2 hskip2 hk1 hk1s
    have hO12 : Only (w.heap.size + 1) wr w2 := HX.out.2.1.trans HY.out.2.1
    have HR := fun o => HA.out.row_at hO12 o
    have HB2 := fun o => (hO12.below HA.out.low (by omega) HA.out.lat.lt).alloc (by have := (hO12.below HA.out.low (by omega) HA.out.lat.lt).size; exact this) o
    have HRB := Lib.hid (And.intro HR HB2)
    clear HR HB2 hO12
    have HO12 := Lib.hid (HX.out.2.1.trans HY.out.2.1)
    have hsm := HX.out.1.small
    have hfew := HA.out.few
    have hkk := HX.out.2.2.1
    have hk1s := HX.out.1.le
    have hl40 : (done.length + 1) * 40 ≤ 140737488355328 := by omega
    have hsz2 : ∀ o, w.heap.size ≤ (w2.alloc o).heap.size := fun o => (HRB.out.2 o).size
    have HS2 := Lib.hid (And.intro hsz2 hl40)
    clear hsm hfew hkk hk1s hsz2 hl40
    obtain ⟨fa0, fa1, faf⟩ := blk2 (HO12.out.blk HA.out.fault HA.out.fl)
    by_cases hend : k1 = s.size
    · rw [if_pos hend] at hm
      obtain ⟨rfl, hk2⟩ := hm
      have HZ := Lib.hid (And.intro hend hk2)
      clear hend hk2 fa0 fa1 faf
      unfold tokV
      go_wp2_with (first | ((with_reducible refine gate_builtin (b := .append) (xs := #[.tmp 32, .tmp 34]) rfl ?_); at_builtin; (refine print_append_cells (w0 := w) w.heap.size rfl (.tmp 32) (.tmp 34) 24 36 (.agg (tokV 0 0 [] 0)) 4 40 rfl Tryd.underlying24 info_tok rfl (by decide) (by decide) u5 done.length (tokCells done) [.int .i64 5, .int .i64 s.size, .string ⟨#[]⟩, .int .u64 0] rfl (show Value.slice (some ⟨w2.heap.size + 1, 0, none⟩) 1 1 = _ by simp) rfl (by simp [Value.oneCell']) (HRB.out.1 _) (HRB.out.2 _) (HS2.out.1 _) HS2.out.2 ?_); intro v5 w5 hown hb5 hg5 hat5; have HG := Lib.hid (HA.out.behind HO12.out _ hg5); obtain ⟨f0, f1, ff⟩ := blk2 HG.out.1; obtain ⟨t0, _, _, _, tf⟩ := TAt.c ⟨HG.out.2⟩; clear c0 c1 fz; have H5 := Lib.hid (And.intro hown (And.intro hb5 (And.intro hg5 hat5))); clear hown hb5 hg5 hat5 HG))
      (try simp only [Exit.inBlock, Exit.then])
      refine bodyPost_ret (results_tmp_cell_row rfl _ _ w.heap.size 27 #[.int .i64 0, .int .i64 0] (0, 0) _ rfl (blk_set2 (HA.out.behind HO12.out _ H5.out.2.2.1).1 _ _) Tryd.underlying27 rfl (by kernel_rfl)) rfl ?_
      exact AllIs.fin hs HA.out (Below.setCell (Below.setCell H5.out.2.1 (Nat.le_refl _) _) (Nat.le_refl _) _) (by rw [HX.out.2.2.2, HZ.out.1]) (own_set2 H5.out.1 HA.out.farf H5.out.2.2.2 (by have h1 := HO12.out.size; have h2 := blk_lt HA.out.fault; simp; omega) _ _)
    · have hlt : k1 < s.size := by have := HY.out.2.2; omega
      rw [if_neg hend] at hm
      have HE := Lib.hid hlt
      clear hend hlt
      cases hone : LX.one (s.data.toList.drop k1) with
      | error c =>
        rw [hone] at hm
        obtain rfl := hm
        have hc := one_err _ _ hone
        have hcz : ((c : Int) != 0) = true := by rw [bne_iff_ne]; omega
        have HO := Lib.hid hone
        have hflt : w.heap.size < w2.heap.size := by have h1 := HO12.out.size; have h2 := blk_lt HA.out.fault; omega
        have hfne : ¬ (w.heap.size = w2.heap.size) := by omega
        clear hone hc c0 c1 fz
        unfold tokV
        go_wp2_with (fail)
        (try simp only [Exit.inBlock, Exit.then])
        refine bodyPost_ret (results_tmp_cell_row rfl _ _ w.heap.size 27 #[.int .i64 k1, .int .i64 c] (0, 0) _ rfl ((Below.heap_alloc _ _ _ (by simp [World.setCell]; exact hflt)).trans (blk_set2 (HO12.out.blk HA.out.fault HA.out.fl) _ _)) Tryd.underlying27 rfl (by kernel_rfl)) rfl ?_
        exact AllIs.err hs HA.out (below_alloc (Below.setCell (Below.setCell (HO12.out.below HA.out.low (by omega) HA.out.lat.lt) (Nat.le_refl _) _) (Nat.le_refl _) _) _) HX.out.2.2.2 HE.out HO.out
      | ok p =>
        obtain ⟨kind, tx, nn⟩ := p
        rw [hone] at hm
        obtain ⟨rfl, hk2⟩ := hm
        have h5 := one_kind _ _ _ _ hone
        have h5' : ((kind : Int) == 5) = false := by rw [beq_eq_false_iff_ne]; omega
        have HO := Lib.hid (And.intro hone hk2)
        clear hone hk2 h5 fa0 fa1 faf
        unfold tokV
        go_wp2_with (first | ((with_reducible refine gate_builtin (b := .append) (xs := #[.tmp 32, .tmp 34]) rfl ?_); at_builtin; (refine print_append_cells (w0 := w) w.heap.size rfl (.tmp 32) (.tmp 34) 24 36 (.agg (tokV 0 0 [] 0)) 4 40 rfl Tryd.underlying24 info_tok rfl (by decide) (by decide) u5 done.length (tokCells done) [.int .i64 kind, .int .i64 k1, .string ⟨tx.toArray⟩, .int .u64 nn] rfl (show Value.slice (some ⟨w2.heap.size + 1, 0, none⟩) 1 1 = _ by simp) rfl (by simp [Value.oneCell']) (HRB.out.1 _) (HRB.out.2 _) (HS2.out.1 _) HS2.out.2 ?_); intro v5 w5 hown hb5 hg5 hat5; have HG := Lib.hid (HA.out.behind HO12.out _ hg5); obtain ⟨f0, f1, ff⟩ := blk2 HG.out.1; obtain ⟨t0, _, _, _, tf⟩ := TAt.c ⟨HG.out.2⟩; clear c0 c1 fz; have H5 := Lib.hid (And.intro hown (And.intro hb5 (And.intro hg5 hat5))); clear hown hb5 hg5 hat5 HG))
        go_roundg (s.size + 1 - k2)
        case measure =>
          have h1 := LX.one_pos _ _ _ _ HO.out.1
          have h2 := HO.out.2
          have h3 := HX.out.2.2.1
          have h4 := HE.out
          omega
        case rel => exact ⟨k2, done ++ [⟨kind, k1, tx, nn⟩], rfl, Lib.hid (HA.out.step (w1 := w2) HO12.out HY.out.1 kind nn tx _ HX.out.2.2.1 HE.out HO.out.2 HX.out.2.2.2 HO.out.1 H5.out.1 H5.out.2.1 H5.out.2.2.1 H5.out.2.2.2)⟩
end Go.Proofs.YtnlkjimpefebbaaDoor.Lx
