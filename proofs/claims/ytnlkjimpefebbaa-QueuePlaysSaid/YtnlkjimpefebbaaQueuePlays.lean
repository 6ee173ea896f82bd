/- The statement QueuePlays: whatever is done to a queue, it answers as the list of the page does. No condition. -/
import Derived.Test.YtnlkjimpefebbaaRows
import Derived.Test.YtnlkjimpefebbaaQueueList
import Derived.Deep.RegionHeld3
import Derived.BigQuiet
import Derived.Deep.DeepCutAuto
import Derived.Deep.Grids
import Derived.WalkKit
import Derived.ProofKit
import Derived.OpenShut
import Derived.ShutString
import Derived.ChangeOld
import Derived.Below
import Derived.SizedLaws
namespace Go.Proofs.Ytnlkjimpefebbaa.Qu
set_option linter.unusedVariables false
set_option linter.unusedSimpArgs false
open Go Go.RowKit Go.Proofs.Ytnlkjimpefebbaa.PQueuePlays Go.Proofs.YtnlkjimpefebbaaW.PrintWords Go.Proofs.YtnlkjimpefebbaaW.PrintLast Go.Proofs.YtnlkjimpefebbaaW.PrintMore
attribute [local go_sem] max2_int max_two max_three min2_int min_two

/-- Room for how many: what the page says. -/
def Most (r : Int) (m n : Nat) : Prop := (r = (m : Int) ∧ n ≤ m ∧ 1 ≤ m) ∨ (r < n ∧ m = n ∧ 1 ≤ m) ∨ (r < 1 ∧ n < 1 ∧ m = 1)

theorem new_all (r : Int) (hr : r ≤ 50) (A : Option Addr) (c : Nat) (l : List Int) (hl : l.length ≤ 10) (w : World) (hR : ReadsInt w .i64 A l.length l) : Calls Try.prog 9 #[.int .i64 r, .slice A l.length c] w fun e w' =>
    ∃ g s m, e = .returned (.pointer (some ⟨g, 0, none⟩)) ∧ Most r m l.length ∧ m ≤ 50 ∧ QRep w' g s m l.length l ∧ w.heap.size ≤ g ∧ w.heap.size ≤ s ∧ Below w.heap.size w w' := by
  by_cases h1 : r < 1
  · by_cases h2 : l.length < 1
    · obtain rfl : l = [] := List.eq_nil_of_length_eq_zero (by omega)
      refine (new_one r A c w h1).mono ?_
      rintro e w' ⟨g, s, h2, h3, h4, h5, h6⟩
      exact ⟨g, s, 1, h2, .inr (.inr ⟨h1, by simp, rfl⟩), by omega, h3, h4, h5, h6⟩
    · refine (new_any r l.length A c l w hR (by omega) (by omega) (.inr ⟨by omega, rfl⟩)).mono ?_
      rintro e w' ⟨g, s, h2, h3, h4, h5, h6⟩
      exact ⟨g, s, l.length, h2, .inr (.inl ⟨by omega, rfl, by omega⟩), by omega, h3, h4, h5, h6⟩
  · by_cases h2 : r < l.length
    · refine (new_any r l.length A c l w hR (by omega) (by omega) (.inr ⟨by omega, rfl⟩)).mono ?_
      rintro e w' ⟨g, s, h2, h3, h4, h5, h6⟩
      exact ⟨g, s, l.length, h2, .inr (.inl ⟨by omega, rfl, by omega⟩), by omega, h3, h4, h5, h6⟩
    · refine (new_any r r.toNat A c l w hR (by omega) (by omega) (.inl ⟨by omega, by omega⟩)).mono ?_
      rintro e w' ⟨g, s, h2, h3, h4, h5, h6⟩
      exact ⟨g, s, r.toNat, h2, .inl ⟨by omega, by omega, by omega⟩, by omega, h3, h4, h5, h6⟩

theorem ref_new (r : Int) (A : Option Addr) (c : Nat) (l : List Int) (m : Nat) (hm : Most r m l.length) (hl : l.length ≤ 10) (w : World) (hR : ReadsInt w .i64 A l.length l) (hc : l.length ≤ c) :
    Calls Try.prog 14 #[.int .i64 r, .slice A l.length c] w fun e w' => ∃ v : Value, e = .returned (.agg #[v, .int .i64 m, .int .i64 l.length]) ∧ Kd.R (Kd.int .i64) 2 w' w.heap.size (fun _ => True) v l ∧ Below w.heap.size w w' := by
  refine girandoleref14_New.calls r A c l l m l.length w (Kd.C_of_reads (d := (0 : Int)) (h1 := fun _ => rfl) hR) hc ?_
  unfold girandoleref14_New.f
  simp only [Option.bind_some, List.length_nil, List.nil_append, Nat.zero_add]
  rw [if_pos (by omega)]
  have e : mx (mx 1 r) (l.length : Int) = (m : Int) := by
    rcases hm with ⟨h1, h2, h3⟩ | ⟨h1, h2, h3⟩ | ⟨h1, h2, h3⟩ <;> unfold mx <;> omega
  rw [e]

theorem QRep.kept {w w1 : World} {g s cap most : Nat} {L : List Int} (h : QRep w g s cap most L) (hg : g < w.heap.size → w1.heap[g]? = w.heap[g]?) (hs : s < w.heap.size → w1.heap[s]? = w.heap[s]?) : QRep w1 g s cap most L := by
  obtain ⟨head, xs, h3, h4⟩ := h
  exact ⟨head, xs, ⟨(hg (blk_lt h3.struct)).trans h3.struct, (hs (blk_lt h3.slots)).trans h3.slots, h3.len, h3.pos, h3.small, h3.hd, h3.n_le, h3.most_le⟩, h4⟩
theorem QRep.lt {w : World} {g s cap most : Nat} {L : List Int} (h : QRep w g s cap most L) : g < w.heap.size ∧ s < w.heap.size := by
  obtain ⟨_, _, h1, _⟩ := h
  exact ⟨blk_lt h1.struct, blk_lt h1.slots⟩
theorem far3 (w : World) (b i : Nat) (x y z : Value) (h : i ≠ b) : (((w.setCell ⟨b, 0, none⟩ x).setCell ⟨b, 1, none⟩ y).setCell ⟨b, 2, none⟩ z).heap[i]? = w.heap[i]? :=
  (Below.heap_setCell _ _ _ i h).trans ((Below.heap_setCell _ _ _ i h).trans (Below.heap_setCell _ _ _ i h))
def Far (g s b : Nat) : Nat → Prop := fun k => k ≠ g ∧ k ≠ s ∧ k ≠ b

theorem ref_put (g s b : Nat) (Ax : Option Addr) (cx : Nat) (L L' : List Int) (m mo v mo' : Int) (ok : Bool) (w0 wr : World) (hg : g < wr.heap.size) (hs : s < wr.heap.size) (hb : b < wr.heap.size) (hB : Below w0.heap.size w0 wr)
    (hR : Kd.R (Kd.int .i64) 2 wr w0.heap.size (Far g s b) (.slice Ax L.length cx) L) (h : girandoleref14_Put.f L m mo v = some (L', m, mo', ok)) :
    Calls Try.prog 15 #[.agg #[.slice Ax L.length cx, .int .i64 m, .int .i64 mo], .int .i64 v] wr fun e w' => ∃ A c, e = .returned (.tuple #[.agg #[.slice A L'.length c, .int .i64 m, .int .i64 mo'], .bool ok]) ∧
      Kd.R (Kd.int .i64) 2 w' w0.heap.size (Far g s b) (.slice A L'.length c) L' ∧ Below w0.heap.size w0 w' ∧ Kept wr w' (Far g s b) := by
  refine (girandoleref14_Put.calls _ _ L m mo v L' m mo' ok w0 wr hB hR h).mono ?_
  rintro e w' ⟨v0, rfl, h1, h2, h3⟩
  obtain ⟨A, c, rfl⟩ := Kd.R_slice h1
  exact ⟨A, c, rfl, Kd.R_mono h1 (fun k hk => hk.elim id (fun hk => ⟨by omega, by omega, by omega⟩)), h2, h3⟩
theorem ref_take (g s b : Nat) (Ax : Option Addr) (cx : Nat) (L L' : List Int) (m mo v mo' : Int) (ok : Bool) (w0 wr : World) (hg : g < wr.heap.size) (hs : s < wr.heap.size) (hb : b < wr.heap.size) (hB : Below w0.heap.size w0 wr)
    (hR : Kd.R (Kd.int .i64) 2 wr w0.heap.size (Far g s b) (.slice Ax L.length cx) L) (h : girandoleref14_Take.f L m mo = some (L', m, mo', v, ok)) :
    Calls Try.prog 16 #[.agg #[.slice Ax L.length cx, .int .i64 m, .int .i64 mo]] wr fun e w' => ∃ A c, e = .returned (.tuple #[.agg #[.slice A L'.length c, .int .i64 m, .int .i64 mo'], .int .i64 v, .bool ok]) ∧
      Kd.R (Kd.int .i64) 2 w' w0.heap.size (Far g s b) (.slice A L'.length c) L' ∧ Below w0.heap.size w0 w' ∧ Kept wr w' (Far g s b) := by
  refine (girandoleref14_Take.calls _ _ L m mo L' m mo' v ok w0 wr hB hR h).mono ?_
  rintro e w' ⟨v0, rfl, h1, h2, h3⟩
  obtain ⟨A, c, rfl⟩ := Kd.R_slice h1
  exact ⟨A, c, rfl, Kd.R_mono h1 (fun k hk => hk.elim id (fun hk => ⟨by omega, by omega, by omega⟩)), h2, h3⟩
theorem put_f_full (L : List Int) (m : Nat) (mo v : Int) (h : m ≤ L.length) : girandoleref14_Put.f L m mo v = some (L, (m : Int), mo, false) := by
  unfold girandoleref14_Put.f
  rw [if_pos (by omega)]
theorem put_f_room (L : List Int) (m mo : Nat) (v : Int) (h : L.length < m) (hm : m ≤ 50) : girandoleref14_Put.f L m mo v = some (L ++ [v], (m : Int), ((max mo (L.length + 1) : Nat) : Int), true) := by
  unfold girandoleref14_Put.f
  rw [if_neg (by omega)]
  simp only [Option.bind_some, List.nil_append, List.length_nil, List.length_append, List.length_singleton]
  rw [if_pos (by omega), if_pos (by omega)]
  have e : mx (mo : Int) ((0 + L.length + 1 : Nat) : Int) = ((max mo (L.length + 1) : Nat) : Int) := by
    unfold mx
    split <;> omega
  rw [e]
theorem take_f_none (m : Nat) (mo : Int) : girandoleref14_Take.f [] m mo = some ([], (m : Int), mo, 0, false) := by
  unfold girandoleref14_Take.f
  rw [if_pos (by simp)]
theorem take_f_some (a : Int) (L : List Int) (m : Nat) (mo : Int) (h : L.length ≤ 200) : girandoleref14_Take.f (a :: L) m mo = some (L, (m : Int), mo, a, true) := by
  unfold girandoleref14_Take.f
  rw [if_neg (by rw [List.length_cons]; omega), if_pos (by rw [List.length_cons]; omega)]
  simp only [Option.bind_some, List.nil_append, List.length_nil, List.length_cons]
  rw [if_pos (by omega)]
  simp only [List.drop_succ_cons, List.drop_zero]
  rw [if_pos (by omega)]
  simp [rd]

/-- The page's queue in its variable, block b. -/
def XAt (w0 wr : World) (g s b m mo : Nat) (L : List Int) : Prop :=
  ∃ Ax cx n, n = L.length ∧ wr.heap[b]? = some (.cells #[.slice Ax n cx, .int .i64 m, .int .i64 mo] 34 (0, 0)) ∧ Kd.R (Kd.int .i64) 2 wr w0.heap.size (Far g s b) (.slice Ax n cx) L
def RelP (w0 : World) (g s b m n : Nat) (i : Value) (wr : World) : Prop :=
  ∃ (k mo : Nat) (L : List Int), k ≤ n ∧ k ≤ 80 ∧ i = .int .i64 k ∧ QRep wr g s m mo L ∧ XAt w0 wr g s b m mo L ∧ Below w0.heap.size w0 wr

theorem cells3 {w : World} {b : Nat} {x y z : Value} {t : TypeId} (h : w.heap[b]? = some (.cells #[x, y, z] t (0, 0))) : w.cell? ⟨b, 0, none⟩ = some x ∧ w.cell? ⟨b, 1, none⟩ = some y ∧ w.cell? ⟨b, 2, none⟩ = some z := by
  refine ⟨?_, ?_, ?_⟩ <;> simp [World.cell?, h]
theorem Stays.drawn {g s : Nat} {w w' : World} (h : Drawn0 w w') : Stays g s w w' := by
  obtain ⟨n, rfl⟩ := h
  exact ⟨fun B w0 hb _ _ => pw_below_drewN hb n, Nat.le_refl _, fun i _ _ => rfl⟩
theorem after_ (w0 w4 w5 : World) (g s b : Nat) (v x y z a0 a1 a2 : Value) (o : Obj) (L : List Int) (hb : w0.heap.size ≤ b) (hg : w0.heap.size ≤ g) (hs : w0.heap.size ≤ s) (hbg : b ≠ g) (hbs : b ≠ s)
    (hx : w4.heap[b]? = some (.cells #[a0, a1, a2] 34 (0, 0))) (hR : Kd.R (Kd.int .i64) 2 w4 w0.heap.size (Far g s b) v L) (hB : Below w0.heap.size w0 w4)
    (st : Stays g s ((((w4.setCell ⟨b, 0, none⟩ x).setCell ⟨b, 1, none⟩ y).setCell ⟨b, 2, none⟩ z).alloc o) w5) :
    w5.heap[b]? = some (.cells #[x, y, z] 34 (0, 0)) ∧ Kd.R (Kd.int .i64) 2 w5 w0.heap.size (Far g s b) v L ∧ Below w0.heap.size w0 w5 := by
  refine ⟨?_, ?_, ?_⟩
  · rw [st.keep b hbg hbs]
    exact blk_alloc (blk_set (blk_set (blk_set hx 0 x) 1 y) 2 z) o
  · have h1 := Kd.R_far (Kd.R_far (Kd.R_far hR (p := ⟨b, 0, none⟩) (fun k hk => hk.2.2) x) (p := ⟨b, 1, none⟩) (fun k hk => hk.2.2) y) (p := ⟨b, 2, none⟩) (fun k hk => hk.2.2) z
    exact Kd.R_step (Kd.R_below h1 (below_alloc (Below.refl _ _) o)) (fun k hk _ => st.keep k hk.1 hk.2.1)
  · exact st.below _ _ ((((hB.setCell hb _).setCell hb _).setCell hb _).alloc (by have := hB.size; simpa using this) o) hg hs

theorem list_at (g s cap most : Nat) (L : List Int) (w : World) (h : QRep w g s cap most L) :
    Calls Try.prog 17 #[.pointer (some ⟨g, 0, none⟩)] w fun e w' => ∃ A c, e = .returned (.slice A L.length c) ∧ L.length ≤ c ∧ Kd.C (Kd.int .i64) w' A L.length L ∧ Below w.heap.size w w' := by
  refine (list_any g s cap most L w h).mono ?_
  rintro e w' ⟨v, rfl, ho, hb⟩
  obtain ⟨A, c, rfl, hr⟩ := own_reads ho
  exact ⟨A, c, rfl, own_le ho, Kd.C_of_reads (d := (0 : Int)) (h1 := fun _ => rfl) hr, hb⟩
theorem same_at (A B : Option Addr) (c d : Nat) (L : List Int) (w : World) (hL : L.length ≤ 1000) (hA : Kd.C (Kd.int .i64) w A L.length L) (hc : L.length ≤ c) (hB : Kd.C (Kd.int .i64) w B L.length L) (hd : L.length ≤ d) :
    Calls Try.prog 13 #[.slice A L.length c, .slice B L.length d] w fun e w' => e = .returned (.int .i64 0) ∧ Drawn0 w w' :=
  girandolelaw11_Same.calls _ A c L B d L 0 w hA hc hB hd (same_f1 L (by omega))

theorem after2_ (w0 w4 w5 : World) (g s b : Nat) (v x y z a0 a1 a2 : Value) (o : Obj) (L : List Int) (hb : w0.heap.size ≤ b) (hg : w0.heap.size ≤ g) (hs : w0.heap.size ≤ s) (hbg : b ≠ g) (hbs : b ≠ s)
    (hx : w4.heap[b]? = some (.cells #[a0, a1, a2] 34 (0, 0))) (hR : Kd.R (Kd.int .i64) 2 w4 w0.heap.size (Far g s b) v L) (hB : Below w0.heap.size w0 w4) (st : Stays g s (w4.alloc o) w5) :
    w5.heap[b]? = some (.cells #[a0, a1, a2] 34 (0, 0)) ∧ (((w5.setCell ⟨b, 0, none⟩ x).setCell ⟨b, 1, none⟩ y).setCell ⟨b, 2, none⟩ z).heap[b]? = some (.cells #[x, y, z] 34 (0, 0)) ∧
      Kd.R (Kd.int .i64) 2 (((w5.setCell ⟨b, 0, none⟩ x).setCell ⟨b, 1, none⟩ y).setCell ⟨b, 2, none⟩ z) w0.heap.size (Far g s b) v L ∧ Below w0.heap.size w0 (((w5.setCell ⟨b, 0, none⟩ x).setCell ⟨b, 1, none⟩ y).setCell ⟨b, 2, none⟩ z) := by
  have h0 : w5.heap[b]? = some (.cells #[a0, a1, a2] 34 (0, 0)) := (st.keep b hbg hbs).trans (blk_alloc hx o)
  refine ⟨h0, blk_set (blk_set (blk_set h0 0 x) 1 y) 2 z, ?_, ?_⟩
  · have h1 := Kd.R_step (Kd.R_below hR (below_alloc (Below.refl _ _) o)) (w1 := w5) (fun k hk _ => st.keep k hk.1 hk.2.1)
    exact Kd.R_far (Kd.R_far (Kd.R_far h1 (p := ⟨b, 0, none⟩) (fun k hk => hk.2.2) x) (p := ⟨b, 1, none⟩) (fun k hk => hk.2.2) y) (p := ⟨b, 2, none⟩) (fun k hk => hk.2.2) z
  · have h2 := st.below _ _ (below_alloc hB o) hg hs
    exact ((h2.setCell hb _).setCell hb _).setCell hb _
def Mid (w : World) (g s b m : Nat) (wc : World) : Prop := ∃ (mo : Nat) (L : List Int), QRep wc g s m mo L ∧ XAt w wc g s b m mo L ∧ Below w.heap.size w wc

set_option maxRecDepth 100000 in
set_option maxHeartbeats 1000000 in
theorem plays_core (room j v r : Int) (A B : Option Addr) (c cb : Nat) (l y : List Int) (bs : List Bool) (w : World) (hr : ReadsInt w .i64 A y.length y) (hc : y.length ≤ c) (hy : y.length ≤ 10)
    (hrr : (if 50 < room then 50 else room) = r) (hr50 : r ≤ 50)
    (hj : (if 10 < (l.length : Int) then 10 else (l.length : Int)) = j)
    (hsl : ∀ W : World, (Instr.slice 22 (.slice A l.length c) none (some (.int .i64 j)) none).run Try.prog W = .ok (.slice A y.length c) W)
    (hbs : ReadsOf Value.bool false w B bs.length bs) (hcb : bs.length ≤ cb) (hmb : bs.length ≤ 9223372036854775807) :
    Calls Try.prog 4 #[.int .i64 room, .slice A l.length c, .slice B bs.length cb, .int .i64 v] w fun e w' => e = .returned (.bool true) ∧ Below w.heap.size w w' := by
  have HR := Lib.hid hr
  have HBS := Lib.hid hbs
  clear hr hbs
  have HB := Lib.hid (Below.refl w.heap.size w)
  all_goals
    go_enter Try.func4, Try.ntmps4
    go_wp2_with fail
    refine (awake_any _).mono ?_
    rintro e w1 ⟨rfl, hb1⟩
    have HB1 := Lib.hid (below_step HB.out hb1)
    clear HB hb1
    go_wp2_with fail
    refine (new_all _ (by omega) _ _ _ hy _ (HR.out.below HB1.out)).mono ?_
    rintro e w2 ⟨g, s, m, rfl, hm, hm50, hq, hg, hs, hb⟩
    have HB2 := Lib.hid (below_step HB1.out hb)
    have HM := Lib.hid hm
    have hg2 : w.heap.size ≤ g := Nat.le_trans HB1.out.size hg
    have hs2 : w.heap.size ≤ s := Nat.le_trans HB1.out.size hs
    have HQ := Lib.hid hq
    clear HB1 hb hq hg hs hm
    go_wp2_with fail
    refine (ref_new _ _ _ _ m HM.out hy _ (HR.out.below HB2.out) hc).mono ?_
    rintro e w3 ⟨vx, rfl, hkx, hb⟩
    obtain ⟨Ax, cx, hvx⟩ := Kd.R_slice hkx
    subst hvx
    have HKX := Lib.hid hkx
    have HB3 := Lib.hid (below_step HB2.out hb)
    have HQ3 := Lib.hid (HQ.out.step hb)
    clear hb hkx
    go_wp2_with fail
    have hz3 : g < w3.heap.size ∧ s < w3.heap.size := by
      obtain ⟨_, _, h1, _⟩ := HQ3.out
      exact ⟨blk_lt h1.struct, blk_lt h1.slots⟩
    have hsz3 := HB3.out.size
    obtain ⟨b, hb⟩ : ∃ b, w3.heap.size = b := ⟨_, rfl⟩
    have hbg : b ≠ g := by omega
    have hbs : b ≠ s := by omega
    have hb0 : w.heap.size ≤ b := by omega
    have hat : RelP w g s b m bs.length (.int .i64 0) (w3.alloc (.cells #[.slice Ax y.length cx, .int .i64 m, .int .i64 y.length] 34)) := by
      refine ⟨0, y.length, y, by omega, by omega, rfl, HQ3.out.step (below_alloc (Below.refl _ _) _), ⟨Ax, cx, _, rfl, by rw [← hb]; exact blk_new w3 _, ?_⟩, below_alloc HB3.out _⟩
      have h2 := HQ.out.lt
      have h1 := Kd.R_mono (Kd.R_bound HKX.out) (ok' := Far g s b) (fun k hk => ⟨by have := hk.2.1; omega, by have := hk.2.1; omega, by have := hk.2.2.1; omega⟩)
      exact Kd.R_lower (Kd.R_below h1 (below_alloc (Below.refl w3.heap.size w3) (.cells #[.slice Ax y.length cx, .int .i64 m, .int .i64 y.length] 34))) HB2.out.size
    have HAT := Lib.hid hat
    clear hat
    rw [hb]
    clear hb hz3 hsz3 HQ3 HKX HQ HB3 HB2
    go_loopw [11] (fun i wr => RelP w g s b m bs.length i wr) (fun i _ => 80 - (intOf i).toNat)
    case atStart => exact HAT.out
    case round =>
      obtain ⟨k, mo, L, hk, hk80, rfl, hq, ⟨Ax1, cx1, _, rfl, hx, hR1⟩, hb⟩ := hrel
      have HX := Lib.hid hx
      have c0 : wr.cell? ⟨b, 0, none⟩ = some (.slice Ax1 L.length cx1) := by simp [World.cell?, hx]
      have c1 : wr.cell? ⟨b, 1, none⟩ = some (.int .i64 m) := by simp [World.cell?, hx]
      have c2 : wr.cell? ⟨b, 2, none⟩ = some (.int .i64 mo) := by simp [World.cell?, hx]
      have hfr : ∀ j, wr.frozen? ⟨b, j, none⟩ = false := fun j => by simp [World.frozen?, hx]
      have HQ1 := Lib.hid hq
      have HR1 := Lib.hid hR1
      have HB1 := Lib.hid hb
      clear hx hq hR1 hb
      by_cases hcond : k < bs.length ∧ k < 80
      · obtain ⟨h1, h2⟩ := hcond
        have d1 : decide (k < bs.length) = true := by simpa using h1
        have d2 : decide ((k : Int) < 80) = true := by simp; omega
        obtain ⟨ad, hA1, hcell⟩ := HBS.out.2.2 (by omega)
        have hcb1 := pw_cell_below HB1.out (hcell k h1)
        subst hA1
        clear hcell
        obtain ⟨bv, hbv⟩ : ∃ bv, bs.getD k false = bv := ⟨_, rfl⟩
        rw [hbv] at hcb1
        clear hbv
        have hbl := blk_lt HX.out
        obtain ⟨hgl, hsl2⟩ := HQ1.out.lt
        go_upto_if 47 with (fail)
        go_cut [] (fun wc => Mid w g s b m wc)
        case first =>
          cases bv with
          | true =>
            rcases Nat.lt_or_ge L.length m with hfull | hfull
            · go_wp2_with fail
              refine (ref_put g s b _ _ L _ _ _ _ _ _ w _ hgl hsl2 hbl HB1.out HR1.out (put_f_room L m mo _ hfull hm50)).mono ?_
              rintro e w4 ⟨A4, c4, rfl, hr4, hb4, hk4⟩
              have HQ4 := Lib.hid (HQ1.out.kept (fun h => hk4.2 g h (fun hf => hf.1 rfl)) (fun h => hk4.2 s h (fun hf => hf.2.1 rfl)))
              have HX4 := Lib.hid ((hk4.2 b hbl (fun hf => hf.2.2 rfl)).trans HX.out)
              have HR4 := Lib.hid hr4
              have HB4 := Lib.hid hb4
              obtain ⟨e0, e1, e2⟩ := cells3 HX4.out
              have hbl4 : b < w4.heap.size := by have := hk4.1; omega
              have hfr4 : ∀ j, w4.frozen? ⟨b, j, none⟩ = false := fun j => by simp [World.frozen?, HX4.out]
              clear hr4 hb4 hk4 c0 c1 c2 hfr HQ1 HX HR1 HB1
              go_wp2_with fail
              refine (qput_room _ _ _ _ _ _ _ ((HQ4.out.kept (w1 := ((w4.setCell ⟨b, 0, none⟩ _).setCell ⟨b, 1, none⟩ _).setCell ⟨b, 2, none⟩ _) (fun _ => far3 _ _ _ _ _ _ (by omega)) (fun _ => far3 _ _ _ _ _ _ (by omega))).step (below_alloc (Below.refl _ _) _)) hfull).mono ?_
              rintro e w5 ⟨rfl, hq5, hst5⟩
              have hlen5 : (L ++ [wrap64 (v + (k : Int))]).length = L.length + 1 := by simp
              rw [hlen5] at HR4
              have haf := after_ w w4 w5 g s b _ _ _ _ _ _ _ _ _ hb0 hg2 hs2 hbg hbs HX4.out HR4.out HB4.out hst5
              have HAF := Lib.hid haf
              have HQ5 := Lib.hid hq5
              clear haf hq5 HQ4 HX4 HR4 HB4 e0 e1 e2 hfr4
              go_wp2_with fail
              go_meet
              case rel => exact ⟨_, _, HQ5.out, ⟨_, _, _, by simp, HAF.out.1, HAF.out.2.1⟩, HAF.out.2.2⟩
            · go_wp2_with fail
              refine (ref_put g s b _ _ L _ _ _ _ _ _ w _ hgl hsl2 hbl HB1.out HR1.out (put_f_full L m mo _ hfull)).mono ?_
              rintro e w4 ⟨A4, c4, rfl, hr4, hb4, hk4⟩
              have HQ4 := Lib.hid (HQ1.out.kept (fun h => hk4.2 g h (fun hf => hf.1 rfl)) (fun h => hk4.2 s h (fun hf => hf.2.1 rfl)))
              have HX4 := Lib.hid ((hk4.2 b hbl (fun hf => hf.2.2 rfl)).trans HX.out)
              have HR4 := Lib.hid hr4
              have HB4 := Lib.hid hb4
              obtain ⟨e0, e1, e2⟩ := cells3 HX4.out
              have hbl4 : b < w4.heap.size := by have := hk4.1; omega
              have hfr4 : ∀ j, w4.frozen? ⟨b, j, none⟩ = false := fun j => by simp [World.frozen?, HX4.out]
              clear hr4 hb4 hk4 c0 c1 c2 hfr HQ1 HX HR1 HB1
              go_wp2_with fail
              have hroom := HQ4.out.room
              refine (qput_full _ _ _ _ _ _ _ ((HQ4.out.kept (w1 := ((w4.setCell ⟨b, 0, none⟩ _).setCell ⟨b, 1, none⟩ _).setCell ⟨b, 2, none⟩ _) (fun _ => far3 _ _ _ _ _ _ (by omega)) (fun _ => far3 _ _ _ _ _ _ (by omega))).step (below_alloc (Below.refl _ _) _)) (by omega)).mono ?_
              rintro e w5 ⟨rfl, hd5⟩
              have hq5 := ((HQ4.out.kept (w1 := ((w4.setCell ⟨b, 0, none⟩ _).setCell ⟨b, 1, none⟩ _).setCell ⟨b, 2, none⟩ _) (fun _ => far3 _ _ _ _ _ _ (by omega)) (fun _ => far3 _ _ _ _ _ _ (by omega))).step (below_alloc (Below.refl _ _) _)).step hd5.below
              have haf := after_ w w4 w5 g s b _ _ _ _ _ _ _ _ _ hb0 hg2 hs2 hbg hbs HX4.out HR4.out HB4.out (Stays.drawn hd5)
              have HAF := Lib.hid haf
              have HQ5 := Lib.hid hq5
              clear haf hq5 HQ4 HX4 HR4 HB4 e0 e1 e2 hfr4
              go_wp2_with fail
              go_meet
              case rel => exact ⟨_, _, HQ5.out, ⟨_, _, _, by simp, HAF.out.1, HAF.out.2.1⟩, HAF.out.2.2⟩
          | false =>
            cases L with
            | nil =>
              go_wp2_with fail
              refine (ref_take g s b _ _ [] _ _ _ _ _ _ w _ hgl hsl2 hbl HB1.out HR1.out (take_f_none m mo)).mono ?_
              rintro e w4 ⟨A4, c4, rfl, hr4, hb4, hk4⟩
              have HQ4 := Lib.hid (HQ1.out.kept (fun h => hk4.2 g h (fun hf => hf.1 rfl)) (fun h => hk4.2 s h (fun hf => hf.2.1 rfl)))
              have HX4 := Lib.hid ((hk4.2 b hbl (fun hf => hf.2.2 rfl)).trans HX.out)
              have HR4 := Lib.hid hr4
              have HB4 := Lib.hid hb4
              obtain ⟨e0, e1, e2⟩ := cells3 HX4.out
              have hbl4 : b < w4.heap.size := by have := hk4.1; omega
              have hfr4 : ∀ j, w4.frozen? ⟨b, j, none⟩ = false := fun j => by simp [World.frozen?, HX4.out]
              clear hr4 hb4 hk4 c0 c1 c2 hfr HQ1 HX HR1 HB1
              go_wp2_with fail
              refine (qtake_none _ _ _ _ _ (HQ4.out.step (below_alloc (Below.refl _ _) _))).mono ?_
              rintro e w5 ⟨rfl, hd5⟩
              have hq5 := (HQ4.out.step (below_alloc (Below.refl _ _) _)).step hd5.below
              have haf := fun (x y z : Value) => after2_ w w4 w5 g s b _ x y z _ _ _ _ _ hb0 hg2 hs2 hbg hbs HX4.out HR4.out HB4.out (Stays.drawn hd5)
              have HX5 := Lib.hid (haf undef undef undef).1
              obtain ⟨f0, f1, f2⟩ := cells3 HX5.out
              obtain ⟨y0, y1, y2⟩ := cells3 (((Stays.drawn (g := g) (s := s) hd5).keep w4.heap.size (by have := HQ4.out.lt; omega) (by have := HQ4.out.lt; omega)).trans (blk_new w4 _))
              have hbl5 := blk_lt HX5.out
              have hfr5 : ∀ j, w5.frozen? ⟨b, j, none⟩ = false := fun j => by simp [World.frozen?, HX5.out]
              have HAF := Lib.hid haf
              have HQ5 := Lib.hid hq5
              clear haf hq5 HQ4 HX4 HR4 HB4 e0 e1 e2 hfr4
              go_wp2_with fail
              go_meet
              case rel => exact ⟨_, _, HQ5.out.kept (fun _ => far3 _ _ _ _ _ _ (by omega)) (fun _ => far3 _ _ _ _ _ _ (by omega)), ⟨_, _, _, by simp, (HAF.out _ _ _).2.1, (HAF.out _ _ _).2.2.1⟩, (HAF.out _ _ _).2.2.2⟩
            | cons a0 L0 =>
              go_wp2_with fail
              have hroom := HQ1.out.room
              rw [List.length_cons] at hroom
              refine (ref_take g s b _ _ (a0 :: L0) _ _ _ _ _ _ w _ hgl hsl2 hbl HB1.out HR1.out (take_f_some a0 L0 m mo (by omega))).mono ?_
              rintro e w4 ⟨A4, c4, rfl, hr4, hb4, hk4⟩
              have HQ4 := Lib.hid (HQ1.out.kept (fun h => hk4.2 g h (fun hf => hf.1 rfl)) (fun h => hk4.2 s h (fun hf => hf.2.1 rfl)))
              have HX4 := Lib.hid ((hk4.2 b hbl (fun hf => hf.2.2 rfl)).trans HX.out)
              have HR4 := Lib.hid hr4
              have HB4 := Lib.hid hb4
              obtain ⟨e0, e1, e2⟩ := cells3 HX4.out
              have hbl4 : b < w4.heap.size := by have := hk4.1; omega
              have hfr4 : ∀ j, w4.frozen? ⟨b, j, none⟩ = false := fun j => by simp [World.frozen?, HX4.out]
              clear hr4 hb4 hk4 c0 c1 c2 hfr HQ1 HX HR1 HB1
              go_wp2_with fail
              refine (qtake_some _ _ _ _ _ _ _ (HQ4.out.step (below_alloc (Below.refl _ _) _))).mono ?_
              rintro e w5 ⟨rfl, hq5, hst5⟩
              have haf := fun (x y z : Value) => after2_ w w4 w5 g s b _ x y z _ _ _ _ _ hb0 hg2 hs2 hbg hbs HX4.out HR4.out HB4.out hst5
              have HX5 := Lib.hid (haf undef undef undef).1
              obtain ⟨f0, f1, f2⟩ := cells3 HX5.out
              obtain ⟨y0, y1, y2⟩ := cells3 ((hst5.keep w4.heap.size (by have := HQ4.out.lt; omega) (by have := HQ4.out.lt; omega)).trans (blk_new w4 _))
              have hbl5 := blk_lt HX5.out
              have hfr5 : ∀ j, w5.frozen? ⟨b, j, none⟩ = false := fun j => by simp [World.frozen?, HX5.out]
              have HAF := Lib.hid haf
              have HQ5 := Lib.hid hq5
              clear haf hq5 HQ4 HX4 HR4 HB4 e0 e1 e2 hfr4
              go_wp2_with fail
              go_meet
              case rel => exact ⟨_, _, HQ5.out.kept (fun _ => far3 _ _ _ _ _ _ (by omega)) (fun _ => far3 _ _ _ _ _ _ (by omega)), ⟨_, _, _, by simp, (HAF.out _ _ _).2.1, (HAF.out _ _ _).2.2.1⟩, (HAF.out _ _ _).2.2.2⟩
        case rest =>
          obtain ⟨mo5, L5, hq5, ⟨A5, c5, n5, rfl, hx5, hr5⟩, hb5⟩ := hcut
          have HQ5 := Lib.hid hq5
          have HX5 := Lib.hid hx5
          have HR5 := Lib.hid hr5
          have HB5 := Lib.hid hb5
          have hl50 : L5.length ≤ 200 := by have := hq5.room; omega
          obtain ⟨f0, f1, f2⟩ := cells3 hx5
          clear hq5 hx5 hr5 hb5 HQ1 HX HR1 HB1 c0 c1 c2 hfr
          go_wp2_with fail
          go_region_held3 (fun w' => w'.cell? ⟨b, 0, none⟩ = some (.slice A5 L5.length c5) ∧ w'.cell? ⟨b, 1, none⟩ = some (.int .i64 m) ∧ w'.cell? ⟨b, 2, none⟩ = some (.int .i64 mo5))
            (first | go_keep | exact ⟨f60, f61, f62⟩)
            (first
              | (go_at_call 17; refine (list_at g s m _ L5 _ (HQ5.out.step (below_drew1 (Below.refl _ _)))).mono ?_; rintro e w6 ⟨Al, cl, rfl, hcl, hrl, hb60⟩; have hb6 := below_step (below_drew1 (Below.refl wc.heap.size wc)) hb60; have HQ6 := Lib.hid (HQ5.out.step hb6); have HX6 := Lib.hid (blk_below HX5.out hb6); obtain ⟨f60, f61, f62⟩ := cells3 HX6.out; have HRL := Lib.hid hrl; have HB6 := Lib.hid (below_step HB5.out hb6); have HR6 := Lib.hid (Kd.C_below (Kd.R_reads' HR5.out).2.2 (hb6)); have HR61 := Lib.hid (Kd.R_below HR5.out hb6); clear hrl hb6 hb60)
              | (go_at_call 13; refine (same_at _ _ _ _ L5 _ (by omega) HRL.out hcl HR6.out (Kd.R_reads' HR5.out).2.1).mono ?_; rintro e w7 ⟨rfl, ⟨n7, rfl⟩⟩)
              | (go_at_call 12; refine (qlen _ _ _ _ _ _ (HQ6.out.step (pw_below_drewN (Below.refl _ _) _))).mono ?_; rintro e w8 ⟨rfl, ⟨n8, rfl⟩⟩)
              | (go_at_call 18; refine (qroom _ _ _ _ _ _ (HQ6.out.step (pw_below_drewN (Below.refl _ _) _))).mono ?_; rintro e w9 ⟨rfl, ⟨n9, rfl⟩⟩)
              | (go_at_call 19; refine (qmost _ _ _ _ _ _ (HQ6.out.step (pw_below_drewN (Below.refl _ _) _))).mono ?_; rintro e w10 ⟨rfl, ⟨n10, rfl⟩⟩))
          go_wp2_with fail
          go_roundw
          case rel =>
            refine ⟨k + 1, mo5, L5, by omega, by omega, by go_num, HQ6.out.step ?_, ⟨A5, c5, _, rfl, HX6.out, ?_⟩, ?_⟩
            · repeat (first | exact Below.refl _ _ | apply pw_below_drewN | apply below_drew1)
            · exact Kd.R_below HR61.out (by repeat (first | exact Below.refl _ _ | apply pw_below_drewN | apply below_drew1))
            · repeat (first | exact HB6.out | apply pw_below_drewN | apply below_drew1)
          case measure => simp [intOf]; omega
      · have hcs : (decide (k < bs.length) = false) ∨ (decide (k < bs.length) = true ∧ decide ((k : Int) < 80) = false) := by
          simp only [decide_eq_true_eq, decide_eq_false_iff_not]
          omega
        have hl50 : L.length ≤ 200 := by have := HQ1.out.room; omega
        rcases hcs with hc1 | ⟨hc1, hc2⟩
        all_goals
          go_wp2_with fail
          go_region_held3 (fun w' => w'.cell? ⟨b, 0, none⟩ = some (.slice Ax1 L.length cx1) ∧ w'.cell? ⟨b, 1, none⟩ = some (.int .i64 m) ∧ w'.cell? ⟨b, 2, none⟩ = some (.int .i64 mo))
            (first | go_keep | exact ⟨c0, c1, c2⟩)
            (first
              | (go_at_call 18; refine (qroom _ _ _ _ _ _ (HQ1.out.step (by repeat (first | exact Below.refl _ _ | apply pw_below_drewN | apply below_drew1)))).mono ?_; rintro e w9 ⟨rfl, ⟨n9, rfl⟩⟩)
              | (go_at_call 19; refine (qmost _ _ _ _ _ _ (HQ1.out.step (by repeat (first | exact Below.refl _ _ | apply pw_below_drewN | apply below_drew1)))).mono ?_; rintro e w10 ⟨rfl, ⟨n10, rfl⟩⟩))
          go_wp2_with fail
          go_ret
          refine ⟨by rfl, ?_⟩
          repeat (first | exact HB1.out | apply pw_below_drewN | apply below_drew1)

theorem take_run (A : Option Addr) (c : Nat) (l : List Int) (j : Int) (h0 : 0 ≤ j) (hm : j ≤ l.length) (hc : l.length ≤ c) (y : List Int) (hy : y = l.take j.toNat) :
    (∀ W : World, (Instr.slice 22 (.slice A l.length c) none (some (.int .i64 j)) none).run Try.prog W = .ok (.slice A y.length c) W) ∧ (∀ w : World, ReadsInt w .i64 A l.length l → ReadsInt w .i64 A y.length y) ∧ y.length ≤ c := by
  subst hy
  obtain ⟨i0, hi, hzz⟩ := Option.map_eq_some_iff.1 info2
  simp only [Prod.mk.injEq] at hzz
  exact print_take_int (P := Try.prog) (k := .i64) 22 2 Try.underlying22 hi hzz.2.1 A c l j h0 hm hc

theorem plays_any (room : Int) (A : Option Addr) (c : Nat) (l : List Int) (B : Option Addr) (cb : Nat) (bs : List Bool) (v : Int) (w : World) (hr : ReadsInt w .i64 A l.length l) (hc : l.length ≤ c) (hbs : ReadsOf Value.bool false w B bs.length bs) (hcb : bs.length ≤ cb) (hmb : bs.length ≤ maxLen) :
    Calls Try.prog 4 #[.int .i64 room, .slice A l.length c, .slice B bs.length cb, .int .i64 v] w fun e w' => e = .returned (.bool true) ∧ Below w.heap.size w w' := by
  unfold maxLen at hmb
  have hr50 : (if 50 < room then 50 else room) ≤ 50 := by split <;> omega
  have h0 : 0 ≤ (if 10 < (l.length : Int) then 10 else (l.length : Int)) := by split <;> omega
  have h1 : (if 10 < (l.length : Int) then 10 else (l.length : Int)) ≤ l.length := by split <;> omega
  have h2 : (if 10 < (l.length : Int) then 10 else (l.length : Int)) ≤ 10 := by split <;> omega
  obtain ⟨g1, g2, g3⟩ := take_run A c l _ h0 h1 hc _ rfl
  exact plays_core room _ v _ A B c cb l _ bs w (g2 w hr) g3 (by rw [List.length_take]; omega) rfl hr50 rfl g1 hbs hcb hmb
end Go.Proofs.Ytnlkjimpefebbaa.Qu
namespace Go.Proofs.Ytnlkjimpefebbaa.queuePlays
open Go.ChangeShapes Go.WideShapes Go.ChangeAt Go.RowKit
open Go.ChangeMaps (open_string shut_string)
open Go.Proofs
set_option linter.unusedVariables false
theorem own : ownKnob Try.prog.godebug = none := by kernel_rfl
theorem laidOut : laidOutB Try.prog = true := by kernel_rfl
def IsRow (k : IntKind) (w : World) (a : Option Addr) (len cap : Nat) (zs : List Int) : Prop :=
  (a = none ∧ len = 0 ∧ cap = 0 ∧ zs = []) ∨
  ∃ x, a = some x ∧ len ≤ cap ∧ cap ≤ maxLen ∧ zs.length = cap ∧ (∀ i, i < zs.length → w.cell? (x.add i) = some (.int k (zs.getD i 0))) ∧ ∀ n ∈ zs, (Lit.int k n).wf = true
set_option maxRecDepth 100000 in
theorem lifted (os : Os) (started : os.Started) (H : Type) (enc : TypeId × Value → H) :
    ReturnsInHanded {} Try.checked os 4 .any (Rows.queuePlaysSpec.pre6 enc Try.prog Try.f4 Rows.queuePlaysRow.domain false) (Rows.queuePlaysSpec.post enc Try.prog Try.f4 false true false false) := by
  refine returnsInHanded_of_change_sized (C := Try.checked) own started (by kernel_rfl) Try.func4
    (ChangeSpec.witness6 (enc := enc) (C := Try.checked) false ⟨#[], #[.int .i64 0, .slice none 0 0, .slice none 0 0, .int .i64 0], []⟩ 8 (by kernel_rfl) (by kernel_rfl) (by kernel_rfl) (by kernel_rfl)) ?_
  intro W base args ds gs before hval0 hW hcnd hsz0 _
  have hsz : (DataW.weightsEach Try.prog (Try.f4.params.toList ++ Rows.queuePlaysSpec.plain.varTypes Try.prog) (ds ++ gs)).all (· ≤ reachBytes) = true := hsz0
  have hval : ∀ (j : Nat) t v, Try.f4.params[j]? = some t → args[j]? = some v → Value.okWide Try.prog W .any base t v := hval0
  have hW' := hW
  obtain ⟨p, q, hA0, hV, rfl, hfz, hnd⟩ := hW
  have hA : DataW.TrodAll enc Try.prog W 0 (fun _ => true) true Try.f4.params.toList args.toList ds p := hA0
  rw [Try.params4] at hA hval hsz
  obtain ⟨v0, vs0, d0, ds0, p0, q0, hargs, rfl, rfl, h0, r0⟩ := trodAll_cons hA
  obtain ⟨v1, vs1, d1, ds1, p1, q1, rfl, rfl, rfl, h1, r1⟩ := trodAll_cons r0
  obtain ⟨v2, vs2, d2, ds2, p2, q2, rfl, rfl, rfl, h2, r2⟩ := trodAll_cons r1
  obtain ⟨v3, vs3, d3, ds3, p3, q3, rfl, rfl, rfl, h3, r3⟩ := trodAll_cons r2
  obtain ⟨rfl, rfl, rfl⟩ := trodAll_nil r3
  obtain rfl : args = #[v0, v1, v2, v3] := by cases args; simp_all
  obtain ⟨rfl, rfl⟩ := trodVars_none hV
  obtain ⟨a0, rfl, rfl, rfl, w0⟩ := open_int Try.underlying3 (hval 0 3 v0 rfl rfl) h0
  obtain ⟨a1, len1, cap1, rfl⟩ := okWide_slice Try.underlying22 (hval 1 22 v1 rfl rfl)
  have k1 := h1
  have lt1 : ∀ x ∈ p1, x.block < W.heap.size := by obtain ⟨m, hm⟩ := k1; exact DataW.trod_lt m _ _ _ hm
  obtain ⟨z1, wz1⟩ : ∃ zs, IsRow .i64 W a1 len1 cap1 zs := by
    obtain ⟨fuel, hf⟩ := h1
    rcases open_ints Try.underlying22 Try.underlying2 (by kernel_rfl) hf with ⟨hcs, _⟩ | ⟨x, l, c, zs, hcs, _, hl, hm, hz, _, hcell, hwz⟩
    · simp [Value.cells] at hcs
      obtain ⟨rfl, rfl, rfl⟩ := hcs
      exact ⟨[], .inl ⟨rfl, rfl, rfl, rfl⟩⟩
    · simp [Value.cells] at hcs
      obtain ⟨rfl, rfl, rfl⟩ := hcs
      exact ⟨zs, .inr ⟨_, rfl, hl, hm, by simpa using hz, hcell, hwz⟩⟩
  obtain ⟨l1, rfl, hr1, hm1, hw1, hc1⟩ := YtnlkjimpefebbaaW.PrintWords.ReadsInt.ofRowC wz1
  obtain ⟨a2, len2, cap2, rfl⟩ := okWide_slice Try.underlying32 (hval 2 32 v2 rfl rfl)
  have k2 := h2
  have lt2 : ∀ x ∈ p2, x.block < W.heap.size := by obtain ⟨m, hm⟩ := k2; exact DataW.trod_lt m _ _ _ hm
  obtain ⟨l2, rfl, hr2, hc2, hm2⟩ : ∃ bs : List Bool, len2 = bs.length ∧ YtnlkjimpefebbaaW.PrintWords.ReadsOf Value.bool false W a2 bs.length bs ∧ bs.length ≤ cap2 ∧ bs.length ≤ maxLen := by
    obtain ⟨fuel, hf⟩ := h2
    rcases Go.Deep.open_bools Try.underlying32 Try.underlying4 (by kernel_rfl) hf with ⟨hcs, _⟩ | ⟨x, l, c, B, hcs, _, hl, hm, _, hcell⟩
    · simp [Value.cells] at hcs
      obtain ⟨rfl, rfl, rfl⟩ := hcs
      exact ⟨[], rfl, ⟨rfl, by simp, fun h => by simp at h⟩, by simp, by simp⟩
    · simp [Value.cells] at hcs
      obtain ⟨rfl, rfl, rfl⟩ := hcs
      refine ⟨(List.range len2).map B, by simp, ⟨rfl, by simp only [maxLen] at hm; simp; omega, fun _ => ⟨_, rfl, fun j hj => ?_⟩⟩, by simpa using hl, by simp; omega⟩
      have hj' : j < len2 := by simpa using hj
      rw [hcell j (by omega)]
      simp [List.getD_eq_getElem?_getD, hj']
  obtain ⟨a3, rfl, rfl, rfl, w3⟩ := open_int Try.underlying2 (hval 3 2 v3 rfl rfl) h3
  clear hA0 hval0 hsz0 hsz
  refine (Qu.plays_any a0 a1 cap1 l1 a2 cap2 l2 a3 W hr1 hc1 hr2 hc2 hm2).mono fun e W' ⟨he, bel⟩ => ?_
  subst he
  exact ⟨_, rfl, _, _, _, [], _, [], hW', trodAll_mk1 (shut_bool Try.underlying4 _), (trodAll_cons_mk (shut_int Try.underlying3 w0) (trodAll_cons_mk (Below.trod laidOut (by kernel_rfl) (of_decide_eq_true (by kernel_rfl)) k1 bel lt1) (trodAll_cons_mk (Below.trod laidOut (by kernel_rfl) (of_decide_eq_true (by kernel_rfl)) k2 bel lt2) (trodAll_cons_mk (shut_int Try.underlying2 w3) trodAll_mk0)))), rfl, bel.frame _, fun h => by cases h⟩
theorem over : Rows.queuePlaysRow.holds Try.pinned (OpenSpec.ofChange Rows.queuePlaysSpec) :=
  OpenClaim.holds_of_wide 4 Try.f4 rfl rfl rfl rfl rfl rfl rfl ⟨rfl, rfl, rfl, rfl, rfl⟩ rfl rfl rfl rfl rfl (by kernel_rfl) Try.func4 (by kernel_rfl)
    (of_decide_eq_true (by kernel_rfl)) (by unfold Func.isWrapper; first | (rw [if_pos (by decide +kernel)]; kernel_rfl) | (rw [if_neg (by decide +kernel)]; exact ⟨rfl, rfl⟩))
    (fun os started H enc _ => lifted os started H enc)
theorem proved : Rows.QueuePlaysSaid := over
end Go.Proofs.Ytnlkjimpefebbaa.queuePlays
namespace Go.Proofs.Ytnlkjimpefebbaa
/-- The row, under a short name, for the claim. -/
theorem queuePlays_holds : Rows.QueuePlaysSaid := queuePlays.proved
end Go.Proofs.Ytnlkjimpefebbaa
