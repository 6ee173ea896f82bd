/- The queue's methods, walked, and what they do to the list that the queue holds. No condition but the queue's own shape. -/
import Derived.Test.YtnlkjimpefebbaaWMore
import Derived.Test.YtnlkjimpefebbaaProg
import Derived.WalkKit
import Derived.BigRegion
import Derived.WalkLawsBesides
import Derived.Lib.Hide
namespace Go.Proofs.Ytnlkjimpefebbaa.Qu
set_option linter.unusedVariables false
open Go Go.RowKit Go.Proofs.YtnlkjimpefebbaaW.PrintWords Go.Proofs.YtnlkjimpefebbaaW.PrintLast Go.Proofs.YtnlkjimpefebbaaW.PrintMore
attribute [local go_sem] max2_int max_two max_three

/-- A queue in memory: block g is its struct, block s its slots. -/
structure QAt (w : World) (g s cap head n most : Nat) (xs : List Int) : Prop where
  struct : w.heap[g]? = some (.cells #[.slice (some ⟨s, 0, none⟩) cap cap, .int .i64 head, .int .i64 n, .int .i64 most] 51 (0, 0))
  slots : w.heap[s]? = some (.cells (nums .i64 xs).toArray 2 (0, 0))
  len : xs.length = cap
  pos : 1 ≤ cap
  small : cap ≤ 200
  hd : head < cap
  n_le : n ≤ cap
  most_le : most ≤ cap

theorem QAt.c0 {w : World} {g s cap head n most : Nat} {xs : List Int} (h : QAt w g s cap head n most xs) : w.cell? ⟨g, 0, none⟩ = some (.slice (some ⟨s, 0, none⟩) cap cap) ∧ w.cell? ⟨g, 1, none⟩ = some (.int .i64 head) ∧ w.cell? ⟨g, 2, none⟩ = some (.int .i64 n) ∧ w.cell? ⟨g, 3, none⟩ = some (.int .i64 most) := by
  have h1 := h.struct
  refine ⟨?_, ?_, ?_, ?_⟩ <;> simp [World.cell?, h1]
theorem QAt.fr {w : World} {g s cap head n most : Nat} {xs : List Int} (h : QAt w g s cap head n most xs) (j : Nat) : w.frozen? ⟨g, j, none⟩ = false ∧ w.frozen? ⟨s, j, none⟩ = false := by
  have h1 := h.struct
  have h2 := h.slots
  constructor <;> simp [World.frozen?, h1, h2]
theorem QAt.at_ {w : World} {g s cap head n most : Nat} {xs : List Int} (h : QAt w g s cap head n most xs) (j : Nat) (hj : j < cap) : w.cell? ⟨s, j, none⟩ = some (.int .i64 (xs.getD j 0)) := by
  have h2 := h.slots
  have h3 : j < xs.length := by rw [h.len]; exact hj
  simp [World.cell?, h2, nums, h3]
theorem QAt.ne {w : World} {g s cap head n most : Nat} {xs : List Int} (h : QAt w g s cap head n most xs) : g ≠ s := by
  rintro rfl
  have h1 := h.struct
  rw [h.slots] at h1
  simp at h1

theorem QAt.drewN {w : World} {g s cap head n most : Nat} {xs : List Int} (h : QAt w g s cap head n most xs) (k : Nat) : QAt (w.drewN k) g s cap head n most xs := ⟨h.struct, h.slots, h.len, h.pos, h.small, h.hd, h.n_le, h.most_le⟩
theorem QAt.slot {w : World} {g s cap head n most : Nat} {xs : List Int} (h : QAt w g s cap head n most xs) (j : Nat) (v : Int) : QAt (w.setCell ⟨s, j, none⟩ (.int .i64 v)) g s cap head n most (xs.set j v) := by
  refine ⟨blk_far h.struct h.ne _, ?_, by rw [List.length_set]; exact h.len, h.pos, h.small, h.hd, h.n_le, h.most_le⟩
  have h1 := blk_set h.slots j (.int .i64 v)
  rw [h1]
  simp [nums, List.map_set]
theorem QAt.n_ {w : World} {g s cap head n most : Nat} {xs : List Int} (h : QAt w g s cap head n most xs) (n' : Nat) (hn : n' ≤ cap) : QAt (w.setCell ⟨g, 2, none⟩ (.int .i64 n')) g s cap head n' most xs :=
  ⟨blk_set h.struct 2 _, blk_far h.slots h.ne.symm _, h.len, h.pos, h.small, h.hd, hn, h.most_le⟩
theorem QAt.head_ {w : World} {g s cap head n most : Nat} {xs : List Int} (h : QAt w g s cap head n most xs) (n' : Nat) (hn : n' < cap) : QAt (w.setCell ⟨g, 1, none⟩ (.int .i64 n')) g s cap n' n most xs :=
  ⟨blk_set h.struct 1 _, blk_far h.slots h.ne.symm _, h.len, h.pos, h.small, hn, h.n_le, h.most_le⟩
theorem QAt.most_ {w : World} {g s cap head n most : Nat} {xs : List Int} (h : QAt w g s cap head n most xs) (n' : Nat) (hn : n' ≤ cap) : QAt (w.setCell ⟨g, 3, none⟩ (.int .i64 n')) g s cap head n n' xs :=
  ⟨blk_set h.struct 3 _, blk_far h.slots h.ne.symm _, h.len, h.pos, h.small, h.hd, h.n_le, hn⟩
theorem QAt_below {B : Nat} {w0 w : World} {g s : Nat} (hb : Below B w0 w) (hg : B ≤ g) (hs : B ≤ s) (v : Value) (j : Nat) : Below B w0 (w.setCell ⟨g, j, none⟩ v) ∧ Below B w0 (w.setCell ⟨s, j, none⟩ v) :=
  ⟨hb.setCell hg v, hb.setCell hs v⟩
/-- Behind what touches no block of w's. -/
theorem QAt.step {w w1 : World} {g s cap head n most : Nat} {xs : List Int} (h : QAt w g s cap head n most xs) (hb : Below w.heap.size w w1) : QAt w1 g s cap head n most xs :=
  ⟨blk_below h.struct hb, blk_below h.slots hb, h.len, h.pos, h.small, h.hd, h.n_le, h.most_le⟩

/-- What stays: all but the queue's own blocks; and they may be the call's own. -/
structure Stays (g s : Nat) (w w' : World) : Prop where
  below : ∀ B w0, Below B w0 w → B ≤ g → B ≤ s → Below B w0 w'
  size : w.heap.size ≤ w'.heap.size
  keep : ∀ i, i ≠ g → i ≠ s → w'.heap[i]? = w.heap[i]?

theorem put_full (g s cap head n most : Nat) (xs : List Int) (v : Int) (w : World) (h : QAt w g s cap head n most xs) (hn : n = cap) :
    Calls Try.prog 10 #[.pointer (some ⟨g, 0, none⟩), .int .i64 v] w fun e w' => e = .returned (.bool false) ∧ Drawn0 w w' := by
  obtain ⟨c0, c1, c2, c3⟩ := h.c0
  have hb : ((n : Int) == (cap : Int)) = true := by rw [hn]; simp
  clear h hn
  go_enter Try.func10, Try.ntmps10
  go_wp2
  go_quiet (fail)
  go_wp2
  go_ret
  exact ⟨by rfl, by repeat (first | exact Drawn0.refl _ | apply Drawn0.step)⟩

theorem put_room (g s cap head n most : Nat) (xs : List Int) (v : Int) (w : World) (h : QAt w g s cap head n most xs) (hn : n < cap) :
    Calls Try.prog 10 #[.pointer (some ⟨g, 0, none⟩), .int .i64 v] w fun e w' => e = .returned (.bool true) ∧ QAt w' g s cap head (n + 1) (max most (n + 1)) (xs.set ((head + n) % cap) v) ∧ Stays g s w w' := by
  obtain ⟨c0, c1, c2, c3⟩ := h.c0
  have hb : ((n : Int) == (cap : Int)) = false := by simp; omega
  have hp := h.pos
  have hs := h.small
  have hh := h.hd
  have hm := h.most_le
  obtain ⟨j, hj⟩ : ∃ j, (head + n) % cap = j := ⟨_, rfl⟩
  have hlt : j < cap := by rw [← hj]; exact Nat.mod_lt _ (by omega)
  have hx : ((head : Int) + (n : Int)) % (cap : Int) = (j : Int) := by rw [← hj]; simp
  have hc := h.at_ _ hlt
  have HJ := Lib.hid hj
  clear hj
  have hf1 := fun j => (h.fr j).1
  have hf2 := fun j => (h.fr j).2
  have hne : ¬ g = s := h.ne
  have hne' : ¬ s = g := fun e => h.ne e.symm
  have H := Lib.hid h
  clear h
  go_enter Try.func10, Try.ntmps10
  go_wp2
  go_quiet (fail)
  go_wp2
  go_region
  go_wp2
  go_region
  go_wp2
  all_goals
    go_ret
    refine ⟨by rfl, ?_, ?_⟩
    · rw [HJ.out]
      first
        | (rw [show max most (n + 1) = n + 1 from by omega]
           exact ((((H.out.drewN (nq + 1)).slot j v).n_ (n + 1) (by omega)).drewN 1).most_ (n + 1) (by omega))
        | (rw [show max most (n + 1) = most from by omega]
           exact ((((H.out.drewN (nq + 1)).slot j v).n_ (n + 1) (by omega)).drewN 1).most_ most (by omega))
    · exact ⟨fun B w0 hb hg hs => ((((pw_below_drewN hb (nq + 1)).setCell hs _).setCell hg _).drew).setCell hg _, by simp,
        fun i h1 h2 => (Below.heap_setCell _ _ _ i h1).trans ((Below.heap_setCell _ _ _ i h1).trans (Below.heap_setCell _ _ _ i h2))⟩

theorem take_none (g s cap head most : Nat) (xs : List Int) (w : World) (h : QAt w g s cap head 0 most xs) :
    Calls Try.prog 11 #[.pointer (some ⟨g, 0, none⟩)] w fun e w' => e = .returned (.tuple #[.int .i64 0, .bool false]) ∧ Drawn0 w w' := by
  obtain ⟨c0, c1, c2, c3⟩ := h.c0
  clear h
  go_enter Try.func11, Try.ntmps11
  go_wp2
  go_ret2
  exact ⟨by rfl, by repeat (first | exact Drawn0.refl _ | apply Drawn0.step)⟩

theorem take_some (g s cap head n most : Nat) (xs : List Int) (w : World) (h : QAt w g s cap head n most xs) (hn : 0 < n) :
    Calls Try.prog 11 #[.pointer (some ⟨g, 0, none⟩)] w fun e w' => e = .returned (.tuple #[.int .i64 (xs.getD head 0), .bool true]) ∧ QAt w' g s cap ((head + 1) % cap) (n - 1) most xs ∧ Stays g s w w' := by
  obtain ⟨c0, c1, c2, c3⟩ := h.c0
  have hb : ((n : Int) == 0) = false := by simp; omega
  have hp := h.pos
  have hs := h.small
  have hh := h.hd
  have hl := h.n_le
  obtain ⟨j, hj⟩ : ∃ j, (head + 1) % cap = j := ⟨_, rfl⟩
  have hlt : j < cap := by rw [← hj]; exact Nat.mod_lt _ (by omega)
  have hx : ((head : Int) + 1) % (cap : Int) = (j : Int) := by rw [← hj]; simp
  have hc := h.at_ _ hh
  have HJ := Lib.hid hj
  clear hj
  have hf1 := fun j => (h.fr j).1
  have H := Lib.hid h
  clear h
  go_enter Try.func11, Try.ntmps11
  go_wp2
  go_quiet (fail)
  go_wp2
  go_region
  go_wp2
  go_ret2
  refine ⟨by rfl, ?_, ?_⟩
  · rw [HJ.out]
    obtain ⟨m, rfl⟩ : ∃ m, n = m + 1 := ⟨n - 1, by omega⟩
    rw [Nat.add_sub_cancel]
    have e : ((m + 1 : Nat) : Int) - 1 = (m : Int) := by omega
    rw [e]
    exact ((H.out.drewN (nq + 1)).head_ j hlt).n_ m (by omega)
  · exact ⟨fun B w0 hb hg hs => ((pw_below_drewN hb (nq + 1)).setCell hg _).setCell hg _, by simp,
      fun i h1 h2 => (Below.heap_setCell _ _ _ i h1).trans (Below.heap_setCell _ _ _ i h1)⟩

/-! The queue as a list -/
theorem ring (h c i : Nat) (hh : h < c) (hi : i ≤ c) : (h + i) % c = if h + i < c then h + i else h + i - c := by
  split
  · exact Nat.mod_eq_of_lt ‹_›
  · rw [Nat.mod_eq_sub_mod (by omega), Nat.mod_eq_of_lt (by omega)]

/-- The queue at block g holds L. -/
def QRep (w : World) (g s cap most : Nat) (L : List Int) : Prop :=
  ∃ head xs, QAt w g s cap head L.length most xs ∧ ∀ i, i < L.length → xs.getD ((head + i) % cap) 0 = L.getD i 0

theorem QRep.step {w w1 : World} {g s cap most : Nat} {L : List Int} (h : QRep w g s cap most L) (hb : Below w.heap.size w w1) : QRep w1 g s cap most L := by
  obtain ⟨head, xs, h1, h2⟩ := h
  exact ⟨head, xs, h1.step hb, h2⟩
theorem QRep.room {w : World} {g s cap most : Nat} {L : List Int} (h : QRep w g s cap most L) : L.length ≤ cap := by
  obtain ⟨head, xs, h1, h2⟩ := h
  exact h1.n_le

theorem qput_full (g s cap most : Nat) (L : List Int) (v : Int) (w : World) (h : QRep w g s cap most L) (hn : L.length = cap) :
    Calls Try.prog 10 #[.pointer (some ⟨g, 0, none⟩), .int .i64 v] w fun e w' => e = .returned (.bool false) ∧ Drawn0 w w' := by
  obtain ⟨head, xs, h1, h2⟩ := h
  exact put_full g s cap head L.length most xs v w h1 hn

theorem qput_room (g s cap most : Nat) (L : List Int) (v : Int) (w : World) (h : QRep w g s cap most L) (hn : L.length < cap) :
    Calls Try.prog 10 #[.pointer (some ⟨g, 0, none⟩), .int .i64 v] w fun e w' => e = .returned (.bool true) ∧ QRep w' g s cap (max most (L.length + 1)) (L ++ [v]) ∧ Stays g s w w' := by
  obtain ⟨head, xs, h1, h2⟩ := h
  refine (put_room g s cap head L.length most xs v w h1 hn).mono ?_
  rintro e w' ⟨rfl, ha, hb⟩
  refine ⟨rfl, ⟨head, _, by rw [List.length_append, List.length_singleton]; exact ha, ?_⟩, hb⟩
  intro i hi
  rw [List.length_append, List.length_singleton] at hi
  have hl := h1.len
  have hh := h1.hd
  rw [ring head cap i hh (by omega), ring head cap L.length hh (by omega)]
  rcases Nat.lt_or_ge i L.length with hlt | hge
  · have h3 := h2 i hlt
    rw [ring head cap i hh (by omega)] at h3
    have hne : (if head + L.length < cap then head + L.length else head + L.length - cap) ≠ (if head + i < cap then head + i else head + i - cap) := by
      split <;> split <;> omega
    rw [List.getD_eq_getElem?_getD, List.getElem?_set_ne hne, ← List.getD_eq_getElem?_getD, h3]
    simp [List.getD_eq_getElem?_getD, List.getElem?_append_left hlt]
  · obtain rfl : i = L.length := by omega
    rw [List.getD_eq_getElem?_getD, List.getElem?_set_self (by rw [hl]; split <;> omega)]
    simp

theorem qtake_none (g s cap most : Nat) (w : World) (h : QRep w g s cap most []) :
    Calls Try.prog 11 #[.pointer (some ⟨g, 0, none⟩)] w fun e w' => e = .returned (.tuple #[.int .i64 0, .bool false]) ∧ Drawn0 w w' := by
  obtain ⟨head, xs, h1, h2⟩ := h
  exact take_none g s cap head most xs w h1

theorem qtake_some (g s cap most : Nat) (v : Int) (L : List Int) (w : World) (h : QRep w g s cap most (v :: L)) :
    Calls Try.prog 11 #[.pointer (some ⟨g, 0, none⟩)] w fun e w' => e = .returned (.tuple #[.int .i64 v, .bool true]) ∧ QRep w' g s cap most L ∧ Stays g s w w' := by
  obtain ⟨head, xs, h1, h2⟩ := h
  have hh := h1.hd
  have hn := h1.n_le
  rw [List.length_cons] at hn
  have h3 := h2 0 (by simp)
  rw [Nat.add_zero, Nat.mod_eq_of_lt hh] at h3
  refine (take_some g s cap head (L.length + 1) most xs w h1 (by omega)).mono ?_
  rintro e w' ⟨rfl, ha, hb⟩
  refine ⟨by rw [h3]; rfl, ⟨(head + 1) % cap, xs, ha, ?_⟩, hb⟩
  intro i hi
  have h4 := h2 (i + 1) (by simp; omega)
  rw [show ((head + 1) % cap + i) % cap = (head + (i + 1)) % cap from by rw [Nat.mod_add_mod]; congr 1; omega, h4]
  simp

theorem qlen (g s cap most : Nat) (L : List Int) (w : World) (h : QRep w g s cap most L) :
    Calls Try.prog 12 #[.pointer (some ⟨g, 0, none⟩)] w fun e w' => e = .returned (.int .i64 L.length) ∧ Drawn0 w w' := by
  obtain ⟨head, xs, h1, h2⟩ := h
  obtain ⟨c0, c1, c2, c3⟩ := h1.c0
  clear h1 h2
  go_enter Try.func12, Try.ntmps12
  go_wp2
  go_ret
  exact ⟨by rfl, by repeat (first | exact Drawn0.refl _ | apply Drawn0.step)⟩
end Go.Proofs.Ytnlkjimpefebbaa.Qu
