/- The law FeedPorts over numbers and lists. -/
import Derived.Test.YtnlkjimpefebbaaDoorXFFx13
import Derived.Test.YtnlkjimpefebbaaDoorFeedDecl
import Derived.Test.YtnlkjimpefebbaaDoorFeedWord
namespace Go.Proofs.YtnlkjimpefebbaaDoor.Pure
open Go Go.RowKit Go.Proofs.YtnlkjimpefebbaaDoor.XFF Go.Proofs.YtnlkjimpefebbaaDoor.FE Go.Proofs.YtnlkjimpefebbaaDoor.FP Go.Proofs.YtnlkjimpefebbaaDoor.Fl Go.Proofs.YtnlkjimpefebbaaDoorW.PrintWords Go.Proofs.YtnlkjimpefebbaaDoorW.PrintLast
theorem wf_in {x : Int} (h : (Lit.int .i64 x).wf = true) : -9223372036854775808 ≤ x ∧ x ≤ 9223372036854775807 := by
  simpa [Lit.wf, IntKind.min, IntKind.max, IntKind.signed, IntKind.bits] using h
theorem rd_i (l : List Int) (i : Nat) (h : i < l.length) : rd l (i : Int) = l[i] := by simp [rd, h]
theorem row_one (x0 : ByteArray) (x1 : Int) (b x3 : Bool) (x4 : ByteArray) (x5 : Bool) (v : Int) (h0 : -9223372036854775808 ≤ v) (h1 : v ≤ 9223372036854775807) :
    Ev (fun k => girandoleref20_Row.f k [⟨x0, x1, b, x3, x4, x5⟩] [v]) (B (word b v)) := by
  have hw := ref_word_ev b v h0 h1
  have hl := word_len b v h0 h1
  have e0 : (⟨#[]⟩ : ByteArray) ++ B (word b v) = B (word b v) := B_append [] _
  have hend : Ev (fun k => girandoleref20_Row.l0 k [v] (B (word b v)) [⟨x0, x1, b, x3, x4, x5⟩] 1 1) (B (word b v)) := by
    refine Ev.step (f := fun _ => some _) (fun k => ?_) (Ev.now _)
    simp only [girandoleref20_Row.l0]
    rw [if_neg (by omega)]
  have hl0 : Ev (fun k => girandoleref20_Row.l0 k [v] (⟨#[]⟩ : ByteArray) [⟨x0, x1, b, x3, x4, x5⟩] 1 0) (B (word b v)) := by
    refine Ev.step (f := fun k => (girandoleref20_word.f k v b).bind fun t => if (⟨#[]⟩ : ByteArray).size + t.size ≤ 9223372036854775807 then girandoleref20_Row.l0 k [v] ((⟨#[]⟩ : ByteArray) ++ t) [⟨x0, x1, b, x3, x4, x5⟩] 1 1 else none) (fun k => ?_) (Ev.bind hw ?_)
    · simp only [girandoleref20_Row.l0]
      have r1 : rd [v] 0 = v := rfl
      have r2 : (rd_T84 [(⟨x0, x1, b, x3, x4, x5⟩ : S84)] 0).f2 = b := rfl
      have w0 : wrap64 (0 + 1) = 1 := w1 0 (by omega)
      rw [if_pos (by omega), if_pos (by omega), if_pos (by simp), if_pos (by simp), if_neg (by omega), r1, r2, w0]
    · refine Ev.congr (fun k => ?_) hend
      have e1 : (⟨#[]⟩ : ByteArray).size = 0 := rfl
      rw [if_pos (by rw [B_size, e1]; omega), e0]
  refine Ev.congr (fun k => ?_) hl0
  unfold girandoleref20_Row.f
  rw [if_neg (by simp)]
  rfl
theorem port_loop (b : Bool) (z0 : ByteArray) (z1 : Int) (z3 : Bool) (z4 : ByteArray) (z5 : Bool) (l : List Int) (hl : l.length ≤ 1000) (hw : ∀ x ∈ l, -9223372036854775808 ≤ x ∧ x ≤ 9223372036854775807) : ∀ d i, l.length - i = d → i ≤ l.length →
    Ev (fun k => feed_Port.l0 k (((l.take i).map (word b)).map B) l (l.length : Int) (i : Int) z0 z1 b z3 z4 z5) (B (Lib.join (l.map (word b)) [32])) := by
  intro d
  induction d with
  | zero =>
    intro i hd hi
    have hj := join_f (l.map (word b)) (by simp; omega) (by
      intro w hm
      obtain ⟨x, hx, rfl⟩ := List.mem_map.1 hm
      have := word_len b x (hw x hx).1 (hw x hx).2
      omega)
    refine Ev.step (f := fun _ => some _) (fun k => ?_) (Ev.now _)
    simp only [feed_Port.l0]
    rw [if_neg (by omega), List.take_of_length_le (by omega), hj]
    rfl
  | succ d ih =>
    intro i hd hi
    have h : i < l.length := by omega
    have hx := hw _ (List.getElem_mem h)
    have e : l.take (i + 1) = l.take i ++ [l[i]] := by rw [List.take_add_one, List.getElem?_eq_getElem h]; rfl
    have h1 := ih (i + 1) (by omega) (by omega)
    rw [e, List.map_append, List.map_append] at h1
    refine Ev.step (fun k => ?_) h1
    simp only [feed_Port.l0]
    rw [if_pos (by omega), if_pos (by omega), if_pos (by omega), rd_i l i h, feed_word_f b _ hx.1 hx.2, Option.bind_some, if_pos (by simp; omega), w1 i (by omega)]
    rfl
theorem ports_loop (b : Bool) (z0 : ByteArray) (z1 : Int) (z3 : Bool) (z4 : ByteArray) (z5 : Bool) (l : List Int) (hl : l.length ≤ 1000) (hw : ∀ x ∈ l, -9223372036854775808 ≤ x ∧ x ≤ 9223372036854775807) : ∀ d i, l.length - i = d → i ≤ l.length →
    Ev (fun k => girandolelaw20_FeedPorts.l0 k b l (((l.take i).map (word b)).map B) l (l.length : Int) (i : Int) z0 z1 b z3 z4 z5) true := by
  intro d
  induction d with
  | zero =>
    intro i hd hi
    have hj := join_f (l.map (word b)) (by simp; omega) (by
      intro w hm
      obtain ⟨x, hx, rfl⟩ := List.mem_map.1 hm
      have := word_len b x (hw x hx).1 (hw x hx).2
      omega)
    have hp := port_loop b ⟨#[121]⟩ 0 false ⟨#[]⟩ false l hl hw _ 0 rfl (by omega)
    refine Ev.step (f := fun k => (feed_Port.f k (⟨#[121]⟩ : ByteArray) 0 b false (⟨#[]⟩ : ByteArray) false l).bind fun t => (strings_Join.f ((l.map (word b)).map B) (⟨#[32]⟩ : ByteArray)).bind fun u => some (t.toList == u.toList)) (fun k => ?_) (Ev.bind (Ev.congr (fun k => rfl) hp) ?_)
    · simp only [girandolelaw20_FeedPorts.l0]
      rw [if_neg (by omega), List.take_of_length_le (by omega)]
    · refine Ev.congr (f := fun _ => some true) (fun k => ?_) (Ev.now _)
      rw [hj, Option.bind_some, beq_self_eq_true]
  | succ d ih =>
    intro i hd hi
    have h : i < l.length := by omega
    have hx := hw _ (List.getElem_mem h)
    have e : l.take (i + 1) = l.take i ++ [l[i]] := by rw [List.take_add_one, List.getElem?_eq_getElem h]; rfl
    have h1 := ih (i + 1) (by omega) (by omega)
    rw [e, List.map_append, List.map_append] at h1
    have hr := row_one z0 z1 b z3 z4 z5 l[i] hx.1 hx.2
    refine Ev.step (f := fun k => (girandoleref20_Row.f k [⟨z0, z1, b, z3, z4, z5⟩] [l[i]]).bind fun t => if (((l.take i).map (word b)).map B).length < 8796093022208 then girandolelaw20_FeedPorts.l0 k b l ((((l.take i).map (word b)).map B) ++ [t]) l (l.length : Int) ((i + 1 : Nat) : Int) z0 z1 b z3 z4 z5 else none) (fun k => ?_) (Ev.bind hr ?_)
    · simp only [girandolelaw20_FeedPorts.l0]
      rw [if_pos (by omega), if_pos (by omega), if_pos (by omega), rd_i l i h, w1 i (by omega)]
    · refine Ev.congr (fun k => ?_) h1
      rw [if_pos (by simp; omega)]
      rfl
theorem FeedPorts : girandolelaw20_FeedPorts.Pure := by
  intro a0 l1 hl hb hw
  have hm : mn (l1.length : Int) 20 = ((min l1.length 20 : Nat) : Int) := by
    unfold mn
    split <;> omega
  have hlen : (l1.take (min l1.length 20)).length = min l1.length 20 := by simp
  have hloop := ports_loop a0 ⟨#[121]⟩ 0 false ⟨#[]⟩ false (l1.take (min l1.length 20)) (by omega) (fun x hx => wf_in (hw x (List.mem_of_mem_take hx))) _ 0 rfl (by omega)
  refine Ev.rounds (Ev.congr (f := fun k => (girandolelaw20_awake.f k).bind fun t => if t = true then girandolelaw20_FeedPorts.l0 k a0 (l1.take (min l1.length 20)) [] (l1.take (min l1.length 20)) ((l1.take (min l1.length 20)).length : Int) 0 (⟨#[121]⟩ : ByteArray) 0 a0 false (⟨#[]⟩ : ByteArray) false else some false) (fun k => ?_) (Ev.bind awake_ev ?_))
  · unfold girandolelaw20_FeedPorts.f
    rw [hm]
    have e1 : (0 : Int) ≤ ((min l1.length 20 : Nat) : Int) := by omega
    have e2 : ((min l1.length 20 : Nat) : Int) ≤ (l1.length : Int) := by omega
    simp only [if_pos e1, if_pos e2, Int.toNat_natCast]
  · simp only [if_true]
    exact hloop
end Go.Proofs.YtnlkjimpefebbaaDoor.Pure
