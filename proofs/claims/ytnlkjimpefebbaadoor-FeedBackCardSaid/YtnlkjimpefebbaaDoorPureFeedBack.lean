/- The law FeedBack over numbers and lists, the last step. -/
import Derived.Test.YtnlkjimpefebbaaDoorXFFx11
import Derived.Test.YtnlkjimpefebbaaDoorFeedLines
namespace Go.Proofs.YtnlkjimpefebbaaDoor.Back
set_option linter.unusedVariables false
set_option linter.unusedSimpArgs false
open Go Go.RowKit Go.Proofs.YtnlkjimpefebbaaDoor.XFF Go.Proofs.YtnlkjimpefebbaaDoor.FE Go.Proofs.YtnlkjimpefebbaaDoor.FP Go.Proofs.YtnlkjimpefebbaaDoor.Fl Go.Proofs.YtnlkjimpefebbaaDoorW.PrintWords Go.Proofs.YtnlkjimpefebbaaDoorW.PrintLast
theorem decls_loop' (l : List Bool) : ∀ d i, 5 - i = d → i ≤ 5 → i ≤ l.length → Ev (fun k => girandolelaw20_Decls.l0 k l ((l.take i).map d84) (i : Int)) ((l.take 5).map d84) := by
  intro d
  induction d with
  | zero =>
    intro i hd hi hil
    have : i = 5 := by omega
    subst this
    refine Ev.step (f := fun _ => some _) (fun k => ?_) (Ev.now _)
    simp only [girandolelaw20_Decls.l0]
    by_cases h : ((5 : Nat) : Int) < (l.length : Int)
    · rw [if_pos h, if_neg (by omega)]
    · rw [if_neg h]
  | succ d ih =>
    intro i hd hi hil
    by_cases h : i < l.length
    · have e : l.take (i + 1) = l.take i ++ [l[i]] := by rw [List.take_add_one, List.getElem?_eq_getElem h]; rfl
      have h1 := ih (i + 1) (by omega) (by omega) (by omega)
      rw [e, List.map_append] at h1
      refine Ev.step (fun k => ?_) h1
      simp only [girandolelaw20_Decls.l0]
      rw [if_pos (by omega), if_pos (by omega), if_pos (by omega), if_pos (by simp; omega), rdBool l i h, w1 i (by omega)]
      rfl
    · refine Ev.step (f := fun _ => some _) (fun k => ?_) (Ev.now _)
      simp only [girandolelaw20_Decls.l0]
      rw [if_neg (by omega), List.take_of_length_le (by omega), List.take_of_length_le (by omega)]
theorem decls_ev' (l : List Bool) : Ev (fun k => girandolelaw20_Decls.f k l) ((l.take 5).map d84) := decls_loop' l _ 0 rfl (by omega) (by omega)
theorem same_loop (l : List Int) (hl : l.length ≤ 1000000) : ∀ d i, l.length - i = d → i ≤ l.length → Ev (fun k => girandolelaw11_Same.l0 k l l (l.length : Int) (i : Int)) 0 := by
  intro d
  induction d with
  | zero =>
    intro i hd hi
    refine Ev.step (f := fun _ => some _) (fun k => ?_) (Ev.now _)
    simp only [girandolelaw11_Same.l0]
    rw [if_neg (by omega)]
  | succ d ih =>
    intro i hd hi
    refine Ev.step (fun k => ?_) (ih (i + 1) (by omega) (by omega))
    simp only [girandolelaw11_Same.l0]
    rw [if_pos (by omega), if_pos (by omega), if_pos (by omega), if_pos (by omega), if_pos trivial, w1 i (by omega)]
theorem same_ev (l : List Int) (hl : l.length ≤ 1000000) : Ev (fun k => girandolelaw11_Same.f k l l) 0 := by
  refine Ev.congr (fun k => ?_) (same_loop l hl _ 0 rfl (by omega))
  unfold girandolelaw11_Same.f
  rw [if_pos rfl]
  rfl
theorem rdL7 (l : List (List Int)) (i : Nat) (h : i < l.length) : rd_L7 l (i : Int) = l[i] := by simp [rd_L7, h]
theorem rows_loop (l : List (List Int)) (hn : l.length ≤ 1000000) (hl : ∀ r ∈ l, r.length ≤ 1000000) : ∀ d i, l.length - i = d → i ≤ l.length → Ev (fun k => girandolelaw20_FeedBack.l1 k l l (l.length : Int) (i : Int)) true := by
  intro d
  induction d with
  | zero =>
    intro i hd hi
    refine Ev.step (f := fun _ => some _) (fun k => ?_) (Ev.now _)
    simp only [girandolelaw20_FeedBack.l1]
    rw [if_neg (by omega)]
  | succ d ih =>
    intro i hd hi
    have h : i < l.length := by omega
    refine Ev.step (f := fun k => (girandolelaw11_Same.f k l[i] l[i]).bind fun t => if t = 0 then girandolelaw20_FeedBack.l1 k l l (l.length : Int) ((i + 1 : Nat) : Int) else some false) (fun k => ?_) (Ev.bind (same_ev l[i] (hl _ (List.getElem_mem _))) ?_)
    · simp only [girandolelaw20_FeedBack.l1]
      rw [if_pos (by omega), if_pos (by omega), if_pos (by omega), if_pos (by omega), rdL7 l i h, w1 i (by omega)]
    · simp only [if_true]
      exact ih (i + 1) (by omega) (by omega)
theorem joinN_f (sep : List UInt8) (hs : sep.length ≤ 2) (ws : List (List UInt8)) (hn : ws.length ≤ 1000) (hw : ∀ w ∈ ws, w.length ≤ 1000000) : strings_Join.f (ws.map B) (B sep) = some (B (Lib.join ws sep)) := by
  have e : (ws.map B).map (fun x => x.data.toList) = ws := by
    rw [List.map_map]
    exact List.map_id'' (fun x => rfl) ws
  unfold strings_Join.f
  have h := join_len sep 1000000 ws hw
  have h2 : ws.length * (1000000 + sep.length) ≤ 1000 * (1000000 + 2) := Nat.mul_le_mul hn (by omega)
  rw [e, B_data, if_pos ⟨by simp; omega, by omega⟩]
  rfl
theorem line_len (ts : List Bool) (hts : ts.length ≤ 5) (r : List Int) (hr : ∀ x ∈ r, inR x) : (line ts r).length ≤ 110 := by
  unfold line
  split
  · simp
  · have hl := join_len [32] 21 (wordsL ts r) (words_len ts r hr)
    have h2 : (wordsL ts r).length ≤ 5 := by simp [wordsL]; omega
    have h3 : (wordsL ts r).length * (21 + ([32] : List UInt8).length) ≤ 5 * (21 + ([32] : List UInt8).length) := Nat.mul_le_mul_right _ h2
    simp only [List.length_singleton] at h3 hl
    omega
theorem back_end (ts : List Bool) (hts : ts.length ≤ 5) (rs raw : List (List Int)) (h : ∀ r ∈ rs, ∀ x ∈ r, inR x) (hl : rs.length ≤ 10) (i : Int) :
    Ev (fun k => girandolelaw20_FeedBack.j1 k raw (ts.map d84) (rs.map (vals ts)) ((rs.map fun r => line ts (vals ts r)).map B) i false) true := by
  have ho := own_ev (ts.map d84) (by simp; omega)
  have hlines : ∀ w ∈ rs.map (fun r => line ts (vals ts r)), w.length ≤ 1000000 := by
    intro w hw
    obtain ⟨r, hr, rfl⟩ := List.mem_map.1 hw
    have := line_len ts hts (vals ts r) (vals_in ts r (h r hr))
    omega
  have hj := joinN_f [10, 10] (by decide) (rs.map fun r => line ts (vals ts r)) (by simp; omega) hlines
  have hjl : (Lib.join (rs.map fun r => line ts (vals ts r)) [10, 10]).length ≤ 1000000 := by
    have h1 := join_len [10, 10] 110 (rs.map fun r => line ts (vals ts r)) (by
      intro w hw
      obtain ⟨r, hr, rfl⟩ := List.mem_map.1 hw
      exact line_len ts hts (vals ts r) (vals_in ts r (h r hr)))
    have h2 : (rs.map fun r => line ts (vals ts r)).length * (110 + ([10, 10] : List UInt8).length) ≤ 10 * (110 + ([10, 10] : List UInt8).length) := Nat.mul_le_mul_right _ (by simpa using hl)
    simp only [List.length_cons, List.length_nil] at h1 h2
    omega
  have hp := feed_ev ⟨#[]⟩ 0 ((ts.map d84).map o88) [] [] [] (B (Lib.join (rs.map fun r => line ts (vals ts r)) [10, 10])) (by rw [B_size]; exact hjl)
  rw [truths88, B_data, parse_back ts rs h hl] at hp
  have hj2 : Ev (fun k => girandolelaw20_FeedBack.j2 k (rs.map (vals ts)) (rs.map (vals ts)) false) true := by
    refine Ev.step (f := fun k => girandolelaw20_FeedBack.l1 k (rs.map (vals ts)) (rs.map (vals ts)) ((rs.map (vals ts)).length : Int) 0) (fun k => ?_) (rows_loop _ (by simp; omega) (by
      intro r hr
      obtain ⟨q, _, rfl⟩ := List.mem_map.1 hr
      simp [vals]
      omega) _ 0 rfl (by omega))
    simp only [girandolelaw20_FeedBack.j2]
    rw [if_neg (by decide)]
  have hb : (B [10, 10] : ByteArray) = ⟨#[10, 10]⟩ := rfl
  rw [hb] at hj
  refine Ev.step (f := fun k => (girandolelaw02_OwnDecls.f k (ts.map d84)).bind fun t304 => ((feed_Parse.f k (⟨#[]⟩ : ByteArray) 0 t304 ([] : List (S88)) ([] : List (S88)) ([] : List (S136)) (B (Lib.join (rs.map fun r => line ts (vals ts r)) [10, 10]))).bind fun bt308 => (if bt308.2.2 = 0 then (if bt308.2.1 = (-1) then (girandolelaw20_FeedBack.j2 k (rs.map (vals ts)) bt308.1 ((bt308.1.length : Int) != ((rs.map (vals ts)).length : Int))) else (girandolelaw20_FeedBack.j2 k (rs.map (vals ts)) bt308.1 true)) else (girandolelaw20_FeedBack.j2 k (rs.map (vals ts)) bt308.1 true)))) (fun k => ?_) (Ev.bind ho (Ev.bind hp ?_))
  · simp only [girandolelaw20_FeedBack.j1]
    rw [if_neg (by decide)]
    simp only [hj, Option.bind_some]
  · refine Ev.congr (fun k => ?_) hj2
    rw [if_pos rfl, if_pos rfl, bne_self_eq_false]
theorem back_loop (ts : List Bool) (hts : ts.length ≤ 5) (raw : List (List Int)) (h : ∀ r ∈ raw, ∀ x ∈ r, inR x) : ∀ d i, 10 - i = d → i ≤ 10 → i ≤ raw.length →
    Ev (fun k => girandolelaw20_FeedBack.l0 k raw (ts.map d84) ((raw.take i).map (vals ts)) (((raw.take i).map fun r => line ts (vals ts r)).map B) (i : Int)) true := by
  intro d
  induction d with
  | zero =>
    intro i hd hi hil
    have : i = 10 := by omega
    subst this
    refine Ev.step (fun k => ?_) (back_end ts hts (raw.take 10) raw (fun r hr => h r (List.mem_of_mem_take hr)) (by simp; omega) ((10 : Nat) : Int))
    simp only [girandolelaw20_FeedBack.l0]
    have : decide (((10 : Nat) : Int) < 10) = false := by decide
    rw [this]
    split <;> rfl
  | succ d ih =>
    intro i hd hi hil
    by_cases hi2 : i < raw.length
    · have hr := h raw[i] (List.getElem_mem hi2)
      have hv := vals_in ts raw[i] hr
      have e : raw.take (i + 1) = raw.take i ++ [raw[i]] := by rw [List.take_add_one, List.getElem?_eq_getElem hi2]; rfl
      have h1 := ih (i + 1) (by omega) (by omega) (by omega)
      rw [e, List.map_append, List.map_append, List.map_append] at h1
      have hrow := row_ev ts hts raw[i]
      have ho := own_ev (ts.map d84) (by simp; omega)
      have hf1 := frow_ev ts hts (vals ts raw[i]) hv
      have hr1 := rrow_ev ts hts (vals ts raw[i]) hv
      have hf2 := frow_ev ts hts raw[i] hr
      have hr2 := rrow_ev ts hts raw[i] hr
      have hl1 : ((raw.take i).map (vals ts)).length < 5864062014805 := by simp; omega
      have hl2 : (((raw.take i).map fun r => line ts (vals ts r)).map B).length < 8796093022208 := by simp; omega
      refine Ev.step (f := fun k => girandolelaw20_FeedBack.j1 k raw (ts.map d84) ((raw.take i).map (vals ts)) (((raw.take i).map fun r => line ts (vals ts r)).map B) (i : Int) true) (fun k => ?_) ?_
      · simp only [girandolelaw20_FeedBack.l0]
        have : decide ((i : Int) < 10) = true := by rw [decide_eq_true_eq]; omega
        rw [if_pos (by omega), this]
      · refine Ev.step (f := fun k => (girandolelaw11_Row.f k (⟨#[]⟩ : ByteArray) 0 (ts.map d84) ([] : List (S84)) ([] : List (S84)) ([] : List (S131)) raw[i]).bind fun t283 => ((girandolelaw02_OwnDecls.f k (ts.map d84)).bind fun t286 => ((feed_Row.f k t286 t283).bind fun t289 => ((girandoleref20_Row.f k (ts.map d84) t283).bind fun t290 => (if t289.toList = t290.toList then ((girandolelaw02_OwnDecls.f k (ts.map d84)).bind fun t291 => ((feed_Row.f k t291 raw[i]).bind fun t295 => ((girandoleref20_Row.f k (ts.map d84) raw[i]).bind fun t297 => (if t295.toList = t297.toList then (girandolelaw20_FeedBack.l0 k raw (ts.map d84) (((raw.take i).map (vals ts)) ++ [t283]) ((((raw.take i).map fun r => line ts (vals ts r)).map B) ++ [t289]) ((i + 1 : Nat) : Int)) else (some false))))) else (some false)))))) (fun k => ?_) ?_
        · simp only [girandolelaw20_FeedBack.j1]
          rw [if_pos trivial, if_pos (by omega), if_pos (by omega), rdL7 raw i hi2, w1 i (by omega)]
          simp only [if_pos hl1, if_pos hl2]
        · refine Ev.bind hrow (Ev.bind ho (Ev.bind hf1 (Ev.bind hr1 ?_)))
          simp only [if_true]
          refine Ev.bind ho (Ev.bind hf2 (Ev.bind hr2 ?_))
          simp only [if_true]
          exact h1
    · have hlen : raw.take i = raw := List.take_of_length_le (by omega)
      have h2 := back_end ts hts (raw.take i) raw (fun r hr => h r (List.mem_of_mem_take hr)) (by simp; omega) (i : Int)
      refine Ev.step (fun k => ?_) h2
      simp only [girandolelaw20_FeedBack.l0]
      rw [if_neg (by omega)]
theorem FeedBack (l0 : List Bool) (raw : List (List Int)) (h : ∀ r ∈ raw, ∀ x ∈ r, inR x) : ∃ k, girandolelaw20_FeedBack.f k l0 raw = some true := by
  have hlen : (l0.take 5).length ≤ 5 := by simp; omega
  have hl := back_loop (l0.take 5) hlen raw h _ 0 rfl (by omega) (by omega)
  refine Ev.rounds (Ev.congr (fun k => rfl) (Ev.bind awake_ev ?_))
  simp only [if_true]
  exact Ev.bind (decls_ev' l0) hl
end Go.Proofs.YtnlkjimpefebbaaDoor.Back
