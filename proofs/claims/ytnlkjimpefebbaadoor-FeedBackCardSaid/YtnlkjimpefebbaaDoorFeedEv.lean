/- The feed, as printed, comes to a plain answer. -/
import Derived.Test.YtnlkjimpefebbaaDoorXFFx1
import Derived.Test.YtnlkjimpefebbaaDoorFeedPlain
namespace Go.Proofs.YtnlkjimpefebbaaDoor.FE
set_option linter.unusedVariables false
set_option linter.unusedSimpArgs false
open Go Go.RowKit Go.Proofs.YtnlkjimpefebbaaDoor.XFF Go.Proofs.YtnlkjimpefebbaaDoor.FP Go.Proofs.YtnlkjimpefebbaaDoor.Fl Go.Proofs.YtnlkjimpefebbaaDoorW.PrintWords Go.Proofs.YtnlkjimpefebbaaDoorW.PrintLast Go.Proofs.YtnlkjimpefebbaaDoorW.PrintMore
theorem w1 (i : Nat) (h : i ≤ 2000000) : wrap64 ((i : Int) + 1) = ((i + 1 : Nat) : Int) := by unfold wrap64; omega
theorem wrap_in (n : Int) (h : -9223372036854775808 ≤ n ∧ n ≤ 9223372036854775807) : wrap64 n = n := by unfold wrap64; omega
theorem bt_i (s : ByteArray) (i : Nat) (h : i < s.size) : bt s (i : Int) = ((s[i]'h).toNat : Int) := by
  unfold bt
  simp [h]
def B (l : List UInt8) : ByteArray := ⟨l.toArray⟩
theorem B_data (l : List UInt8) : (B l).data.toList = l := rfl
theorem B_list (l : List UInt8) : (B l).toList = l := by rw [toList_data]; rfl
theorem B_size (l : List UInt8) : (B l).size = l.length := by simp [B, ByteArray.size]
theorem data_B (s : ByteArray) : B s.data.toList = s := rfl
theorem ext_B (s : ByteArray) (a b : Nat) : s.extract a b = B ((s.data.toList.drop a).take (b - a)) := by
  obtain ⟨⟨l⟩⟩ := s
  apply ByteArray.ext
  simp [B, ByteArray.data_extract]
theorem size_list (s : ByteArray) : s.size = s.data.toList.length := by rw [Array.length_toList]; rfl
theorem split_f (c : UInt8) (s : ByteArray) (hs : s.size ≤ 1000000) : strings_Split.f s ⟨#[c]⟩ = some ((sp c [] s.data.toList).map B) := by
  unfold strings_Split.f
  rw [if_pos ⟨hs, Nat.le_refl 1⟩, split_eq]
  rfl
theorem sp_len (c : UInt8) : ∀ (l acc : List UInt8), (sp c acc l).length ≤ l.length + 1 ∧ ∀ w ∈ sp c acc l, w.length ≤ acc.length + l.length := by
  intro l
  induction l with
  | nil => intro acc; simp [sp]
  | cons x l ih =>
    intro acc
    rw [sp]
    split
    · obtain ⟨h1, h2⟩ := ih []
      refine ⟨by simp; omega, ?_⟩
      intro w hw
      rcases List.mem_cons.1 hw with rfl | hw
      · simp
      · have := h2 w hw
        simp at this ⊢
        omega
    · obtain ⟨h1, h2⟩ := ih (acc ++ [x])
      refine ⟨by simp; omega, ?_⟩
      intro w hw
      have := h2 w hw
      simp at this ⊢
      omega
/-- A word's value, of a type. -/
def valP (b : Bool) (w : List UInt8) : Int × Int := if b = true then (if w = [116, 114, 117, 101] then (1, 0) else if w = [102, 97, 108, 115, 101] then (0, 0) else (0, 1)) else numF w
theorem feed_value_f (b : Bool) (w : List UInt8) (h : w.length ≤ 1000000) : feed_value.f (B w) b = some (valP b w) := by
  unfold feed_value.f valP
  rw [B_list]
  by_cases hb : b = true
  · simp only [if_pos hb]
    split
    · rfl
    · split <;> rfl
  · simp only [if_neg hb]
    unfold feed_number.f
    rw [if_pos (by rw [B_size]; exact h)]
    rfl
/-- A line's values. -/
def rowgo : List Bool → List (List UInt8) → List Int → List Int × Int
  | [], [], out => (out, 0)
  | _ :: _, [], _ => ([], 12)
  | [], _ :: _, _ => ([], 12)
  | b :: ts, w :: ws, out => if (valP b w).2 = 0 then rowgo ts ws (out ++ [(valP b w).1]) else ([], (valP b w).2)
def rowP (ts : List Bool) (line : List UInt8) : List Int × Int := if ts = [] then (if line = [46] then ([], 0) else ([], 1)) else rowgo ts (sp 32 [] line) []
theorem rd88 (L : List S88) (i : Nat) (h : i < L.length) : rd_T88 L (i : Int) = L[i] := by simp [rd_T88, h]
theorem rd84 (L : List S84) (i : Nat) (h : i < L.length) : rd_T84 L (i : Int) = L[i] := by simp [rd_T84, h]
theorem rdB (ws : List (List UInt8)) (i : Nat) (h : i < ws.length) : rdOf ByteArray.empty (ws.map B) (i : Int) = B ws[i] := by simp [rdOf, h]
theorem feed_row_loop (L : List S88) (ws : List (List UInt8)) (hw : ∀ w ∈ ws, w.length ≤ 1000000) (hn : ws.length ≤ 1000001) : ∀ d i out, ws.length - i = d → i ≤ ws.length → out.length = i → i ≤ L.length →
    Ev (fun k => feed_row.l0 k L out (ws.map B) (ws.length : Int) (i : Int)) (rowgo ((L.map (fun x : S88 => x.f2.f0)).drop i) (ws.drop i) out) := by
  intro d
  induction d with
  | zero =>
    intro i out hd hi ho hL
    rw [List.drop_eq_nil_iff.2 (show ws.length ≤ i by omega)]
    refine Ev.step (f := fun _ => some _) (fun k => ?_) (Ev.now _)
    simp only [feed_row.l0]
    rw [if_neg (by omega)]
    by_cases h : i < L.length
    · rw [if_pos (by omega), List.drop_eq_getElem_cons (show i < (L.map (fun x : S88 => x.f2.f0)).length by simpa using h), rowgo]
    · rw [if_neg (by omega), List.drop_eq_nil_iff.2 (by simp; omega), rowgo]
  | succ d ih =>
    intro i out hd hi ho hL
    have hlt : i < ws.length := by omega
    rw [List.drop_eq_getElem_cons hlt]
    by_cases h : i < L.length
    · rw [List.drop_eq_getElem_cons (show i < (L.map (fun x : S88 => x.f2.f0)).length by simpa using h), rowgo, List.getElem_map]
      have hv := feed_value_f L[i].f2.f0 ws[i] (hw _ (List.getElem_mem _))
      by_cases he : (valP L[i].f2.f0 ws[i]).2 = 0
      · rw [if_pos he]
        refine Ev.step (f := fun k => feed_row.l0 k L (out ++ [(valP L[i].f2.f0 ws[i]).1]) (ws.map B) (ws.length : Int) ((i + 1 : Nat) : Int)) (fun k => ?_) (ih (i + 1) (out ++ [(valP L[i].f2.f0 ws[i]).1]) (by omega) (by omega) (by simp; omega) (by omega))
        simp only [feed_row.l0]
        rw [if_pos (by omega), if_pos (by omega), if_pos (by simp; omega), if_neg (by omega), if_pos (by omega), rdB ws i hlt, rd88 L i h, hv, Option.bind_some, if_pos he, if_pos (by omega), w1 i (by omega)]
      · rw [if_neg he]
        refine Ev.step (f := fun _ => some _) (fun k => ?_) (Ev.now _)
        simp only [feed_row.l0]
        rw [if_pos (by omega), if_pos (by omega), if_pos (by simp; omega), if_neg (by omega), if_pos (by omega), rdB ws i hlt, rd88 L i h, hv, Option.bind_some, if_neg he]
    · rw [List.drop_eq_nil_iff.2 (show (L.map (fun x : S88 => x.f2.f0)).length ≤ i by simp; omega), rowgo]
      refine Ev.step (f := fun _ => some _) (fun k => ?_) (Ev.now _)
      simp only [feed_row.l0]
      rw [if_pos (by omega), if_pos (by omega), if_pos (by simp; omega), if_pos (by omega)]
theorem feed_row_ev (L : List S88) (line : List UInt8) (hl : line.length ≤ 1000000) : Ev (fun k => feed_row.f k L (B line)) (rowP (L.map (fun x : S88 => x.f2.f0)) line) := by
  obtain ⟨h1, h2⟩ := sp_len 32 line []
  have hsp : strings_Split.f (B line) (⟨#[32]⟩ : ByteArray) = some ((sp 32 [] line).map B) := split_f 32 (B line) (by rw [B_size]; exact hl)
  unfold rowP
  by_cases hL : L = []
  · subst hL
    rw [List.map_nil, if_pos rfl]
    refine Ev.congr (f := fun _ => some _) (fun k => ?_) (Ev.now _)
    unfold feed_row.f
    rw [hsp, Option.bind_some, if_pos (show ((([] : List S88).length : Nat) : Int) = 0 from rfl), B_list]
    split <;> rfl
  · rw [if_neg (by simpa using hL)]
    have h3 := feed_row_loop L (sp 32 [] line) (fun w hw => by have := h2 w hw; simp at this; omega) (by omega) _ 0 [] rfl (by omega) rfl (by omega)
    simp only [List.drop_zero] at h3
    refine Ev.congr (fun k => ?_) h3
    unfold feed_row.f
    have : ¬ (L.length : Int) = 0 := by
      intro h
      apply hL
      apply List.eq_nil_of_length_eq_zero
      omega
    rw [hsp, Option.bind_some, if_neg this, List.length_map]
    rfl
/-- The rows of a text's lines. -/
def pgo (ts : List Bool) : List (List UInt8) → Nat → List (List Int) → List (List Int) × Int × Int
  | [], _, out => (out, -1, 0)
  | ln :: r, i, out => if ln = [] then pgo ts r (i + 1) out else if out.length = 200 then ([], (i : Int), 14) else if (rowP ts ln).2 = 0 then pgo ts r (i + 1) (out ++ [(rowP ts ln).1]) else ([], (i : Int), (rowP ts ln).2)
def parseP (ts : List Bool) (text : List UInt8) : List (List Int) × Int × Int := pgo ts (sp 10 [] text) 0 []
theorem feed_loop (z0 : ByteArray) (z1 : Int) (L z3 z4 : List S88) (z5 : List S136) (ws : List (List UInt8)) (hw : ∀ w ∈ ws, w.length ≤ 1000000) (hn : ws.length ≤ 1000001) : ∀ d i out, ws.length - i = d → i ≤ ws.length → out.length ≤ 200 →
    Ev (fun k => feed_Parse.l0 k out (ws.map B) (ws.length : Int) (i : Int) z0 z1 L z3 z4 z5) (pgo (L.map (fun x : S88 => x.f2.f0)) (ws.drop i) i out) := by
  intro d
  induction d with
  | zero =>
    intro i out hd hi ho
    rw [List.drop_eq_nil_iff.2 (show ws.length ≤ i by omega), pgo]
    refine Ev.step (f := fun _ => some _) (fun k => ?_) (Ev.now _)
    simp only [feed_Parse.l0]
    rw [if_neg (by omega)]
  | succ d ih =>
    intro i out hd hi ho
    have hlt : i < ws.length := by omega
    rw [List.drop_eq_getElem_cons hlt, pgo]
    have hwi := w1 i (by omega)
    by_cases he : ws[i] = []
    · rw [if_pos he]
      refine Ev.step (f := fun k => feed_Parse.l0 k out (ws.map B) (ws.length : Int) ((i + 1 : Nat) : Int) z0 z1 L z3 z4 z5) (fun k => ?_) (ih (i + 1) out (by omega) (by omega) ho)
      simp only [feed_Parse.l0]
      rw [if_pos (by omega), if_pos (by omega), if_pos (by simp; omega), rdB ws i hlt, B_list, if_pos he, hwi]
    · rw [if_neg he]
      by_cases hm : out.length = 200
      · rw [if_pos hm]
        refine Ev.step (f := fun _ => some _) (fun k => ?_) (Ev.now _)
        simp only [feed_Parse.l0]
        rw [if_pos (by omega), if_pos (by omega), if_pos (by simp; omega), rdB ws i hlt, B_list, if_neg he, if_pos (by omega)]
      · rw [if_neg hm]
        have hr := feed_row_ev L ws[i] (hw _ (List.getElem_mem _))
        by_cases hz : (rowP (L.map (fun x : S88 => x.f2.f0)) ws[i]).2 = 0
        · rw [if_pos hz]
          refine Ev.step (f := fun k => (feed_row.f k L (B ws[i])).bind fun t => if t.2 = 0 then feed_Parse.l0 k (out ++ [t.1]) (ws.map B) (ws.length : Int) ((i + 1 : Nat) : Int) z0 z1 L z3 z4 z5 else some ([], (i : Int), t.2)) (fun k => ?_) (Ev.bind hr ?_)
          · simp only [feed_Parse.l0]
            rw [if_pos (by omega), if_pos (by omega), if_pos (by simp; omega), rdB ws i hlt, B_list, if_neg he, if_neg (by omega)]
            simp only [if_pos (show out.length < 5864062014805 by omega), hwi]
          · simp only [if_pos hz]
            exact ih (i + 1) _ (by omega) (by omega) (by simp; omega)
        · rw [if_neg hz]
          refine Ev.step (f := fun k => (feed_row.f k L (B ws[i])).bind fun t => if t.2 = 0 then feed_Parse.l0 k (out ++ [t.1]) (ws.map B) (ws.length : Int) ((i + 1 : Nat) : Int) z0 z1 L z3 z4 z5 else some ([], (i : Int), t.2)) (fun k => ?_) (Ev.bind hr ?_)
          · simp only [feed_Parse.l0]
            rw [if_pos (by omega), if_pos (by omega), if_pos (by simp; omega), rdB ws i hlt, B_list, if_neg he, if_neg (by omega)]
            simp only [if_pos (show out.length < 5864062014805 by omega), hwi]
          · simp only [if_neg hz]
            exact Ev.now _
theorem feed_ev (z0 : ByteArray) (z1 : Int) (L z3 z4 : List S88) (z5 : List S136) (text : ByteArray) (hl : text.size ≤ 1000000) : Ev (fun k => feed_Parse.f k z0 z1 L z3 z4 z5 text) (parseP (L.map (fun x : S88 => x.f2.f0)) text.data.toList) := by
  obtain ⟨h1, h2⟩ := sp_len 10 text.data.toList []
  rw [size_list] at hl
  have hsp : strings_Split.f text (⟨#[10]⟩ : ByteArray) = some ((sp 10 [] text.data.toList).map B) := split_f 10 text (by rw [size_list]; exact hl)
  have h3 := feed_loop z0 z1 L z3 z4 z5 (sp 10 [] text.data.toList) (fun w hw => by have := h2 w hw; simp only [List.length_nil] at this; omega) (by omega) _ 0 [] rfl (by omega) (by simp)
  simp only [List.drop_zero] at h3
  refine Ev.congr (fun k => ?_) h3
  unfold feed_Parse.f
  rw [hsp, Option.bind_some, List.length_map]
  rfl
end Go.Proofs.YtnlkjimpefebbaaDoor.FE
