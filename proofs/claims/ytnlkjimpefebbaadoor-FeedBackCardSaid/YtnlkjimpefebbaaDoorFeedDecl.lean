/- The feed's laws: what they all begin with. -/
import Derived.Test.YtnlkjimpefebbaaDoorXFFx2
import Derived.Test.YtnlkjimpefebbaaDoorFeedEv
namespace Go.Proofs.YtnlkjimpefebbaaDoor.FE
set_option linter.unusedVariables false
set_option linter.unusedSimpArgs false
open Go Go.RowKit Go.Proofs.YtnlkjimpefebbaaDoor.XFF Go.Proofs.YtnlkjimpefebbaaDoor.FP Go.Proofs.YtnlkjimpefebbaaDoor.Fl Go.Proofs.YtnlkjimpefebbaaDoorW.PrintWords Go.Proofs.YtnlkjimpefebbaaDoorW.PrintLast Go.Proofs.YtnlkjimpefebbaaDoorW.PrintMore
def d84 (b : Bool) : S84 := ⟨⟨#[97]⟩, 0, b, false, ⟨#[]⟩, false⟩
def o88 (x : S84) : S88 := ⟨x.f0, x.f1, ⟨x.f2, x.f3⟩, x.f4, x.f5⟩
theorem rdBool (l : List Bool) (i : Nat) (h : i < l.length) : rdOf false l (i : Int) = l[i] := by simp [rdOf, h]
theorem decls_loop (l : List Bool) (hl : l.length ≤ 140737488355328) : ∀ d i, 5 - i = d → i ≤ 5 → i ≤ l.length → Ev (fun k => girandolelaw20_Decls.l0 k l ((l.take i).map d84) (i : Int)) ((l.take 5).map d84) := by
  intro d
  induction d with
  | zero =>
    intro i hd hi hil
    have : i = 5 := by omega
    subst this
    refine Ev.step (f := fun _ => some _) (fun k => ?_) (Ev.now _)
    simp only [girandolelaw20_Decls.l0]
    by_cases h : ((5 : Nat) : Int) < (l.length : Int)
    · rw [if_pos h, if_neg (by omega)]
    · rw [if_neg h]
  | succ d ih =>
    intro i hd hi hil
    by_cases h : i < l.length
    · have e : l.take (i + 1) = l.take i ++ [l[i]] := by rw [List.take_add_one, List.getElem?_eq_getElem h]; rfl
      have h1 := ih (i + 1) (by omega) (by omega) (by omega)
      rw [e, List.map_append] at h1
      refine Ev.step (fun k => ?_) h1
      simp only [girandolelaw20_Decls.l0]
      rw [if_pos (by omega), if_pos (by omega), if_pos (by omega), if_pos (by simp; omega), rdBool l i h, w1 i (by omega)]
      rfl
    · refine Ev.step (f := fun _ => some _) (fun k => ?_) (Ev.now _)
      simp only [girandolelaw20_Decls.l0]
      rw [if_neg (by omega), List.take_of_length_le (by omega), List.take_of_length_le (by omega)]
theorem decls_ev (l : List Bool) (hl : l.length ≤ 140737488355328) : Ev (fun k => girandolelaw20_Decls.f k l) ((l.take 5).map d84) := by
  have h := decls_loop l hl _ 0 rfl (by omega) (by omega)
  exact h
theorem own_loop (L : List S84) (hl : L.length ≤ 1000) : ∀ d i, L.length - i = d → i ≤ L.length → Ev (fun k => girandolelaw02_OwnDecls.l0 k ((L.take i).map o88) L (L.length : Int) (i : Int)) (L.map o88) := by
  intro d
  induction d with
  | zero =>
    intro i hd hi
    refine Ev.step (f := fun _ => some _) (fun k => ?_) (Ev.now _)
    simp only [girandolelaw02_OwnDecls.l0]
    rw [if_neg (by omega), List.take_of_length_le (by omega)]
  | succ d ih =>
    intro i hd hi
    have h : i < L.length := by omega
    have e : L.take (i + 1) = L.take i ++ [L[i]] := by rw [List.take_add_one, List.getElem?_eq_getElem h]; rfl
    have h1 := ih (i + 1) (by omega) (by omega)
    rw [e, List.map_append] at h1
    refine Ev.step (fun k => ?_) h1
    simp only [girandolelaw02_OwnDecls.l0]
    rw [if_pos (by omega), if_pos (by omega), if_pos (by omega), if_pos (by simp; omega), rd84 L i h, w1 i (by omega)]
    rfl
theorem own_ev (L : List S84) (hl : L.length ≤ 1000) : Ev (fun k => girandolelaw02_OwnDecls.f k L) (L.map o88) := own_loop L hl _ 0 rfl (by omega)
theorem truths88 (l : List Bool) : ((l.map d84).map o88).map (fun x : S88 => x.f2.f0) = l := by
  rw [List.map_map, List.map_map]
  exact List.map_id'' (fun x => rfl) l
theorem truths84 (l : List Bool) : (l.map d84).map (fun x : S84 => x.f2) = l := by
  rw [List.map_map]
  exact List.map_id'' (fun x => rfl) l
theorem awake1 : parseP [false, true] [55, 32, 116, 114, 117, 101] = ([[7, 1]], -1, 0) := by decide +kernel
theorem awake2 : parseP [false, true] [48, 55, 32, 116, 114, 117, 101] = ([], 0, 1) := by decide +kernel
theorem awake_ev : Ev (fun k => girandolelaw20_awake.f k) true := by
  have h1 := decls_ev [false, true] (by decide)
  have h2 := own_ev (([false, true] : List Bool).map d84) (by decide)
  have h3 := feed_ev ⟨#[]⟩ 0 ((([false, true] : List Bool).map d84).map o88) [] [] [] ⟨#[55, 32, 116, 114, 117, 101]⟩ (by decide)
  have h4 := feed_ev ⟨#[]⟩ 0 ((([false, true] : List Bool).map d84).map o88) [] [] [] ⟨#[48, 55, 32, 116, 114, 117, 101]⟩ (by decide)
  rw [truths88] at h3 h4
  have e3 : parseP [false, true] (⟨#[55, 32, 116, 114, 117, 101]⟩ : ByteArray).data.toList = ([[7, 1]], -1, 0) := awake1
  have e4 : parseP [false, true] (⟨#[48, 55, 32, 116, 114, 117, 101]⟩ : ByteArray).data.toList = ([], 0, 1) := awake2
  rw [e3] at h3
  rw [e4] at h4
  refine Ev.congr (fun k => rfl) (Ev.bind h1 (Ev.bind h2 (Ev.bind h3 (Ev.bind h4 ?_))))
  refine Ev.congr (f := fun _ => some true) (fun k => ?_) (Ev.now _)
  decide
end Go.Proofs.YtnlkjimpefebbaaDoor.FE
