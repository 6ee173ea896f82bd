/- The plain lexer over lists of bytes, and its laws: no program in sight. -/
import Derived.Lib.Bytealg
namespace Go.Proofs.YtjafllnbgfcchaaGreatDoor
namespace LX
abbrev B := List UInt8

def blank (c : UInt8) : Bool := c == 32 || c == 9 || c == 10
def letter (c : UInt8) : Bool := (97 ≤ c && c ≤ 122) || (65 ≤ c && c ≤ 90) || c == 95
def digit (c : UInt8) : Bool := 48 ≤ c && c ≤ 57
def word (c : UInt8) : Bool := letter c || digit c
def skip : Bool → B → B
 | _, [] => []
 | true, c :: r => if c == 10 then skip false r else skip true r
 | false, c :: r =>
  if blank c then skip false r
  else match r with
   | d :: _ => if c == 45 && d == 45 then skip true r else c :: r
   | [] => c :: r

structure Tok where
 kind : Nat
 at_ : Nat
 text : B
 n : Nat
deriving DecidableEq, Inhabited
def words : List B := [[110, 111, 100, 101], [114, 101, 116, 117, 114, 110, 115], [118, 97, 114], [108, 101, 116], [116, 101, 108], [105, 110, 116], [98, 111, 111, 108], [102, 117, 116, 117, 114, 101], [119, 104, 101, 110], [110, 111, 116], [97, 110, 100], [111, 114], [120, 111, 114], [105, 102], [116, 104, 101, 110], [101, 108, 115, 101], [112, 114, 101], [102, 98, 121], [109, 101, 114, 103, 101], [97, 115, 121, 110, 99], [97, 119, 97, 105, 116], [97, 102, 116, 101, 114], [116, 114, 117, 101], [102, 97, 108, 115, 101], [109, 111, 100]]
def signs : List B := [[60, 62], [60, 61], [62, 61], [45, 62], [40], [41], [44], [59], [58], [61], [60], [62], [43], [45], [42], [47]]
def numGo : Nat → B → Option Nat
 | n, [] => some n
 | n, c :: r => if n > (9223372036854775808 - (c.toNat - 48)) / 10 then none else numGo (10 * n + (c.toNat - 48)) r
def one (l : B) : Except Nat (Nat × B × Nat) :=
 match l with
 | [] => .error 1
 | c :: _ =>
  if letter c then
   let t := l.takeWhile word
   if words.contains t then .ok (3, t, 0)
   else if t.length > 30 then .error 3 else .ok (1, t, 0)
  else if digit c then
   let t := l.takeWhile digit
   if c == 48 && t.length > 1 then .error 1
   else match numGo 0 t with
    | none => .error 3
    | some n => .ok (2, t, n)
  else match signs.find? (fun s => s.isPrefixOf l) with
   | some s => .ok (4, s, 0)
   | none => .error 1
def go (total : Nat) : Nat → B → Except (Nat × Nat) (List Tok)
 | 0, _ => .ok []
 | k + 1, l =>
  let l := skip false l
  if l.isEmpty then .ok [⟨5, total, [], 0⟩]
  else match one l with
   | .error e => .error (total - l.length, e)
   | .ok (kind, t, n) =>
    match go total k (l.drop t.length) with
    | .error e => .error e
    | .ok r => .ok (⟨kind, total - l.length, t, n⟩ :: r)

def all (s : B) : Except (Nat × Nat) (List Tok) := if s.length > 4000 then .error (4000, 3) else go s.length (s.length + 1) s

theorem skip_blank (c : UInt8) (r : B) (h : blank c = true) : skip false (c :: r) = skip false r := by simp [skip, h]
theorem skip_other (l : B) (h : ∀ c r, l = c :: r → blank c = false) (h2 : [45, 45].isPrefixOf l = false) : skip false l = l := by
 match l with
 | [] => rfl
 | [c] => simp [skip, h c [] rfl]
 | c :: d :: r =>
  have h3 := h c _ rfl
  simp only [skip, h3, Bool.false_eq_true, if_false]
  have : (c == 45 && d == 45) = false := by
   cases hcd : (c == 45 && d == 45) with
   | false => rfl
   | true =>
    simp at hcd
    obtain ⟨rfl, rfl⟩ := hcd
    simp [List.isPrefixOf] at h2
  simp [this]
theorem skip_in (l : B) : skip true l = if Go.Lib.indexByte l 10 < 0 then [] else skip false (l.drop (Go.Lib.indexByte l 10).toNat) := by
 induction l with
 | nil => simp [skip, Go.Lib.indexByte]
 | cons c r ih =>
  have hge : ∀ l : B, -1 ≤ Go.Lib.indexByte l 10 := by
   intro l
   induction l with
   | nil => simp [Go.Lib.indexByte]
   | cons a t ih => simp only [Go.Lib.indexByte]; split <;> (try split) <;> omega
  have := hge r
  simp only [skip, Go.Lib.indexByte]
  by_cases hc : c = 10
  ·subst hc
   simp [skip, blank]
  ·simp only [beq_iff_eq, hc, if_false]
   rw [ih]
   by_cases hx : Go.Lib.indexByte r 10 = -1
   ·simp [hx]
   ·simp only [hx, if_false]
    rw [if_neg (by omega), if_neg (by omega)]
    obtain ⟨n, hn⟩ : ∃ n : Nat, Go.Lib.indexByte r 10 = n := ⟨(Go.Lib.indexByte r 10).toNat, by omega⟩
    rw [hn]
    have e1 : ((n : Int)).toNat = n := by omega
    have e2 : ((n : Int) + 1).toNat = n + 1 := by omega
    rw [e1, e2, List.drop_succ_cons]
theorem skip_remark (l : B) (h : [45, 45].isPrefixOf l = true) : skip false l = if Go.Lib.indexByte l 10 < 0 then [] else skip false (l.drop (Go.Lib.indexByte l 10).toNat) := by
 rw [← skip_in]
 match l with
 | [] => simp at h
 | [c] => simp [List.isPrefixOf] at h
 | c :: d :: r =>
  simp [List.isPrefixOf] at h
  obtain ⟨rfl, rfl⟩ := h
  simp [skip, blank]
theorem indexByte_lt (l : B) (c : UInt8) : Go.Lib.indexByte l c < l.length ∧ -1 ≤ Go.Lib.indexByte l c := by
 induction l with
 | nil => simp [Go.Lib.indexByte]
 | cons a t ih => simp only [Go.Lib.indexByte, List.length_cons]; split <;> (try split) <;> omega
theorem blank_index (c : UInt8) : (0 ≤ Go.Lib.indexByte [32, 9, 10] c) ↔ blank c = true := by
 unfold blank Go.Lib.indexByte Go.Lib.indexByte Go.Lib.indexByte Go.Lib.indexByte
 by_cases h1 : c = 32
 ·subst h1; simp
 ·by_cases h2 : c = 9
  ·subst h2; simp
  ·by_cases h3 : c = 10
   ·subst h3; simp
   ·have e1 : ¬ (32 = c) := fun e => h1 e.symm
    have e2 : ¬ (9 = c) := fun e => h2 e.symm
    have e3 : ¬ (10 = c) := fun e => h3 e.symm
    simp [h1, h2, h3, e1, e2, e3]
end LX
end Go.Proofs.YtjafllnbgfcchaaGreatDoor
