/- Joined of: PBase, PRt, PRu, PRv, PLx, PCt, PCn, PWf, PBk. -/
import Derived.Test.YtjafllnbgfcchaaGreatDoorQAPurP
import Derived.Test.YtjafllnbgfcchaaGreatDoorQALexPure
import Derived.Test.YtjafllnbgfcchaaGreatDoorQAGPFine
import Derived.Test.YtjafllnbgfcchaaGreatDoorQAGPCaught
section
/- Canonical tokens, and texts of numbers. -/
namespace Go.Proofs.YtjafllnbgfcchaaGreatDoor
set_option linter.unusedVariables false
set_option linter.unusedSimpArgs false
namespace PX
def kwT (w : B) : T := ⟨3, w, 0⟩
def sgT (w : B) : T := ⟨4, w, 0⟩
def nmT (w : B) : T := ⟨1, w, 0⟩
def digs : Nat → Nat → B
 | 0, _ => []
 | k + 1, n => if n < 10 then [48 + n.toUInt8] else digs k (n / 10) ++ [48 + (n % 10).toUInt8]
def digits (n : Nat) : B := digs 20 n
def numT (n : Int) : List T := if n < 0 then [sgT [45], ⟨2, digits n.natAbs, n.natAbs⟩] else [⟨2, digits n.natAbs, n.natAbs⟩]
def par (x : List T) : List T := sgT [40] :: (x ++ [sgT [41]])
def commas : List (List T) → List T
 | [] => []
 | [x] => x
 | x :: r => x ++ sgT [44] :: commas r
def NameOk (m : B) : Prop := (∃ c r, m = c :: r ∧ LX.letter c = true) ∧ m.all LX.word = true ∧ LX.words.contains m = false ∧ m.length ≤ 30
def parB (x : B) : B := 40 :: (x ++ [41])
def commasB : List B → B
 | [] => []
 | [x] => x
 | x :: r => x ++ 44 :: 32 :: commasB r
def numB (n : Int) : B := if n < 0 then 45 :: digits n.natAbs else digits n.natAbs
end PX
end Go.Proofs.YtjafllnbgfcchaaGreatDoor
end
section
/- The canonical tokens of an expression are read as it, but for the places. -/
namespace Go.Proofs.YtjafllnbgfcchaaGreatDoor
set_option linter.unusedVariables false
set_option linter.unusedSimpArgs false
namespace PX
mutual
def unp : Ex → Ex
 | .mk k _ n m o l => .mk k 0 n m o (unps l)
def unps : List Ex → List Ex
 | [] => []
 | e :: r => unp e :: unps r
end
theorem unps_eq (l : List Ex) : unps l = l.map unp := by
 induction l with
 | nil => rfl
 | cons e r ih => rw [unps, ih]; rfl
def signLevel (m : B) : Nat :=
 if m = [111, 114] ∨ m = [120, 111, 114] then 2 else if m = [97, 110, 100] then 3 else if m = [43] ∨ m = [45] then 6 else if m = [42] ∨ m = [47] ∨ m = [109, 111, 100] then 7 else 5
def lvl (k : Nat) (n : Int) (m : B) : Nat :=
 if k = 7 then 0 else if k = 8 ∨ k = 9 then 1 else if k = 5 then 4 else if k = 4 ∨ k = 10 then 8 else if k = 11 then 9 else if k = 6 then signLevel m
 else if k = 1 ∧ n < 0 then 8 else 10
def level (e : Ex) : Nat := lvl e.kind e.n e.name
structure Kt where
 lev : Nat
 kind : Nat
 toks : List T
def Kt.at_ (a : Kt) (least : Nat) : List T := if a.lev < least then par a.toks else a.toks
def signT (m : B) : T := if m = [111, 114] ∨ m = [120, 111, 114] ∨ m = [97, 110, 100] ∨ m = [109, 111, 100] then kwT m else sgT m
def asm (k : Nat) (n : Int) (m : B) (off : Bool) (l : List Kt) : List T :=
 if k = 1 then numT n
 else if k = 2 then [kwT (if n = 1 then [116, 114, 117, 101] else [102, 97, 108, 115, 101])]
 else if k = 3 then [nmT m]
 else if k = 13 then nmT m :: par (commas (l.map Kt.toks))
 else if k = 14 then kwT [97, 119, 97, 105, 116] :: nmT m :: (if l.isEmpty then [] else kwT [97, 102, 116, 101, 114] :: par (commas (l.map Kt.toks)))
 else match l with
  | [a] =>
   if k = 4 then sgT [45] :: (if a.kind = 1 ∨ (peek (a.at_ 8)).text = [45] then par a.toks else a.at_ 8)
   else if k = 5 then kwT [110, 111, 116] :: a.at_ 4
   else if k = 10 then kwT [112, 114, 101] :: a.at_ 8
   else if k = 11 then a.at_ 9 ++ kwT [119, 104, 101, 110] :: ((if off then [kwT [110, 111, 116]] else []) ++ [nmT m])
   else []
  | [a, b] =>
   if k = 6 then a.at_ (if signLevel m = 5 then 6 else signLevel m) ++ signT m :: b.at_ (signLevel m + 1)
   else if k = 8 then a.at_ 2 ++ sgT [45, 62] :: b.at_ 1
   else if k = 9 then a.toks ++ kwT [102, 98, 121] :: b.at_ 1
   else if k = 12 then kwT [109, 101, 114, 103, 101] :: nmT m :: (par a.toks ++ par b.toks)
   else []
  | [a, b, c] => if k = 7 then kwT [105, 102] :: (a.toks ++ kwT [116, 104, 101, 110] :: (b.toks ++ kwT [101, 108, 115, 101] :: c.toks)) else []
  | _ => []
mutual
def toksE : Ex → List T
 | .mk k _ n m o l => asm k n m o (ktsE l)
def ktsE : List Ex → List Kt
 | [] => []
 | e :: r => ⟨level e, e.kind, toksE e⟩ :: ktsE r
end
def ktE (e : Ex) : Kt := ⟨level e, e.kind, toksE e⟩
theorem ktsE_eq (l : List Ex) : ktsE l = l.map ktE := by
 induction l with
 | nil => rfl
 | cons e r ih => rw [ktsE, ih]; rfl
def allSigns : List B := [[43], [45], [42], [47], [109, 111, 100], [60], [60, 61], [62], [62, 61], [61], [60, 62], [97, 110, 100], [111, 114], [120, 111, 114]]
inductive Wf : Ex → Prop where
 | num (q n) : -9223372036854775808 ≤ n → n ≤ 9223372036854775807 → Wf (.mk 1 q n [] false [])
 | truth (q n) : n = 0 ∨ n = 1 → Wf (.mk 2 q n [] false [])
 | var (q m) : NameOk m → Wf (.mk 3 q 0 m false [])
 | neg (q a) : Wf a → Wf (.mk 4 q 0 [] false [a])
 | not_ (q a) : Wf a → Wf (.mk 5 q 0 [] false [a])
 | sign (q m a b) : m ∈ allSigns → Wf a → Wf b → Wf (.mk 6 q 0 m false [a, b])
 | if_ (q a b c) : Wf a → Wf b → Wf c → Wf (.mk 7 q 0 [] false [a, b, c])
 | arrow (q a b) : Wf a → Wf b → Wf (.mk 8 q 0 [] false [a, b])
 | fby (q a b) : isConst a = true → Wf a → Wf b → Wf (.mk 9 q 0 [] false [a, b])
 | pre (q a) : Wf a → Wf (.mk 10 q 0 [] false [a])
 | when_ (q m o a) : NameOk m → Wf a → Wf (.mk 11 q 0 m o [a])
 | merge (q m a b) : NameOk m → Wf a → Wf b → Wf (.mk 12 q 0 m false [a, b])
 | call (q m l) : NameOk m → (∀ x ∈ l, Wf x) → Wf (.mk 13 q 0 m false l)
 | await (q m l) : NameOk m → (∀ x ∈ l, Wf x) → (∀ x ∈ l, isConst x = true) → Wf (.mk 14 q 0 m false l)
def ops10 : List B := [[40], [97, 102, 116, 101, 114]]
def ops9 : List B := [119, 104, 101, 110] :: ops10
def ops7 : List B := [42] :: [47] :: [109, 111, 100] :: ops9
def ops6 : List B := [43] :: [45] :: ops7
def ops5 : List B := [61] :: [60, 62] :: [60] :: [60, 61] :: [62] :: [62, 61] :: ops6
def ops3 : List B := [97, 110, 100] :: ops5
def ops2 : List B := [111, 114] :: [120, 111, 114] :: ops3
def ops1 : List B := [45, 62] :: [102, 98, 121] :: ops2
def Stop (l : List B) (s : List T) : Prop := (peek s).text ∉ l
theorem Stop.sub {l l' : List B} {s : List T} (h : Stop l s) (hs : ∀ x ∈ l', x ∈ l) : Stop l' s := fun hx => h (hs _ hx)
theorem Stop.not {l l' : List B} {s : List T} (h : Stop l s) (hs : ∀ x ∈ l', x ∈ l) : is l' s = false := by
 unfold is
 rw [Bool.and_eq_false_iff]
 right
 rw [← Bool.not_eq_true, List.contains_iff_mem]
 exact h.sub hs
def Head (l : List B) (x : List T) : Prop := x ≠ [] ∧ ((peek x).kind = 3 ∨ (peek x).kind = 4 → (peek x).text ∉ l)
theorem Head.is {l l' : List B} {x : List T} (h : Head l x) (hs : ∀ y ∈ l', y ∈ l) (rest : List T) : PX.is l' (x ++ rest) = false := by
 cases x with
 | nil => exact absurd rfl h.1
 | cons t x =>
  unfold PX.is
  rw [Bool.and_eq_false_iff]
  show ((t.kind == 3 || t.kind == 4) = false) ∨ (l'.contains t.text = false)
  by_cases hk : t.kind = 3 ∨ t.kind = 4
  ·right
   rw [← Bool.not_eq_true, List.contains_iff_mem]
   exact fun hm => h.2 hk (hs _ hm)
  ·left
   simpa using hk
theorem Head.sub {l l' : List B} {x : List T} (h : Head l x) (hs : ∀ y ∈ l', y ∈ l) : Head l' x := ⟨h.1, fun hk hm => h.2 hk (hs _ hm)⟩
theorem Head.app {l : List B} {x : List T} (h : Head l x) (y : List T) : Head l (x ++ y) := by
 cases x with
 | nil => exact absurd rfl h.1
 | cons t x => exact ⟨by simp, h.2⟩
theorem Head.cons {l : List B} {t : T} (x : List T) (h : t.text ∉ l) : Head l (t :: x) := ⟨by simp, fun _ => h⟩
theorem Head.kind {l : List B} {t : T} (x : List T) (h : ¬ (t.kind = 3 ∨ t.kind = 4)) : Head l (t :: x) := ⟨by simp, fun k => absurd k h⟩
section
variable {α β : Type}
theorem Evr.step {f g : Nat → Res α} {r : Res α} (h : Evr g r) (e : ∀ k, f (k + 1) = g k) : Evr f r := by
 obtain ⟨k0, h⟩ := h
 refine ⟨k0 + 1, fun k hk => ?_⟩
 obtain ⟨j, rfl⟩ : ∃ j, k = j + 1 := ⟨k - 1, by omega⟩
 rw [e, h j (by omega)]
theorem Evr.bind {f : Nat → Res α} {g : Nat → α → List T → Res β} {a : α} {s : List T} {r : Res β} (h : Evr f (.ok a s)) (h2 : Evr (fun k => g k a s) r) : Evr (fun k => (f k).bind (g k)) r := by
 obtain ⟨k0, h⟩ := h
 obtain ⟨k1, h2⟩ := h2
 exact ⟨max k0 k1, fun k hk => by
  show (f k).bind (g k) = r
  rw [h k (by omega)]
  exact h2 k (by omega)⟩
theorem Evr.const (r : Res α) : Evr (fun _ => r) r := ⟨0, fun _ _ => rfl⟩
theorem Evr.wants {w : B} {t : T} {s : List T} {g : Nat → Unit → List T → Res β} {r : Res β} (ht : PX.is [w] (t :: s) = true) (h : Evr (fun k => g k () s) r) : Evr (fun k => (want w (t :: s)).bind (g k)) r := by
 have e : want w (t :: s) = .ok () s := by
  unfold want
  rw [if_pos ht]
  rfl
 exact Evr.bind (f := fun _ => want w (t :: s)) (by rw [e]; exact Evr.const _) h
theorem Evr.names {m : B} {s : List T} {g : Nat → B → List T → Res β} {r : Res β} (h : Evr (fun k => g k m s) r) : Evr (fun k => (name (nmT m :: s)).bind (g k)) r :=
 Evr.bind (f := fun _ => name (nmT m :: s)) (Evr.const _) h
end
theorem is_sg (w : B) (s : List T) : is [w] (sgT w :: s) = true := by unfold is; simp [peek, sgT]
theorem is_kw (w : B) (s : List T) : is [w] (kwT w :: s) = true := by unfold is; simp [peek, kwT]
def Sim (e' e : Ex) : Prop := unp e' = unp e
structure P10 (x : List T) (e : Ex) : Prop where
 hd : Head [[41], [97, 115, 121, 110, 99], [105, 102], [110, 111, 116], [112, 114, 101], [45]] x
 rd : ∀ rest, Stop ops10 rest → ∃ e', Sim e' e ∧ Evr (fun k => primary k (x ++ rest)) (.ok e' rest)
structure P9 (x : List T) (e : Ex) : Prop where
 hd : Head [[41], [97, 115, 121, 110, 99], [105, 102], [110, 111, 116], [112, 114, 101], [45]] x
 rd : ∀ rest, Stop ops10 rest → ∃ e', Sim e' e ∧ ∀ r, Evr (fun k => whens k e' rest) r → Evr (fun k => (primary k (x ++ rest)).bind fun a s1 => whens k a s1) r
structure P8 (x : List T) (e : Ex) : Prop where
 hd : Head [[41], [97, 115, 121, 110, 99], [105, 102], [110, 111, 116]] x
 rd : ∀ rest, Stop ops9 rest → ∃ e', Sim e' e ∧ Evr (fun k => unary k (x ++ rest)) (.ok e' rest)
structure P7 (x : List T) (e : Ex) : Prop where
 hd : Head [[41], [97, 115, 121, 110, 99], [105, 102], [110, 111, 116]] x
 rd : ∀ rest, Stop ops9 rest → ∃ e', Sim e' e ∧ ∀ r, Evr (fun k => left k 4 e' rest) r → Evr (fun k => bin k 4 (x ++ rest)) r
structure P6 (x : List T) (e : Ex) : Prop where
 hd : Head [[41], [97, 115, 121, 110, 99], [105, 102], [110, 111, 116]] x
 rd : ∀ rest, Stop ops7 rest → ∃ e', Sim e' e ∧ ∀ r, Evr (fun k => left k 3 e' rest) r → Evr (fun k => bin k 3 (x ++ rest)) r
structure P4 (x : List T) (e : Ex) : Prop where
 hd : Head [[41], [97, 115, 121, 110, 99], [105, 102]] x
 rd : ∀ rest, Stop ops5 rest → ∃ e', Sim e' e ∧ Evr (fun k => bin k 2 (x ++ rest)) (.ok e' rest)
structure P3 (x : List T) (e : Ex) : Prop where
 hd : Head [[41], [97, 115, 121, 110, 99], [105, 102]] x
 rd : ∀ rest, Stop ops5 rest → ∃ e', Sim e' e ∧ ∀ r, Evr (fun k => left k 1 e' rest) r → Evr (fun k => bin k 1 (x ++ rest)) r
structure P2 (x : List T) (e : Ex) : Prop where
 hd : Head [[41], [97, 115, 121, 110, 99], [105, 102]] x
 rd : ∀ rest, Stop ops3 rest → ∃ e', Sim e' e ∧ ∀ r, Evr (fun k => left k 0 e' rest) r → Evr (fun k => bin k 0 (x ++ rest)) r
structure P1 (x : List T) (e : Ex) : Prop where
 hd : Head [[41], [97, 115, 121, 110, 99], [105, 102]] x
 rd : ∀ rest, Stop ops1 rest → ∃ e', Sim e' e ∧ Evr (fun k => arrow k (x ++ rest)) (.ok e' rest)
structure P0 (x : List T) (e : Ex) : Prop where
 hd : Head [[41], [97, 115, 121, 110, 99]] x
 rd : ∀ rest, Stop ops1 rest → ∃ e', Sim e' e ∧ Evr (fun k => expr k (x ++ rest)) (.ok e' rest)
theorem left_stop (i : Nat) (e : Ex) {rest : List T} {l : List B} (h : Stop l rest) (hs : ∀ x ∈ levelSigns i, x ∈ l) : Evr (fun k => left k i e rest) (.ok e rest) :=
 Evr.step (g := fun _ => .ok e rest) (Evr.const _) fun k => by rw [left.eq_2, if_neg (by rw [h.not hs]; decide)]
theorem whens_stop (e : Ex) {rest : List T} (h : Stop ops9 rest) : Evr (fun k => whens k e rest) (.ok e rest) :=
 Evr.step (g := fun _ => .ok e rest) (Evr.const _) fun k => by rw [whens.eq_2, if_neg (by rw [h.not (l' := [[119, 104, 101, 110]]) (by decide)]; decide)]
section
variable {x : List T} {e : Ex}
theorem P10.to9 (h : P10 x e) : P9 x e := ⟨h.hd, fun rest hr => by
 obtain ⟨e', hs, hv⟩ := h.rd rest hr
 exact ⟨e', hs, fun r hw => Evr.bind (g := fun k a s1 => whens k a s1) hv hw⟩⟩
theorem P9.to8 (h : P9 x e) : P8 x e := ⟨h.hd.sub (by decide), fun rest hr => by
 obtain ⟨e', hs, hv⟩ := h.rd rest (hr.sub (by decide))
 refine ⟨e', hs, Evr.step (hv _ (whens_stop e' hr)) fun k => ?_⟩
 rw [unary.eq_2, if_neg (by rw [h.hd.is (by decide)]; decide), if_neg (by rw [h.hd.is (by decide)]; decide)]⟩
theorem P8.to7 (h : P8 x e) : P7 x e := ⟨h.hd, fun rest hr => by
 obtain ⟨e', hs, hv⟩ := h.rd rest hr
 refine ⟨e', hs, fun r hl => Evr.step (Evr.bind (f := fun k => bin k 5 (x ++ rest)) (g := fun k a s1 => left k 4 a s1) (Evr.step hv fun k => ?_) hl) fun k => ?_⟩
 ·rw [bin.eq_2, if_neg (by decide), if_pos rfl]
 ·rw [bin.eq_2, if_neg (by decide), if_neg (by decide)]⟩
theorem P7.to6 (h : P7 x e) : P6 x e := ⟨h.hd, fun rest hr => by
 obtain ⟨e', hs, hv⟩ := h.rd rest (hr.sub (by decide))
 refine ⟨e', hs, fun r hl => Evr.step (Evr.bind (g := fun k a s1 => left k 3 a s1) (hv _ (left_stop 4 e' hr (by decide))) hl) fun k => ?_⟩
 rw [bin.eq_2, if_neg (by decide), if_neg (by decide)]⟩
theorem P6.to4 (h : P6 x e) : P4 x e := ⟨h.hd.sub (by decide), fun rest hr => by
 obtain ⟨e', hs, hv⟩ := h.rd rest (hr.sub (by decide))
 refine ⟨e', hs, Evr.step (Evr.bind (g := fun k a s1 => if is compares s1 then (bin k 3 s1.tail).bind fun b s2 => .ok (.mk 6 s1.length 0 (peek s1).text false [a, b]) s2 else .ok a s1) (hv _ (left_stop 3 e' (hr.sub (l' := ops6) (by decide)) (by decide))) ?_) fun k => ?_⟩
 ·have hc : is compares rest = false := hr.not (by decide)
  simp only [hc, Bool.false_eq_true, if_false]
  exact Evr.const _
 ·rw [bin.eq_2, if_pos rfl, if_neg (by rw [h.hd.is (by decide)]; decide)]⟩
theorem P4.to3 (h : P4 x e) : P3 x e := ⟨h.hd, fun rest hr => by
 obtain ⟨e', hs, hv⟩ := h.rd rest hr
 refine ⟨e', hs, fun r hl => Evr.step (Evr.bind (g := fun k a s1 => left k 1 a s1) hv hl) fun k => ?_⟩
 rw [bin.eq_2, if_neg (by decide), if_neg (by decide)]⟩
theorem P3.to2 (h : P3 x e) : P2 x e := ⟨h.hd, fun rest hr => by
 obtain ⟨e', hs, hv⟩ := h.rd rest (hr.sub (by decide))
 refine ⟨e', hs, fun r hl => Evr.step (Evr.bind (g := fun k a s1 => left k 0 a s1) (hv _ (left_stop 1 e' hr (by decide))) hl) fun k => ?_⟩
 rw [bin.eq_2, if_neg (by decide), if_neg (by decide)]⟩
theorem P2.to1 (h : P2 x e) : P1 x e := ⟨h.hd, fun rest hr => by
 obtain ⟨e', hs, hv⟩ := h.rd rest (hr.sub (by decide))
 refine ⟨e', hs, Evr.step (Evr.bind (g := fun k a s1 => if is [[45, 62]] s1 then (arrow k s1.tail).bind fun b s2 => .ok (.mk 8 s1.length 0 [] false [a, b]) s2
  else if is [[102, 98, 121]] s1 then if isConst a then (arrow k s1.tail).bind fun b s2 => .ok (.mk 9 s1.length 0 [] false [a, b]) s2 else fail s1
  else .ok a s1) (hv _ (left_stop 0 e' (hr.sub (l' := ops2) (by decide)) (by decide))) ?_) fun k => ?_⟩
 ·have h1 : is [[45, 62]] rest = false := hr.not (by decide)
  have h2 : is [[102, 98, 121]] rest = false := hr.not (by decide)
  simp only [h1, h2, Bool.false_eq_true, if_false]
  exact Evr.const _
 ·rw [arrow.eq_2]⟩
theorem P1.to0 (h : P1 x e) : P0 x e := ⟨h.hd.sub (by decide), fun rest hr => by
 obtain ⟨e', hs, hv⟩ := h.rd rest hr
 refine ⟨e', hs, Evr.step hv fun k => ?_⟩
 rw [expr.eq_2, if_neg (by rw [h.hd.is (by decide)]; decide)]⟩
end
def PL : Nat → List T → Ex → Prop
 | 0 => P0
 | 1 => P1
 | 2 => P2
 | 3 => P3
 | 4 => P4
 | 5 => P4
 | 6 => P6
 | 7 => P7
 | 8 => P8
 | 9 => P9
 | _ => P10
theorem PL.down {x : List T} {e : Ex} {i : Nat} (h : PL (i + 1) x e) : PL i x e := by
 match i, h with
 | 0, h => exact P1.to0 h
 | 1, h => exact P2.to1 h
 | 2, h => exact P3.to2 h
 | 3, h => exact P4.to3 h
 | 4, h => exact h
 | 5, h => exact P6.to4 h
 | 6, h => exact P7.to6 h
 | 7, h => exact P8.to7 h
 | 8, h => exact P9.to8 h
 | 9, h => exact P10.to9 h
 | i + 10, h => exact h
theorem PL.le {x : List T} {e : Ex} {i j : Nat} (hij : i ≤ j) (h : PL j x e) : PL i x e := by
 obtain ⟨d, rfl⟩ : ∃ d, j = i + d := ⟨j - i, by omega⟩
 clear hij
 induction d with
 | zero => exact h
 | succ d ih => exact ih (PL.down h)
theorem PL.to0 {x : List T} {e : Ex} {i : Nat} (h : PL i x e) : P0 x e := PL.le (Nat.zero_le i) h
theorem P0.par {x : List T} {e : Ex} (h : P0 x e) : P10 (par x) e := by
 refine ⟨Head.cons _ (by decide), fun rest hr => ?_⟩
 obtain ⟨e', hs, hv⟩ := h.rd (sgT [41] :: rest) (by show [41] ∉ ops1; decide)
 have hx : PX.par x ++ rest = sgT [40] :: (x ++ sgT [41] :: rest) := by simp [PX.par]
 refine ⟨e', hs, ?_⟩
 rw [hx]
 refine Evr.step (g := fun k => (expr k (x ++ sgT [41] :: rest)).bind fun e s1 => (want [41] s1).bind fun _ s2 => .ok e s2) ?_ fun k => ?_
 ·refine Evr.bind (g := fun k e s1 => (want [41] s1).bind fun _ s2 => .ok e s2) hv ?_
  exact Evr.wants (is_sg _ _) (Evr.const _)
 ·rw [primary.eq_2]
  rfl
theorem PL.at_ {e : Ex} (h : PL (level e) (toksE e) e) (least : Nat) (hl : least ≤ 10) : PL least ((ktE e).at_ least) e := by
 unfold Kt.at_
 split
 ·exact PL.le (j := 10) hl (P0.par (PL.to0 h))
 ·rename_i hn
  exact PL.le (by show least ≤ level e; have : ¬ (level e < least) := hn; omega) h
theorem sim_mk {k q q' : Nat} {n : Int} {m : B} {o : Bool} {l l' : List Ex} (h : unps l' = unps l) : Sim (.mk k q' n m o l') (.mk k q n m o l) := by
 unfold Sim
 rw [unp, unp, h]
theorem sim1 {a a' : Ex} (h : Sim a' a) : unps [a'] = unps [a] := by rw [unps_eq, unps_eq]; simp only [List.map]; rw [h]
theorem sim2 {a a' b b' : Ex} (h : Sim a' a) (h2 : Sim b' b) : unps [a', b'] = unps [a, b] := by rw [unps_eq, unps_eq]; simp only [List.map]; rw [h, h2]
theorem sim3 {a a' b b' c c' : Ex} (h : Sim a' a) (h2 : Sim b' b) (h3 : Sim c' c) : unps [a', b', c'] = unps [a, b, c] := by rw [unps_eq, unps_eq]; simp only [List.map]; rw [h, h2, h3]
end PX
end Go.Proofs.YtjafllnbgfcchaaGreatDoor
end
section
/- The canonical tokens of an expression are read as it, but for the places: each kind. -/
namespace Go.Proofs.YtjafllnbgfcchaaGreatDoor
set_option linter.unusedVariables false
set_option linter.unusedSimpArgs false
namespace PX
section
variable {X1 X2 X3 : List T} {a b c : Ex}
theorem Evr.ofStep {α : Type} {f : Nat → Res α} {r : Res α} (e : ∀ k, f (k + 1) = r) : Evr f r := Evr.step (g := fun _ => r) (Evr.const _) e
theorem isT {t : T} {l : List PX.B} (s : List T) (hk : t.kind = 3 ∨ t.kind = 4) (hm : t.text ∈ l) : is l (t :: s) = true := by
 unfold is
 show ((t.kind == 3 || t.kind == 4) && l.contains t.text) = true
 rw [List.contains_iff_mem.2 hm, Bool.and_true]
 simpa using hk
theorem bin_step {i : Nat} (hi : i < 5) (h2 : i ≠ 2) {t : T} (hk : t.kind = 3 ∨ t.kind = 4) (hm : t.text ∈ levelSigns i) {rest : List T} {a' b' : Ex} (hb : Evr (fun k => bin k (i + 1) (X2 ++ rest)) (.ok b' rest)) (q : Nat) (hq : q = (t :: (X2 ++ rest)).length) :
  ∀ r, Evr (fun k => left k i (Ex.mk 6 q 0 t.text false [a', b']) rest) r → Evr (fun k => left k i a' (t :: (X2 ++ rest))) r := by
 intro r h
 subst hq
 refine Evr.step (g := fun k => (bin k (i + 1) (X2 ++ rest)).bind fun b s1 => left k i (Ex.mk 6 (t :: (X2 ++ rest)).length 0 t.text false [a', b]) s1) (Evr.bind (g := fun k b s1 => left k i (Ex.mk 6 (t :: (X2 ++ rest)).length 0 t.text false [a', b]) s1) hb h) fun k => ?_
 rw [left.eq_2, if_pos (isT _ hk hm)]
 rfl
theorem P2.sign (ha : P2 X1 a) (hb : P3 X2 b) {t : T} (hk : t.kind = 3 ∨ t.kind = 4) (hm : t.text ∈ levelSigns 0) (q : Nat) : P2 (X1 ++ t :: X2) (Ex.mk 6 q 0 t.text false [a, b]) := by
 refine ⟨ha.hd.app _, fun rest hr => ?_⟩
 obtain ⟨a', hs, hv⟩ := ha.rd (t :: (X2 ++ rest)) (by
  show t.text ∉ ops3
  have : ∀ x ∈ levelSigns 0, x ∉ ops3 := by decide
  exact this _ hm)
 obtain ⟨b', hs2, hv2⟩ := hb.rd rest (hr.sub (by decide))
 refine ⟨_, sim_mk (q' := (t :: (X2 ++ rest)).length) (sim2 hs hs2), fun (r : Res Ex) h => ?_⟩
 rw [List.append_assoc]
 exact hv _ (bin_step (by decide) (by decide) hk hm (hv2 _ (left_stop 1 b' hr (by decide))) _ rfl r h)
theorem P3.sign (ha : P3 X1 a) (hb : P4 X2 b) {t : T} (hk : t.kind = 3 ∨ t.kind = 4) (hm : t.text ∈ levelSigns 1) (q : Nat) : P3 (X1 ++ t :: X2) (Ex.mk 6 q 0 t.text false [a, b]) := by
 refine ⟨ha.hd.app _, fun rest hr => ?_⟩
 obtain ⟨a', hs, hv⟩ := ha.rd (t :: (X2 ++ rest)) (by
  show t.text ∉ ops5
  have : ∀ x ∈ levelSigns 1, x ∉ ops5 := by decide
  exact this _ hm)
 obtain ⟨b', hs2, hv2⟩ := hb.rd rest hr
 refine ⟨_, sim_mk (q' := (t :: (X2 ++ rest)).length) (sim2 hs hs2), fun (r : Res Ex) h => ?_⟩
 rw [List.append_assoc]
 exact hv _ (bin_step (by decide) (by decide) hk hm hv2 _ rfl r h)
theorem P6.sign (ha : P6 X1 a) (hb : P7 X2 b) {t : T} (hk : t.kind = 3 ∨ t.kind = 4) (hm : t.text ∈ levelSigns 3) (q : Nat) : P6 (X1 ++ t :: X2) (Ex.mk 6 q 0 t.text false [a, b]) := by
 refine ⟨ha.hd.app _, fun rest hr => ?_⟩
 obtain ⟨a', hs, hv⟩ := ha.rd (t :: (X2 ++ rest)) (by
  show t.text ∉ ops7
  have : ∀ x ∈ levelSigns 3, x ∉ ops7 := by decide
  exact this _ hm)
 obtain ⟨b', hs2, hv2⟩ := hb.rd rest (hr.sub (by decide))
 refine ⟨_, sim_mk (q' := (t :: (X2 ++ rest)).length) (sim2 hs hs2), fun (r : Res Ex) h => ?_⟩
 rw [List.append_assoc]
 exact hv _ (bin_step (by decide) (by decide) hk hm (hv2 _ (left_stop 4 b' hr (by decide))) _ rfl r h)
theorem P7.sign (ha : P7 X1 a) (hb : P8 X2 b) {t : T} (hk : t.kind = 3 ∨ t.kind = 4) (hm : t.text ∈ levelSigns 4) (q : Nat) : P7 (X1 ++ t :: X2) (Ex.mk 6 q 0 t.text false [a, b]) := by
 refine ⟨ha.hd.app _, fun rest hr => ?_⟩
 obtain ⟨a', hs, hv⟩ := ha.rd (t :: (X2 ++ rest)) (by
  show t.text ∉ ops9
  have : ∀ x ∈ levelSigns 4, x ∉ ops9 := by decide
  exact this _ hm)
 obtain ⟨b', hs2, hv2⟩ := hb.rd rest hr
 refine ⟨_, sim_mk (q' := (t :: (X2 ++ rest)).length) (sim2 hs hs2), fun (r : Res Ex) h => ?_⟩
 rw [List.append_assoc]
 exact hv _ (bin_step (by decide) (by decide) hk hm (Evr.step hv2 fun k => by rw [bin.eq_2, if_neg (by decide), if_pos rfl]) _ rfl r h)
theorem P4.cmp (ha : P6 X1 a) (hb : P6 X2 b) {t : T} (hk : t.kind = 3 ∨ t.kind = 4) (hm : t.text ∈ compares) (q : Nat) : P4 (X1 ++ t :: X2) (Ex.mk 6 q 0 t.text false [a, b]) := by
 refine ⟨(ha.hd.sub (by decide)).app _, fun rest hr => ?_⟩
 have hn : t.text ∉ ops6 := by
  have : ∀ x ∈ compares, x ∉ ops6 := by decide
  exact this _ hm
 have hst : Stop ops6 (t :: (X2 ++ rest)) := hn
 obtain ⟨a', hs, hv⟩ := ha.rd (t :: (X2 ++ rest)) (hst.sub (by decide))
 obtain ⟨b', hs2, hv2⟩ := hb.rd rest (hr.sub (by decide))
 refine ⟨_, sim_mk (q' := (t :: (X2 ++ rest)).length) (sim2 hs hs2), ?_⟩
 rw [List.append_assoc]
 refine Evr.step (Evr.bind (g := fun k a s1 => if is compares s1 then (bin k 3 s1.tail).bind fun b s2 => .ok (Ex.mk 6 s1.length 0 (peek s1).text false [a, b]) s2 else .ok a s1) (hv _ (left_stop 3 a' hst (by decide))) ?_) fun k => ?_
 ·show Evr (fun k => if is compares (t :: (X2 ++ rest)) then (bin k 3 (X2 ++ rest)).bind fun b s2 => .ok (Ex.mk 6 (t :: (X2 ++ rest)).length 0 t.text false [a', b]) s2 else .ok a' (t :: (X2 ++ rest))) _
  have h9 := isT (l := compares) (X2 ++ rest) hk hm
  simp only [h9, if_true]
  exact Evr.bind (g := fun k b s2 => .ok (Ex.mk 6 (t :: (X2 ++ rest)).length 0 t.text false [a', b]) s2) (hv2 _ (left_stop 3 b' (hr.sub (l' := ops6) (by decide)) (by decide))) (Evr.const _)
 ·rw [bin.eq_2, if_pos rfl, if_neg (by rw [show X1 ++ ((t :: X2) ++ rest) = X1 ++ (t :: X2 ++ rest) from rfl, ha.hd.is (by decide)]; decide)]
  rfl
theorem P4.not (ha : P4 X1 a) (q : Nat) : P4 (kwT [110, 111, 116] :: X1) (Ex.mk 5 q 0 [] false [a]) := by
 refine ⟨Head.cons _ (by decide), fun rest hr => ?_⟩
 obtain ⟨a', hs, hv⟩ := ha.rd rest hr
 refine ⟨_, sim_mk (q' := (kwT [110, 111, 116] :: (X1 ++ rest)).length) (sim1 hs), ?_⟩
 refine Evr.step (Evr.bind (g := fun k a s1 => .ok (Ex.mk 5 (kwT [110, 111, 116] :: (X1 ++ rest)).length 0 [] false [a]) s1) hv (Evr.const _)) fun k => ?_
 show bin (k + 1) 2 (kwT [110, 111, 116] :: (X1 ++ rest)) = _
 rw [bin.eq_2, if_pos rfl, if_pos (is_kw _ _)]
 rfl
theorem P0.if_ (ha : P0 X1 a) (hb : P0 X2 b) (hc : P0 X3 c) (q : Nat) : P0 (kwT [105, 102] :: (X1 ++ kwT [116, 104, 101, 110] :: (X2 ++ kwT [101, 108, 115, 101] :: X3))) (Ex.mk 7 q 0 [] false [a, b, c]) := by
 refine ⟨Head.cons _ (by decide), fun rest hr => ?_⟩
 obtain ⟨a', hs1, hv1⟩ := ha.rd (kwT [116, 104, 101, 110] :: (X2 ++ kwT [101, 108, 115, 101] :: (X3 ++ rest))) (by show [116, 104, 101, 110] ∉ ops1; decide)
 obtain ⟨b', hs2, hv2⟩ := hb.rd (kwT [101, 108, 115, 101] :: (X3 ++ rest)) (by show [101, 108, 115, 101] ∉ ops1; decide)
 obtain ⟨c', hs3, hv3⟩ := hc.rd rest hr
 have hx : (kwT [105, 102] :: (X1 ++ kwT [116, 104, 101, 110] :: (X2 ++ kwT [101, 108, 115, 101] :: X3))) ++ rest = kwT [105, 102] :: (X1 ++ kwT [116, 104, 101, 110] :: (X2 ++ kwT [101, 108, 115, 101] :: (X3 ++ rest))) := by simp
 rw [hx]
 obtain ⟨Q, hQ⟩ : ∃ Q, Q = (kwT [105, 102] :: (X1 ++ kwT [116, 104, 101, 110] :: (X2 ++ kwT [101, 108, 115, 101] :: (X3 ++ rest)))).length := ⟨_, rfl⟩
 refine ⟨_, sim_mk (q' := Q) (sim3 hs1 hs2 hs3), ?_⟩
 refine Evr.step (g := fun k => (expr k (X1 ++ kwT [116, 104, 101, 110] :: (X2 ++ kwT [101, 108, 115, 101] :: (X3 ++ rest)))).bind fun a s1 => (want [116, 104, 101, 110] s1).bind fun _ s2 => (expr k s2).bind fun b s3 => (want [101, 108, 115, 101] s3).bind fun _ s4 =>
    (expr k s4).bind fun c s5 => .ok (Ex.mk 7 Q 0 [] false [a, b, c]) s5) ?_ fun k => ?_
 ·refine Evr.bind (g := fun k a s1 => (want [116, 104, 101, 110] s1).bind fun _ s2 => (expr k s2).bind fun b s3 => (want [101, 108, 115, 101] s3).bind fun _ s4 => (expr k s4).bind fun c s5 => .ok (Ex.mk 7 Q 0 [] false [a, b, c]) s5) hv1 ?_
  refine Evr.wants (g := fun k _ s2 => (expr k s2).bind fun b s3 => (want [101, 108, 115, 101] s3).bind fun _ s4 => (expr k s4).bind fun c s5 => .ok (Ex.mk 7 Q 0 [] false [a', b, c]) s5) (is_kw _ _) ?_
  refine Evr.bind (g := fun k b s3 => (want [101, 108, 115, 101] s3).bind fun _ s4 => (expr k s4).bind fun c s5 => .ok (Ex.mk 7 Q 0 [] false [a', b, c]) s5) hv2 ?_
  refine Evr.wants (g := fun k _ s4 => (expr k s4).bind fun c s5 => .ok (Ex.mk 7 Q 0 [] false [a', b', c]) s5) (is_kw _ _) ?_
  exact Evr.bind (g := fun k c s5 => .ok (Ex.mk 7 Q 0 [] false [a', b', c]) s5) hv3 (Evr.const _)
 ·rw [expr.eq_2, if_pos (is_kw _ _), hQ]
  rfl
theorem P1.arrow (ha : P2 X1 a) (hb : P1 X2 b) (q : Nat) : P1 (X1 ++ sgT [45, 62] :: X2) (Ex.mk 8 q 0 [] false [a, b]) := by
 refine ⟨ha.hd.app _, fun rest hr => ?_⟩
 have hst : Stop ops2 (sgT [45, 62] :: (X2 ++ rest)) := by show [45, 62] ∉ ops2; decide
 obtain ⟨a', hs, hv⟩ := ha.rd (sgT [45, 62] :: (X2 ++ rest)) (hst.sub (by decide))
 obtain ⟨b', hs2, hv2⟩ := hb.rd rest hr
 rw [List.append_assoc]
 obtain ⟨Q, hQ⟩ : ∃ Q, Q = (sgT [45, 62] :: (X2 ++ rest)).length := ⟨_, rfl⟩
 refine ⟨_, sim_mk (q' := Q) (sim2 hs hs2), ?_⟩
 refine Evr.step (Evr.bind (g := fun k a s1 => if is [[45, 62]] s1 then (PX.arrow k s1.tail).bind fun b s2 => .ok (Ex.mk 8 s1.length 0 [] false [a, b]) s2
  else if is [[102, 98, 121]] s1 then if isConst a then (PX.arrow k s1.tail).bind fun b s2 => .ok (Ex.mk 9 s1.length 0 [] false [a, b]) s2 else fail s1
  else .ok a s1) (hv _ (left_stop 0 a' hst (by decide))) ?_) fun k => ?_
 ·simp only [is_sg, if_true, List.tail_cons, ← hQ]
  exact Evr.bind (g := fun k b s2 => .ok (Ex.mk 8 Q 0 [] false [a', b]) s2) hv2 (Evr.const _)
 ·rw [arrow.eq_2]
  rfl
theorem const_sim {a a' : Ex} (h : Sim a' a) : isConst a' = isConst a := by
 cases a; cases a'
 unfold Sim at h
 rw [unp, unp] at h
 injection h with h1
 unfold isConst
 simp only [Ex.kind, h1]
theorem P1.fby (ha : P2 X1 a) (hc : isConst a = true) (hb : P1 X2 b) (q : Nat) : P1 (X1 ++ kwT [102, 98, 121] :: X2) (Ex.mk 9 q 0 [] false [a, b]) := by
 refine ⟨ha.hd.app _, fun rest hr => ?_⟩
 have hst : Stop ops2 (kwT [102, 98, 121] :: (X2 ++ rest)) := by show [102, 98, 121] ∉ ops2; decide
 obtain ⟨a', hs, hv⟩ := ha.rd (kwT [102, 98, 121] :: (X2 ++ rest)) (hst.sub (by decide))
 obtain ⟨b', hs2, hv2⟩ := hb.rd rest hr
 rw [List.append_assoc]
 obtain ⟨Q, hQ⟩ : ∃ Q, Q = (kwT [102, 98, 121] :: (X2 ++ rest)).length := ⟨_, rfl⟩
 refine ⟨_, sim_mk (q' := Q) (sim2 hs hs2), ?_⟩
 refine Evr.step (Evr.bind (g := fun k a s1 => if is [[45, 62]] s1 then (PX.arrow k s1.tail).bind fun b s2 => .ok (Ex.mk 8 s1.length 0 [] false [a, b]) s2
  else if is [[102, 98, 121]] s1 then if isConst a then (PX.arrow k s1.tail).bind fun b s2 => .ok (Ex.mk 9 s1.length 0 [] false [a, b]) s2 else fail s1
  else .ok a s1) (hv _ (left_stop 0 a' hst (by decide))) ?_) fun k => ?_
 ·have h1 : is [[45, 62]] (kwT [102, 98, 121] :: (X2 ++ rest)) = false := by unfold is; rfl
  simp only [h1, Bool.false_eq_true, if_false, is_kw, if_true, List.tail_cons, ← hQ, const_sim hs, hc]
  exact Evr.bind (g := fun k b s2 => .ok (Ex.mk 9 Q 0 [] false [a', b]) s2) hv2 (Evr.const _)
 ·rw [arrow.eq_2]
  rfl
theorem P8.pre (ha : P8 X1 a) (q : Nat) : P8 (kwT [112, 114, 101] :: X1) (Ex.mk 10 q 0 [] false [a]) := by
 refine ⟨Head.cons _ (by decide), fun rest hr => ?_⟩
 obtain ⟨a', hs, hv⟩ := ha.rd rest hr
 obtain ⟨Q, hQ⟩ : ∃ Q, Q = (kwT [112, 114, 101] :: (X1 ++ rest)).length := ⟨_, rfl⟩
 refine ⟨_, sim_mk (q' := Q) (sim1 hs), ?_⟩
 refine Evr.step (Evr.bind (g := fun k a s1 => .ok (Ex.mk 10 Q 0 [] false [a]) s1) hv (Evr.const _)) fun k => ?_
 show PX.unary (k + 1) (kwT [112, 114, 101] :: (X1 ++ rest)) = _
 rw [unary.eq_2, if_pos (is_kw _ _), hQ]
 rfl
def Nh (k : Nat) (x : List T) : Prop := (peek x).kind = 2 → (k = 1 ∧ ∃ t, x = [t]) ∨ (x.tail ≠ [] ∧ (peek x.tail).text = [119, 104, 101, 110])
theorem is_pre_sg (s : List T) : is [[112, 114, 101]] (sgT [45] :: s) = false := rfl
theorem P8.neg (ha : P8 X1 a) (hn : (peek X1).kind = 2 → X1.tail ≠ [] ∧ (peek X1.tail).text = [119, 104, 101, 110]) (q : Nat) : P8 (sgT [45] :: X1) (Ex.mk 4 q 0 [] false [a]) := by
 refine ⟨Head.cons _ (by decide), fun rest hr => ?_⟩
 obtain ⟨a', hs, hv⟩ := ha.rd rest hr
 obtain ⟨Q, hQ⟩ : ∃ Q, Q = (sgT [45] :: (X1 ++ rest)).length := ⟨_, rfl⟩
 refine ⟨_, sim_mk (q' := Q) (sim1 hs), ?_⟩
 refine Evr.step (Evr.bind (g := fun k a s1 => .ok (Ex.mk 4 Q 0 [] false [a]) s1) hv (Evr.const _)) fun k => ?_
 show PX.unary (k + 1) (sgT [45] :: (X1 ++ rest)) = _
 have hb : ((peek (X1 ++ rest)).kind == 2 && (peek (X1 ++ rest).tail).text != [119, 104, 101, 110]) = false := by
  cases X1 with
  | nil => exact absurd rfl ha.hd.1
  | cons t X1 =>
   by_cases hk : t.kind = 2
   ·obtain ⟨h1, h2⟩ := hn hk
    cases X1 with
    | nil => exact absurd rfl h1
    | cons t2 X1 =>
     have h3 : t2.text = [119, 104, 101, 110] := h2
     rw [Bool.and_eq_false_iff]
     right
     show (t2.text != [119, 104, 101, 110]) = false
     rw [h3]
     decide
   ·rw [Bool.and_eq_false_iff]
    left
    show (t.kind == 2) = false
    simpa using hk
 rw [unary.eq_2, is_pre_sg, if_neg (by decide), if_pos (is_sg _ _)]
 show (if ((peek (X1 ++ rest)).kind == 2 && (peek (X1 ++ rest).tail).text != [119, 104, 101, 110]) = true then _ else _) = _
 rw [hb, if_neg (by decide), hQ]
 rfl
theorem P9.when (ha : P9 X1 a) (q : Nat) (m : PX.B) (o : Bool) : P9 (X1 ++ kwT [119, 104, 101, 110] :: ((if o then [kwT [110, 111, 116]] else []) ++ [nmT m])) (Ex.mk 11 q 0 m o [a]) := by
 refine ⟨ha.hd.app _, fun rest hr => ?_⟩
 obtain ⟨a', hs, hv⟩ := ha.rd (kwT [119, 104, 101, 110] :: ((if o then [kwT [110, 111, 116]] else []) ++ nmT m :: rest)) (by show [119, 104, 101, 110] ∉ ops10; decide)
 have hx : (X1 ++ kwT [119, 104, 101, 110] :: ((if o then [kwT [110, 111, 116]] else []) ++ [nmT m])) ++ rest = X1 ++ (kwT [119, 104, 101, 110] :: ((if o then [kwT [110, 111, 116]] else []) ++ nmT m :: rest)) := by simp
 rw [hx]
 obtain ⟨Q, hQ⟩ : ∃ Q, Q = (kwT [119, 104, 101, 110] :: ((if o then [kwT [110, 111, 116]] else []) ++ nmT m :: rest)).length := ⟨_, rfl⟩
 refine ⟨_, sim_mk (q' := Q) (sim1 hs), fun r h => hv _ ?_⟩
 refine Evr.step (g := fun k => whens k (Ex.mk 11 Q 0 m o [a']) rest) h fun k => ?_
 rw [whens.eq_2, if_pos (is_kw _ _), hQ]
 cases o <;> rfl
theorem P10.num (q : Nat) (n : Int) (h0 : ¬ n < 0) (h1 : n ≤ 9223372036854775807) : P10 (numT n) (Ex.mk 1 q n [] false []) := by
 unfold numT
 rw [if_neg h0]
 refine ⟨Head.kind _ (by show ¬ (2 = 3 ∨ 2 = 4); decide), fun rest hr => ?_⟩
 refine ⟨.mk 1 (⟨2, digits n.natAbs, n.natAbs⟩ :: rest : List T).length n [] false [], sim_mk rfl, Evr.ofStep fun k => ?_⟩
 show primary (k + 1) (⟨2, digits n.natAbs, n.natAbs⟩ :: rest) = _
 rw [primary.eq_2]
 show number _ _ _ = _
 unfold number
 have h2 : ¬ (n.natAbs > 9223372036854775807) := by omega
 show (if (!false && decide (n.natAbs > 9223372036854775807)) = true then _ else Res.ok (Ex.mk 1 _ (n.natAbs : Int) [] false []) rest) = _
 rw [if_neg (by simp only [h2]; decide), show (n.natAbs : Int) = n from by omega]
theorem P8.num (q : Nat) (n : Int) (h0 : n < 0) : P8 (numT n) (Ex.mk 1 q n [] false []) := by
 unfold numT
 rw [if_pos h0]
 refine ⟨Head.cons _ (by decide), fun rest hr => ?_⟩
 refine ⟨.mk 1 (sgT [45] :: ⟨2, digits n.natAbs, n.natAbs⟩ :: rest : List T).length n [] false [], sim_mk rfl, Evr.ofStep fun k => ?_⟩
 show unary (k + 1) (sgT [45] :: ⟨2, digits n.natAbs, n.natAbs⟩ :: rest) = _
 have hw : (peek rest).text ≠ [119, 104, 101, 110] := fun h => hr (by rw [h]; decide)
 rw [unary.eq_2, is_pre_sg, if_neg (by decide), if_pos (is_sg _ _), if_pos (by
  show (2 == 2 && (peek rest).text != [119, 104, 101, 110]) = true
  rw [Bool.and_eq_true]
  exact ⟨rfl, by simpa using hw⟩)]
 unfold number
 show (if (!true && _) = true then _ else Res.ok (Ex.mk 1 _ (-(n.natAbs : Int)) [] false []) rest) = _
 rw [if_neg (by rw [Bool.not_true, Bool.false_and]; decide), show (-(n.natAbs : Int)) = n from by omega]
theorem P10.truth (q : Nat) (n : Int) (h : n = 0 ∨ n = 1) : P10 [kwT (if n = 1 then [116, 114, 117, 101] else [102, 97, 108, 115, 101])] (Ex.mk 2 q n [] false []) := by
 rcases h with rfl | rfl
 ·refine ⟨Head.cons _ (by decide), fun rest hr => ⟨.mk 2 (kwT [102, 97, 108, 115, 101] :: rest).length 0 [] false [], sim_mk rfl, Evr.ofStep fun k => ?_⟩⟩
  show primary (k + 1) (kwT [102, 97, 108, 115, 101] :: rest) = _
  rw [primary.eq_2]
  rfl
 ·refine ⟨Head.cons _ (by decide), fun rest hr => ⟨.mk 2 (kwT [116, 114, 117, 101] :: rest).length 1 [] false [], sim_mk rfl, Evr.ofStep fun k => ?_⟩⟩
  show primary (k + 1) (kwT [116, 114, 117, 101] :: rest) = _
  rw [primary.eq_2]
  rfl
theorem P10.var (q : Nat) (m : PX.B) : P10 [nmT m] (Ex.mk 3 q 0 m false []) := by
 refine ⟨Head.kind _ (by show ¬ (1 = 3 ∨ 1 = 4); decide), fun rest hr => ⟨.mk 3 (nmT m :: rest).length 0 m false [], sim_mk rfl, Evr.ofStep fun k => ?_⟩⟩
 show primary (k + 1) (nmT m :: rest) = _
 rw [primary.eq_2]
 show (if is [[40]] rest = true then _ else _) = _
 rw [hr.not (by decide)]
 rfl
theorem P10.merge (ha : P0 X1 a) (hb : P0 X2 b) (q : Nat) (m : PX.B) : P10 (kwT [109, 101, 114, 103, 101] :: nmT m :: (par X1 ++ par X2)) (Ex.mk 12 q 0 m false [a, b]) := by
 refine ⟨Head.cons _ (by decide), fun rest hr => ?_⟩
 obtain ⟨a', hs, hv⟩ := ha.rd (sgT [41] :: sgT [40] :: (X2 ++ sgT [41] :: rest)) (by show [41] ∉ ops1; decide)
 obtain ⟨b', hs2, hv2⟩ := hb.rd (sgT [41] :: rest) (by show [41] ∉ ops1; decide)
 have hx : (kwT [109, 101, 114, 103, 101] :: nmT m :: (par X1 ++ par X2)) ++ rest = kwT [109, 101, 114, 103, 101] :: nmT m :: sgT [40] :: (X1 ++ sgT [41] :: sgT [40] :: (X2 ++ sgT [41] :: rest)) := by simp [par]
 rw [hx]
 obtain ⟨Q, hQ⟩ : ∃ Q, Q = (kwT [109, 101, 114, 103, 101] :: nmT m :: sgT [40] :: (X1 ++ sgT [41] :: sgT [40] :: (X2 ++ sgT [41] :: rest))).length := ⟨_, rfl⟩
 refine ⟨_, sim_mk (q' := Q) (sim2 hs hs2), ?_⟩
 refine Evr.step (g := fun k => (name (nmT m :: sgT [40] :: (X1 ++ sgT [41] :: sgT [40] :: (X2 ++ sgT [41] :: rest)))).bind fun m s1 => (want [40] s1).bind fun _ s2 => (expr k s2).bind fun a s3 => (want [41] s3).bind fun _ s4 =>
     (want [40] s4).bind fun _ s5 => (expr k s5).bind fun b s6 => (want [41] s6).bind fun _ s7 => .ok (Ex.mk 12 Q 0 m false [a, b]) s7) ?_ fun k => ?_
 ·refine Evr.names (g := fun k m s1 => (want [40] s1).bind fun _ s2 => (expr k s2).bind fun a s3 => (want [41] s3).bind fun _ s4 =>
     (want [40] s4).bind fun _ s5 => (expr k s5).bind fun b s6 => (want [41] s6).bind fun _ s7 => .ok (Ex.mk 12 Q 0 m false [a, b]) s7) ?_
  refine Evr.wants (g := fun k _ s2 => (expr k s2).bind fun a s3 => (want [41] s3).bind fun _ s4 =>
     (want [40] s4).bind fun _ s5 => (expr k s5).bind fun b s6 => (want [41] s6).bind fun _ s7 => .ok (Ex.mk 12 Q 0 m false [a, b]) s7) (is_sg _ _) ?_
  refine Evr.bind (g := fun k a s3 => (want [41] s3).bind fun _ s4 => (want [40] s4).bind fun _ s5 => (expr k s5).bind fun b s6 => (want [41] s6).bind fun _ s7 => .ok (Ex.mk 12 Q 0 m false [a, b]) s7) hv ?_
  refine Evr.wants (g := fun k _ s4 => (want [40] s4).bind fun _ s5 => (expr k s5).bind fun b s6 => (want [41] s6).bind fun _ s7 => .ok (Ex.mk 12 Q 0 m false [a', b]) s7) (is_sg _ _) ?_
  refine Evr.wants (g := fun k _ s5 => (expr k s5).bind fun b s6 => (want [41] s6).bind fun _ s7 => .ok (Ex.mk 12 Q 0 m false [a', b]) s7) (is_sg _ _) ?_
  refine Evr.bind (g := fun k b s6 => (want [41] s6).bind fun _ s7 => .ok (Ex.mk 12 Q 0 m false [a', b]) s7) hv2 ?_
  exact Evr.wants (g := fun k _ s7 => .ok (Ex.mk 12 Q 0 m false [a', b']) s7) (is_sg _ _) (Evr.const _)
 ·rw [primary.eq_2, hQ]
  rfl
end
theorem exprs_rd : ∀ (l : List Ex), l ≠ [] → (∀ x ∈ l, P0 (toksE x) x) → ∀ rest, ∃ l', unps l' = unps l ∧ Evr (fun k => exprs k (commas (l.map toksE) ++ sgT [41] :: rest)) (.ok l' rest)
 | [], h, _, _ => absurd rfl h
 | [x], _, h, rest => by
  obtain ⟨e', hs, hv⟩ := (h x (by simp)).rd (sgT [41] :: rest) (by show [41] ∉ ops1; decide)
  refine ⟨[e'], sim1 hs, Evr.step (Evr.bind (g := fun k e s1 => if is [[44]] s1 then (exprs k s1.tail).bind fun l s2 => .ok (e :: l) s2 else (want [41] s1).bind fun _ s2 => .ok [e] s2) hv ?_) fun k => ?_⟩
  ·exact Evr.const _
  ·rw [exprs.eq_2]
   rfl
 | x :: y :: r, _, h, rest => by
  obtain ⟨e', hs, hv⟩ := (h x (by simp)).rd (sgT [44] :: (commas ((y :: r).map toksE) ++ sgT [41] :: rest)) (by show [44] ∉ ops1; decide)
  obtain ⟨l', hl, hv2⟩ := exprs_rd (y :: r) (by simp) (fun z hz => h z (List.mem_cons_of_mem _ hz)) rest
  have hx : commas ((x :: y :: r).map toksE) ++ sgT [41] :: rest = toksE x ++ (sgT [44] :: (commas ((y :: r).map toksE) ++ sgT [41] :: rest)) := by
   show commas (toksE x :: toksE y :: r.map toksE) ++ _ = _
   rw [commas]
   ·simp
   ·simp
  rw [hx]
  refine ⟨e' :: l', by rw [unps, hl, hs]; rfl, Evr.step (Evr.bind (g := fun k e s1 => if is [[44]] s1 then (exprs k s1.tail).bind fun l s2 => .ok (e :: l) s2 else (want [41] s1).bind fun _ s2 => .ok [e] s2) hv ?_) fun k => ?_⟩
  ·simp only [is_sg, if_true, List.tail_cons]
   exact Evr.bind (g := fun k l s2 => .ok (e' :: l) s2) hv2 (Evr.const _)
  ·rw [exprs.eq_2]
theorem lit_rd {x : Ex} (h : Wf x) (hc : isConst x = true) (t : T) (rest : List T) : ∃ e', Sim e' x ∧ literal (toksE x ++ t :: rest) = .ok e' (t :: rest) := by
 cases h with
 | num q n h0 h1 =>
  rw [toksE]
  show ∃ e', Sim e' _ ∧ literal (numT n ++ t :: rest) = _
  unfold numT
  split
  ·rename_i hn
   refine ⟨.mk 1 (sgT [45] :: ⟨2, digits n.natAbs, n.natAbs⟩ :: t :: rest : List T).length n [] false [], sim_mk rfl, ?_⟩
   show number _ _ true = _
   unfold number
   show (if (!true && _) = true then _ else Res.ok (Ex.mk 1 _ (-(n.natAbs : Int)) [] false []) (t :: rest)) = _
   rw [if_neg (by rw [Bool.not_true, Bool.false_and]; decide), show (-(n.natAbs : Int)) = n from by omega]
   rfl
  ·rename_i hn
   refine ⟨.mk 1 (⟨2, digits n.natAbs, n.natAbs⟩ :: t :: rest : List T).length n [] false [], sim_mk rfl, ?_⟩
   show number _ _ false = _
   unfold number
   have h2 : ¬ (n.natAbs > 9223372036854775807) := by omega
   show (if (!false && decide (n.natAbs > 9223372036854775807)) = true then _ else Res.ok (Ex.mk 1 _ (n.natAbs : Int) [] false []) (t :: rest)) = _
   rw [if_neg (by simp only [h2]; decide), show (n.natAbs : Int) = n from by omega]
   rfl
 | truth q n h =>
  rcases h with rfl | rfl
  ·exact ⟨.mk 2 (kwT [102, 97, 108, 115, 101] :: t :: rest).length 0 [] false [], sim_mk rfl, rfl⟩
  ·exact ⟨.mk 2 (kwT [116, 114, 117, 101] :: t :: rest).length 1 [] false [], sim_mk rfl, rfl⟩
 | _ => exact absurd hc (by unfold isConst; simp [Ex.kind])
theorem lits_rd : ∀ (l : List Ex), l ≠ [] → (∀ x ∈ l, Wf x ∧ isConst x = true) → ∀ rest, ∃ l', unps l' = unps l ∧ Evr (fun k => lits k (commas (l.map toksE) ++ sgT [41] :: rest)) (.ok l' rest)
 | [], h, _, _ => absurd rfl h
 | [x], _, h, rest => by
  obtain ⟨e', hs, hv⟩ := lit_rd (h x (by simp)).1 (h x (by simp)).2 (sgT [41]) rest
  refine ⟨[e'], sim1 hs, Evr.ofStep fun k => ?_⟩
  rw [lits.eq_2]
  show (literal (toksE x ++ sgT [41] :: rest)).bind _ = _
  rw [hv]
  rfl
 | x :: y :: r, _, h, rest => by
  obtain ⟨e', hs, hv⟩ := lit_rd (h x (by simp)).1 (h x (by simp)).2 (sgT [44]) (commas ((y :: r).map toksE) ++ sgT [41] :: rest)
  obtain ⟨l', hl, hv2⟩ := lits_rd (y :: r) (by simp) (fun z hz => h z (List.mem_cons_of_mem _ hz)) rest
  have hx : commas ((x :: y :: r).map toksE) ++ sgT [41] :: rest = toksE x ++ (sgT [44] :: (commas ((y :: r).map toksE) ++ sgT [41] :: rest)) := by
   show commas (toksE x :: toksE y :: r.map toksE) ++ _ = _
   rw [commas]
   ·simp
   ·simp
  rw [hx]
  refine ⟨e' :: l', by rw [unps, hl, hs]; rfl, Evr.step (Evr.bind (g := fun k l s2 => .ok (e' :: l) s2) hv2 (Evr.const _)) fun k => ?_⟩
  rw [lits.eq_2, hv]
  rfl
theorem kts_toks (l : List Ex) : (ktsE l).map Kt.toks = l.map toksE := by rw [ktsE_eq, List.map_map]; rfl
theorem kts_empty (l : List Ex) : (ktsE l).isEmpty = l.isEmpty := by rw [ktsE_eq]; cases l <;> rfl
theorem call_rd (l : List Ex) (h : ∀ x ∈ l, P0 (toksE x) x) (m : B) (Q : Nat) (rest : List T) : ∃ l', unps l' = unps l ∧ Evr (fun k => PX.call k m Q (par (commas (l.map toksE)) ++ rest)) (.ok (Ex.mk 13 Q 0 m false l') rest) := by
 have hx : par (commas (l.map toksE)) ++ rest = sgT [40] :: (commas (l.map toksE) ++ sgT [41] :: rest) := by simp [par]
 rw [hx]
 have hc : ∀ k, PX.call (k + 1) m Q (sgT [40] :: (commas (l.map toksE) ++ sgT [41] :: rest)) = if is [[41]] (commas (l.map toksE) ++ sgT [41] :: rest) then .ok (Ex.mk 13 Q 0 m false []) (commas (l.map toksE) ++ sgT [41] :: rest).tail
   else (exprs k (commas (l.map toksE) ++ sgT [41] :: rest)).bind fun l s2 => .ok (Ex.mk 13 Q 0 m false l) s2 := fun k => by
  rw [call.eq_2]
  rfl
 by_cases hl : l = []
 ·subst hl
  refine ⟨[], rfl, Evr.ofStep fun k => ?_⟩
  rw [hc]
  rfl
 ·obtain ⟨l', hs, hv⟩ := exprs_rd l hl h rest
  refine ⟨l', hs, Evr.step (Evr.bind (g := fun k l s2 => .ok (Ex.mk 13 Q 0 m false l) s2) hv (Evr.const _)) fun k => ?_⟩
  rw [hc, if_neg]
  cases l with
  | nil => exact absurd rfl hl
  | cons x r =>
   have h0 := (h x (by simp)).hd
   have : ∃ y, commas ((x :: r).map toksE) ++ sgT [41] :: rest = toksE x ++ y := by
    cases r with
    | nil => exact ⟨_, rfl⟩
    | cons z r => exact ⟨sgT [44] :: (commas ((z :: r).map toksE) ++ sgT [41] :: rest), by
      show commas (toksE x :: toksE z :: r.map toksE) ++ _ = _
      rw [commas]
      ·simp
      ·simp⟩
   obtain ⟨y, hy⟩ := this
   rw [hy, h0.is (by decide)]
   decide
theorem P10.call (l : List Ex) (h : ∀ x ∈ l, P0 (toksE x) x) (q : Nat) (m : B) : P10 (nmT m :: par (commas (l.map toksE))) (Ex.mk 13 q 0 m false l) := by
 refine ⟨Head.kind _ (by show ¬ (1 = 3 ∨ 1 = 4); decide), fun rest hr => ?_⟩
 obtain ⟨Q, hQ⟩ : ∃ Q, Q = (nmT m :: (par (commas (l.map toksE)) ++ rest)).length := ⟨_, rfl⟩
 obtain ⟨l', hs, hv⟩ := call_rd l h m Q rest
 refine ⟨_, sim_mk hs, Evr.step hv fun k => ?_⟩
 show primary (k + 1) (nmT m :: (par (commas (l.map toksE)) ++ rest)) = _
 rw [primary.eq_2, hQ]
 rfl
theorem P10.await (l : List Ex) (h : ∀ x ∈ l, Wf x ∧ isConst x = true) (q : Nat) (m : B) : P10 (kwT [97, 119, 97, 105, 116] :: nmT m :: (if l.isEmpty then [] else kwT [97, 102, 116, 101, 114] :: par (commas (l.map toksE)))) (Ex.mk 14 q 0 m false l) := by
 refine ⟨Head.cons _ (by decide), fun rest hr => ?_⟩
 by_cases hl : l = []
 ·subst hl
  refine ⟨.mk 14 (kwT [97, 119, 97, 105, 116] :: nmT m :: rest).length 0 m false [], sim_mk rfl, Evr.ofStep fun k => ?_⟩
  show primary (k + 1) (kwT [97, 119, 97, 105, 116] :: nmT m :: rest) = _
  rw [primary.eq_2]
  show (if is [[97, 102, 116, 101, 114]] rest = true then _ else _) = _
  rw [hr.not (by decide)]
  rfl
 ·have he : l.isEmpty = false := by cases l with
   | nil => exact absurd rfl hl
   | cons _ _ => rfl
  rw [he]
  have hx : (kwT [97, 119, 97, 105, 116] :: nmT m :: (if false = true then [] else kwT [97, 102, 116, 101, 114] :: par (commas (l.map toksE)))) ++ rest = kwT [97, 119, 97, 105, 116] :: nmT m :: kwT [97, 102, 116, 101, 114] :: sgT [40] :: (commas (l.map toksE) ++ sgT [41] :: rest) := by simp [par]
  rw [hx]
  obtain ⟨Q, hQ⟩ : ∃ Q, Q = (kwT [97, 119, 97, 105, 116] :: nmT m :: kwT [97, 102, 116, 101, 114] :: sgT [40] :: (commas (l.map toksE) ++ sgT [41] :: rest)).length := ⟨_, rfl⟩
  obtain ⟨l', hs, hv⟩ := lits_rd l hl h rest
  refine ⟨.mk 14 Q 0 m false l', sim_mk hs, Evr.step (Evr.bind (g := fun k l s2 => .ok (Ex.mk 14 Q 0 m false l) s2) hv (Evr.const _)) fun k => ?_⟩
  rw [primary.eq_2, hQ]
  rfl
theorem lvl_const {a : Ex} (h : Wf a) (hc : isConst a = true) : 2 ≤ level a := by
 cases h with
 | num q n _ _ =>
  show 2 ≤ lvl 1 n []
  unfold lvl
  simp only [show ¬ (1 : Nat) = 7 from by decide, show ¬ ((1 : Nat) = 8 ∨ (1 : Nat) = 9) from by decide, show ¬ (1 : Nat) = 5 from by decide, show ¬ ((1 : Nat) = 4 ∨ (1 : Nat) = 10) from by decide, show ¬ (1 : Nat) = 11 from by decide, show ¬ (1 : Nat) = 6 from by decide, if_false]
  split <;> decide
 | truth q n _ => exact (by decide : 2 ≤ 10)
 | _ => exact absurd hc (by unfold isConst; simp [Ex.kind])
theorem nh_wf {a : Ex} (h : Wf a) : 8 ≤ level a → Nh a.kind (toksE a) := by
 induction h with
 | num q n _ _ =>
  intro _ hk
  rw [toksE] at hk ⊢
  show (1 = 1 ∧ ∃ t, numT n = [t]) ∨ _
  have hk : (peek (numT n)).kind = 2 := hk
  unfold numT at hk ⊢
  split
  ·rename_i hn
   rw [if_pos hn] at hk
   cases hk
  ·exact .inl ⟨rfl, _, rfl⟩
 | truth q n _ => intro _ hk; rw [toksE] at hk; cases hk
 | var q m _ => intro _ hk; rw [toksE] at hk; cases hk
 | neg q a _ _ => intro _ hk; rw [toksE] at hk; cases hk
 | not_ q a _ _ => intro _ hk; rw [toksE] at hk; cases hk
 | sign q m a b hm _ _ _ _ =>
  intro hl
  have : ∀ m ∈ allSigns, signLevel m < 8 := by decide
  have h9 : level (Ex.mk 6 q 0 m false [a, b]) = signLevel m := rfl
  have := this m hm
  omega
 | if_ q a b c _ _ _ _ _ _ => intro _ hk; rw [toksE] at hk; cases hk
 | arrow q a b _ _ _ _ => intro hl; exact absurd hl (by show ¬ 8 ≤ 1; decide)
 | fby q a b _ _ _ _ _ => intro hl; exact absurd hl (by show ¬ 8 ≤ 1; decide)
 | pre q a _ _ => intro _ hk; rw [toksE] at hk; cases hk
 | when_ q m o a _ ha ih =>
  intro _ hk
  rw [toksE] at hk ⊢
  right
  show (((ktE a).at_ 9 ++ kwT [119, 104, 101, 110] :: ((if o then [kwT [110, 111, 116]] else []) ++ [nmT m])).tail ≠ []) ∧ _
  have hk : (peek ((ktE a).at_ 9 ++ kwT [119, 104, 101, 110] :: ((if o then [kwT [110, 111, 116]] else []) ++ [nmT m]))).kind = 2 := hk
  show _ ∧ (peek ((ktE a).at_ 9 ++ kwT [119, 104, 101, 110] :: ((if o then [kwT [110, 111, 116]] else []) ++ [nmT m])).tail).text = _
  unfold Kt.at_ at hk ⊢
  split
  ·rename_i hl
   rw [if_pos hl] at hk
   cases hk
  ·rename_i hl
   rw [if_neg hl] at hk
   have hl8 : 8 ≤ level a := by have : ¬ (level a < 9) := hl; omega
   have hi := ih hl8
   show ((toksE a ++ _).tail ≠ []) ∧ (peek (toksE a ++ _).tail).text = _
   have hk : (peek (toksE a ++ kwT [119, 104, 101, 110] :: ((if o then [kwT [110, 111, 116]] else []) ++ [nmT m]))).kind = 2 := hk
   cases hx : toksE a with
   | nil => rw [hx] at hk; cases hk
   | cons t y =>
    rw [hx] at hk hi
    rcases hi hk with ⟨_, t', ht⟩ | ⟨h1, h2⟩
    ·cases ht
     exact ⟨by simp, rfl⟩
    ·cases y with
     | nil => exact absurd rfl h1
     | cons t2 y => exact ⟨by simp, h2⟩
 | merge q m a b _ _ _ _ _ => intro _ hk; rw [toksE] at hk; cases hk
 | call q m l _ _ _ => intro _ hk; rw [toksE] at hk; cases hk
 | await q m l _ _ _ _ => intro _ hk; rw [toksE] at hk; cases hk
theorem read_wf {e : Ex} (h : Wf e) : PL (level e) (toksE e) e := by
 induction h with
 | num q n h0 h1 =>
  by_cases hn : n < 0
  ·have hl : level (Ex.mk 1 q n [] false []) = 8 := by show lvl 1 n [] = 8; unfold lvl; simp [hn]
   rw [hl, toksE]
   exact P8.num q n hn
  ·have hl : level (Ex.mk 1 q n [] false []) = 10 := by show lvl 1 n [] = 10; unfold lvl; simp [hn]
   rw [hl, toksE]
   exact P10.num q n hn h1
 | truth q n h => rw [toksE]; exact P10.truth q n h
 | var q m _ => rw [toksE]; exact P10.var q m
 | neg q a ha ih =>
  rw [toksE]
  show P8 (sgT [45] :: (if (ktE a).kind = 1 ∨ (peek ((ktE a).at_ 8)).text = [45] then par (ktE a).toks else (ktE a).at_ 8)) _
  have h8 : P8 ((ktE a).at_ 8) a := PL.at_ ih 8 (by decide)
  split
  ·refine P8.neg (P9.to8 (P10.to9 (P0.par (PL.to0 ih)))) (fun hk => ?_) q
   cases hk
  ·rename_i hn
   refine P8.neg h8 (fun hk => ?_) q
   have hk1 : a.kind ≠ 1 := fun h => hn (.inl h)
   unfold Kt.at_ at hk ⊢
   split
   ·rename_i hl
    rw [if_pos hl] at hk
    cases hk
   ·rename_i hl
    rw [if_neg hl] at hk
    rcases nh_wf ha (by have : ¬ (level a < 8) := hl; omega) hk with ⟨h1, _⟩ | h2
    ·exact absurd h1 hk1
    ·exact h2
 | not_ q a ha ih => rw [toksE]; exact P4.not (PL.at_ ih 4 (by decide)) q
 | sign q m a b hm ha hb iha ihb =>
  rw [toksE]
  have hl : level (Ex.mk 6 q 0 m false [a, b]) = signLevel m := rfl
  rw [hl]
  show PL _ ((ktE a).at_ (if signLevel m = 5 then 6 else signLevel m) ++ signT m :: (ktE b).at_ (signLevel m + 1)) _
  have L := fun i h => PL.at_ iha i h
  have R := fun i h => PL.at_ ihb i h
  simp only [allSigns, List.mem_cons, List.not_mem_nil, or_false] at hm
  rcases hm with rfl | rfl | rfl | rfl | rfl | rfl | rfl | rfl | rfl | rfl | rfl | rfl | rfl | rfl
  ·exact P6.sign (t := sgT [43]) (L 6 (by decide)) (R 7 (by decide)) (by decide) (by decide) q
  ·exact P6.sign (t := sgT [45]) (L 6 (by decide)) (R 7 (by decide)) (by decide) (by decide) q
  ·exact P7.sign (t := sgT [42]) (L 7 (by decide)) (R 8 (by decide)) (by decide) (by decide) q
  ·exact P7.sign (t := sgT [47]) (L 7 (by decide)) (R 8 (by decide)) (by decide) (by decide) q
  ·exact P7.sign (t := kwT [109, 111, 100]) (L 7 (by decide)) (R 8 (by decide)) (by decide) (by decide) q
  ·exact P4.cmp (t := sgT [60]) (L 6 (by decide)) (R 6 (by decide)) (by decide) (by decide) q
  ·exact P4.cmp (t := sgT [60, 61]) (L 6 (by decide)) (R 6 (by decide)) (by decide) (by decide) q
  ·exact P4.cmp (t := sgT [62]) (L 6 (by decide)) (R 6 (by decide)) (by decide) (by decide) q
  ·exact P4.cmp (t := sgT [62, 61]) (L 6 (by decide)) (R 6 (by decide)) (by decide) (by decide) q
  ·exact P4.cmp (t := sgT [61]) (L 6 (by decide)) (R 6 (by decide)) (by decide) (by decide) q
  ·exact P4.cmp (t := sgT [60, 62]) (L 6 (by decide)) (R 6 (by decide)) (by decide) (by decide) q
  ·exact P3.sign (t := kwT [97, 110, 100]) (L 3 (by decide)) (R 4 (by decide)) (by decide) (by decide) q
  ·exact P2.sign (t := kwT [111, 114]) (L 2 (by decide)) (R 3 (by decide)) (by decide) (by decide) q
  ·exact P2.sign (t := kwT [120, 111, 114]) (L 2 (by decide)) (R 3 (by decide)) (by decide) (by decide) q
 | if_ q a b c ha hb hc iha ihb ihc => rw [toksE]; exact P0.if_ (PL.to0 iha) (PL.to0 ihb) (PL.to0 ihc) q
 | arrow q a b ha hb iha ihb => rw [toksE]; exact P1.arrow (PL.at_ iha 2 (by decide)) (PL.at_ ihb 1 (by decide)) q
 | fby q a b hc ha hb iha ihb => rw [toksE]; exact P1.fby (PL.le (lvl_const ha hc) iha) hc (PL.at_ ihb 1 (by decide)) q
 | pre q a ha ih => rw [toksE]; exact P8.pre (PL.at_ ih 8 (by decide)) q
 | when_ q m o a _ ha ih => rw [toksE]; exact P9.when (PL.at_ ih 9 (by decide)) q m o
 | merge q m a b _ ha hb iha ihb => rw [toksE]; exact P10.merge (PL.to0 iha) (PL.to0 ihb) q m
 | call q m l _ h ih =>
  rw [toksE]
  show P10 (nmT m :: par (commas ((ktsE l).map Kt.toks))) _
  rw [kts_toks]
  exact P10.call l (fun x hx => PL.to0 (ih x hx)) q m
 | await q m l _ hw hc _ =>
  have h : ∀ x ∈ l, Wf x ∧ isConst x = true := fun x hx => ⟨hw x hx, hc x hx⟩
  rw [toksE]
  show P10 (kwT [97, 119, 97, 105, 116] :: nmT m :: (if (ktsE l).isEmpty then [] else kwT [97, 102, 116, 101, 114] :: par (commas ((ktsE l).map Kt.toks)))) _
  rw [kts_toks, kts_empty]
  exact P10.await l h q m
theorem expr_wf {e : Ex} (h : Wf e) (rest : List T) (hr : Stop ops1 rest) : ∃ e', Sim e' e ∧ Evr (fun k => expr k (toksE e ++ rest)) (.ok e' rest) := (PL.to0 (read_wf h)).rd rest hr
end PX
end Go.Proofs.YtjafllnbgfcchaaGreatDoor
end
section
/- The canonical tokens of nodes are read as them, but for the places. -/
namespace Go.Proofs.YtjafllnbgfcchaaGreatDoor
set_option linter.unusedVariables false
set_option linter.unusedSimpArgs false
namespace PX
def clockT (d : Dc) : List T := if d.clock = [] then [] else kwT [119, 104, 101, 110] :: ((if d.off then [kwT [110, 111, 116]] else []) ++ [nmT d.clock])
def typeT (b f : Bool) : List T := (if f then [kwT [102, 117, 116, 117, 114, 101]] else []) ++ [kwT (if b then [98, 111, 111, 108] else [105, 110, 116])]
def declT (d : Dc) : List T := nmT d.name :: sgT [58] :: (typeT d.bool d.future ++ clockT d)
def declsT (l : List Dc) : List T := par (commas (l.map declT))
def semis : List Dc → List T
 | [] => []
 | d :: r => declT d ++ sgT [59] :: semis r
def varsT (l : List Dc) : List T := if l.isEmpty then [] else kwT [118, 97, 114] :: semis l
def leftT (l : List Lf) : List T := commas (l.map fun x => [nmT x.name])
def leftsT (l : List Lf) : List T := if 1 < l.length then par (leftT l) else leftT l
def eqT (q : Eq) : List T := leftsT q.left ++ sgT [61] :: ((if q.async then [kwT [97, 115, 121, 110, 99]] else []) ++ (toksE q.e ++ [sgT [59]]))
def eqsT : List Eq → List T
 | [] => []
 | q :: r => eqT q ++ eqsT r
def nodeT (n : Nd) : List T := kwT [110, 111, 100, 101] :: nmT n.name :: (declsT n.ins ++ kwT [114, 101, 116, 117, 114, 110, 115] :: (declsT n.outs ++ (varsT n.vars ++ kwT [108, 101, 116] :: (eqsT n.eqs ++ [kwT [116, 101, 108]]))))
def nodesT : List Nd → List T
 | [] => []
 | n :: r => nodeT n ++ nodesT r
structure WfD (d : Dc) : Prop where
 name : NameOk d.name
 clock : d.clock = [] ∨ NameOk d.clock
 off : d.clock = [] → d.off = false
structure WfQ (q : Eq) : Prop where
 left : q.left ≠ []
 names : ∀ x ∈ q.left, NameOk x.name
 e : Wf q.e
 async : q.async = true → q.e.kind = 13
 deep : deep q.e ≤ 40
structure WfN (n : Nd) : Prop where
 name : NameOk n.name
 ins : ∀ d ∈ n.ins, WfD d ∧ d.clock = []
 outs : ∀ d ∈ n.outs, WfD d ∧ d.clock = []
 vars : ∀ d ∈ n.vars, WfD d
 eqs : ∀ q ∈ n.eqs, WfQ q
def unpD (d : Dc) : Dc := ⟨d.name, 0, d.bool, d.future, d.clock, d.off⟩
def unpL (x : Lf) : Lf := ⟨x.name, 0⟩
def unpQ (q : Eq) : Eq := ⟨q.left.map unpL, q.async, unp q.e⟩
def unpN (n : Nd) : Nd := ⟨n.name, 0, n.ins.map unpD, n.outs.map unpD, n.vars.map unpD, n.eqs.map unpQ⟩
theorem ok_bind {α β : Type} (a : α) (s : List T) (f : α → List T → Res β) : (Res.ok a s).bind f = f a s := rfl
theorem want_cons {w : B} {t : T} (s : List T) (h : is [w] (t :: s) = true) : want w (t :: s) = .ok () s := by
 unfold want
 rw [if_pos h]
 rfl
theorem decl_rd (d : Dc) (rest : List T) : decl (nmT d.name :: sgT [58] :: (typeT d.bool d.future ++ rest)) = .ok ⟨d.name, (nmT d.name :: sgT [58] :: (typeT d.bool d.future ++ rest)).length, d.bool, d.future, [], false⟩ rest := by
 obtain ⟨m, q, b, f, c, o⟩ := d
 cases b <;> cases f <;> rfl
theorem declsL_rd : ∀ (l : List Dc), l ≠ [] → (∀ d ∈ l, WfD d ∧ d.clock = []) → ∀ rest, ∃ l', l'.map unpD = l.map unpD ∧ Evr (fun k => declsL k (commas (l.map declT) ++ sgT [41] :: rest)) (.ok l' rest)
 | [], h, _, _ => absurd rfl h
 | [d], _, h, rest => by
  have hd := h d (by simp)
  have hc : clockT d = [] := by unfold clockT; rw [if_pos hd.2]
  have hx : commas ([d].map declT) ++ sgT [41] :: rest = nmT d.name :: sgT [58] :: (typeT d.bool d.future ++ sgT [41] :: rest) := by simp [commas, declT, hc]
  rw [hx]
  refine ⟨[⟨d.name, (nmT d.name :: sgT [58] :: (typeT d.bool d.future ++ sgT [41] :: rest)).length, d.bool, d.future, [], false⟩], ?_, Evr.ofStep fun k => ?_⟩
  rotate_left
  ·rw [declsL, decl_rd]
   rfl
  ·simp [unpD, hd.2, hd.1.off hd.2]
 | d :: y :: r, _, h, rest => by
  have hd := h d (by simp)
  have hc : clockT d = [] := by unfold clockT; rw [if_pos hd.2]
  obtain ⟨l', hl, hv⟩ := declsL_rd (y :: r) (by simp) (fun z hz => h z (List.mem_cons_of_mem _ hz)) rest
  have hx : commas ((d :: y :: r).map declT) ++ sgT [41] :: rest = nmT d.name :: sgT [58] :: (typeT d.bool d.future ++ sgT [44] :: (commas ((y :: r).map declT) ++ sgT [41] :: rest)) := by
   show commas (declT d :: declT y :: r.map declT) ++ _ = _
   rw [commas]
   ·simp [declT, hc]
   ·simp
  rw [hx]
  refine ⟨⟨d.name, (nmT d.name :: sgT [58] :: (typeT d.bool d.future ++ sgT [44] :: (commas ((y :: r).map declT) ++ sgT [41] :: rest))).length, d.bool, d.future, [], false⟩ :: l', ?_, Evr.step (Evr.bind (g := fun k l s2 => .ok (⟨d.name, (nmT d.name :: sgT [58] :: (typeT d.bool d.future ++ sgT [44] :: (commas ((y :: r).map declT) ++ sgT [41] :: rest))).length, d.bool, d.future, [], false⟩ :: l) s2) hv (Evr.const _)) fun k => ?_⟩
  rotate_left
  ·rw [declsL, decl_rd]
   rfl
  ·rw [List.map_cons, hl]
   simp [unpD, hd.2, hd.1.off hd.2]
theorem decls_rd (l : List Dc) (h : ∀ d ∈ l, WfD d ∧ d.clock = []) (rest : List T) : ∃ l', l'.map unpD = l.map unpD ∧ Evr (fun k => decls k (declsT l ++ rest)) (.ok l' rest) := by
 have hx : declsT l ++ rest = sgT [40] :: (commas (l.map declT) ++ sgT [41] :: rest) := by simp [declsT, par]
 rw [hx]
 have hc : ∀ k, decls k (sgT [40] :: (commas (l.map declT) ++ sgT [41] :: rest)) = if is [[41]] (commas (l.map declT) ++ sgT [41] :: rest) then .ok [] (commas (l.map declT) ++ sgT [41] :: rest).tail else declsL k (commas (l.map declT) ++ sgT [41] :: rest) := fun k => by
  unfold decls
  rw [want_cons _ (is_sg _ _)]
  rfl
 by_cases hl : l = []
 ·subst hl
  exact ⟨[], rfl, ⟨0, fun k _ => by
   show decls k _ = _
   rw [hc]; rfl⟩⟩
 ·obtain ⟨l', hs, ⟨k0, hv⟩⟩ := declsL_rd l hl h rest
  refine ⟨l', hs, ⟨k0, fun k hk => ?_⟩⟩
  show decls k _ = _
  rw [hc, if_neg]
  ·exact hv k hk
  cases l with
  | nil => exact absurd rfl hl
  | cons x r =>
   have : ∃ y, commas ((x :: r).map declT) ++ sgT [41] :: rest = nmT x.name :: y := by
    cases r with
    | nil => exact ⟨_, rfl⟩
    | cons z r => exact ⟨_, by
      show commas (declT x :: declT z :: r.map declT) ++ _ = _
      rw [commas]
      ·rfl
      ·simp⟩
   obtain ⟨y, hy⟩ := this
   rw [hy]
   exact fun h => absurd (show false = true from h) (by decide)
theorem clock_rd (d : Dc) (h : WfD d) (q : Nat) (rest : List T) (hr : is [[119, 104, 101, 110]] rest = false) : clockOf ⟨d.name, q, d.bool, d.future, [], false⟩ (clockT d ++ rest) = .ok ⟨d.name, q, d.bool, d.future, d.clock, d.off⟩ rest := by
 unfold clockT
 split
 ·rename_i hc
  unfold clockOf
  rw [show ([] : List T) ++ rest = rest from rfl, hr, hc, h.off hc]
  rfl
 ·unfold clockOf
  rw [show (kwT [119, 104, 101, 110] :: ((if d.off then [kwT [110, 111, 116]] else []) ++ [nmT d.clock])) ++ rest = kwT [119, 104, 101, 110] :: ((if d.off then [kwT [110, 111, 116]] else []) ++ nmT d.clock :: rest) from by simp, is_kw, if_pos rfl]
  cases d.off <;> rfl
theorem varsL_rd : ∀ (l : List Dc), l ≠ [] → (∀ d ∈ l, WfD d) → ∀ rest, ∃ l', l'.map unpD = l.map unpD ∧ Evr (fun k => varsL k (semis l ++ kwT [108, 101, 116] :: rest)) (.ok l' (kwT [108, 101, 116] :: rest))
 | [], h, _, _ => absurd rfl h
 | d :: r, _, h, rest => by
  have hd := h d (by simp)
  have hx : semis (d :: r) ++ kwT [108, 101, 116] :: rest = nmT d.name :: sgT [58] :: (typeT d.bool d.future ++ (clockT d ++ sgT [59] :: (semis r ++ kwT [108, 101, 116] :: rest))) := by simp [semis, declT]
  rw [hx]
  obtain ⟨Q, hQ⟩ : ∃ Q, Q = (nmT d.name :: sgT [58] :: (typeT d.bool d.future ++ (clockT d ++ sgT [59] :: (semis r ++ kwT [108, 101, 116] :: rest)))).length := ⟨_, rfl⟩
  have hstep : ∀ k, varsL (k + 1) (nmT d.name :: sgT [58] :: (typeT d.bool d.future ++ (clockT d ++ sgT [59] :: (semis r ++ kwT [108, 101, 116] :: rest)))) = if is [[108, 101, 116]] (semis r ++ kwT [108, 101, 116] :: rest) then .ok [⟨d.name, Q, d.bool, d.future, d.clock, d.off⟩] (semis r ++ kwT [108, 101, 116] :: rest) else (varsL k (semis r ++ kwT [108, 101, 116] :: rest)).bind fun l s4 => .ok (⟨d.name, Q, d.bool, d.future, d.clock, d.off⟩ :: l) s4 := fun k => by
   rw [varsL, decl_rd, ← hQ]
   show (clockOf ⟨d.name, Q, d.bool, d.future, [], false⟩ (clockT d ++ sgT [59] :: (semis r ++ kwT [108, 101, 116] :: rest))).bind _ = _
   rw [clock_rd d hd Q _ rfl]
   rw [ok_bind, want_cons _ (is_sg _ _)]
   rfl
  cases r with
  | nil =>
   refine ⟨[⟨d.name, Q, d.bool, d.future, d.clock, d.off⟩], ?_, Evr.ofStep fun k => ?_⟩
   rotate_left
   ·rw [hstep]
    show (if is [[108, 101, 116]] (kwT [108, 101, 116] :: rest) = true then _ else _) = _
    rw [is_kw, if_pos rfl]
    rfl
   ·rfl
  | cons y r =>
   obtain ⟨l', hl, hv⟩ := varsL_rd (y :: r) (by simp) (fun z hz => h z (List.mem_cons_of_mem _ hz)) rest
   refine ⟨⟨d.name, Q, d.bool, d.future, d.clock, d.off⟩ :: l', ?_, Evr.step (Evr.bind (g := fun k l s2 => .ok (⟨d.name, Q, d.bool, d.future, d.clock, d.off⟩ :: l) s2) hv (Evr.const _)) fun k => ?_⟩
   ·rw [List.map_cons, hl]
    rfl
   ·rw [hstep, if_neg]
    exact fun h => absurd (show false = true from h) (by decide)
theorem vars_rd (l : List Dc) (h : ∀ d ∈ l, WfD d) (rest : List T) : ∃ l', l'.map unpD = l.map unpD ∧ Evr (fun k => vars k (varsT l ++ kwT [108, 101, 116] :: rest)) (.ok l' (kwT [108, 101, 116] :: rest)) := by
 cases l with
 | nil => exact ⟨[], rfl, ⟨0, fun k _ => rfl⟩⟩
 | cons d r =>
  obtain ⟨l', hl, ⟨k0, hv⟩⟩ := varsL_rd (d :: r) (by simp) h rest
  refine ⟨l', hl, ⟨k0, fun k hk => ?_⟩⟩
  show vars k (kwT [118, 97, 114] :: (semis (d :: r) ++ kwT [108, 101, 116] :: rest)) = _
  unfold vars
  rw [is_kw, if_pos rfl]
  exact hv k hk
theorem leftsL_rd : ∀ (l : List Lf) (rest : List T), ∃ l', l'.map unpL = l.map unpL ∧ Evr (fun k => leftsL k ((l.map fun x => [sgT [44], nmT x.name]).flatten ++ sgT [41] :: rest)) (.ok l' (sgT [41] :: rest))
 | [], rest => ⟨[], rfl, Evr.ofStep fun k => rfl⟩
 | x :: r, rest => by
  obtain ⟨l', hl, hv⟩ := leftsL_rd r rest
  refine ⟨⟨x.name, (nmT x.name :: ((r.map fun x => [sgT [44], nmT x.name]).flatten ++ sgT [41] :: rest)).length⟩ :: l', by rw [List.map_cons, hl]; rfl, Evr.step (Evr.bind (g := fun k l s2 => .ok (⟨x.name, (nmT x.name :: ((r.map fun x => [sgT [44], nmT x.name]).flatten ++ sgT [41] :: rest)).length⟩ :: l) s2) hv (Evr.const _)) fun k => ?_⟩
  show leftsL (k + 1) (sgT [44] :: nmT x.name :: ((r.map fun x => [sgT [44], nmT x.name]).flatten ++ sgT [41] :: rest)) = _
  rw [leftsL, is_sg, if_pos rfl]
  rfl
theorem left_flat : ∀ (x : Lf) (r : List Lf), leftT (x :: r) = nmT x.name :: (r.map fun x => [sgT [44], nmT x.name]).flatten
 | x, [] => rfl
 | x, y :: r => by
  show commas ([nmT x.name] :: [nmT y.name] :: r.map _) = _
  rw [commas]
  ·have := left_flat y r
   unfold leftT at this
   rw [List.map_cons] at this
   rw [this]
   rfl
  ·simp
theorem lefts_rd (l : List Lf) (hl : l ≠ []) (rest : List T) : ∃ l', l'.map unpL = l.map unpL ∧ Evr (fun k => lefts k (leftsT l ++ rest)) (.ok l' rest) := by
 unfold leftsT
 cases l with
 | nil => exact absurd rfl hl
 | cons x r =>
  cases r with
  | nil => exact ⟨[⟨x.name, (nmT x.name :: rest).length⟩], rfl, ⟨0, fun k _ => rfl⟩⟩
  | cons y r =>
   rw [if_pos (by simp)]
   obtain ⟨l', hs, ⟨k0, hv⟩⟩ := leftsL_rd r rest
   have hx : par (leftT (x :: y :: r)) ++ rest = sgT [40] :: nmT x.name :: sgT [44] :: nmT y.name :: ((r.map fun x => [sgT [44], nmT x.name]).flatten ++ sgT [41] :: rest) := by
    rw [left_flat]
    simp [par]
   rw [hx]
   refine ⟨⟨x.name, (nmT x.name :: sgT [44] :: nmT y.name :: ((r.map fun x => [sgT [44], nmT x.name]).flatten ++ sgT [41] :: rest)).length⟩ :: ⟨y.name, (nmT y.name :: ((r.map fun x => [sgT [44], nmT x.name]).flatten ++ sgT [41] :: rest)).length⟩ :: l', ?_, ⟨k0, fun k hk => ?_⟩⟩
   rotate_left
   ·show lefts k _ = _
    unfold lefts
    rw [is_sg, if_pos rfl]
    show (leftsL k ((r.map fun x => [sgT [44], nmT x.name]).flatten ++ sgT [41] :: rest)).bind _ = _
    rw [show leftsL k ((r.map fun x => [sgT [44], nmT x.name]).flatten ++ sgT [41] :: rest) = _ from hv k hk]
    rfl
   ·rw [List.map_cons, List.map_cons, hs]
    rfl
mutual
theorem deepE_unp : ∀ e : Ex, deepE (unp e) = deepE e
 | .mk k q n m o l => by rw [unp, deepE, deepE, deeps_unp l]
theorem deeps_unp : ∀ l : List Ex, deeps (unps l) = deeps l
 | [] => rfl
 | e :: r => by rw [unps, deeps, deeps, deepE_unp e, deeps_unp r]
end
theorem deep_unp (e : Ex) : deep (unp e) = deep e := by
 cases e with
 | mk k q n m o l =>
  unfold deep
  rw [unp]
  show deeps (unps l) + 1 = deeps l + 1
  rw [deeps_unp]
theorem deep_sim {e e' : Ex} (h : Sim e' e) : deep e' = deep e := by rw [← deep_unp e', ← deep_unp e, h]
theorem right_rd (q : Eq) (h : WfQ q) (rest : List T) : ∃ e', Sim e' q.e ∧ Evr (fun k => right k ((if q.async then [kwT [97, 115, 121, 110, 99]] else []) ++ (toksE q.e ++ sgT [59] :: rest))) (.ok (q.async, e') (sgT [59] :: rest)) := by
 cases ha : q.async with
 | false =>
  obtain ⟨e', hs, hv⟩ := expr_wf h.e (sgT [59] :: rest) (by show [59] ∉ ops1; decide)
  obtain ⟨k0, hv⟩ := hv
  refine ⟨e', hs, ⟨k0, fun k hk => ?_⟩⟩
  show right k (toksE q.e ++ sgT [59] :: rest) = _
  unfold right
  have hn : is [[97, 115, 121, 110, 99]] (toksE q.e ++ sgT [59] :: rest) = false := (PL.to0 (read_wf h.e)).hd.is (by decide) _
  rw [hn, if_neg (by decide), show expr k (toksE q.e ++ sgT [59] :: rest) = _ from hv k hk]
  rfl
 | true =>
  have hk := h.async ha
  have he := h.e
  cases hq : q.e with
  | mk k q0 n m o l =>
   rw [hq] at hk he
   have hk : k = 13 := hk
   subst hk
   cases he with
   | call _ _ _ hm hl =>
    rw [toksE]
    show ∃ e', _ ∧ Evr (fun k => right k (kwT [97, 115, 121, 110, 99] :: nmT m :: (par (commas ((ktsE l).map Kt.toks)) ++ sgT [59] :: rest))) _
    rw [kts_toks]
    obtain ⟨l', hs, ⟨k0, hv⟩⟩ := call_rd l (fun x hx => PL.to0 (read_wf (hl x hx))) m (nmT m :: (par (commas (l.map toksE)) ++ sgT [59] :: rest)).length (sgT [59] :: rest)
    refine ⟨_, sim_mk (q' := (nmT m :: (par (commas (l.map toksE)) ++ sgT [59] :: rest)).length) hs, ⟨k0, fun k hk => ?_⟩⟩
    show right k _ = _
    unfold right
    rw [is_kw, if_pos rfl]
    show (PX.call k m (nmT m :: (par (commas (l.map toksE)) ++ sgT [59] :: rest)).length (par (commas (l.map toksE)) ++ sgT [59] :: rest)).bind _ = _
    rw [show PX.call k m (nmT m :: (par (commas (l.map toksE)) ++ sgT [59] :: rest)).length (par (commas (l.map toksE)) ++ sgT [59] :: rest) = _ from hv k hk]
    rfl
theorem eq_rd (q : Eq) (h : WfQ q) (rest : List T) : ∃ q', unpQ q' = unpQ q ∧ Evr (fun k => eq k (eqT q ++ rest)) (.ok q' rest) := by
 have hx : eqT q ++ rest = leftsT q.left ++ sgT [61] :: ((if q.async then [kwT [97, 115, 121, 110, 99]] else []) ++ (toksE q.e ++ sgT [59] :: rest)) := by simp [eqT]
 rw [hx]
 obtain ⟨l', hl, hv1⟩ := lefts_rd q.left h.left (sgT [61] :: ((if q.async then [kwT [97, 115, 121, 110, 99]] else []) ++ (toksE q.e ++ sgT [59] :: rest)))
 obtain ⟨e', hs, hv2⟩ := right_rd q h rest
 refine ⟨⟨l', q.async, e'⟩, ?_, ?_⟩
 ·show (⟨l'.map unpL, q.async, unp e'⟩ : Eq) = _
  rw [hl, show unp e' = unp q.e from hs]
  rfl
 refine Evr.bind (g := fun K l s1 => (want [61] s1).bind fun _ s2 => (right K s2).bind fun q s3 => (shallow q.2 s3).bind fun _ s4 => (want [59] s4).bind fun _ s5 => .ok (Eq.mk l q.1 q.2) s5) hv1 ?_
 refine Evr.wants (g := fun K _ s2 => (right K s2).bind fun q s3 => (shallow q.2 s3).bind fun _ s4 => (want [59] s4).bind fun _ s5 => .ok (Eq.mk l' q.1 q.2) s5) (is_sg _ _) ?_
 refine Evr.bind (g := fun K q s3 => (shallow q.2 s3).bind fun _ s4 => (want [59] s4).bind fun _ s5 => .ok (Eq.mk l' q.1 q.2) s5) hv2 ?_
 have hd : shallow e' (sgT [59] :: rest) = .ok () (sgT [59] :: rest) := by
  unfold shallow
  rw [if_neg (by rw [deep_sim hs]; have := h.deep; omega)]
 show Evr (fun _ => (shallow e' (sgT [59] :: rest)).bind fun _ s4 => (want [59] s4).bind fun _ s5 => .ok (Eq.mk l' q.async e') s5) _
 rw [hd]
 show Evr (fun _ => (want [59] (sgT [59] :: rest)).bind fun _ s5 => .ok (Eq.mk l' q.async e') s5) _
 exact Evr.wants (g := fun _ _ s5 => .ok (Eq.mk l' q.async e') s5) (is_sg _ _) (Evr.const _)
def Ev2 {α : Type} (f : Nat → Nat → Res α) (r : Res α) : Prop := ∃ k0, ∀ K n, k0 ≤ K → k0 ≤ n → f K n = r
theorem Ev2.step {α β : Type} {f g : Nat → Nat → Res β} {h : Nat → Res α} {r : Res β} {a : α} {s : List T} {F : α → List T → Nat → Nat → Res β} (h1 : Evr h (.ok a s)) (h2 : Ev2 (F a s) r) (e : ∀ K n, f K (n + 1) = (h K).bind fun a s => F a s K n) : Ev2 f r := by
 obtain ⟨k0, h1⟩ := h1
 obtain ⟨k1, h2⟩ := h2
 refine ⟨max k0 k1 + 1, fun K n hK hn => ?_⟩
 obtain ⟨j, rfl⟩ : ∃ j, n = j + 1 := ⟨n - 1, by omega⟩
 rw [e, h1 K (by omega)]
 exact h2 K j (by omega) (by omega)
theorem lefts_head (l : List Lf) (hl : l ≠ []) (rest : List T) : is [[116, 101, 108]] (leftsT l ++ rest) = false := by
 cases l with
 | nil => exact absurd rfl hl
 | cons x r =>
  unfold leftsT
  split
  ·rfl
  ·rw [left_flat]
   rfl
theorem eqs_rd : ∀ (l : List Eq), (∀ q ∈ l, WfQ q) → ∀ rest, ∃ l', l'.map unpQ = l.map unpQ ∧ Ev2 (fun K n => eqs K n (eqsT l ++ kwT [116, 101, 108] :: rest)) (.ok l' (kwT [116, 101, 108] :: rest))
 | [], h, rest => ⟨[], rfl, ⟨1, fun K n _ hn => by
   obtain ⟨j, rfl⟩ : ∃ j, n = j + 1 := ⟨n - 1, by omega⟩
   rfl⟩⟩
 | q :: r, h, rest => by
  have hq := h q (by simp)
  obtain ⟨l', hl, hv⟩ := eqs_rd r (fun z hz => h z (List.mem_cons_of_mem _ hz)) rest
  obtain ⟨q', hs, hv1⟩ := eq_rd q hq (eqsT r ++ kwT [116, 101, 108] :: rest)
  have hx : eqsT (q :: r) ++ kwT [116, 101, 108] :: rest = eqT q ++ (eqsT r ++ kwT [116, 101, 108] :: rest) := by simp [eqsT]
  rw [hx]
  refine ⟨q' :: l', by rw [List.map_cons, List.map_cons, hs, hl], ?_⟩
  refine Ev2.step (g := fun _ _ => .out) (F := fun a s K n => (eqs K n s).bind fun l s2 => .ok (a :: l) s2) hv1 ?_ fun K n => ?_
  ·obtain ⟨k0, hv⟩ := hv
   exact ⟨k0, fun K n hK hn => by
    show (eqs K n (eqsT r ++ kwT [116, 101, 108] :: rest)).bind _ = _
    rw [show eqs K n (eqsT r ++ kwT [116, 101, 108] :: rest) = _ from hv K n hK hn]
    rfl⟩
  ·have hh : is [[116, 101, 108]] (eqT q ++ (eqsT r ++ kwT [116, 101, 108] :: rest)) = false := by
    unfold eqT
    rw [List.append_assoc]
    exact lefts_head _ hq.left _
   show eqs K (n + 1) _ = _
   rw [eqs, hh, if_neg (by decide)]
theorem node_rd (n : Nd) (h : WfN n) (rest : List T) : ∃ n', unpN n' = unpN n ∧ Evr (fun k => node k (nodeT n ++ rest)) (.ok n' rest) := by
 obtain ⟨li, hi, hvi⟩ := decls_rd n.ins h.ins (kwT [114, 101, 116, 117, 114, 110, 115] :: (declsT n.outs ++ (varsT n.vars ++ kwT [108, 101, 116] :: (eqsT n.eqs ++ kwT [116, 101, 108] :: rest))))
 obtain ⟨lo, ho, hvo⟩ := decls_rd n.outs h.outs (varsT n.vars ++ kwT [108, 101, 116] :: (eqsT n.eqs ++ kwT [116, 101, 108] :: rest))
 obtain ⟨lv, hv, hvv⟩ := vars_rd n.vars h.vars (eqsT n.eqs ++ kwT [116, 101, 108] :: rest)
 obtain ⟨lq, hq, ⟨kq, hvq⟩⟩ := eqs_rd n.eqs h.eqs rest
 have hx : nodeT n ++ rest = kwT [110, 111, 100, 101] :: nmT n.name :: (declsT n.ins ++ kwT [114, 101, 116, 117, 114, 110, 115] :: (declsT n.outs ++ (varsT n.vars ++ kwT [108, 101, 116] :: (eqsT n.eqs ++ kwT [116, 101, 108] :: rest)))) := by simp [nodeT]
 rw [hx]
 obtain ⟨Q, hQ⟩ : ∃ Q, Q = (nmT n.name :: (declsT n.ins ++ kwT [114, 101, 116, 117, 114, 110, 115] :: (declsT n.outs ++ (varsT n.vars ++ kwT [108, 101, 116] :: (eqsT n.eqs ++ kwT [116, 101, 108] :: rest))))).length := ⟨_, rfl⟩
 refine ⟨⟨n.name, Q, li, lo, lv, lq⟩, by simp only [unpN, hi, ho, hv, hq], ?_⟩
 refine Evr.wants (g := fun K _ s1 => (name s1).bind fun m s2 => (decls K s2).bind fun ins s3 => (want [114, 101, 116, 117, 114, 110, 115] s3).bind fun _ s4 =>
  (decls K s4).bind fun outs s5 => (vars K s5).bind fun vs s6 => (want [108, 101, 116] s6).bind fun _ s7 => (eqs K K s7).bind fun qs s8 =>
   (want [116, 101, 108] s8).bind fun _ s9 => .ok (Nd.mk m s1.length ins outs vs qs) s9) (is_kw _ _) ?_
 refine Evr.names (g := fun K m s2 => (decls K s2).bind fun ins s3 => (want [114, 101, 116, 117, 114, 110, 115] s3).bind fun _ s4 =>
  (decls K s4).bind fun outs s5 => (vars K s5).bind fun vs s6 => (want [108, 101, 116] s6).bind fun _ s7 => (eqs K K s7).bind fun qs s8 =>
   (want [116, 101, 108] s8).bind fun _ s9 => .ok (Nd.mk m _ ins outs vs qs) s9) ?_
 rw [← hQ]
 refine Evr.bind (g := fun K ins s3 => (want [114, 101, 116, 117, 114, 110, 115] s3).bind fun _ s4 =>
  (decls K s4).bind fun outs s5 => (vars K s5).bind fun vs s6 => (want [108, 101, 116] s6).bind fun _ s7 => (eqs K K s7).bind fun qs s8 =>
   (want [116, 101, 108] s8).bind fun _ s9 => .ok (Nd.mk n.name Q ins outs vs qs) s9) hvi ?_
 refine Evr.wants (g := fun K _ s4 => (decls K s4).bind fun outs s5 => (vars K s5).bind fun vs s6 => (want [108, 101, 116] s6).bind fun _ s7 => (eqs K K s7).bind fun qs s8 =>
   (want [116, 101, 108] s8).bind fun _ s9 => .ok (Nd.mk n.name Q li outs vs qs) s9) (is_kw _ _) ?_
 refine Evr.bind (g := fun K outs s5 => (vars K s5).bind fun vs s6 => (want [108, 101, 116] s6).bind fun _ s7 => (eqs K K s7).bind fun qs s8 =>
   (want [116, 101, 108] s8).bind fun _ s9 => .ok (Nd.mk n.name Q li outs vs qs) s9) hvo ?_
 refine Evr.bind (g := fun K vs s6 => (want [108, 101, 116] s6).bind fun _ s7 => (eqs K K s7).bind fun qs s8 =>
   (want [116, 101, 108] s8).bind fun _ s9 => .ok (Nd.mk n.name Q li lo vs qs) s9) hvv ?_
 refine Evr.wants (g := fun K _ s7 => (eqs K K s7).bind fun qs s8 => (want [116, 101, 108] s8).bind fun _ s9 => .ok (Nd.mk n.name Q li lo lv qs) s9) (is_kw _ _) ?_
 refine Evr.bind (f := fun K => eqs K K (eqsT n.eqs ++ kwT [116, 101, 108] :: rest)) (g := fun K qs s8 => (want [116, 101, 108] s8).bind fun _ s9 => .ok (Nd.mk n.name Q li lo lv qs) s9) ⟨kq, fun K hK => hvq K K hK hK⟩ ?_
 exact Evr.wants (g := fun K _ s9 => .ok (Nd.mk n.name Q li lo lv lq) s9) (is_kw _ _) (Evr.const _)
theorem nodesL_rd : ∀ (l : List Nd), (∀ n ∈ l, WfN n) → ∃ l', l'.map unpN = l.map unpN ∧ Ev2 (fun K n => nodesL K n (nodesT l ++ [endT])) (.ok l' [endT])
 | [], h => ⟨[], rfl, ⟨1, fun K n _ hn => by
   obtain ⟨j, rfl⟩ : ∃ j, n = j + 1 := ⟨n - 1, by omega⟩
   rfl⟩⟩
 | q :: r, h => by
  obtain ⟨l', hl, hv⟩ := nodesL_rd r (fun z hz => h z (List.mem_cons_of_mem _ hz))
  obtain ⟨q', hs, hv1⟩ := node_rd q (h q (by simp)) (nodesT r ++ [endT])
  have hx : nodesT (q :: r) ++ [endT] = nodeT q ++ (nodesT r ++ [endT]) := by simp [nodesT]
  rw [hx]
  refine ⟨q' :: l', by rw [List.map_cons, List.map_cons, hs, hl], ?_⟩
  refine Ev2.step (g := fun _ _ => .out) (F := fun a s K n => (nodesL K n s).bind fun l s2 => .ok (a :: l) s2) hv1 ?_ fun K n => ?_
  ·obtain ⟨k0, hv⟩ := hv
   exact ⟨k0, fun K n hK hn => by
    show (nodesL K n (nodesT r ++ [endT])).bind _ = _
    rw [show nodesL K n (nodesT r ++ [endT]) = _ from hv K n hK hn]
    rfl⟩
  ·show nodesL K (n + 1) _ = _
   rw [nodesL, if_neg]
   exact fun h => absurd (show false = true from h) (by decide)
theorem program_rd (l : List Nd) (hl : l ≠ []) (h : ∀ n ∈ l, WfN n) : ∃ l', l'.map unpN = l.map unpN ∧ Evr (fun k => program k (nodesT l ++ [endT])) (.ok l' [endT]) := by
 cases l with
 | nil => exact absurd rfl hl
 | cons n r =>
  obtain ⟨l', hl', ⟨k0, hv⟩⟩ := nodesL_rd r (fun z hz => h z (List.mem_cons_of_mem _ hz))
  obtain ⟨n', hs, ⟨k1, hv1⟩⟩ := node_rd n (h n (by simp)) (nodesT r ++ [endT])
  have hx : nodesT (n :: r) ++ [endT] = nodeT n ++ (nodesT r ++ [endT]) := by simp [nodesT]
  rw [hx]
  refine ⟨n' :: l', by rw [List.map_cons, List.map_cons, hs, hl'], ⟨max k0 k1, fun k hk => ?_⟩⟩
  show program k _ = _
  unfold program nodes
  rw [show node k (nodeT n ++ (nodesT r ++ [endT])) = _ from hv1 k (by omega)]
  show (((nodesL k k (nodesT r ++ [endT])).bind _).bind _) = _
  rw [show nodesL k k (nodesT r ++ [endT]) = _ from hv k k (by omega) (by omega)]
  rfl
end PX
end Go.Proofs.YtjafllnbgfcchaaGreatDoor
end
section
/- Texts that are parted into tokens. -/
namespace Go.Proofs.YtjafllnbgfcchaaGreatDoor
set_option linter.unusedVariables false
set_option linter.unusedSimpArgs false
namespace PX
def Lexes (s : B) (ts : List T) : Prop := ∀ total k, s.length < k → ∃ r, LX.go total k s = .ok r ∧ r.map tkp = ts
def Sp (s : B) : Prop := ∀ c r, s = c :: r → LX.word c = false
theorem Sp.nil : Sp [] := fun c r h => by cases h
theorem Sp.cons {c : UInt8} (r : B) (h : LX.word c = false) : Sp (c :: r) := fun c' r' e => by
 injection e with e1 e2
 subst e1
 exact h
theorem Lexes.nil : Lexes [] [endT] := fun total k hk => by
 obtain ⟨j, rfl⟩ : ∃ j, k = j + 1 := ⟨k - 1, by simp at hk; omega⟩
 exact ⟨_, rfl, rfl⟩
theorem Lexes.blank {s : B} {ts : List T} (c : UInt8) (hc : LX.blank c = true) (h : Lexes s ts) : Lexes (c :: s) ts := fun total k hk => by
 obtain ⟨j, rfl⟩ : ∃ j, k = j + 1 := ⟨k - 1, by simp at hk; omega⟩
 obtain ⟨r, h1, h2⟩ := h total (j + 1) (by simp at hk; omega)
 refine ⟨r, ?_, h2⟩
 rw [LX.go] at h1 ⊢
 rw [LX.skip_blank c s hc]
 exact h1
theorem Lexes.tok {t s : B} {ts : List T} {kind n : Nat} (ht : t ≠ []) (hs : LX.skip false (t ++ s) = t ++ s) (h1 : LX.one (t ++ s) = .ok (kind, t, n)) (h : Lexes s ts) : Lexes (t ++ s) (⟨kind, t, n⟩ :: ts) := fun total k hk => by
 obtain ⟨j, rfl⟩ : ∃ j, k = j + 1 := ⟨k - 1, by rw [List.length_append] at hk; omega⟩
 have hl : 1 ≤ t.length := by cases t with
  | nil => exact absurd rfl ht
  | cons _ _ => simp
 obtain ⟨r, h2, h3⟩ := h total j (by rw [List.length_append] at hk; omega)
 have he : (t ++ s).isEmpty = false := by cases t with
  | nil => exact absurd rfl ht
  | cons _ _ => rfl
 refine ⟨⟨kind, total - (t ++ s).length, t, n⟩ :: r, ?_, by rw [List.map_cons, h3]; rfl⟩
 rw [LX.go, hs]
 simp only [he, h1, List.drop_left, h2, Bool.false_eq_true, if_false]
theorem takeWhile_all (p : UInt8 → Bool) : ∀ (t s : B), t.all p = true → (∀ c r, s = c :: r → p c = false) → (t ++ s).takeWhile p = t
 | [], s, _, hs => by
  cases s with
  | nil => rfl
  | cons c r => rw [List.nil_append, List.takeWhile_cons, hs c r rfl]; rfl
 | a :: t, s, h, hs => by
  rw [List.all_cons, Bool.and_eq_true] at h
  rw [List.cons_append, List.takeWhile_cons, h.1, if_pos rfl, takeWhile_all p t s h.2 hs]
theorem letter_not {c : UInt8} (h : LX.letter c = true) : LX.blank c = false ∧ c ≠ 45 := by
 constructor
 ·cases hb : LX.blank c with
  | false => rfl
  | true =>
   unfold LX.blank at hb
   simp only [Bool.or_eq_true, beq_iff_eq] at hb
   rcases hb with (rfl | rfl) | rfl <;> exact absurd h (by decide)
 ·rintro rfl
  exact absurd h (by decide)
theorem skip_id {c : UInt8} (r : B) (hb : LX.blank c = false) (h : c ≠ 45) : LX.skip false (c :: r) = c :: r :=
 LX.skip_other _ (fun c' r' e => by
  injection e with e1
  subst e1
  exact hb) (by
  cases r with
  | nil => simp [List.isPrefixOf]
  | cons d r =>
   have : (45 == c) = false := beq_eq_false_iff_ne.2 fun e => h e.symm
   simp [List.isPrefixOf, this])
theorem Lexes.name {m s : B} {ts : List T} (hm : NameOk m) (hs : Sp s) (h : Lexes s ts) : Lexes (m ++ s) (nmT m :: ts) := by
 obtain ⟨⟨c, r, rfl, hc⟩, ha, hw, hl⟩ := hm
 have hn := letter_not hc
 refine Lexes.tok (by simp) (skip_id _ hn.1 hn.2) ?_ h
 show LX.one (c :: (r ++ s)) = _
 unfold LX.one
 simp only [hc, if_true]
 rw [show c :: (r ++ s) = (c :: r) ++ s from rfl, takeWhile_all LX.word (c :: r) s ha hs]
 simp only [hw, Bool.false_eq_true, if_false]
 rw [if_neg (by omega)]
theorem Lexes.kw {m s : B} {ts : List T} (hm : m ∈ LX.words) (hs : Sp s) (h : Lexes s ts) : Lexes (m ++ s) (kwT m :: ts) := by
 have key : ∀ x ∈ LX.words, x.all LX.word = true ∧ (match x with | [] => false | c :: _ => LX.letter c) = true := by decide
 obtain ⟨ha, hc⟩ := key m hm
 cases m with
 | nil => cases hc
 | cons c r =>
  have hc : LX.letter c = true := hc
  have hn := letter_not hc
  refine Lexes.tok (by simp) (skip_id _ hn.1 hn.2) ?_ h
  show LX.one (c :: (r ++ s)) = _
  unfold LX.one
  simp only [hc, if_true]
  rw [show c :: (r ++ s) = (c :: r) ++ s from rfl, takeWhile_all LX.word (c :: r) s ha hs]
  rw [List.contains_iff_mem.2 hm]
  rfl
theorem numGo_app : ∀ (x y : B) (a : Nat), LX.numGo a (x ++ y) = (LX.numGo a x).bind fun b => LX.numGo b y
 | [], y, a => rfl
 | c :: x, y, a => by
  rw [List.cons_append, LX.numGo, LX.numGo]
  split
  ·rfl
  ·exact numGo_app x y _
theorem dig_nat (d : Nat) (h : d < 10) : (48 + d.toUInt8).toNat = 48 + d ∧ LX.digit (48 + d.toUInt8) = true ∧ (48 + d.toUInt8 = 48 → d = 0) := by
 have key : ∀ d : Fin 10, (48 + (d.val).toUInt8).toNat = 48 + d.val ∧ LX.digit (48 + (d.val).toUInt8) = true ∧ (48 + (d.val).toUInt8 = 48 → d.val = 0) := by decide
 exact key ⟨d, h⟩
theorem digs_ok : ∀ (k n : Nat), n < 10 ^ k → n ≤ 9223372036854775808 → 1 ≤ k → LX.numGo 0 (digs k n) = some n ∧ (digs k n).all LX.digit = true ∧ (digs k n) ≠ [] ∧ (0 < n → (digs k n).head? ≠ some 48) ∧ (n < 10 → (digs k n).length = 1)
 | 0, n, _, _, h1 => by omega
 | k + 1, n, hk, hn, _ => by
  rw [digs]
  split
  ·rename_i h10
   obtain ⟨e1, e2, e3⟩ := dig_nat n h10
   refine ⟨?_, by simp [e2], by simp, fun h0 he => ?_, fun _ => rfl⟩
   ·rw [LX.numGo, e1]
    rw [if_neg (by omega), LX.numGo]
    congr 1
    omega
   ·simp only [List.head?_cons, Option.some.injEq] at he
    have := e3 he
    omega
  ·rename_i h10
   have hk1 : 1 ≤ k := by
    rcases Nat.eq_zero_or_pos k with rfl | h
    ·simp at hk; omega
    ·exact h
   obtain ⟨i1, i2, i3, i4, i5⟩ := digs_ok k (n / 10) (by rw [Nat.pow_succ] at hk; omega) (by omega) hk1
   obtain ⟨e1, e2, e3⟩ := dig_nat (n % 10) (by omega)
   refine ⟨?_, by rw [List.all_append, i2]; simp [e2], by simp, fun h0 => ?_, fun h => absurd h h10⟩
   ·rw [numGo_app, i1, Option.bind_some, LX.numGo, e1, if_neg (by omega), LX.numGo]
    congr 1
    omega
   ·cases hx : digs k (n / 10) with
    | nil => exact absurd hx i3
    | cons a y =>
     have := i4 (by omega)
     rw [hx] at this
     exact this
theorem digits_ok {n : Nat} (hn : n ≤ 9223372036854775808) : LX.numGo 0 (digits n) = some n ∧ (digits n).all LX.digit = true ∧ (digits n) ≠ [] ∧ ((digits n).head? = some 48 → (digits n).length = 1) := by
 obtain ⟨h1, h2, h3, h4, h5⟩ := digs_ok 20 n (Nat.lt_of_le_of_lt hn (by decide)) hn (by decide)
 refine ⟨h1, h2, h3, fun h => h5 ?_⟩
 rcases Nat.eq_zero_or_pos n with h0 | h0
 ·omega
 ·exact absurd h (h4 h0)
theorem digit_not {c : UInt8} (h : LX.digit c = true) : LX.blank c = false ∧ c ≠ 45 ∧ LX.letter c = false := by
 have key : ∀ c : Fin 256, LX.digit (UInt8.ofNat c.val) = true → LX.blank (UInt8.ofNat c.val) = false ∧ UInt8.ofNat c.val ≠ 45 ∧ LX.letter (UInt8.ofNat c.val) = false := by decide +kernel
 have e : UInt8.ofNat c.toNat = c := by simp
 have := key ⟨c.toNat, c.toNat_lt⟩
 simp only [e] at this
 exact this h
theorem Lexes.num {n : Nat} {s : B} {ts : List T} (hn : n ≤ 9223372036854775808) (hs : Sp s) (h : Lexes s ts) : Lexes (digits n ++ s) (⟨2, digits n, n⟩ :: ts) := by
 obtain ⟨h1, h2, h3, h4⟩ := digits_ok hn
 cases hd : digits n with
 | nil => exact absurd hd h3
 | cons c r =>
  rw [hd] at h1 h2 h4
  have hc : LX.digit c = true := by rw [List.all_cons, Bool.and_eq_true] at h2; exact h2.1
  obtain ⟨n1, n2, n3⟩ := digit_not hc
  refine Lexes.tok (by simp) (skip_id _ n1 n2) ?_ h
  show LX.one (c :: (r ++ s)) = _
  unfold LX.one
  simp only [n3, hc, Bool.false_eq_true, if_false, if_true]
  rw [show c :: (r ++ s) = (c :: r) ++ s from rfl, takeWhile_all LX.digit (c :: r) s h2 (fun c' r' e => by
   have := hs c' r' e
   unfold LX.word at this
   rw [Bool.or_eq_false_iff] at this
   exact this.2)]
  rw [h1, if_neg]
  intro hb
  simp only [Bool.and_eq_true, beq_iff_eq, decide_eq_true_eq] at hb
  have := h4 (by rw [hb.1]; rfl)
  omega
def SgSp (g s : B) : Prop := g ∈ [[60, 62], [60, 61], [62, 61], [45, 62], [40], [41], [44], [59], [58], [61], [43], [42], [47]] ∨ g ∈ [[60], [62], [45]] ∧ ∀ c r, s = c :: r → c ≠ 61 ∧ c ≠ 62 ∧ c ≠ 45
theorem Lexes.sg {g s : B} {ts : List T} (hg : SgSp g s) (h : Lexes s ts) : Lexes (g ++ s) (sgT g :: ts) := by
 have key : LX.skip false (g ++ s) = g ++ s ∧ LX.one (g ++ s) = .ok (4, g, 0) ∧ g ≠ [] := by
  rcases hg with hg | ⟨hg, hs⟩
  ·simp only [List.mem_cons, List.not_mem_nil, or_false] at hg
   rcases hg with rfl | rfl | rfl | rfl | rfl | rfl | rfl | rfl | rfl | rfl | rfl | rfl | rfl <;> refine ⟨?_, ?_, by simp⟩ <;> first
    | exact skip_id _ (by decide) (by decide)
    | (simp [LX.skip, LX.blank]; done)
    | (simp [LX.one, LX.letter, LX.digit, LX.signs, List.find?, List.isPrefixOf]; done)
  ·have hcase : s = [] ∨ ∃ c r, s = c :: r := by cases s with
    | nil => exact .inl rfl
    | cons c r => exact .inr ⟨c, r, rfl⟩
   simp only [List.mem_cons, List.not_mem_nil, or_false] at hg
   rcases hcase with rfl | ⟨c, r, rfl⟩
   ·rcases hg with rfl | rfl | rfl <;> refine ⟨?_, ?_, by simp⟩ <;> first
     | exact skip_id _ (by decide) (by decide)
     | (simp [LX.skip, LX.blank]; done)
     | (simp [LX.one, LX.letter, LX.digit, LX.signs, List.find?, List.isPrefixOf]; done)
   ·obtain ⟨h1, h2, h3⟩ := hs c r rfl
    have b1 : (61 == c) = false := beq_eq_false_iff_ne.2 fun e => h1 e.symm
    have b2 : (62 == c) = false := beq_eq_false_iff_ne.2 fun e => h2 e.symm
    have b3 : (c == 45) = false := beq_eq_false_iff_ne.2 h3
    rcases hg with rfl | rfl | rfl <;> refine ⟨?_, ?_, by simp⟩ <;> first
     | exact skip_id _ (by decide) (by decide)
     | (simp [LX.skip, LX.blank, b3, h3]; done)
     | (simp [LX.one, LX.letter, LX.digit, LX.signs, List.find?, List.isPrefixOf, b1, b2]; done)
 exact Lexes.tok key.2.2 key.1 key.2.1 h
def LxP (tx : B) (x : List T) : Prop := ∀ rest ts, Sp rest → Lexes rest ts → Lexes (tx ++ rest) (x ++ ts)
theorem LxP.sp {tx : B} {x : List T} (h : LxP tx x) {rest : B} {ts : List T} (c : UInt8) (hc : LX.word c = false) (hr : Lexes (c :: rest) ts) : Lexes (tx ++ c :: rest) (x ++ ts) := h _ _ (Sp.cons _ hc) hr
theorem LxP.par {tx : B} {x : List T} (h : LxP tx x) : LxP (parB tx) (par x) := fun rest ts hs hr => by
 have e1 : parB tx ++ rest = [40] ++ (tx ++ 41 :: rest) := by simp [parB]
 have e2 : PX.par x ++ ts = sgT [40] :: (x ++ sgT [41] :: ts) := by simp [PX.par]
 rw [e1, e2]
 exact Lexes.sg (.inl (by decide)) (h.sp 41 (by decide) (Lexes.sg (g := [41]) (.inl (by decide)) hr))
theorem LxP.commas : ∀ (l : List (B × List T)), (∀ q ∈ l, LxP q.1 q.2) → LxP (commasB (l.map (·.1))) (PX.commas (l.map (·.2)))
 | [], _ => fun rest ts _ hr => hr
 | [q], h => h q (by simp)
 | q :: y :: r, h => fun rest ts hs hr => by
  have e1 : commasB ((q :: y :: r).map (·.1)) ++ rest = q.1 ++ 44 :: (32 :: (commasB ((y :: r).map (·.1)) ++ rest)) := by
   show commasB (q.1 :: y.1 :: r.map _) ++ rest = _
   rw [commasB]
   ·simp
   ·simp
  have e2 : PX.commas ((q :: y :: r).map (·.2)) ++ ts = q.2 ++ sgT [44] :: (PX.commas ((y :: r).map (·.2)) ++ ts) := by
   show PX.commas (q.2 :: y.2 :: r.map _) ++ ts = _
   rw [PX.commas]
   ·simp
   ·simp
  rw [e1, e2]
  exact (h q (by simp)).sp 44 (by decide) (Lexes.sg (g := [44]) (.inl (by decide)) (Lexes.blank 32 (by decide) (LxP.commas (y :: r) (fun z hz => h z (List.mem_cons_of_mem _ hz)) rest ts hs hr)))
theorem LxP.name {m : B} (h : NameOk m) : LxP m [nmT m] := fun rest ts hs hr => Lexes.name h hs hr
theorem LxP.kw {m : B} (h : m ∈ LX.words) : LxP m [kwT m] := fun rest ts hs hr => Lexes.kw h hs hr
theorem LxP.numT {n : Int} (h0 : -9223372036854775808 ≤ n) (h1 : n ≤ 9223372036854775807) : LxP (numB n) (numT n) := fun rest ts hs hr => by
 unfold numB PX.numT
 have hn : n.natAbs ≤ 9223372036854775808 := by omega
 split
 ·have h2 := Lexes.num hn hs hr
  refine Lexes.sg (g := [45]) (.inr ⟨by decide, fun c r e => ?_⟩) h2
  obtain ⟨_, d2, d3, _⟩ := digits_ok hn
  cases hd : digits n.natAbs with
  | nil => exact absurd hd d3
  | cons a y =>
   rw [hd] at e d2
   injection e with e1
   subst e1
   rw [List.all_cons, Bool.and_eq_true] at d2
   refine ⟨?_, ?_, ?_⟩ <;> (rintro rfl; exact absurd d2.1 (by decide))
 ·exact Lexes.num hn hs hr
theorem LxP.kwSp {m tx : B} {x : List T} (hm : m ∈ LX.words) (h : LxP tx x) : LxP (m ++ 32 :: tx) (kwT m :: x) := fun rest ts hs hr => by
 rw [List.append_assoc]
 exact Lexes.kw hm (Sp.cons _ (by decide)) (Lexes.blank 32 (by decide) (h rest ts hs hr))
theorem LxP.mid {m tx ty : B} {x y : List T} (hm : m ∈ LX.words) (h : LxP tx x) (h2 : LxP ty y) : LxP (tx ++ 32 :: (m ++ 32 :: ty)) (x ++ kwT m :: y) := fun rest ts hs hr => by
 rw [List.append_assoc, List.append_assoc]
 exact h.sp 32 (by decide) (Lexes.blank 32 (by decide) (LxP.kwSp hm h2 rest ts hs hr))
theorem LxP.midSg {m tx ty : B} {x y : List T} (hm : ∀ s, SgSp m (32 :: s)) (h : LxP tx x) (h2 : LxP ty y) : LxP (tx ++ 32 :: (m ++ 32 :: ty)) (x ++ sgT m :: y) := fun rest ts hs hr => by
 rw [List.append_assoc, List.append_assoc]
 refine h.sp 32 (by decide) (Lexes.blank 32 (by decide) ?_)
 show Lexes ((m ++ 32 :: ty) ++ rest) (sgT m :: (y ++ ts))
 rw [List.append_assoc]
 exact Lexes.sg (hm _) (Lexes.blank 32 (by decide) (h2 rest ts hs hr))
theorem Lexes.all {s : B} {ts : List T} (h : Lexes s ts) (hs : s.length ≤ 4000) : ∃ toks, LX.all s = .ok toks ∧ toks.map tkp = ts := by
 unfold LX.all
 rw [if_neg (by omega)]
 exact h s.length (s.length + 1) (Nat.lt_succ_self _)
end PX
end Go.Proofs.YtjafllnbgfcchaaGreatDoor
end
section
/- The canonical text of an expression, and of nodes; its tokens are the canonical ones. -/
namespace Go.Proofs.YtjafllnbgfcchaaGreatDoor
set_option linter.unusedVariables false
set_option linter.unusedSimpArgs false
namespace PX
structure Kb where
 lev : Nat
 kind : Nat
 txt : B
def Kb.at_ (a : Kb) (least : Nat) : B := if a.lev < least then parB a.txt else a.txt
def clockB (m : B) (off : Bool) : B := if m = [] then [] else if off then [32, 119, 104, 101, 110, 32, 110, 111, 116, 32] ++ m else [32, 119, 104, 101, 110, 32] ++ m
def asmB (k : Nat) (n : Int) (m : B) (off : Bool) (l : List Kb) : B :=
 if k = 1 then numB n
 else if k = 2 then (if n = 1 then [116, 114, 117, 101] else [102, 97, 108, 115, 101])
 else if k = 3 then m
 else if k = 13 then m ++ parB (commasB (l.map Kb.txt))
 else if k = 14 then [97, 119, 97, 105, 116, 32] ++ (m ++ (if l.isEmpty then [] else [32, 97, 102, 116, 101, 114, 32] ++ parB (commasB (l.map Kb.txt))))
 else match l with
  | [a] =>
   if k = 4 then 45 :: (if a.kind = 1 ∨ (a.at_ 8).head? = some 45 then parB a.txt else a.at_ 8)
   else if k = 5 then [110, 111, 116, 32] ++ a.at_ 4
   else if k = 10 then [112, 114, 101, 32] ++ a.at_ 8
   else if k = 11 then a.at_ 9 ++ clockB m off
   else []
  | [a, b] =>
   if k = 6 then a.at_ (if signLevel m = 5 then 6 else signLevel m) ++ 32 :: (m ++ 32 :: b.at_ (signLevel m + 1))
   else if k = 8 then a.at_ 2 ++ [32, 45, 62, 32] ++ b.at_ 1
   else if k = 9 then a.txt ++ [32, 102, 98, 121, 32] ++ b.at_ 1
   else if k = 12 then [109, 101, 114, 103, 101, 32] ++ (m ++ 32 :: (parB a.txt ++ 32 :: parB b.txt))
   else []
  | [a, b, c] => if k = 7 then [105, 102, 32] ++ (a.txt ++ ([32, 116, 104, 101, 110, 32] ++ (b.txt ++ ([32, 101, 108, 115, 101, 32] ++ c.txt)))) else []
  | _ => []
mutual
def textE : Ex → B
 | .mk k _ n m o l => asmB k n m o (kbsE l)
def kbsE : List Ex → List Kb
 | [] => []
 | e :: r => ⟨level e, e.kind, textE e⟩ :: kbsE r
end
def kbE (e : Ex) : Kb := ⟨level e, e.kind, textE e⟩
theorem kbsE_eq (l : List Ex) : kbsE l = l.map kbE := by
 induction l with
 | nil => rfl
 | cons e r ih => rw [kbsE, ih]; rfl
structure Fst (tx : B) (x : List T) : Prop where
 hd : ∃ c r, tx = c :: r ∧ (LX.word c = true ∨ c = 40 ∨ c = 45)
 minus : (peek x).text = [45] ↔ tx.head? = some 45
theorem Fst.par (tx : B) (x : List T) : Fst (parB tx) (PX.par x) := ⟨⟨40, _, rfl, .inr (.inl rfl)⟩, ⟨fun h => absurd h (by show ¬ ([40] : B) = [45]; decide), fun h => absurd h (by show ¬ (some (40 : UInt8)) = some 45; decide)⟩⟩
theorem Fst.app {tx : B} {x : List T} (h : Fst tx x) (hx : x ≠ []) (ty : B) (y : List T) : Fst (tx ++ ty) (x ++ y) := by
 obtain ⟨⟨c, r, rfl, hc⟩, hm⟩ := h
 cases x with
 | nil => exact absurd rfl hx
 | cons t x => exact ⟨⟨c, r ++ ty, rfl, hc⟩, hm⟩
theorem Fst.word {c : UInt8} {r : B} {t : T} {x : List T} (hc : LX.word c = true) (ht : t.text ≠ [45]) : Fst (c :: r) (t :: x) :=
 ⟨⟨c, r, rfl, .inl hc⟩, ⟨fun h => absurd h ht, fun h => by
  simp only [List.head?_cons, Option.some.injEq] at h
  subst h
  exact absurd hc (by decide)⟩⟩
theorem NameOk.fst {m : B} (h : NameOk m) (r : B) (x : List T) : Fst (m ++ r) (nmT m :: x) := by
 obtain ⟨⟨c, r', rfl, hc⟩, _⟩ := h
 refine Fst.word (by unfold LX.word; rw [hc]; rfl) ?_
 show c :: r' ≠ [45]
 intro e
 injection e with e1
 subst e1
 exact absurd hc (by decide)
theorem fst_at {e : Ex} (h : Fst (textE e) (toksE e)) (least : Nat) : Fst ((kbE e).at_ least) ((ktE e).at_ least) := by
 unfold Kb.at_ Kt.at_
 show Fst (if level e < least then _ else _) (if level e < least then _ else _)
 split
 ·exact Fst.par _ _
 ·exact h
theorem kt_ne {e : Ex} (h : Wf e) (least : Nat) : (ktE e).at_ least ≠ [] := by
 unfold Kt.at_
 split
 ·simp [PX.par]
 ·exact (PL.to0 (read_wf h)).hd.1
theorem fst_num {n : Int} (h0 : -9223372036854775808 ≤ n) (h1 : n ≤ 9223372036854775807) : Fst (numB n) (numT n) := by
 unfold numB numT
 have hn : n.natAbs ≤ 9223372036854775808 := by omega
 split
 ·exact ⟨⟨45, _, rfl, .inr (.inr rfl)⟩, ⟨fun _ => rfl, fun _ => rfl⟩⟩
 ·obtain ⟨_, d2, d3, _⟩ := digits_ok hn
  cases hd : digits n.natAbs with
  | nil => exact absurd hd d3
  | cons a y =>
   rw [hd] at d2
   rw [List.all_cons, Bool.and_eq_true] at d2
   refine Fst.word (by unfold LX.word; rw [d2.1]; simp) ?_
   show a :: y ≠ [45]
   intro e
   injection e with e1
   subst e1
   exact absurd d2.1 (by decide)
theorem fst_wf {e : Ex} (h : Wf e) : Fst (textE e) (toksE e) := by
 induction h with
 | num q n h0 h1 => rw [textE, toksE]; exact fst_num h0 h1
 | truth q n h =>
  rw [textE, toksE]
  rcases h with rfl | rfl
  ·exact Fst.word (c := 102) (by decide) (by decide)
  ·exact Fst.word (c := 116) (by decide) (by decide)
 | var q m hm => rw [textE, toksE]; have h9 := hm.fst [] []; rw [List.append_nil] at h9; exact h9
 | neg q a _ _ => rw [textE, toksE]; exact ⟨⟨45, _, rfl, .inr (.inr rfl)⟩, ⟨fun _ => rfl, fun _ => rfl⟩⟩
 | not_ q a _ _ => rw [textE, toksE]; exact Fst.word (c := 110) (by decide) (by decide)
 | sign q m a b hm ha hb iha ihb =>
  rw [textE, toksE]
  exact Fst.app (fst_at iha _) (kt_ne ha _) _ _
 | if_ q a b c _ _ _ _ _ _ => rw [textE, toksE]; exact Fst.word (c := 105) (by decide) (by decide)
 | arrow q a b ha hb iha ihb =>
  rw [textE, toksE]
  show Fst ((kbE a).at_ 2 ++ [32, 45, 62, 32] ++ (kbE b).at_ 1) _
  rw [List.append_assoc]
  exact Fst.app (fst_at iha _) (kt_ne ha _) _ _
 | fby q a b hc ha hb iha ihb =>
  rw [textE, toksE]
  show Fst (textE a ++ [32, 102, 98, 121, 32] ++ (kbE b).at_ 1) _
  rw [List.append_assoc]
  exact Fst.app iha (PL.to0 (read_wf ha)).hd.1 _ _
 | pre q a _ _ => rw [textE, toksE]; exact Fst.word (c := 112) (by decide) (by decide)
 | when_ q m o a hm ha ih =>
  rw [textE, toksE]
  exact Fst.app (fst_at ih _) (kt_ne ha _) _ _
 | merge q m a b _ _ _ _ _ => rw [textE, toksE]; exact Fst.word (c := 109) (by decide) (by decide)
 | call q m l hm _ _ => rw [textE, toksE]; exact hm.fst _ _
 | await q m l hm _ _ _ => rw [textE, toksE]; exact Fst.word (c := 97) (by decide) (by decide)
theorem lx_at {e : Ex} (h : LxP (textE e) (toksE e)) (least : Nat) : LxP ((kbE e).at_ least) ((ktE e).at_ least) := by
 unfold Kb.at_ Kt.at_
 show LxP (if level e < least then _ else _) (if level e < least then _ else _)
 split
 ·exact h.par
 ·exact h
theorem LxP.minus {tx : B} {x : List T} (h : LxP tx x) (hf : Fst tx x) (hm : tx.head? ≠ some 45) : LxP (45 :: tx) (sgT [45] :: x) := fun rest ts hs hr => by
 have h1 := h rest ts hs hr
 refine Lexes.sg (g := [45]) (s := tx ++ rest) (.inr ⟨by decide, fun c r e => ?_⟩) h1
 obtain ⟨⟨c', r', rfl, hc⟩, _⟩ := hf
 injection e with e1
 subst e1
 refine ⟨?_, ?_, fun e => hm (by rw [e]; rfl)⟩ <;> (rintro rfl; rcases hc with hc | hc | hc <;> exact absurd hc (by decide))
theorem LxP.clock {m : B} (o : Bool) (hm : NameOk m) {tx : B} {x : List T} (h : LxP tx x) : LxP (tx ++ clockB m o) (x ++ kwT [119, 104, 101, 110] :: ((if o then [kwT [110, 111, 116]] else []) ++ [nmT m])) := by
 have hne : m ≠ [] := by obtain ⟨⟨c, r, rfl, _⟩, _⟩ := hm; simp
 unfold clockB
 rw [if_neg hne]
 cases o with
 | false => exact LxP.mid (m := [119, 104, 101, 110]) (by decide) h (LxP.name hm)
 | true => exact LxP.mid (m := [119, 104, 101, 110]) (by decide) h (LxP.kwSp (m := [110, 111, 116]) (by decide) (LxP.name hm))
theorem kbs_txt (l : List Ex) : (kbsE l).map Kb.txt = l.map textE := by rw [kbsE_eq, List.map_map]; rfl
theorem kbs_empty (l : List Ex) : (kbsE l).isEmpty = l.isEmpty := by rw [kbsE_eq]; cases l <;> rfl
theorem lx_list (l : List Ex) (h : ∀ x ∈ l, LxP (textE x) (toksE x)) : LxP (commasB (l.map textE)) (commas (l.map toksE)) := by
 have := LxP.commas (l.map fun e => (textE e, toksE e)) (fun q hq => by
  obtain ⟨e, he, rfl⟩ := List.mem_map.1 hq
  exact h e he)
 rw [List.map_map, List.map_map] at this
 exact this
theorem sg_sp : ∀ m ∈ ([[43], [45], [42], [47], [60], [60, 61], [62], [62, 61], [61], [60, 62]] : List B), ∀ s, SgSp m (32 :: s) := by
 intro m hm s
 simp only [List.mem_cons, List.not_mem_nil, or_false] at hm
 unfold SgSp
 rcases hm with rfl | rfl | rfl | rfl | rfl | rfl | rfl | rfl | rfl | rfl <;> first
  | exact .inl (by decide)
  | exact .inr ⟨by decide, fun c r e => by injection e with e1; subst e1; decide⟩
theorem lx_wf {e : Ex} (h : Wf e) : LxP (textE e) (toksE e) := by
 induction h with
 | num q n h0 h1 => rw [textE, toksE]; exact LxP.numT h0 h1
 | truth q n h =>
  rw [textE, toksE]
  rcases h with rfl | rfl
  ·exact LxP.kw (m := [102, 97, 108, 115, 101]) (by decide)
  ·exact LxP.kw (m := [116, 114, 117, 101]) (by decide)
 | var q m hm => rw [textE, toksE]; exact LxP.name hm
 | neg q a ha ih =>
  rw [textE, toksE]
  show LxP (45 :: (if (kbE a).kind = 1 ∨ ((kbE a).at_ 8).head? = some 45 then parB (textE a) else (kbE a).at_ 8)) (sgT [45] :: (if (ktE a).kind = 1 ∨ (peek ((ktE a).at_ 8)).text = [45] then par (toksE a) else (ktE a).at_ 8))
  have hf := fst_at (fst_wf ha) 8
  have hc : ((kbE a).kind = 1 ∨ ((kbE a).at_ 8).head? = some 45) ↔ ((ktE a).kind = 1 ∨ (peek ((ktE a).at_ 8)).text = [45]) := by rw [hf.minus]; exact Iff.rfl
  by_cases hk : (ktE a).kind = 1 ∨ (peek ((ktE a).at_ 8)).text = [45]
  ·rw [if_pos hk, if_pos (hc.2 hk)]
   exact LxP.minus ih.par (Fst.par _ _) (by show some (40 : UInt8) ≠ some 45; decide)
  ·rw [if_neg hk, if_neg (fun h => hk (hc.1 h))]
   exact LxP.minus (lx_at ih 8) hf (fun h => hk (hc.1 (.inr h)))
 | not_ q a _ ih => rw [textE, toksE]; exact LxP.kwSp (m := [110, 111, 116]) (by decide) (lx_at ih 4)
 | sign q m a b hm ha hb iha ihb =>
  rw [textE, toksE]
  show LxP ((kbE a).at_ (if signLevel m = 5 then 6 else signLevel m) ++ 32 :: (m ++ 32 :: (kbE b).at_ (signLevel m + 1))) ((ktE a).at_ (if signLevel m = 5 then 6 else signLevel m) ++ signT m :: (ktE b).at_ (signLevel m + 1))
  have key : (m ∈ LX.words ∧ signT m = kwT m) ∨ (m ∈ ([[43], [45], [42], [47], [60], [60, 61], [62], [62, 61], [61], [60, 62]] : List B) ∧ signT m = sgT m) := by
   simp only [allSigns, List.mem_cons, List.not_mem_nil, or_false] at hm
   rcases hm with rfl | rfl | rfl | rfl | rfl | rfl | rfl | rfl | rfl | rfl | rfl | rfl | rfl | rfl <;> first
    | exact .inr ⟨by decide, rfl⟩
    | exact .inl ⟨by decide, rfl⟩
  rcases key with ⟨h1, h2⟩ | ⟨h1, h2⟩
  ·rw [h2]
   exact LxP.mid h1 (lx_at iha _) (lx_at ihb _)
  ·rw [h2]
   exact LxP.midSg (sg_sp m h1) (lx_at iha _) (lx_at ihb _)
 | if_ q a b c _ _ _ iha ihb ihc =>
  rw [textE, toksE]
  exact LxP.kwSp (m := [105, 102]) (by decide) (LxP.mid (m := [116, 104, 101, 110]) (by decide) iha (LxP.mid (m := [101, 108, 115, 101]) (by decide) ihb ihc))
 | arrow q a b ha hb iha ihb =>
  rw [textE, toksE]
  show LxP ((kbE a).at_ 2 ++ [32, 45, 62, 32] ++ (kbE b).at_ 1) _
  rw [List.append_assoc]
  exact LxP.midSg (m := [45, 62]) (fun s => .inl (by decide)) (lx_at iha 2) (lx_at ihb 1)
 | fby q a b hc ha hb iha ihb =>
  rw [textE, toksE]
  show LxP (textE a ++ [32, 102, 98, 121, 32] ++ (kbE b).at_ 1) _
  rw [List.append_assoc]
  exact LxP.mid (m := [102, 98, 121]) (by decide) iha (lx_at ihb 1)
 | pre q a _ ih => rw [textE, toksE]; exact LxP.kwSp (m := [112, 114, 101]) (by decide) (lx_at ih 8)
 | when_ q m o a hm ha ih =>
  rw [textE, toksE]
  exact LxP.clock o hm (lx_at ih 9)
 | merge q m a b hm _ _ iha ihb =>
  rw [textE, toksE]
  refine LxP.kwSp (m := [109, 101, 114, 103, 101]) (by decide) (x := nmT m :: (par (toksE a) ++ par (toksE b))) fun rest ts hs hr => ?_
  show Lexes ((m ++ 32 :: (parB (textE a) ++ 32 :: parB (textE b))) ++ rest) _
  rw [List.append_assoc]
  refine Lexes.name hm (Sp.cons _ (by decide)) (Lexes.blank 32 (by decide) ?_)
  show Lexes ((parB (textE a) ++ 32 :: parB (textE b)) ++ rest) ((par (toksE a) ++ par (toksE b)) ++ ts)
  rw [List.append_assoc, List.append_assoc]
  exact iha.par.sp 32 (by decide) (Lexes.blank 32 (by decide) (ihb.par rest ts hs hr))
 | call q m l hm h ih =>
  rw [textE, toksE]
  show LxP (m ++ parB (commasB ((kbsE l).map Kb.txt))) (nmT m :: par (commas ((ktsE l).map Kt.toks)))
  rw [kbs_txt, kts_toks]
  intro rest ts hs hr
  rw [List.append_assoc]
  exact Lexes.name hm (Sp.cons _ (by decide)) ((lx_list l ih).par rest ts hs hr)
 | await q m l hm hw hc ih =>
  rw [textE, toksE]
  show LxP ([97, 119, 97, 105, 116, 32] ++ (m ++ (if (kbsE l).isEmpty then [] else [32, 97, 102, 116, 101, 114, 32] ++ parB (commasB ((kbsE l).map Kb.txt))))) (kwT [97, 119, 97, 105, 116] :: nmT m :: (if (ktsE l).isEmpty then [] else kwT [97, 102, 116, 101, 114] :: par (commas ((ktsE l).map Kt.toks))))
  rw [kbs_txt, kts_toks, kbs_empty, kts_empty]
  have hl : LxP (commasB (l.map textE)) (commas (l.map toksE)) := lx_list l ih
  refine LxP.kwSp (m := [97, 119, 97, 105, 116]) (by decide) (x := nmT m :: _) fun rest ts hs hr => ?_
  split
  ·rw [List.append_nil]
   exact Lexes.name hm hs hr
  ·show Lexes ((m ++ ([32, 97, 102, 116, 101, 114, 32] ++ parB (commasB (l.map textE)))) ++ rest) _
   rw [List.append_assoc]
   refine Lexes.name hm (Sp.cons _ (by decide)) ?_
   exact Lexes.blank 32 (by decide) (LxP.kwSp (m := [97, 102, 116, 101, 114]) (by decide) hl.par rest ts hs hr)
end PX
end Go.Proofs.YtjafllnbgfcchaaGreatDoor
end
section
/- The canonical text of nodes; its tokens are the canonical ones. -/
namespace Go.Proofs.YtjafllnbgfcchaaGreatDoor
set_option linter.unusedVariables false
set_option linter.unusedSimpArgs false
namespace PX
def typeB (b f : Bool) : B := (if f then [102, 117, 116, 117, 114, 101, 32] else []) ++ (if b then [98, 111, 111, 108] else [105, 110, 116])
def declB (d : Dc) : B := d.name ++ [58, 32] ++ typeB d.bool d.future ++ clockB d.clock d.off
def joinB (sep : B) : List B → B
 | [] => []
 | [x] => x
 | x :: r => x ++ sep ++ joinB sep r
theorem commas_join (l : List B) : commasB l = joinB [44, 32] l := by
 induction l with
 | nil => rfl
 | cons x r ih =>
  cases r with
  | nil => rfl
  | cons y r =>
   show x ++ 44 :: 32 :: commasB (y :: r) = x ++ [44, 32] ++ joinB [44, 32] (y :: r)
   rw [ih]
   simp
def declsB (sep : B) (l : List Dc) : B := joinB sep (l.map declB)
def leftsB (l : List Lf) : B := if 1 < l.length then parB (joinB [44, 32] (l.map (·.name))) else joinB [44, 32] (l.map (·.name))
def eqB (q : Eq) : B := [32, 32] ++ (leftsB q.left ++ (if q.async then [32, 61, 32, 97, 115, 121, 110, 99, 32] else [32, 61, 32])) ++ textE q.e ++ [59, 10]
def eqsB : List Eq → B
 | [] => []
 | q :: r => eqB q ++ eqsB r
def nodeB (n : Nd) : B :=
 [110, 111, 100, 101, 32] ++ n.name ++ [40] ++ declsB [44, 32] n.ins ++ [41, 32, 114, 101, 116, 117, 114, 110, 115, 32, 40] ++ declsB [44, 32] n.outs ++ [41, 10] ++
  ((if n.vars.isEmpty then [] else [118, 97, 114, 32] ++ declsB [59, 32] n.vars ++ [59, 10]) ++ ([108, 101, 116, 10] ++ (eqsB n.eqs ++ [116, 101, 108, 10])))
def nodesB : List Nd → B
 | [] => []
 | n :: r => nodeB n ++ nodesB r
theorem LxP.type (b f : Bool) : LxP (typeB b f) (typeT b f) := by
 cases b <;> cases f
 ·exact LxP.kw (m := [105, 110, 116]) (by decide)
 ·exact LxP.kwSp (m := [102, 117, 116, 117, 114, 101]) (by decide) (LxP.kw (m := [105, 110, 116]) (by decide))
 ·exact LxP.kw (m := [98, 111, 111, 108]) (by decide)
 ·exact LxP.kwSp (m := [102, 117, 116, 117, 114, 101]) (by decide) (LxP.kw (m := [98, 111, 111, 108]) (by decide))
theorem LxP.decl {d : Dc} (h : WfD d) : LxP (declB d) (declT d) := by
 have ht : LxP (typeB d.bool d.future ++ clockB d.clock d.off) (typeT d.bool d.future ++ clockT d) := by
  unfold clockT
  rcases h.clock with hc | hc
  ·rw [if_pos hc]
   unfold clockB
   rw [if_pos hc, List.append_nil, List.append_nil]
   exact LxP.type _ _
  ·have hne : d.clock ≠ [] := by obtain ⟨⟨c, r, e, _⟩, _⟩ := hc; rw [e]; simp
   rw [if_neg hne]
   exact LxP.clock d.off hc (LxP.type _ _)
 intro rest ts hs hr
 have e1 : declB d ++ rest = d.name ++ 58 :: 32 :: ((typeB d.bool d.future ++ clockB d.clock d.off) ++ rest) := by simp [declB]
 have e2 : declT d ++ ts = nmT d.name :: sgT [58] :: ((typeT d.bool d.future ++ clockT d) ++ ts) := by simp [declT]
 rw [e1, e2]
 exact Lexes.name h.name (Sp.cons _ (by decide)) (Lexes.sg (g := [58]) (.inl (by decide)) (Lexes.blank 32 (by decide) (ht rest ts hs hr)))
theorem LxP.decls {l : List Dc} (h : ∀ d ∈ l, WfD d) : LxP (declsB [44, 32] l) (PX.commas (l.map declT)) := by
 unfold declsB
 rw [← commas_join]
 have := LxP.commas (l.map fun d => (declB d, declT d)) (fun q hq => by
  obtain ⟨d, hd, rfl⟩ := List.mem_map.1 hq
  exact LxP.decl (h d hd))
 rw [List.map_map, List.map_map] at this
 exact this
theorem Lexes.semis : ∀ (l : List Dc), l ≠ [] → (∀ d ∈ l, WfD d) → ∀ rest ts, Lexes rest ts → Lexes (declsB [59, 32] l ++ 59 :: rest) (semis l ++ ts)
 | [], h, _, _, _, _ => absurd rfl h
 | [d], _, h, rest, ts, hr => by
  have e2 : PX.semis [d] ++ ts = declT d ++ sgT [59] :: ts := by simp [PX.semis]
  rw [e2]
  exact (LxP.decl (h d (by simp))).sp 59 (by decide) (Lexes.sg (g := [59]) (.inl (by decide)) hr)
 | d :: y :: r, _, h, rest, ts, hr => by
  have e1 : declsB [59, 32] (d :: y :: r) ++ 59 :: rest = declB d ++ 59 :: 32 :: (declsB [59, 32] (y :: r) ++ 59 :: rest) := by
   unfold declsB
   show joinB _ (declB d :: declB y :: r.map declB) ++ _ = _
   rw [joinB]
   ·simp
   ·simp
  have e2 : PX.semis (d :: y :: r) ++ ts = declT d ++ sgT [59] :: (PX.semis (y :: r) ++ ts) := by simp [PX.semis]
  rw [e1, e2]
  exact (LxP.decl (h d (by simp))).sp 59 (by decide) (Lexes.sg (g := [59]) (.inl (by decide)) (Lexes.blank 32 (by decide) (Lexes.semis (y :: r) (by simp) (fun z hz => h z (List.mem_cons_of_mem _ hz)) rest ts hr)))
theorem LxP.lefts {l : List Lf} (h : ∀ x ∈ l, NameOk x.name) : LxP (leftsB l) (leftsT l) := by
 have hc : LxP (joinB [44, 32] (l.map (·.name))) (leftT l) := by
  rw [← commas_join]
  have := LxP.commas (l.map fun x => (x.name, [nmT x.name])) (fun q hq => by
   obtain ⟨d, hd, rfl⟩ := List.mem_map.1 hq
   exact LxP.name (h d hd))
  rw [List.map_map, List.map_map] at this
  exact this
 unfold leftsB leftsT
 split
 ·exact hc.par
 ·exact hc
theorem Lexes.eqn {q : Eq} (h : WfQ q) {rest : B} {ts : List T} (hr : Lexes rest ts) : Lexes (eqB q ++ rest) (eqT q ++ ts) := by
 have h1 : Lexes (textE q.e ++ 59 :: 10 :: rest) (toksE q.e ++ sgT [59] :: ts) := (lx_wf h.e).sp 59 (by decide) (Lexes.sg (g := [59]) (.inl (by decide)) (Lexes.blank 10 (by decide) hr))
 have h2 : Lexes (leftsB q.left ++ 32 :: ([61] ++ 32 :: ((if q.async then [97, 115, 121, 110, 99, 32] else []) ++ (textE q.e ++ 59 :: 10 :: rest)))) (leftsT q.left ++ sgT [61] :: ((if q.async then [kwT [97, 115, 121, 110, 99]] else []) ++ (toksE q.e ++ sgT [59] :: ts))) := by
  refine (LxP.lefts h.names).sp 32 (by decide) (Lexes.blank 32 (by decide) (Lexes.sg (g := [61]) (.inl (by decide)) (Lexes.blank 32 (by decide) ?_)))
  cases q.async with
  | false => exact h1
  | true => exact Lexes.kw (m := [97, 115, 121, 110, 99]) (by decide) (Sp.cons _ (by decide)) (Lexes.blank 32 (by decide) h1)
 have e1 : eqB q ++ rest = 32 :: 32 :: (leftsB q.left ++ 32 :: ([61] ++ 32 :: ((if q.async then [97, 115, 121, 110, 99, 32] else []) ++ (textE q.e ++ 59 :: 10 :: rest)))) := by
  unfold eqB
  cases q.async <;> simp
 have e2 : eqT q ++ ts = leftsT q.left ++ sgT [61] :: ((if q.async then [kwT [97, 115, 121, 110, 99]] else []) ++ (toksE q.e ++ sgT [59] :: ts)) := by simp [eqT]
 rw [e1, e2]
 exact Lexes.blank 32 (by decide) (Lexes.blank 32 (by decide) h2)
theorem Lexes.eqns : ∀ (l : List Eq), (∀ q ∈ l, WfQ q) → ∀ rest ts, Lexes rest ts → Lexes (eqsB l ++ rest) (eqsT l ++ ts)
 | [], _, rest, ts, hr => hr
 | q :: r, h, rest, ts, hr => by
  rw [eqsB, eqsT, List.append_assoc, List.append_assoc]
  exact Lexes.eqn (h q (by simp)) (Lexes.eqns r (fun z hz => h z (List.mem_cons_of_mem _ hz)) rest ts hr)
theorem Lexes.node {n : Nd} (h : WfN n) {rest : B} {ts : List T} (hr : Lexes rest ts) : Lexes (nodeB n ++ rest) (nodeT n ++ ts) := by
 have h1 : Lexes ([108, 101, 116] ++ 10 :: (eqsB n.eqs ++ ([116, 101, 108] ++ 10 :: rest))) (kwT [108, 101, 116] :: (eqsT n.eqs ++ kwT [116, 101, 108] :: ts)) :=
  Lexes.kw (m := [108, 101, 116]) (by decide) (Sp.cons _ (by decide)) (Lexes.blank 10 (by decide) (Lexes.eqns n.eqs h.eqs _ _ (Lexes.kw (m := [116, 101, 108]) (by decide) (Sp.cons _ (by decide)) (Lexes.blank 10 (by decide) hr))))
 have h2 : Lexes ((if n.vars.isEmpty then [] else [118, 97, 114, 32] ++ declsB [59, 32] n.vars ++ [59, 10]) ++ ([108, 101, 116] ++ 10 :: (eqsB n.eqs ++ ([116, 101, 108] ++ 10 :: rest)))) (varsT n.vars ++ kwT [108, 101, 116] :: (eqsT n.eqs ++ kwT [116, 101, 108] :: ts)) := by
  unfold varsT
  cases hv : n.vars with
  | nil => exact h1
  | cons d r =>
   have e1 : (if (d :: r).isEmpty then [] else [118, 97, 114, 32] ++ declsB [59, 32] (d :: r) ++ [59, 10]) ++ ([108, 101, 116] ++ 10 :: (eqsB n.eqs ++ ([116, 101, 108] ++ 10 :: rest))) = [118, 97, 114] ++ 32 :: (declsB [59, 32] (d :: r) ++ 59 :: 10 :: ([108, 101, 116] ++ 10 :: (eqsB n.eqs ++ ([116, 101, 108] ++ 10 :: rest)))) := by simp
   rw [e1]
   show Lexes _ (kwT [118, 97, 114] :: (PX.semis (d :: r) ++ _))
   exact Lexes.kw (m := [118, 97, 114]) (by decide) (Sp.cons _ (by decide)) (Lexes.blank 32 (by decide) (Lexes.semis (d :: r) (by simp) (hv ▸ h.vars) _ _ (Lexes.blank 10 (by decide) h1)))
 have h3 : Lexes (parB (declsB [44, 32] n.outs) ++ 10 :: ((if n.vars.isEmpty then [] else [118, 97, 114, 32] ++ declsB [59, 32] n.vars ++ [59, 10]) ++ ([108, 101, 116] ++ 10 :: (eqsB n.eqs ++ ([116, 101, 108] ++ 10 :: rest))))) (declsT n.outs ++ (varsT n.vars ++ kwT [108, 101, 116] :: (eqsT n.eqs ++ kwT [116, 101, 108] :: ts))) :=
  (LxP.decls fun d hd => (h.outs d hd).1).par.sp 10 (by decide) (Lexes.blank 10 (by decide) h2)
 have h4 := (LxP.decls fun d hd => (h.ins d hd).1).par.sp 32 (by decide) (Lexes.blank 32 (by decide) (Lexes.kw (m := [114, 101, 116, 117, 114, 110, 115]) (by decide) (Sp.cons _ (by decide)) (Lexes.blank 32 (by decide) h3)))
 have e1 : nodeB n ++ rest = [110, 111, 100, 101] ++ 32 :: (n.name ++ (parB (declsB [44, 32] n.ins) ++ 32 :: ([114, 101, 116, 117, 114, 110, 115] ++ 32 :: (parB (declsB [44, 32] n.outs) ++ 10 :: ((if n.vars.isEmpty then [] else [118, 97, 114, 32] ++ declsB [59, 32] n.vars ++ [59, 10]) ++ ([108, 101, 116] ++ 10 :: (eqsB n.eqs ++ ([116, 101, 108] ++ 10 :: rest)))))))) := by
  simp [nodeB, parB]
 have e2 : nodeT n ++ ts = kwT [110, 111, 100, 101] :: nmT n.name :: (declsT n.ins ++ kwT [114, 101, 116, 117, 114, 110, 115] :: (declsT n.outs ++ (varsT n.vars ++ kwT [108, 101, 116] :: (eqsT n.eqs ++ kwT [116, 101, 108] :: ts)))) := by simp [nodeT]
 rw [e1, e2]
 exact Lexes.kw (m := [110, 111, 100, 101]) (by decide) (Sp.cons _ (by decide)) (Lexes.blank 32 (by decide) (Lexes.name h.name (Sp.cons _ (by decide)) h4))
theorem Lexes.nodes : ∀ (l : List Nd), (∀ n ∈ l, WfN n) → Lexes (nodesB l) (nodesT l ++ [endT])
 | [], _ => Lexes.nil
 | n :: r, h => by
  rw [nodesB, nodesT, List.append_assoc]
  exact Lexes.node (h n (by simp)) (Lexes.nodes r (fun z hz => h z (List.mem_cons_of_mem _ hz)))
end PX
end Go.Proofs.YtjafllnbgfcchaaGreatDoor
end
section
/- What is read may be: its canonical text is read as it, but for the places. -/
namespace Go.Proofs.YtjafllnbgfcchaaGreatDoor
set_option linter.unusedVariables false
set_option linter.unusedSimpArgs false
namespace PX
theorem one_name (l t : B) (n : Nat) (h : LX.one l = .ok (1, t, n)) : NameOk t := by
 unfold LX.one at h
 split at h
 ·cases h
 ·rename_i c r
  split at h
  ·rename_i hc
   dsimp only at h
   split at h
   ·cases h
   ·rename_i hw
    split at h
    ·cases h
    ·rename_i hl
     cases h
     refine ⟨⟨c, r.takeWhile LX.word, ?_, hc⟩, ?_, by simpa using hw, by omega⟩
     ·rw [List.takeWhile_cons, if_pos (by unfold LX.word; rw [hc]; rfl)]
     ·rw [List.all_takeWhile]
  ·split at h
   ·dsimp only at h
    split at h
    ·cases h
    ·split at h <;> cases h
   ·split at h <;> cases h
theorem go_names (total : Nat) : ∀ (k : Nat) (l : B) (r : List LX.Tok), LX.go total k l = .ok r → ∀ t ∈ r, t.kind = 1 → NameOk t.text
 | 0, l, r, h, t, ht => by
  rw [LX.go] at h
  cases h
  simp at ht
 | k + 1, l, r, h, t, ht => by
  rw [LX.go] at h
  split at h
  ·cases h
   simp only [List.mem_singleton] at ht
   subst ht
   intro h
   cases h
  ·cases ho : LX.one (LX.skip false l) with
   | error e => rw [ho] at h; cases h
   | ok q =>
    obtain ⟨kind, tx, n⟩ := q
    rw [ho] at h
    dsimp only at h
    cases hg : LX.go total k ((LX.skip false l).drop tx.length) with
    | error e => rw [hg] at h; cases h
    | ok r' =>
     rw [hg] at h
     cases h
     rcases List.mem_cons.1 ht with rfl | ht
     ·intro hk
      have hk : kind = 1 := hk
      subst hk
      exact one_name _ _ _ ho
     ·exact go_names total k _ r' hg t ht
theorem all_names {s : B} {r : List LX.Tok} (h : LX.all s = .ok r) : ∀ t ∈ r.map tkp, t.kind = 1 → NameOk t.text := by
 unfold LX.all at h
 split at h
 ·cases h
 ·intro t ht
  obtain ⟨u, hu, rfl⟩ := List.mem_map.1 ht
  exact go_names _ _ _ r h u hu
section
variable {toks : List T}
theorem tokAt_mem {q : Nat} (h : Here toks q) : tokAt toks q ∈ toks := by
 unfold tokAt peek
 obtain ⟨h1, h2⟩ := h
 have hl : toks.length - q < toks.length := by omega
 rw [List.drop_eq_getElem_cons hl]
 exact List.getElem_mem hl
theorem nameAt_ok (hN : ∀ t ∈ toks, t.kind = 1 → NameOk t.text) {q : Nat} {m : B} (h : NameAt toks q m) : NameOk m := by
 have := hN _ (tokAt_mem h.1) h.2.1
 rw [h.2.2] at this
 exact this
theorem wf_gram (hN : ∀ t ∈ toks, t.kind = 1 → NameOk t.text) : Gram toks Wf where
 num := fun q n _ h0 h1 => .num q n h0 h1
 truth := fun q n _ h => .truth q n h
 var := fun q m h => .var q m (nameAt_ok hN h)
 neg := fun q a _ h => .neg q a h
 not_ := fun q a _ h => .not_ q a h
 sign := fun q l a b h hl ha hb => .sign q _ a b (by
  have hm := h.2.2
  rcases hl with rfl | rfl | rfl | rfl | rfl <;> exact (by decide : ∀ x ∈ _, x ∈ allSigns) _ hm) ha hb
 if_ := fun q a b c _ ha hb hc => .if_ q a b c ha hb hc
 arrow := fun q a b _ ha hb => .arrow q a b ha hb
 fby := fun q a b _ hc ha hb => .fby q a b hc ha hb
 pre := fun q a _ h => .pre q a h
 when_ := fun q m q2 o a _ hm h => .when_ q m o a (nameAt_ok hN hm) h
 merge := fun q m q2 a b _ hm ha hb => .merge q m a b (nameAt_ok hN hm) ha hb
 call := fun q m l hm h => .call q m l (nameAt_ok hN hm) h
 await := fun q m q2 l _ hm h => .await q m l (nameAt_ok hN hm) (fun x hx => (h x hx).1) (fun x hx => (h x hx).2)
theorem dc_wf (hN : ∀ t ∈ toks, t.kind = 1 → NameOk t.text) {d : Dc} (h : DcIs toks d) : WfD d := by
 refine ⟨nameAt_ok hN h.name, ?_, ?_⟩
 ·rcases h.clock with h | ⟨q, h⟩
  ·exact .inl h.1
  ·exact .inr (nameAt_ok hN h)
 ·intro hc
  rcases h.clock with h | ⟨q, h⟩
  ·exact h.2
  ·obtain ⟨⟨c, r, e, _⟩, _⟩ := nameAt_ok hN h
   rw [hc] at e
   cases e
theorem nd_wf (hN : ∀ t ∈ toks, t.kind = 1 → NameOk t.text) {n : Nd} (h : NdIs toks Wf n) : WfN n :=
 ⟨nameAt_ok hN h.name, fun d hd => ⟨dc_wf hN (h.ins d hd).1, (h.ins d hd).2⟩, fun d hd => ⟨dc_wf hN (h.outs d hd).1, (h.outs d hd).2⟩, fun d hd => dc_wf hN (h.vars d hd), fun q hq => by
  have h9 := h.eqs q hq
  exact ⟨h9.some, fun x hx => nameAt_ok hN (h9.left x hx), h9.e, h9.call, h9.deep⟩⟩
end
theorem read_nodes {s : B} {toks : List LX.Tok} {K : Nat} {l : List Nd} {rest : List T} (h : LX.all s = .ok toks) (hp : program K (toks.map tkp) = .ok l rest) : (∀ n ∈ l, WfN n) ∧ l ≠ [] := by
 have hk := all_ok h
 have hN := all_names h
 obtain ⟨h1, h2⟩ := program_is (wf_gram hN) (fun t ht => by
  obtain ⟨u, hu, rfl⟩ := List.mem_map.1 ht
  exact hk.1.nums u hu) hk.1.good hp
 exact ⟨fun n hn => nd_wf hN (h1 n hn), h2⟩
mutual
theorem textE_unp : ∀ e : Ex, textE (unp e) = textE e
 | .mk k q n m o l => by rw [unp, textE, textE, kbsE_unp l]
theorem kbsE_unp : ∀ l : List Ex, kbsE (unps l) = kbsE l
 | [] => rfl
 | e :: r => by
  rw [unps, kbsE, kbsE, textE_unp e, kbsE_unp r]
  cases e
  rfl
end
theorem declsB_unp (sep : B) (l : List Dc) : declsB sep (l.map unpD) = declsB sep l := by
 unfold declsB
 rw [List.map_map]
 rfl
theorem leftsB_unp (l : List Lf) : leftsB (l.map unpL) = leftsB l := by
 unfold leftsB
 rw [List.map_map, List.length_map]
 rfl
theorem eqsB_unp : ∀ l : List Eq, eqsB (l.map unpQ) = eqsB l
 | [] => rfl
 | q :: r => by
  rw [List.map_cons, eqsB, eqsB, eqsB_unp r]
  unfold eqB unpQ
  rw [leftsB_unp, textE_unp]
theorem nodeB_unp (n : Nd) : nodeB (unpN n) = nodeB n := by
 unfold nodeB unpN
 dsimp only
 rw [declsB_unp, declsB_unp, declsB_unp, eqsB_unp]
 cases n.vars <;> rfl
theorem nodesB_unp : ∀ l : List Nd, nodesB (l.map unpN) = nodesB l
 | [] => rfl
 | n :: r => by rw [List.map_cons, nodesB, nodesB, nodesB_unp r, nodeB_unp]
theorem nodesB_sim {l l' : List Nd} (h : l'.map unpN = l.map unpN) : nodesB l' = nodesB l := by rw [← nodesB_unp l', ← nodesB_unp l, h]
end PX
end Go.Proofs.YtjafllnbgfcchaaGreatDoor
end
section
/- More rounds give the same nodes; a text whose tokens are canonical is read as what they say. -/
namespace Go.Proofs.YtjafllnbgfcchaaGreatDoor
set_option linter.unusedVariables false
set_option linter.unusedSimpArgs false
namespace PX
theorem Le.declsL : ∀ n s, Le (declsL n s) (declsL (n + 1) s)
 | 0, s => Le.out _
 | n + 1, s => by
  rw [declsL.eq_2 s n, declsL.eq_2 s (n + 1)]
  exact Le.bind' _ fun d s1 => Le.ite (Le.bind (Le.declsL n _) fun l s2 => Le.refl _) (Le.refl _)
theorem Le.decls (n : Nat) (s : List T) : Le (decls n s) (decls (n + 1) s) := Le.bind' _ fun _ s1 => Le.ite (Le.refl _) (Le.declsL n s1)
theorem Le.varsL : ∀ n s, Le (varsL n s) (varsL (n + 1) s)
 | 0, s => Le.out _
 | n + 1, s => by
  rw [varsL.eq_2 s n, varsL.eq_2 s (n + 1)]
  exact Le.bind' _ fun d s1 => Le.bind' _ fun c s2 => Le.bind' _ fun _ s3 => Le.ite (Le.refl _) (Le.bind (Le.varsL n _) fun l s4 => Le.refl _)
theorem Le.vars (n : Nat) (s : List T) : Le (vars n s) (vars (n + 1) s) := Le.ite (Le.varsL n _) (Le.refl _)
theorem Le.leftsL : ∀ n s, Le (leftsL n s) (leftsL (n + 1) s)
 | 0, s => Le.out _
 | n + 1, s => by
  rw [leftsL.eq_2 s n, leftsL.eq_2 s (n + 1)]
  exact Le.ite (Le.bind' _ fun d s1 => Le.bind (Le.leftsL n _) fun l s2 => Le.refl _) (Le.refl _)
theorem Le.lefts (n : Nat) (s : List T) : Le (lefts n s) (lefts (n + 1) s) :=
 Le.ite (Le.bind' _ fun d s1 => Le.bind' _ fun _ s2 => Le.bind' _ fun m s3 => Le.bind (Le.leftsL n _) fun l s4 => Le.refl _) (Le.refl _)
theorem Le.right (K : Nat) (s : List T) : Le (right K s) (right (K + 1) s) :=
 Le.ite (Le.bind' _ fun m s1 => Le.bind ((monos K).call _ _ _) fun e s2 => Le.refl _) (Le.bind ((monos K).expr _) fun e s2 => Le.refl _)
theorem Le.eqn (K : Nat) (s : List T) : Le (eq K s) (eq (K + 1) s) :=
 Le.bind (Le.lefts K s) fun l s1 => Le.bind' _ fun _ s2 => Le.bind (Le.right K s2) fun q s3 => Le.refl _
theorem Le.eqs (K : Nat) : ∀ n s, Le (eqs K n s) (eqs (K + 1) (n + 1) s)
 | 0, s => Le.out _
 | n + 1, s => by
  rw [eqs.eq_2 K s n, eqs.eq_2 (K + 1) s (n + 1)]
  exact Le.ite (Le.refl _) (Le.bind (Le.eqn K s) fun q s1 => Le.bind (Le.eqs K n s1) fun l s2 => Le.refl _)
theorem Le.node (K : Nat) (s : List T) : Le (node K s) (node (K + 1) s) :=
 Le.bind' _ fun _ s1 => Le.bind' _ fun m s2 => Le.bind (Le.decls K s2) fun i s3 => Le.bind' _ fun _ s4 => Le.bind (Le.decls K s4) fun o s5 => Le.bind (Le.vars K s5) fun v s6 => Le.bind' _ fun _ s7 =>
  Le.bind (Le.eqs K K s7) fun q s8 => Le.refl _
theorem Le.nodesL (K : Nat) : ∀ n s, Le (nodesL K n s) (nodesL (K + 1) (n + 1) s)
 | 0, s => Le.out _
 | n + 1, s => by
  rw [nodesL.eq_2 K s n, nodesL.eq_2 (K + 1) s (n + 1)]
  exact Le.ite (Le.refl _) (Le.bind (Le.node K s) fun q s1 => Le.bind (Le.nodesL K n s1) fun l s2 => Le.refl _)
theorem Le.program (K : Nat) (s : List T) : Le (program K s) (program (K + 1) s) :=
 Le.bind (Le.bind (Le.node K s) fun x s1 => Le.bind (Le.nodesL K K s1) fun l s2 => Le.refl _) fun l s1 => Le.refl _
theorem Le.exprOf (K : Nat) (s : List T) : Le (exprOf K s) (exprOf (K + 1) s) := Le.bind ((monos K).expr s) fun e s1 => Le.refl _
theorem goes_out {α : Type} {r : Res α} {n : Nat} (h : Goes r n) : r.isOut = false := by
 cases r <;> first | rfl | exact h.elim
theorem read_canon {s : B} {l : List Nd} (hs : s.length ≤ 4000) (hx : Lexes s (nodesT l ++ [endT])) (hl : l ≠ []) (h : ∀ n ∈ l, WfN n) :
  ∃ toks l', LX.all s = .ok toks ∧ program (12 * toks.length + 10) (toks.map tkp) = .ok l' [endT] ∧ l'.map unpN = l.map unpN := by
 obtain ⟨toks, h1, h2⟩ := hx.all hs
 obtain ⟨l', h3, h4⟩ := program_rd l hl h
 rw [← h2] at h4
 refine ⟨toks, l', h1, h4.at_ (fun k => Le.program k _) (goes_out (Goes.program (all_ok h1).1.good (by rw [List.length_map]; exact Nat.le_refl _))), h3⟩
end PX
end Go.Proofs.YtjafllnbgfcchaaGreatDoor
end
