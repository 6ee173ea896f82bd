/- The feed's numbers, walked; what the feed takes of the library. -/
import Derived.Test.YtnlkjimpefebbaaDoorShelfF
import Derived.Test.YtnlkjimpefebbaaDoorWMore
import Derived.Shelf.Strings.SlTrimAscii
import Derived.Lib.ParseIntB
import Derived.Lib.SplitLaws
import Derived.Lib.AppendIntMem
import Derived.Lib.LaidTab
import Derived.WalkKit
import Derived.BigRegion
import Derived.BigQuiet
import Derived.WalkLawsBesides
import Derived.Lib.Hide
import Derived.Below
namespace Go.Proofs.YtnlkjimpefebbaaDoor.Fl
set_option linter.unusedVariables false
open Go Go.RowKit Go.Proofs.YtnlkjimpefebbaaDoorW.PrintWords Go.Proofs.YtnlkjimpefebbaaDoorW.PrintLast Go.Proofs.YtnlkjimpefebbaaDoorW.PrintMore
/-- A variable of the library's that holds an error. -/
def ErrAt (w : World) (x : String) : Prop := ∃ tp p, w.var? Tryd.prog x = some #[.iface tp p]
/-- What the library's variables hold. -/
structure Tabs (w : World) : Prop where
  pow10 : Lib.TabIs Tryd.prog w "internal/strconv.uint64pow10" .u64 Lib.pow10Tab
  len : ∃ m, w.cell? ⟨3, 0, none⟩ = some (.int .i64 m)
  range : ErrAt w "strconv.ErrRange"
theorem var_below {w0 w : World} {x : String} {r : Array Value} (h : w0.var? Tryd.prog x = some r) (hb : Below w0.heap.size w0 w) : w.var? Tryd.prog x = some r := by
  unfold World.var? at h ⊢
  rw [← h]
  cases hg : Tryd.prog.globalNamed x with
  | none => rfl
  | some g =>
    simp only [Option.bind_some]
    have hlt : g < w0.heap.size := by
      rw [hg] at h
      simp only [Option.bind_some] at h
      rcases Nat.lt_or_ge g w0.heap.size with h1 | h1
      · exact h1
      · rw [Array.getElem?_eq_none h1] at h
        cases h
    rw [hb.block g hlt]
theorem Tabs.below {w0 w : World} (h : Tabs w0) (hb : Below w0.heap.size w0 w) : Tabs w := by
  obtain ⟨h1, ⟨m, h2⟩, ⟨tp, p, h3⟩⟩ := h
  exact ⟨var_below h1 hb, ⟨m, (hb.cell (World.block_lt_of_cell? _ _ h2)).trans h2⟩, ⟨tp, p, var_below h3 hb⟩⟩
def isDig (c : UInt8) : Bool := 48 ≤ c && c ≤ 57
/-- What the feed's number says of a word: the number, the error's number. -/
def numF (l : List UInt8) : Int × Int :=
  let d := Lib.trimPrefix l [45]
  if d = [] ∨ d.all isDig = false ∨ (d.head? = some 48 ∧ l ≠ [48]) then (0, 1)
  else match Lib.parseIntB 64 l with
    | .ok v => (v, 0)
    | _ => (0, 3)
def tens : List UInt8 := [48, 49, 50, 51, 52, 53, 54, 55, 56, 57]
theorem tens_dig : ∀ n : Fin 256, tens.contains (UInt8.ofNat n.val) = isDig (UInt8.ofNat n.val) := by decide +kernel
theorem tens_dig' (c : UInt8) : tens.contains c = isDig c := by
  have h := tens_dig ⟨c.toNat, c.toNat_lt⟩
  simp only [UInt8.ofNat_toNat] at h
  exact h
theorem dropWhile_nil {p : UInt8 → Bool} : ∀ {l : List UInt8}, l.dropWhile p = [] ↔ l.all p = true := by
  intro l
  induction l with
  | nil => simp
  | cons a l ih =>
    rw [List.dropWhile_cons]
    by_cases h : p a = true
    · rw [if_pos h, ih]; simp [h]
    · rw [if_neg h]; simp [h]
theorem trim_nil (l : List UInt8) : Lib.trimS l tens = [] ↔ l.all isDig = true := by
  unfold Lib.trimS Lib.trimLeftS Lib.trimRightS
  have e : (fun x => tens.contains x) = isDig := funext tens_dig'
  rw [e, dropWhile_nil]
  constructor
  · intro h
    have h1 : (l.reverse.dropWhile isDig).all isDig = true := by
      rw [List.all_reverse] at h
      exact h
    have h2 : l.reverse.dropWhile isDig = [] := by
      cases hx : l.reverse.dropWhile isDig with
      | nil => rfl
      | cons a r =>
        exfalso
        have h3 : isDig a = false := by
          have : ∀ (q : List UInt8), q.dropWhile isDig = a :: r → isDig a = false := by
            intro q
            induction q with
            | nil => intro e; cases e
            | cons b q ih =>
              intro e
              rw [List.dropWhile_cons] at e
              split at e
              · exact ih e
              · obtain ⟨rfl, _⟩ := List.cons.inj e
                simpa using ‹¬ isDig b = true›
          exact this _ hx
        rw [hx, List.all_cons, h3] at h1
        simp at h1
    rw [dropWhile_nil, List.all_reverse] at h2
    exact h2
  · intro h
    have h2 : l.reverse.dropWhile isDig = [] := by rw [dropWhile_nil, List.all_reverse]; exact h
    rw [h2]
    rfl
theorem toList_data (s : ByteArray) : s.toList = s.data.toList := by
  obtain ⟨⟨l⟩⟩ := s
  exact ByteArray.toList_mk l
theorem pre_len (l p : List UInt8) : (Lib.trimPrefix l p).length ≤ l.length := by
  unfold Lib.trimPrefix
  split <;> simp
theorem below_bytes {w0 w : World} (h : Below w0.heap.size w0 w) (e : TypeId) (x : ByteArray) : Below w0.heap.size w0 (Lib.bytesWorld w e x) := bytes_below h h.size e x
theorem trim_call (s : ByteArray) (w : World) (hs : s.size ≤ 1000000) :
    Calls Tryd.prog 145 #[.string s, .string ⟨#[48, 49, 50, 51, 52, 53, 54, 55, 56, 57]⟩] w fun e w' => e = .returned (.string ⟨(Lib.trimS s.data.toList tens).toArray⟩) ∧ Below w.heap.size w w' :=
  Any.strings_Trim_laid Tryd.lays160 (by kernel_rfl) s ⟨#[48, 49, 50, 51, 52, 53, 54, 55, 56, 57]⟩ w (by omega) (by decide) (ascii_of_all (by decide))
theorem uintM_syn (M : Nat) : ∀ (l : List UInt8) (acc : Nat), l.all isDig = true → Lib.parseUintM M acc l ≠ .«syntax» := by
  intro l
  induction l with
  | nil => intro acc _ h; cases h
  | cons c r ih =>
    intro acc h
    rw [List.all_cons, Bool.and_eq_true] at h
    have hc : 48 ≤ c.toNat ∧ c.toNat ≤ 57 := by
      have := h.1
      simp only [isDig, Bool.and_eq_true, decide_eq_true_eq, UInt8.le_iff_toNat_le] at this
      exact this
    simp only [Lib.parseUintM]
    rw [if_pos hc]
    split
    · intro e; cases e
    · split
      · intro e; cases e
      · exact ih _ h.2
theorem parse_syn (l : List UInt8) (hne : Lib.trimPrefix l [45] ≠ []) (hall : (Lib.trimPrefix l [45]).all isDig = true) : Lib.parseIntB 64 l ≠ .«syntax» := by
  cases l with
  | nil => exact absurd rfl hne
  | cons c r =>
    have key : ∀ q : List UInt8, q ≠ [] → q.all isDig = true → Lib.parseUintB 64 q ≠ .«syntax» := by
      intro q h1 h2
      unfold Lib.parseUintB
      rw [if_neg h1]
      exact uintM_syn _ _ _ h2
    have hu : Lib.parseUintB 64 (if c.toNat = 43 ∨ c.toNat = 45 then r else c :: r) ≠ .«syntax» := by
      by_cases h45 : c = 45
      · subst h45
        have e : Lib.trimPrefix (45 :: r) [45] = r := by simp [Lib.trimPrefix, Lib.hasPrefix, List.isPrefixOf]
        rw [e] at hne hall
        rw [if_pos (.inr rfl)]
        exact key r hne hall
      · have e : Lib.trimPrefix (c :: r) [45] = c :: r := by
          have : ¬ (45 : UInt8) = c := fun h => h45 h.symm
          simp [Lib.trimPrefix, Lib.hasPrefix, List.isPrefixOf, this]
        rw [e] at hne hall
        have hd : isDig c = true := by rw [List.all_cons, Bool.and_eq_true] at hall; exact hall.1
        have h2 : 48 ≤ c.toNat := by
          simp only [isDig, Bool.and_eq_true, decide_eq_true_eq, UInt8.le_iff_toNat_le] at hd
          exact hd.1
        rw [if_neg (by omega)]
        exact key _ hne hall
    intro h
    simp only [Lib.parseIntB] at h
    split at h
    · rename_i h1; exact hu h1
    · cases h
    · split at h
      · cases h
      · split at h <;> cases h
set_option maxHeartbeats 4000000 in
set_option maxRecDepth 100000 in
theorem number_walk (s : ByteArray) (w : World) (hT : Tabs w) (hs : s.size ≤ 1000000) :
    Calls Tryd.prog 129 #[.string s] w fun e w' => e = .returned (.tuple #[.int .i64 (numF s.data.toList).1, .int .i64 (numF s.data.toList).2]) ∧ Below w.heap.size w w' := by
  have HT := Lib.hid hT
  clear hT
  obtain ⟨Q, hQ⟩ : ∃ Q, numF s.data.toList = Q := ⟨_, rfl⟩
  rw [hQ]
  have HQ := Lib.hid hQ
  clear hQ
  go_enter Tryd.func129, Tryd.ntmps129
  go_wp2_with (fail)
  refine (Tryd.strings_TrimPrefix _ _ _).mono ?_
  rintro e w1 ⟨rfl, rfl⟩
  obtain ⟨D, hD⟩ : ∃ D : ByteArray, (⟨(Lib.trimPrefix s.data.toList [45]).toArray⟩ : ByteArray) = D := ⟨_, rfl⟩
  rw [show (⟨#[45]⟩ : ByteArray).data.toList = [45] from rfl, hD]
  have HD := Lib.hid (show D.data.toList = Lib.trimPrefix s.data.toList [45] by rw [← hD])
  clear hD
  by_cases he : D.data.toList = []
  · have he' : D.toList = [] := by rw [toList_data]; exact he
    have hq : Q = (0, 1) := by
      rw [← HQ.out]
      unfold numF
      rw [← HD.out]
      simp [he]
    subst hq
    clear he
    go_wp2_with (fail)
    go_ret2
    exact ⟨rfl, Below.refl _ _⟩
  · have he' : ¬ D.toList = [] := by rw [toList_data]; exact he
    have hpos : 0 < D.size := by
      rcases Nat.eq_zero_or_pos D.size with h | h
      · exfalso
        apply he
        apply List.eq_nil_of_length_eq_zero
        simpa using h
      · exact h
    have hDs : D.size ≤ 1000000 := by
      have h1 := pre_len s.data.toList [45]
      rw [← HD.out] at h1
      simp at h1
      omega
    have hpos' : (0 : Int) < (D.size : Int) := by omega
    go_wp2_with (fail)
    refine (trim_call _ _ hDs).mono ?_
    rintro e w2 ⟨rfl, hb2⟩
    have HB := Lib.hid hb2
    have HT2 := Lib.hid (HT.out.below hb2)
    clear hb2
    obtain ⟨U, hU⟩ : ∃ U : ByteArray, (⟨(Lib.trimS D.data.toList tens).toArray⟩ : ByteArray) = U := ⟨_, rfl⟩
    rw [hU]
    have hUe : U.toList = [] ↔ D.data.toList.all isDig = true := by
      rw [toList_data, ← hU, ← trim_nil]
    clear hU
    have HU := Lib.hid hUe
    have HE := Lib.hid he
    clear hUe he
    by_cases hall : U.toList = []
    · obtain ⟨c, hc⟩ : ∃ c, D[0] = c := ⟨_, rfl⟩
      have hh : D.data.toList.head? = some c := by
        rw [List.head?_eq_getElem?, List.getElem?_eq_getElem (by simpa using hpos), ← hc]
        rfl
      have HH := Lib.hid hh
      clear hh
      have he2 : D.toList.isEmpty = false := by
        cases hx : D.toList with
        | nil => exact absurd hx he'
        | cons _ _ => rfl
      have HS := Lib.hid (parse_syn s.data.toList (by rw [← HD.out]; exact HE.out) (by rw [← HD.out]; exact HU.out.1 hall))
      by_cases hno : c = 48 ∧ ¬ s.toList = [48]
      · have hq : Q = (0, 1) := by
          rw [← HQ.out]
          unfold numF
          rw [← HD.out]
          rw [if_pos (.inr (.inr ⟨by rw [HH.out, hno.1], fun e => hno.2 (by rw [toList_data]; exact e)⟩))]
        have hz : (c.toNat : Int) = 48 := by rw [hno.1]; rfl
        have hs48 : (!(s.toList == [48])) = true := by simpa using hno.2
        subst hq
        clear hno
        go_wp2_with (fail)
        go_ret2
        exact ⟨rfl, HB.out⟩
      · have hn : numF s.data.toList = match Lib.parseIntB 64 s.data.toList with | .ok v => (v, 0) | _ => (0, 3) := by
          unfold numF
          rw [← HD.out]
          rw [if_neg]
          rintro (h | h | ⟨h1, h2⟩)
          · exact HE.out h
          · rw [HU.out.1 hall] at h
            cases h
          · apply hno
            rw [HH.out] at h1
            exact ⟨Option.some.inj h1, fun e => h2 (by rw [← toList_data]; exact e)⟩
        have HN := Lib.hid hn
        clear hn
        by_cases h48 : c = 48
        · have hz : (c.toNat : Int) = 48 := by rw [h48]; rfl
          have hs48 : (!(s.toList == [48])) = false := by simpa using (Classical.byContradiction fun h => hno ⟨h48, h⟩ : s.toList = [48])
          clear hno
          go_wp2_with (fail)
          cases hx : Lib.parseIntB 64 s.data.toList with
          | ok v =>
            refine (Tryd.strconv_ParseInt_10_at64_ok s (by omega) v hx _).mono ?_
            rintro e w3 ⟨rfl, hw3⟩
            have hb3 : Below w1.heap.size w1 w3 := by
              rcases hw3 with rfl | ⟨tt, rfl⟩
              · exact HB.out
              · exact below_bytes HB.out _ _
            have HB3 := Lib.hid hb3
            clear hw3 hb3
            have hq : Q = (v, 0) := by rw [← HQ.out, HN.out, hx]
            subst hq
            clear hx
            go_wp2_with (fail)
            go_ret2
            exact ⟨rfl, HB3.out⟩
          | range =>
            obtain ⟨tp, p, hv⟩ := HT2.out.range
            refine (Tryd.strconv_ParseInt_10_at64_range_var s (by omega) hx tp p _ hv).mono ?_
            rintro e w3 ⟨N, rfl, _, _, hb3⟩
            have HB3 := Lib.hid (below_step HB.out hb3)
            clear hb3 hv
            have hq : Q = (0, 3) := by rw [← HQ.out, HN.out, hx]
            subst hq
            clear hx
            go_wp2_with (fail)
            go_ret2
            exact ⟨rfl, HB3.out⟩
          | «syntax» => exact (HS.out hx).elim
        · have hz : ((c.toNat : Int) == 48) = false := by
            rw [beq_eq_false_iff_ne]
            intro e
            apply h48
            rw [← UInt8.toNat_inj]
            have : UInt8.toNat 48 = 48 := rfl
            omega
          clear hno
          go_wp2_with (fail)
          cases hx : Lib.parseIntB 64 s.data.toList with
          | ok v =>
            refine (Tryd.strconv_ParseInt_10_at64_ok s (by omega) v hx _).mono ?_
            rintro e w3 ⟨rfl, hw3⟩
            have hb3 : Below w1.heap.size w1 w3 := by
              rcases hw3 with rfl | ⟨tt, rfl⟩
              · exact HB.out
              · exact below_bytes HB.out _ _
            have HB3 := Lib.hid hb3
            clear hw3 hb3
            have hq : Q = (v, 0) := by rw [← HQ.out, HN.out, hx]
            subst hq
            clear hx
            go_wp2_with (fail)
            go_ret2
            exact ⟨rfl, HB3.out⟩
          | range =>
            obtain ⟨tp, p, hv⟩ := HT2.out.range
            refine (Tryd.strconv_ParseInt_10_at64_range_var s (by omega) hx tp p _ hv).mono ?_
            rintro e w3 ⟨N, rfl, _, _, hb3⟩
            have HB3 := Lib.hid (below_step HB.out hb3)
            clear hb3 hv
            have hq : Q = (0, 3) := by rw [← HQ.out, HN.out, hx]
            subst hq
            clear hx
            go_wp2_with (fail)
            go_ret2
            exact ⟨rfl, HB3.out⟩
          | «syntax» => exact (HS.out hx).elim
    · have hq : Q = (0, 1) := by
        rw [← HQ.out]
        unfold numF
        rw [← HD.out, if_pos (.inr (.inl (by
          have := fun h => hall (HU.out.2 h)
          simpa using this)))]
      subst hq
      go_wp2_with (fail)
      go_ret2
      exact ⟨rfl, HB.out⟩
theorem formatInt_walk (a0 : Int) (h0 : -9223372036854775808 ≤ a0) (h1 : a0 ≤ 9223372036854775807) (w : World) (hT : Tabs w) :
    Calls Tryd.prog 67 #[.int .i64 a0, .int .i64 10] w fun e w' => e = .returned (.string ⟨(Lib.itoa a0).toArray⟩) ∧ Below w.heap.size w w' := by
  refine (Tryd.strconv_FormatInt_10 a0 h0 h1 w hT.pow10).mono ?_
  rintro e w' ⟨rfl, k, os, rfl⟩
  exact ⟨rfl, Go.Lib.below_grow _ _ (Nat.le_refl _) _ _⟩
theorem own_lit (w : World) (e : Nat) (cs : Array Value) (hm : cs.size ≤ 2000000) : (w.alloc (.cells cs e)).ownsRow w.heap.size e 1 (.slice (some ⟨w.heap.size, 0, none⟩) cs.size cs.size) cs.size cs.toList :=
  ⟨by simp, .inr ⟨w.heap.size, cs.size, cs, rfl, Nat.le_refl _, heap_alloc_new w _, Nat.le_refl _, by unfold maxLen; omega, by simp, by rw [Nat.mul_one, List.take_of_length_le (by simp)]⟩⟩
theorem split_own (s sep : ByteArray) (w : World) (hs : s.size ≤ 1000000) (h1 : 1 ≤ sep.size) (hT : Tabs w) :
    Calls Tryd.prog 84 #[.string s, .string sep] w fun e w' => ∃ v, e = .returned v ∧ Kd.R Kd.string 9 w' w.heap.size (fun _ => True) v (Lib.splitB sep 0 (Lib.countB s sep) s) ∧ Below w.heap.size w w' := by
  obtain ⟨m, hm⟩ := hT.len
  refine (Tryd.strings_Split s sep m w (by omega) hm h1).mono ?_
  rintro e w' ⟨rfl, rfl⟩
  have hl : (Lib.splitB sep 0 (Lib.countB s sep) s).length = Lib.countB s sep + 1 := Lib.splitB_all sep h1 0 _ s rfl
  have hc : Lib.countB s sep ≤ s.size := Lib.countB_le sep h1 s.size s (Nat.le_refl _)
  refine ⟨_, rfl, ?_, below_alloc (Below.refl _ _) _⟩
  refine Kd.R_of_own ?_ (fun _ _ => trivial)
  have h2 := own_lit w 9 ((Lib.splitB sep 0 (Lib.countB s sep) s).map Value.string).toArray (by simp; omega)
  simp only [List.size_toArray, List.length_map] at h2
  rw [hl] at h2 ⊢
  exact h2
end Go.Proofs.YtnlkjimpefebbaaDoor.Fl
