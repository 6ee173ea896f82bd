/- Joined of: TxD, TxR. -/
import Derived.Test.YtjafllnbgfcchaaGreatDoorQATxT
import Derived.Laws.Rows
import Derived.Shelf.Strings.BuilderK
section
/- The texts of declarations, of an equation: walked. -/
namespace Go.Proofs.YtjafllnbgfcchaaGreatDoor.Tx
set_option linter.unusedVariables false
set_option linter.unusedSimpArgs false
open Go Go.RowKit Go.Proofs.YtjafllnbgfcchaaGreatDoorW.PrintWords Go.Proofs.YtjafllnbgfcchaaGreatDoorW.PrintLast Go.Proofs.YtjafllnbgfcchaaGreatDoorW.PrintMore Go.Proofs.YtjafllnbgfcchaaGreatDoor.XK Go.Proofs.YtjafllnbgfcchaaGreatDoor.Px Go.Proofs.YtjafllnbgfcchaaGreatDoor.Ow
attribute [local go_sem ↓] Go.wp_at_zero Go.wp_at_succ
abbrev D := S147
abbrev Q := S56
abbrev N := S50
abbrev L := S166
abbrev dcO (d : D) : Obj := .cells #[.string d.f0, .int .i64 d.f1, .bool d.f2.f0, .bool d.f2.f1, .string d.f3, .bool d.f4] 147 (0, 0)
abbrev eqO (q : Q) (A0 : Option Addr) (c0 : Nat) (A7 : Option Addr) (c7 : Nat) : Obj := .cells #[.slice A0 q.f0.length c0, .bool q.f1, .int .i64 q.f2.f0, .int .i64 q.f2.f1, .int .i64 q.f2.f2, .string q.f2.f3, .bool q.f2.f4, .slice A7 q.f2.f5.length c7] 56 (0, 0)
abbrev lfO (x : L) : Obj := .cells #[.string x.f0, .int .i64 x.f1] 166 (0, 0)
theorem dec_at {w0 : World} {A : Option Addr} {l : List D} (h : Kd.C k147 w0 A l.length l) (i : Nat) (d : D) (hk : l[i]? = some d) : ∃ ad, A = some ad ∧ w0.cell? (ad.add (i * 6)) = some (.string d.f0) ∧
  w0.cell? ⟨(ad.add (i * 6)).block, (ad.add (i * 6)).off + 1, none⟩ = some (.int .i64 d.f1) ∧ w0.cell? ⟨(ad.add (i * 6)).block, (ad.add (i * 6)).off + 2, none⟩ = some (.bool d.f2.f0) ∧
  w0.cell? ⟨(ad.add (i * 6)).block, (ad.add (i * 6)).off + 3, none⟩ = some (.bool d.f2.f1) ∧ w0.cell? ⟨(ad.add (i * 6)).block, (ad.add (i * 6)).off + 4, none⟩ = some (.string d.f3) ∧
  w0.cell? ⟨(ad.add (i * 6)).block, (ad.add (i * 6)).off + 5, none⟩ = some (.bool d.f4) := by
 have hlt := (List.getElem?_eq_some_iff.1 hk).1
 obtain ⟨ad, e1, hx0, hx1, hx2, hx3, hx4, hx5⟩ := at_T147 h (i : Int) (by omega) (by omega)
 have hr : rd_T147 l (i : Int) = d := by
  unfold rd_T147
  simp [hk]
 rw [hr] at hx0 hx1 hx2 hx3 hx4 hx5
 simp only [Int.toNat_natCast] at hx0 hx1 hx2 hx3 hx4 hx5
 exact ⟨ad, e1, hx0, hx1, hx2, hx3, hx4, hx5⟩
def tyT (b f : Bool) : ByteArray := if f then (⟨#[102, 117, 116, 117, 114, 101, 32]⟩ : ByteArray) ++ (if b then ⟨#[98, 111, 111, 108]⟩ else ⟨#[105, 110, 116]⟩) else if b then ⟨#[98, 111, 111, 108]⟩ else ⟨#[105, 110, 116]⟩
set_option maxHeartbeats 4000000 in
theorem ty_walk (b f : Bool) (w : World) : Calls Tryz.prog 93 #[.agg #[.bool b, .bool f]] w fun e w' => e = .returned (.string (tyT b f)) ∧ Below w.heap.size w w' := by
 have HO := Lib.hid ((Ow.start w).new (q := .cells #[.bool b, .bool f] 83 (0, 0)))
 have q0 : (9223372036854775807 < 7 + 3) = False := by decide
 have q1 : (9223372036854775807 < 7 + 4) = False := by decide
 cases b <;> cases f
 all_goals
  go_enter Tryz.func93, Tryz.ntmps93
  go_wp2_with (fail)
  go_ret
  exact ⟨rfl, HO.out.bel⟩
theorem tyT_size (b f : Bool) : (tyT b f).size ≤ 11 := by cases b <;> cases f <;> decide
def dcT (d : D) : ByteArray := d.f0 ++ (⟨#[58, 32]⟩ : ByteArray) ++ tyT d.f2.f0 d.f2.f1 ++ clkB d.f3 d.f4
abbrev DcsIs (w0 : World) (l : List D) (sep t : ByteArray) : Prop := ∀ (A : Option Addr) (c : Nat) (w : World), Kd.C k147 w0 A l.length l → Below w0.heap.size w0 w →
 Calls Tryz.prog 48 #[.slice A l.length c, .string sep] w fun e w' => e = .returned (.string t) ∧ Below w.heap.size w w'
def joinT (ts : List ByteArray) (sep : ByteArray) : ByteArray := ⟨(Lib.join (ts.map (·.data.toList)) sep.data.toList).toArray⟩
theorem joinT_len {ts : List ByteArray} {sep : ByteArray} (h : (joinT ts sep).size ≤ 1000000) : (Lib.join (ts.map (·.data.toList)) sep.data.toList).length ≤ 140737488355328 := by
 have : (joinT ts sep).size = (Lib.join (ts.map (·.data.toList)) sep.data.toList).length := by show (Lib.join (ts.map (·.data.toList)) sep.data.toList).toArray.size = _; simp
 omega
set_option maxHeartbeats 4000000 in
set_option maxRecDepth 100000 in
theorem decls_walk {w0 : World} {l : List D} (sep : ByteArray) (hs : ∀ d ∈ l, d.f0.size ≤ 1000000 ∧ d.f3.size ≤ 1000000) (hl : l.length ≤ 1000000) (hj : (joinT (l.map dcT) sep).size ≤ 1000000) : DcsIs w0 l sep (joinT (l.map dcT) sep) := by
 intro A c w hr hb
 obtain ⟨ts, hts⟩ : ∃ ts, l.map dcT = ts := ⟨_, rfl⟩
 have HTS := Lib.hid hts
 rw [hts] at hj ⊢
 clear hts
 have HE := Lib.hid (And.intro hr hb)
 have HL := Lib.hid hl
 have HZ := Lib.hid hs
 have HJ := Lib.hid (joinT_len hj)
 have HB0 : Hid (Below w.heap.size w w) := Lib.hid (Below.refl _ _)
 have HV0 : Hid (w.ownsRow w.heap.size 9 1 (.slice none 0 0) 0 ((ts.take 0).map Value.string)) := Lib.hid (own_nil _ _ _ _)
 clear hr hb hl hj hs
 go_enter Tryz.func48, Tryz.ntmps48
 go_wp2_with (fail)
 go_loopg [10, 5] (l.length + 1) (fun m9 u v wr => ∃ i : Nat, u = .int .i64 (i : Int) ∧ i ≤ l.length ∧ m9 = l.length + 1 - i ∧ Hid (Below w.heap.size w wr) ∧ Hid (wr.ownsRow w.heap.size 9 1 v i ((ts.take i).map Value.string)))
 case atStart => exact ⟨0, rfl, by omega, by simp, HB0, HV0⟩
 case round =>
  obtain ⟨i, rfl, hi, rfl, HB, HV⟩ := hrel
  clear HB0 HV0
  rcases Nat.lt_or_ge i l.length with hlt | hge
  ·obtain ⟨d, hk, hd⟩ := drop_at hlt
   obtain ⟨ad, hA, x0, x1, x2, x3, x4, x5⟩ := dec_at HE.out.1 i d hk
   have hdt := congrArg (Option.map dcT) hk
   rw [← List.getElem?_map, Option.map_some, HTS.out] at hdt
   have hz := HZ.out d (List.mem_of_getElem? hk)
   subst hA
   have hb := HE.out.2.trans (HB.out.mono HE.out.2.size)
   replace x0 := pw_cell_below hb x0
   replace x1 := pw_cell_below hb x1
   replace x2 := pw_cell_below hb x2
   replace x3 := pw_cell_below hb x3
   replace x4 := pw_cell_below hb x4
   replace x5 := pw_cell_below hb x5
   have xl := World.block_lt_of_cell? _ _ x0
   have xn : ¬ ((ad.add (i * 6)).block = wr.heap.size) := Nat.ne_of_lt xl
   obtain ⟨d0, d1, ⟨d2, d3⟩, d4, d5⟩ := d
   obtain ⟨tt, htt⟩ : ∃ tt, tyT d2 d3 = tt := ⟨_, rfl⟩
   obtain ⟨tk, htk⟩ : ∃ tk, clkB d4 d5 = tk := ⟨_, rfl⟩
   have HO := Lib.hid ((Ow.start wr).new (q := dcO ⟨d0, d1, ⟨d2, d3⟩, d4, d5⟩))
   have HTT : Hid (∀ w : World, Calls Tryz.prog 93 #[.agg #[.bool d2, .bool d3]] w fun e w' => e = .returned (.string tt) ∧ Below w.heap.size w w') := Lib.hid (by rw [← htt]; exact ty_walk d2 d3)
   have HTK : Hid (∀ w : World, Calls Tryz.prog 94 #[.string d4, .bool d5] w fun e w' => e = .returned (.string tk) ∧ w' = w) := Lib.hid (by rw [← htk]; exact clkB_walk d4 d5 hz.2)
   have HDT : Hid (ts[i]? = some (d0 ++ (⟨#[58, 32]⟩ : ByteArray) ++ tt ++ tk)) := Lib.hid (by rw [hdt, ← htt, ← htk]; rfl)
   have s1 : tt.size ≤ 11 := by rw [← htt]; exact tyT_size _ _
   have s2 : tk.size ≤ 1000010 := by rw [← htk]; exact clkB_size _ _ hz.2
   have s3 : d0.size ≤ 1000000 := hz.1
   have q0 : (9223372036854775807 < d0.size + 2) = False := eq_false (by omega)
   have q1 : (9223372036854775807 < d0.size + 2 + tt.size) = False := eq_false (by omega)
   have q2 : (9223372036854775807 < d0.size + 2 + tt.size + tk.size) = False := eq_false (by omega)
   have HK : Hid ((i + 1) * 16 ≤ 140737488355328) := Lib.hid (by have := HL.out; omega)
   have i0 : ((i : Int) < (l.length : Int)) = True := eq_true (by omega)
   have i1 : decide ((i : Int) < (l.length : Int)) = true := decide_eq_true (by omega)
   have i2 : (0 ≤ (i : Int)) = True := eq_true (by omega)
   have hw9 : wrap64 ((i : Int) + 1) = ((i + 1 : Nat) : Int) := by have h9 := HL.out; unfold wrap64; omega
   have hlk : ∀ k, u5.ownBlock = some k → k < wr.heap.size := fun k hk => own_lt HV.out k hk
   have HLK := Lib.hid hlk
   clear hb hk hd hdt hz htt htk hlk s1 s2 s3
   go_wp2_with (fail)
   generalize hX : wr.alloc _ = X at HO ⊢
   generalize hgd : wr.heap.size = gd at HO HLK ⊢
   clear hX x0 x1 x2 x3 x4 x5 xl xn
   have pfS : ∀ {V : World}, Ow wr V [(gd, dcO ⟨d0, d1, ⟨d2, d3⟩, d4, d5⟩)] → V.cell? ⟨gd, 0, none⟩ = some (.string d0) ∧ V.cell? ⟨gd, 2, none⟩ = some (.bool d2) ∧ V.cell? ⟨gd, 3, none⟩ = some (.bool d3) ∧ V.cell? ⟨gd, 4, none⟩ = some (.string d4) ∧ V.cell? ⟨gd, 5, none⟩ = some (.bool d5) := fun {V} h => ⟨blk_cell h.l0 0, blk_cell h.l0 2, blk_cell h.l0 3, blk_cell h.l0 4, blk_cell h.l0 5⟩
   have hS0 : X.drew.cell? ⟨gd, 0, none⟩ = some (.string d0) ∧ X.drew.cell? ⟨gd, 2, none⟩ = some (.bool d2) ∧ X.drew.cell? ⟨gd, 3, none⟩ = some (.bool d3) ∧ X.drew.cell? ⟨gd, 4, none⟩ = some (.string d4) ∧ X.drew.cell? ⟨gd, 5, none⟩ = some (.bool d5) := pfS HO.out.drew
   go_region_held2 (fun w' => w'.cell? ⟨gd, 0, none⟩ = some (.string d0) ∧ w'.cell? ⟨gd, 2, none⟩ = some (.bool d2) ∧ w'.cell? ⟨gd, 3, none⟩ = some (.bool d3) ∧ w'.cell? ⟨gd, 4, none⟩ = some (.string d4) ∧ w'.cell? ⟨gd, 5, none⟩ = some (.bool d5)) (first | with_reducible exact hS0 | with_reducible exact hS1 | with_reducible exact hS2 | with_reducible exact hS3) (first | (go_at_call 93; (with_reducible refine (HTT.out _).mono ?_); go_must (rintro e' v1 ⟨rfl, hb⟩; have HO1 := Lib.hid (Ow.below HO.out.drew hb); have hS1 : v1.cell? ⟨gd, 0, none⟩ = some (.string d0) ∧ v1.cell? ⟨gd, 2, none⟩ = some (.bool d2) ∧ v1.cell? ⟨gd, 3, none⟩ = some (.bool d3) ∧ v1.cell? ⟨gd, 4, none⟩ = some (.string d4) ∧ v1.cell? ⟨gd, 5, none⟩ = some (.bool d5) := pfS HO1.out; have hS2 : (v1.alloc (.cells #[.string (d0 ++ (⟨#[58, 32]⟩ : ByteArray) ++ tt ++ tk)] 9)).cell? ⟨gd, 0, none⟩ = some (.string d0) ∧ (v1.alloc (.cells #[.string (d0 ++ (⟨#[58, 32]⟩ : ByteArray) ++ tt ++ tk)] 9)).cell? ⟨gd, 2, none⟩ = some (.bool d2) ∧ (v1.alloc (.cells #[.string (d0 ++ (⟨#[58, 32]⟩ : ByteArray) ++ tt ++ tk)] 9)).cell? ⟨gd, 3, none⟩ = some (.bool d3) ∧ (v1.alloc (.cells #[.string (d0 ++ (⟨#[58, 32]⟩ : ByteArray) ++ tt ++ tk)] 9)).cell? ⟨gd, 4, none⟩ = some (.string d4) ∧ (v1.alloc (.cells #[.string (d0 ++ (⟨#[58, 32]⟩ : ByteArray) ++ tt ++ tk)] 9)).cell? ⟨gd, 5, none⟩ = some (.bool d5) := pfS (Ow.below HO1.out (below_alloc (Below.refl _ _) _)); have HB2 := Lib.hid (HB.out.trans (HO1.out.bel.mono HB.out.size)); have HV2 : Hid (v1.ownsRow w.heap.size 9 1 u5 i ((ts.take i).map Value.string)) := Lib.hid (own_move HV.out (fun k hk => HO1.out.bel.block k (own_lt HV.out k hk))); clear hb)) | (go_at_call 94; (with_reducible refine (HTK.out _).mono ?_); go_must (rintro e' v2 ⟨rfl, h2⟩; replace h2 := h2.symm; subst h2)) | (refine step_append_cells (w0 := w) (W := v1) w.heap.size (by rfl) (.tmp 14) (.tmp 28) 36 9 (.string ⟨#[]⟩) 1 16 (by rfl) Tryz.underlying36 info_s rfl (by decide) (by decide) u5 i ((ts.take i).map Value.string) [.string (d0 ++ (⟨#[58, 32]⟩ : ByteArray) ++ tt ++ tk)] (by rfl) (by rfl) rfl (by simp [Value.oneCell']) HV2.out HB2.out HB2.out.size HK.out ?_; intro v5 w5 hown hb5 hg5 hat5; have hS3 : w5.cell? ⟨gd, 0, none⟩ = some (.string d0) ∧ w5.cell? ⟨gd, 2, none⟩ = some (.bool d2) ∧ w5.cell? ⟨gd, 3, none⟩ = some (.bool d3) ∧ w5.cell? ⟨gd, 4, none⟩ = some (.string d4) ∧ w5.cell? ⟨gd, 5, none⟩ = some (.bool d5) := (fun (hbk : w5.heap[gd]? = v1.heap[gd]?) => ⟨(World.cell?_of_block (w := v1) hbk).trans hS1.1, (World.cell?_of_block (w := v1) hbk).trans hS1.2.1, (World.cell?_of_block (w := v1) hbk).trans hS1.2.2.1, (World.cell?_of_block (w := v1) hbk).trans hS1.2.2.2.1, (World.cell?_of_block (w := v1) hbk).trans hS1.2.2.2.2⟩) (hg5.block gd (blk_lt HO1.out.l0) (fun h => Nat.lt_irrefl _ (HLK.out gd h.symm))); have HB5 := Lib.hid hb5; have HV5 := Lib.hid hown; clear hown hb5 hg5 hat5))
   go_wp2_with (fail)
   go_roundg (l.length + 1 - (i + 1))
   case measure => exact ms9 hlt
   case rel =>
    refine ⟨i + 1, (by first | rw [hw9] | rfl), hlt, rfl, HB5, Lib.hid ?_⟩
    have h9 := HV5.out
    have e9 : ts.take (i + 1) = ts.take i ++ [d0 ++ (⟨#[58, 32]⟩ : ByteArray) ++ tt ++ tk] := by rw [List.take_add_one, HDT.out]; rfl
    rw [e9, List.map_append]
    exact h9
  ·obtain rfl : i = l.length := by omega
   have i0 : ((l.length : Int) < (l.length : Int)) = False := eq_false (by omega)
   have i1 : decide ((l.length : Int) < (l.length : Int)) = false := decide_eq_false (by omega)
   have hm : ts.length = l.length := by rw [← HTS.out]; exact List.length_map _
   have hV : wr.ownsRow w.heap.size 9 1 u5 ts.length (ts.map Value.string) := by
    have h9 := HV.out
    rw [← hm, List.take_length] at h9
    exact h9
   have HV3 := Lib.hid hV
   have HL3 : Hid (ts.length ≤ 1000000) := Lib.hid (by rw [hm]; exact HL.out)
   clear hV hm
   go_wp2_with (fail)
   refine (join_walk ts sep w.heap.size u5 _ HV3.out HL3.out HJ.out).mono ?_
   rintro e' w1 ⟨rfl, hb⟩
   have HB2 := Lib.hid (HB.out.trans (hb.mono HB.out.size))
   clear hb
   go_wp2_with (fail)
   go_ret
   exact ⟨rfl, HB2.out⟩
abbrev eqA (q : Q) (A0 : Option Addr) (c0 : Nat) (A7 : Option Addr) (c7 : Nat) : Value := .agg #[.slice A0 q.f0.length c0, .bool q.f1, .int .i64 q.f2.f0, .int .i64 q.f2.f1, .int .i64 q.f2.f2, .string q.f2.f3, .bool q.f2.f4, .slice A7 q.f2.f5.length c7]
theorem left_at {w0 : World} {A : Option Addr} {l : List L} (h : Kd.C k166 w0 A l.length l) (i : Nat) (d : L) (hk : l[i]? = some d) : ∃ ad, A = some ad ∧ w0.cell? (ad.add (i * 2)) = some (.string d.f0) ∧
  w0.cell? ⟨(ad.add (i * 2)).block, (ad.add (i * 2)).off + 1, none⟩ = some (.int .i64 d.f1) := by
 have hlt := (List.getElem?_eq_some_iff.1 hk).1
 obtain ⟨ad, e1, hx0, hx1⟩ := at_T166 h (i : Int) (by omega) (by omega)
 have hr : rd_T166 l (i : Int) = d := by
  unfold rd_T166
  simp [hk]
 rw [hr] at hx0 hx1
 simp only [Int.toNat_natCast] at hx0 hx1
 exact ⟨ad, e1, hx0, hx1⟩
theorem blk8' {W : World} {g : Nat} {t : TypeId} {a0 a1 a2 a3 a4 a5 a6 a7 : Value} (h : W.heap[g]? = some (.cells #[a0, a1, a2, a3, a4, a5, a6, a7] t (0, 0))) :
  W.cell? ⟨g, 0, none⟩ = some a0 ∧ W.cell? ⟨g, 1, none⟩ = some a1 ∧ W.cell? ⟨g, 2, none⟩ = some a2 ∧ W.cell? ⟨g, 3, none⟩ = some a3 ∧ W.cell? ⟨g, 4, none⟩ = some a4 ∧ W.cell? ⟨g, 5, none⟩ = some a5 ∧ W.cell? ⟨g, 6, none⟩ = some a6 ∧ W.cell? ⟨g, 7, none⟩ = some a7 ∧ ∀ j, W.frozen? ⟨g, j, none⟩ = false :=
 ⟨blk_cell h 0, blk_cell h 1, blk_cell h 2, blk_cell h 3, blk_cell h 4, blk_cell h 5, blk_cell h 6, blk_cell h 7, fun j => blk_frozen h j⟩
def leftT (l : List L) : ByteArray := if 1 < l.length then (⟨#[40]⟩ : ByteArray) ++ joinT (l.map fun x => x.f0) sepB ++ ⟨#[41]⟩ else joinT (l.map fun x => x.f0) sepB
def eqT (q : Q) (t : ByteArray) : ByteArray := (⟨#[32, 32]⟩ : ByteArray) ++ (leftT q.f0 ++ (if q.f1 then ⟨#[32, 61, 32, 97, 115, 121, 110, 99, 32]⟩ else ⟨#[32, 61, 32]⟩)) ++ t ++ ⟨#[59, 10]⟩
structure QAt (w0 : World) (q : Q) (A0 : Option Addr) (c0 : Nat) (A7 : Option Addr) (c7 : Nat) : Prop where
 left : Kd.C k166 w0 A0 q.f0.length q.f0
 room : q.f0.length ≤ c0
 ex : ExAt w0 q.f2 A7 c7
abbrev EqIs (w0 : World) (q : Q) (t : ByteArray) : Prop := ∀ (A0 : Option Addr) (c0 : Nat) (A7 : Option Addr) (c7 : Nat) (w : World), QAt w0 q A0 c0 A7 c7 → Below w0.heap.size w0 w → Tl.Tabs w →
 Calls Tryz.prog 49 #[eqA q A0 c0 A7 c7] w fun e w' => e = .returned (.string t) ∧ Below w.heap.size w w'
set_option maxHeartbeats 4000000 in
set_option maxRecDepth 100000 in
theorem eq_walk {w0 : World} {q : Q} {t : ByteArray} (ht : TxtIs w0 q.f2 t) (hs : t.size ≤ 1000000) (hl : q.f0.length ≤ 1000000) (hj : (joinT (q.f0.map fun x => x.f0) sepB).size ≤ 1000000) : EqIs w0 q (eqT q t) := by
 intro A0 c0 A7 c7 w hq hb hT
 obtain ⟨r, hr⟩ : ∃ r, eqT q t = r := ⟨_, rfl⟩
 rw [hr]
 obtain ⟨ts, hts⟩ : ∃ ts, (q.f0.map fun x => x.f0) = ts := ⟨_, rfl⟩
 obtain ⟨J, hJ⟩ : ∃ J, joinT ts sepB = J := ⟨_, rfl⟩
 unfold eqT leftT at hr
 rw [hts, hJ] at hr
 rw [hts] at hj
 have HJL := Lib.hid (joinT_len hj)
 rw [hJ] at hj
 have HR := Lib.hid hr
 have HTS := Lib.hid hts
 have HJ := Lib.hid hJ
 have HE := Lib.hid (And.intro hq (And.intro hb hT))
 have HL := Lib.hid hl
 have HZ := Lib.hid (And.intro hs hj)
 have HO := Lib.hid ((Ow.start w).new (q := eqO q A0 c0 A7 c7))
 clear hq hb hT hr hts hJ hl
 have z0 : (9223372036854775807 < 1 + J.size) = False := eq_false (by omega)
 have z1 : (9223372036854775807 < 1 + J.size + 1) = False := eq_false (by omega)
 have z2 : (9223372036854775807 < 1 + J.size + 1 + 9) = False := eq_false (by omega)
 have z3 : (9223372036854775807 < 2 + (1 + J.size + 1 + 9)) = False := eq_false (by omega)
 have z4 : (9223372036854775807 < 2 + (1 + J.size + 1 + 9) + t.size) = False := eq_false (by omega)
 have z5 : (9223372036854775807 < 2 + (1 + J.size + 1 + 9) + t.size + 2) = False := eq_false (by omega)
 have z6 : (9223372036854775807 < 1 + J.size + 1 + 3) = False := eq_false (by omega)
 have z7 : (9223372036854775807 < 2 + (1 + J.size + 1 + 3)) = False := eq_false (by omega)
 have z8 : (9223372036854775807 < 2 + (1 + J.size + 1 + 3) + t.size) = False := eq_false (by omega)
 have z9 : (9223372036854775807 < 2 + (1 + J.size + 1 + 3) + t.size + 2) = False := eq_false (by omega)
 have z10 : (9223372036854775807 < J.size + 9) = False := eq_false (by omega)
 have z11 : (9223372036854775807 < 2 + (J.size + 9)) = False := eq_false (by omega)
 have z12 : (9223372036854775807 < 2 + (J.size + 9) + t.size) = False := eq_false (by omega)
 have z13 : (9223372036854775807 < 2 + (J.size + 9) + t.size + 2) = False := eq_false (by omega)
 have z14 : (9223372036854775807 < J.size + 3) = False := eq_false (by omega)
 have z15 : (9223372036854775807 < 2 + (J.size + 3)) = False := eq_false (by omega)
 have z16 : (9223372036854775807 < 2 + (J.size + 3) + t.size) = False := eq_false (by omega)
 have z17 : (9223372036854775807 < 2 + (J.size + 3) + t.size + 2) = False := eq_false (by omega)
 clear hs hj
 go_enter Tryz.func49, Tryz.ntmps49
 go_wp2_with (fail)
 generalize hW : w.alloc _ = W
 rw [hW] at HO
 clear hW
 have HB0 : Hid (Below W.heap.size W W) := Lib.hid (Below.refl _ _)
 have HV0 : Hid (W.ownsRow W.heap.size 9 1 (.slice none 0 0) 0 ((ts.take 0).map Value.string)) := Lib.hid (own_nil _ _ _ _)
 go_loopg [10, 3] (q.f0.length + 1) (fun m9 u v wr => ∃ i : Nat, u = .int .i64 (i : Int) ∧ i ≤ q.f0.length ∧ m9 = q.f0.length + 1 - i ∧ Hid (Below W.heap.size W wr) ∧ Hid (wr.ownsRow W.heap.size 9 1 v i ((ts.take i).map Value.string)))
 case atStart => exact ⟨0, rfl, by omega, by simp, HB0, HV0⟩
 case round =>
  obtain ⟨i, rfl, hi, rfl, HB, HV⟩ := hrel
  clear HB0 HV0
  rcases Nat.lt_or_ge i q.f0.length with hlt | hge
  ·obtain ⟨x, hk, hd⟩ := drop_at hlt
   obtain ⟨ad, hA, x0, x1⟩ := left_at HE.out.1.left i x hk
   have hxt := congrArg (Option.map fun x : L => x.f0) hk
   rw [← List.getElem?_map, Option.map_some, HTS.out] at hxt
   subst hA
   have hb := HE.out.2.1.trans ((HO.out.bel.trans (HB.out.mono HO.out.sz)).mono HE.out.2.1.size)
   replace x0 := pw_cell_below hb x0
   replace x1 := pw_cell_below hb x1
   have xl := World.block_lt_of_cell? _ _ x0
   have xn : ¬ ((ad.add (i * 2)).block = wr.heap.size) := Nat.ne_of_lt xl
   have HX := Lib.hid hxt
   have HK : Hid ((i + 1) * 16 ≤ 140737488355328) := Lib.hid (by have := HL.out; omega)
   have i0 : ((i : Int) < (q.f0.length : Int)) = True := eq_true (by omega)
   have i1 : decide ((i : Int) < (q.f0.length : Int)) = true := decide_eq_true (by omega)
   have i2 : (0 ≤ (i : Int)) = True := eq_true (by omega)
   have hw9 : wrap64 ((i : Int) + 1) = ((i + 1 : Nat) : Int) := by have h9 := HL.out; unfold wrap64; omega
   have HB2 := Lib.hid (below_alloc HB.out (lfO x))
   have HV2 := Lib.hid (own_alloc HV.out (lfO x))
   clear hb hk hd hxt
   go_wp2_with (first | ((with_reducible refine gate_builtin (b := .append) (xs := #[.tmp 14, .tmp 17]) rfl ?_); at_builtin; (refine print_append_cells (w0 := W) (W := wr.alloc (lfO x)) W.heap.size rfl (.tmp 14) (.tmp 17) 36 9 (.string ⟨#[]⟩) 1 16 rfl Tryz.underlying36 info_s rfl (by decide) (by decide) u3 i ((ts.take i).map Value.string) [.string x.f0] rfl (show Value.slice (some ⟨wr.heap.size + 1, 0, none⟩) 1 1 = _ by simp) rfl (by simp [Value.oneCell']) HV2.out HB2.out HB2.out.size HK.out ?_); intro v5 w5 hown hb5 hg5 hat5; have HB5 := Lib.hid hb5; have HV5 := Lib.hid hown; clear hown hb5 hg5 hat5))
   go_roundg (q.f0.length + 1 - (i + 1))
   case measure => exact ms9 hlt
   case rel =>
    refine ⟨i + 1, (by first | rw [hw9] | rfl), hlt, rfl, HB5, Lib.hid ?_⟩
    have h9 := HV5.out
    have e9 : ts.take (i + 1) = ts.take i ++ [x.f0] := by rw [List.take_add_one, HX.out]; rfl
    rw [e9, List.map_append]
    exact h9
  ·obtain rfl : i = q.f0.length := by omega
   have i0 : ((q.f0.length : Int) < (q.f0.length : Int)) = False := eq_false (by omega)
   have i1 : decide ((q.f0.length : Int) < (q.f0.length : Int)) = false := decide_eq_false (by omega)
   have hm : ts.length = q.f0.length := by rw [← HTS.out]; exact List.length_map _
   have hV : wr.ownsRow W.heap.size 9 1 u3 ts.length (ts.map Value.string) := by
    have h9 := HV.out
    rw [← hm, List.take_length] at h9
    exact h9
   have HV3 := Lib.hid hV
   have HL3 : Hid (ts.length ≤ 1000000) := Lib.hid (by rw [hm]; exact HL.out)
   have HOr := Lib.hid (HO.out.below HB.out)
   clear hV hm hge hi
   go_wp2_with (fail)
   have hjw := join_walk ts sepB W.heap.size u3 _ HV3.out HL3.out HJL.out
   rw [show (⟨(Lib.join (ts.map (·.data.toList)) sepB.data.toList).toArray⟩ : ByteArray) = J from HJ.out] at hjw
   refine hjw.mono ?_
   rintro e' w1 ⟨rfl, hb⟩
   have HO2 := Lib.hid (HOr.out.below hb)
   clear hb hjw HV3 HV HOr
   obtain ⟨m0, m1, m2, m3, m4, m5, m6, m7, mf⟩ := blk8' HO2.out.l0
   have ml := blk_lt HO2.out.l0
   obtain ⟨l0, a, ex⟩ := q
   obtain ⟨n0, hn0⟩ : ∃ n0, l0.length = n0 := ⟨_, rfl⟩
   dsimp only at m0 m1 m2 m3 m4 m5 m6 m7 HR ⊢
   by_cases hm : 1 < n0
   ·have g0 : decide ((l0.length : Int) > 1) = true := decide_eq_true (by omega)
    have g1 : decide (1 < (l0.length : Int)) = true := decide_eq_true (by omega)
    have g2 : (1 < (l0.length : Int)) = True := eq_true (by omega)
    have hr := HR.out
    rw [if_pos (by omega)] at hr
    clear HR hm hn0
    cases a with
    | true =>
     obtain rfl : _ = r := hr
     go_wp2_with (fail)
     refine (ht A7 c7 _ HE.out.1.ex (HE.out.2.1.trans (HO2.out.bel.mono HE.out.2.1.size)) (Tl.Tabs.below HE.out.2.2 HO2.out.bel)).mono ?_
     rintro e' w2 ⟨rfl, hb⟩
     have HO3 := Lib.hid (HO2.out.below hb)
     clear hb
     go_wp2_with (fail)
     go_ret
     exact ⟨rfl, HO3.out.bel⟩
    | false =>
     obtain rfl : _ = r := hr
     go_wp2_with (fail)
     refine (ht A7 c7 _ HE.out.1.ex (HE.out.2.1.trans (HO2.out.bel.mono HE.out.2.1.size)) (Tl.Tabs.below HE.out.2.2 HO2.out.bel)).mono ?_
     rintro e' w2 ⟨rfl, hb⟩
     have HO3 := Lib.hid (HO2.out.below hb)
     clear hb
     go_wp2_with (fail)
     go_ret
     exact ⟨rfl, HO3.out.bel⟩
   ·have g0 : decide ((l0.length : Int) > 1) = false := decide_eq_false (by omega)
    have g1 : decide (1 < (l0.length : Int)) = false := decide_eq_false (by omega)
    have g2 : (1 < (l0.length : Int)) = False := eq_false (by omega)
    have hr := HR.out
    rw [if_neg (by omega)] at hr
    clear HR hm hn0
    cases a with
    | true =>
     obtain rfl : _ = r := hr
     go_wp2_with (fail)
     refine (ht A7 c7 _ HE.out.1.ex (HE.out.2.1.trans (HO2.out.bel.mono HE.out.2.1.size)) (Tl.Tabs.below HE.out.2.2 HO2.out.bel)).mono ?_
     rintro e' w2 ⟨rfl, hb⟩
     have HO3 := Lib.hid (HO2.out.below hb)
     clear hb
     go_wp2_with (fail)
     go_ret
     exact ⟨rfl, HO3.out.bel⟩
    | false =>
     obtain rfl : _ = r := hr
     go_wp2_with (fail)
     refine (ht A7 c7 _ HE.out.1.ex (HE.out.2.1.trans (HO2.out.bel.mono HE.out.2.1.size)) (Tl.Tabs.below HE.out.2.2 HO2.out.bel)).mono ?_
     rintro e' w2 ⟨rfl, hb⟩
     have HO3 := Lib.hid (HO2.out.below hb)
     clear hb
     go_wp2_with (fail)
     go_ret
     exact ⟨rfl, HO3.out.bel⟩
end Go.Proofs.YtjafllnbgfcchaaGreatDoor.Tx
end
section
/- tree.Print, walked. -/
namespace Go.Proofs.YtjafllnbgfcchaaGreatDoor.Tx
set_option linter.unusedVariables false
set_option linter.unusedSimpArgs false
open Go Go.RowKit Go.Proofs.YtjafllnbgfcchaaGreatDoorW.PrintWords Go.Proofs.YtjafllnbgfcchaaGreatDoorW.PrintLast Go.Proofs.YtjafllnbgfcchaaGreatDoorW.PrintMore Go.Proofs.YtjafllnbgfcchaaGreatDoor.XK Go.Proofs.YtjafllnbgfcchaaGreatDoor.Px Go.Proofs.YtjafllnbgfcchaaGreatDoor.Ow
attribute [local go_sem ↓] Go.wp_at_zero Go.wp_at_succ
theorem ws_walk (B b : Nat) (bs : List Value) (s : ByteArray) (w : World) (h : Lib.IsBuilderF 103 5 B b bs w) (hlen : bs.length + s.size ≤ 140737488355328) (hBw : B ≤ w.heap.size) :
  Calls Tryz.prog 47 #[.pointer (some ⟨b, 0, none⟩), .string s] w fun e w' => e = .returned (.tuple #[.int .i64 s.size, .nilIface]) ∧ Lib.IsBuilderF 103 5 B b (bs ++ Lib.strCells s) w' ∧ Below B w w' ∧ Lib.OthersKept 5 (some b) w w' := by
 refine (Any.Builder_WriteString_k { Tryz.lays156 with } Tryz.Builder_Extra_156 B b bs s w h hlen hBw).mono ?_
 rintro e w' ⟨he, hA, hb, ho⟩
 exact ⟨he, .inr hA, hb, ho⟩
theorem st_walk (B b : Nat) (l : List UInt8) (w : World) (h : Lib.IsBuilderF 103 5 B b (Lib.byteCells l) w) (hBw : B ≤ w.heap.size) :
  Calls Tryz.prog 50 #[.pointer (some ⟨b, 0, none⟩)] w fun e w' => e = .returned (.string ⟨l.toArray⟩) ∧ Below B w w' := by
 refine (Any.Builder_String_any_k { Tryz.lays156 with } Tryz.Builder_Extra_156 B b l w h hBw).mono ?_
 rintro e w' ⟨he, _, hb, _⟩
 exact ⟨he, hb⟩
structure Pr (w W : World) (bs : List UInt8) (l : List (Nat × Obj)) : Prop where
 bel : Below w.heap.size w W
 bld : Lib.IsBuilderF 103 5 w.heap.size w.heap.size (Lib.byteCells bs) W
 loc : ∀ x ∈ l, w.heap.size < x.1 ∧ W.heap[x.1]? = some x.2 ∧ ∀ c fz, x.2 ≠ .cells c 5 fz
section
variable {w W W' : World} {bs : List UInt8} {l : List (Nat × Obj)}
theorem bldF_below {b : Nat} {cs : List Value} (h : Lib.IsBuilderF 103 5 b b cs W) (hb : Below W.heap.size W W') : Lib.IsBuilderF 103 5 b b cs W' := by
 have key : ∀ p, Lib.BuilderAtF 103 5 b b p cs W → Lib.BuilderAtF 103 5 b b p cs W' := by
  rintro p ⟨h1, v, h2, h3, h4⟩
  exact ⟨h1, v, blk_below h2 hb, h3.kept (row := none) ⟨hb.os, hb.tape, hb.output, hb.size, fun k hk _ => hb.block k hk⟩ (Classical.em _), h4⟩
 exact h.imp (key _) (key _)
theorem Pr.start (w : World) : Pr w (w.alloc (.cells #[.pointer none, .slice none 0 0] 103 (0, 0))) [] [] :=
 ⟨below_alloc (Below.refl _ _) _, .inl ⟨Nat.le_refl _, _, blk_new w _, World.ownsRowF_nil _ _ _ _, by simp [Value.ownBlock]⟩, fun x hx => by simp at hx⟩
theorem Pr.sz (h : Pr w W bs l) : w.heap.size ≤ W.heap.size := h.bel.size
theorem Pr.lt (h : Pr w W bs l) : w.heap.size < W.heap.size := by
 rcases h.bld with h | h
 ·exact Lib.BuilderAtF.lt h
 ·exact Lib.BuilderAtF.lt h
theorem Pr.below (h : Pr w W bs l) (hb : Below W.heap.size W W') : Pr w W' bs l :=
 ⟨h.bel.trans (hb.mono h.sz), bldF_below h.bld hb, fun x hx => ⟨(h.loc x hx).1, blk_below (h.loc x hx).2.1 hb, (h.loc x hx).2.2⟩⟩
theorem Pr.drew (h : Pr w W bs l) : Pr w W.drew bs l := h.below (below_drew (Below.refl _ _))
theorem Pr.new {q : Obj} (hq : ∀ c fz, q ≠ .cells c 5 fz) (h : Pr w W bs l) : Pr w (W.alloc q) bs ((W.heap.size, q) :: l) :=
 ⟨(h.below (below_alloc (Below.refl _ _) q)).bel, (h.below (below_alloc (Below.refl _ _) q)).bld, fun x hx => by
  rcases List.mem_cons.1 hx with rfl | hx
  ·exact ⟨h.lt, blk_new W q, hq⟩
  ·exact (h.below (below_alloc (Below.refl _ _) q)).loc x hx⟩
theorem Pr.drop1 {y : Nat × Obj} (h : Pr w W bs (y :: l)) : Pr w W bs l := ⟨h.bel, h.bld, fun x hx => h.loc x (List.mem_cons_of_mem _ hx)⟩
theorem Pr.l0 {g : Nat} {q : Obj} (h : Pr w W bs ((g, q) :: l)) : W.heap[g]? = some q := (h.loc (g, q) List.mem_cons_self).2.1
theorem Pr.l1 {g : Nat} {q : Obj} {y : Nat × Obj} (h : Pr w W bs (y :: (g, q) :: l)) : W.heap[g]? = some q := (h.loc (g, q) (List.mem_cons_of_mem _ List.mem_cons_self)).2.1
theorem Pr.write (h : Pr w W bs l) (s : ByteArray) (hb : bs.length ≤ 1000000) (hs : s.size ≤ 10000000) :
  Calls Tryz.prog 47 #[.pointer (some ⟨w.heap.size, 0, none⟩), .string s] W fun e w' => e = .returned (.tuple #[.int .i64 s.size, .nilIface]) ∧ Pr w w' (bs ++ s.data.toList) l := by
 have h0 : (Lib.byteCells bs).length = bs.length := by simp [Lib.byteCells]
 refine (ws_walk _ _ _ s W h.bld (by rw [h0]; omega) h.sz).mono ?_
 rintro e w' ⟨he, hB, hb, ho⟩
 refine ⟨he, h.bel.trans hb, ?_, fun x hx => ⟨(h.loc x hx).1, ho _ _ (h.loc x hx).2.1 (fun h9 => by have := Option.some.inj h9; have := (h.loc x hx).1; omega) (h.loc x hx).2.2, (h.loc x hx).2.2⟩⟩
 rw [Lib.byteCells_append]
 exact hB
theorem Pr.str (h : Pr w W bs l) : Calls Tryz.prog 50 #[.pointer (some ⟨w.heap.size, 0, none⟩)] W fun e w' => e = .returned (.string ⟨bs.toArray⟩) ∧ Below w.heap.size w w' := by
 refine (st_walk _ _ bs W h.bld h.sz).mono ?_
 rintro e w' ⟨he, hb⟩
 exact ⟨he, h.bel.trans hb⟩
end
abbrev ndO (m : N) (B2 : Option Addr) (b2 : Nat) (B3 : Option Addr) (b3 : Nat) (B4 : Option Addr) (b4 : Nat) (B5 : Option Addr) (b5 : Nat) : Obj := .cells #[.string m.f0, .int .i64 m.f1, .slice B2 m.f2.length b2, .slice B3 m.f3.length b3, .slice B4 m.f4.length b4, .slice B5 m.f5.length b5] 50 (0, 0)
structure NdAt (w0 : World) (m : N) (B2 : Option Addr) (b2 : Nat) (B3 : Option Addr) (b3 : Nat) (B4 : Option Addr) (b4 : Nat) (B5 : Option Addr) (b5 : Nat) : Prop where
 h2 : Kd.C k147 w0 B2 m.f2.length m.f2
 m2 : m.f2.length ≤ b2
 h3 : Kd.C k147 w0 B3 m.f3.length m.f3
 m3 : m.f3.length ≤ b3
 h4 : Kd.C k147 w0 B4 m.f4.length m.f4
 m4 : m.f4.length ≤ b4
 h5 : Kd.C k56 w0 B5 m.f5.length m.f5
 m5 : m.f5.length ≤ b5
theorem node_at {w0 : World} {A : Option Addr} {l : List N} (h : Kd.C k50 w0 A l.length l) (i : Nat) (q : N) (hk : l[i]? = some q) : ∃ ad B2 b2 B3 b3 B4 b4 B5 b5, A = some ad ∧ w0.cell? (ad.add (i * 6)) = some (.string q.f0) ∧
  w0.cell? ⟨(ad.add (i * 6)).block, (ad.add (i * 6)).off + 1, none⟩ = some (.int .i64 q.f1) ∧ w0.cell? ⟨(ad.add (i * 6)).block, (ad.add (i * 6)).off + 2, none⟩ = some (.slice B2 q.f2.length b2) ∧
  w0.cell? ⟨(ad.add (i * 6)).block, (ad.add (i * 6)).off + 3, none⟩ = some (.slice B3 q.f3.length b3) ∧ w0.cell? ⟨(ad.add (i * 6)).block, (ad.add (i * 6)).off + 4, none⟩ = some (.slice B4 q.f4.length b4) ∧
  w0.cell? ⟨(ad.add (i * 6)).block, (ad.add (i * 6)).off + 5, none⟩ = some (.slice B5 q.f5.length b5) ∧ NdAt w0 q B2 b2 B3 b3 B4 b4 B5 b5 := by
 have hlt := (List.getElem?_eq_some_iff.1 hk).1
 obtain ⟨ad, B2, b2, B3, b3, B4, b4, B5, b5, e1, hx0, hx1, hx2, hx3, hx4, hx5, l2, g2, l3, g3, l4, g4, l5, g5⟩ := at_T50 h (i : Int) (by omega) (by omega)
 have hr : rd_T50 l (i : Int) = q := by
  unfold rd_T50
  simp [hk]
 rw [hr] at hx0 hx1 hx2 hx3 hx4 hx5 l2 g2 l3 g3 l4 g4 l5 g5
 simp only [Int.toNat_natCast] at hx0 hx1 hx2 hx3 hx4 hx5
 exact ⟨ad, B2, b2, B3, b3, B4, b4, B5, b5, e1, hx0, hx1, hx2, hx3, hx4, hx5, ⟨g2, l2, g3, l3, g4, l4, g5, l5⟩⟩
theorem eq_at {w0 : World} {A : Option Addr} {l : List Q} (h : Kd.C k56 w0 A l.length l) (i : Nat) (q : Q) (hk : l[i]? = some q) : ∃ ad A0 c0 A7 c7, A = some ad ∧ w0.cell? (ad.add (i * 8)) = some (.slice A0 q.f0.length c0) ∧
  w0.cell? ⟨(ad.add (i * 8)).block, (ad.add (i * 8)).off + 1, none⟩ = some (.bool q.f1) ∧ w0.cell? ⟨(ad.add (i * 8)).block, (ad.add (i * 8)).off + 2, none⟩ = some (.int .i64 q.f2.f0) ∧
  w0.cell? ⟨(ad.add (i * 8)).block, (ad.add (i * 8)).off + 3, none⟩ = some (.int .i64 q.f2.f1) ∧ w0.cell? ⟨(ad.add (i * 8)).block, (ad.add (i * 8)).off + 4, none⟩ = some (.int .i64 q.f2.f2) ∧
  w0.cell? ⟨(ad.add (i * 8)).block, (ad.add (i * 8)).off + 5, none⟩ = some (.string q.f2.f3) ∧ w0.cell? ⟨(ad.add (i * 8)).block, (ad.add (i * 8)).off + 6, none⟩ = some (.bool q.f2.f4) ∧
  w0.cell? ⟨(ad.add (i * 8)).block, (ad.add (i * 8)).off + 7, none⟩ = some (.slice A7 q.f2.f5.length c7) ∧ QAt w0 q A0 c0 A7 c7 := by
 have hlt := (List.getElem?_eq_some_iff.1 hk).1
 obtain ⟨ad, A0, c0, A7, c7, e1, hx0, hx1, hx2, hx3, hx4, hx5, hx6, hx7, l0, g0, l7, g7⟩ := at_T56 h (i : Int) (by omega) (by omega)
 have hr : rd_T56 l (i : Int) = q := by
  unfold rd_T56
  simp [hk]
 rw [hr] at hx0 hx1 hx2 hx3 hx4 hx5 hx6 hx7 l0 g0 l7 g7
 simp only [Int.toNat_natCast] at hx0 hx1 hx2 hx3 hx4 hx5 hx6 hx7
 exact ⟨ad, A0, c0, A7, c7, e1, hx0, hx1, hx2, hx3, hx4, hx5, hx6, hx7, ⟨g0, l0, ⟨g7, l7⟩⟩⟩
def dsT (l : List D) : ByteArray := joinT (l.map dcT) ⟨#[44, 32]⟩
def vsT (l : List D) : ByteArray := joinT (l.map dcT) ⟨#[59, 32]⟩
def headT (n : N) : ByteArray := (⟨#[110, 111, 100, 101, 32]⟩ : ByteArray) ++ n.f0 ++ ⟨#[40]⟩ ++ dsT n.f2 ++ ⟨#[41, 32, 114, 101, 116, 117, 114, 110, 115, 32, 40]⟩ ++ dsT n.f3 ++ ⟨#[41, 10]⟩
def varT (n : N) : ByteArray := (⟨#[118, 97, 114, 32]⟩ : ByteArray) ++ vsT n.f4 ++ ⟨#[59, 10]⟩
def eqsT (tq : Q → ByteArray) : List Q → List UInt8
 | [] => []
 | q :: r => (eqT q (tq q)).data.toList ++ eqsT tq r
def nodeT (tq : Q → ByteArray) (n : N) : List UInt8 := (headT n).data.toList ++ (if 0 < n.f4.length then (varT n).data.toList else []) ++ [108, 101, 116, 10] ++ eqsT tq n.f5 ++ [116, 101, 108, 10]
def nodesT (tq : Q → ByteArray) : List N → List UInt8
 | [] => []
 | n :: r => nodeT tq n ++ nodesT tq r
theorem eqsT_snoc (tq : Q → ByteArray) (l : List Q) (q : Q) : eqsT tq (l ++ [q]) = eqsT tq l ++ (eqT q (tq q)).data.toList := by
 induction l with
 | nil => simp [eqsT]
 | cons a r ih => rw [List.cons_append, eqsT, ih, eqsT, List.append_assoc]
theorem nodesT_snoc (tq : Q → ByteArray) (l : List N) (n : N) : nodesT tq (l ++ [n]) = nodesT tq l ++ nodeT tq n := by
 induction l with
 | nil => simp [nodesT]
 | cons a r ih => rw [List.cons_append, nodesT, ih, nodesT, List.append_assoc]
structure NodeOk (w0 : World) (tq : Q → ByteArray) (n : N) : Prop where
 ins : DcsIs w0 n.f2 ⟨#[44, 32]⟩ (dsT n.f2)
 insz : (dsT n.f2).size ≤ 1000000
 outs : DcsIs w0 n.f3 ⟨#[44, 32]⟩ (dsT n.f3)
 outsz : (dsT n.f3).size ≤ 1000000
 vars : DcsIs w0 n.f4 ⟨#[59, 32]⟩ (vsT n.f4)
 varsz : (vsT n.f4).size ≤ 1000000
 name : n.f0.size ≤ 1000000
 eqs : ∀ q ∈ n.f5, EqIs w0 q (eqT q (tq q)) ∧ (eqT q (tq q)).size ≤ 1000000
theorem headT_size {w0 : World} {tq : Q → ByteArray} {n : N} (h : NodeOk w0 tq n) : (headT n).size ≤ 10000000 := by
 have h1 := h.insz
 have h2 := h.outsz
 have h3 := h.name
 unfold headT
 simp only [ByteArray.size_append]
 show 5 + n.f0.size + 1 + (dsT n.f2).size + 11 + (dsT n.f3).size + 2 ≤ _
 omega
theorem varT_size {w0 : World} {tq : Q → ByteArray} {n : N} (h : NodeOk w0 tq n) : (varT n).size ≤ 10000000 := by
 have h1 := h.varsz
 unfold varT
 simp only [ByteArray.size_append]
 show 4 + (vsT n.f4).size + 2 ≤ _
 omega
set_option maxHeartbeats 4000000 in
set_option maxRecDepth 100000 in
theorem print_walk {w0 : World} {tq : Q → ByteArray} {l : List N} (A : Option Addr) (c : Nat) (w : World) (hl : Kd.C k50 w0 A l.length l) (hn : ∀ n ∈ l, NodeOk w0 tq n) (hlen : (nodesT tq l).length ≤ 1000000) (hb : Below w0.heap.size w0 w) (hT : Tl.Tabs w) :
  Calls Tryz.prog 16 #[.slice A l.length c] w fun e w' => e = .returned (.string ⟨(nodesT tq l).toArray⟩) ∧ Below w.heap.size w w' := by
 obtain ⟨tot, htot⟩ : ∃ tot, nodesT tq l = tot := ⟨_, rfl⟩
 rw [htot] at hlen ⊢
 have HM := Lib.hid (And.intro hl hn)
 have HE := Lib.hid (And.intro hb hT)
 have HL := Lib.hid (And.intro htot hlen)
 have HS := Lib.hid (Pr.start w)
 clear hl hn hlen hb hT htot
 go_enter Tryz.func16, Tryz.ntmps16
 go_wp2_with (fail)
 generalize hW : w.alloc _ = W
 rw [hW] at HS
 clear hW
 have HS0 : Hid (Pr w W (nodesT tq (l.take 0)) []) := HS
 go_loopg [10] (l.length + 1) (fun m9 u wr => ∃ i : Nat, u = .int .i64 (i : Int) ∧ i ≤ l.length ∧ m9 = l.length + 1 - i ∧ Hid (Pr w wr (nodesT tq (l.take i)) []))
 case atStart => exact ⟨0, rfl, by omega, by simp, HS0⟩
 case round =>
  obtain ⟨i, rfl, hi, rfl, HS'⟩ := hrel
  clear HS HS0
  have HS := HS'
  clear HS'
  rcases Nat.lt_or_ge i l.length with hlt | hge
  ·obtain ⟨n, hdk, hdd⟩ := drop_at hlt
   obtain ⟨ad2, C2, c2, C3, c3, C4, c4, C5, c5, hA2, y0, y1, y2, y3, y4, y5, hq⟩ := node_at HM.out.1 i n hdk
   have HN := Lib.hid (And.intro hq (HM.out.2 n (List.mem_of_getElem? hdk)))
   have hb := HE.out.1.trans (HS.out.bel.mono HE.out.1.size)
   replace y0 := pw_cell_below hb y0
   replace y1 := pw_cell_below hb y1
   replace y2 := pw_cell_below hb y2
   replace y3 := pw_cell_below hb y3
   replace y4 := pw_cell_below hb y4
   replace y5 := pw_cell_below hb y5
   have xl := World.block_lt_of_cell? _ _ y0
   have xn : ¬ ((ad2.add (i * 6)).block = wr.heap.size) := Nat.ne_of_lt xl
   have i0 : ((i : Int) < (l.length : Int)) = True := eq_true (by omega)
   have i1 : decide ((i : Int) < (l.length : Int)) = true := decide_eq_true (by omega)
   have i2 : (0 ≤ (i : Int)) = True := eq_true (by omega)
   have hw9 : wrap64 ((i : Int) + 1) = ((i + 1 : Nat) : Int) := by have h9 := HM.out.1.2.1; unfold maxLen at h9; unfold wrap64; omega
   have e9 : l.take (i + 1) = l.take i ++ [n] := by rw [List.take_add_one, hdk]; rfl
   obtain ⟨bs, hbs⟩ : ∃ bs, nodesT tq (l.take i) = bs := ⟨_, rfl⟩
   have HX : Hid (nodesT tq (l.take (i + 1)) = bs ++ nodeT tq n) := Lib.hid (by rw [e9, nodesT_snoc, hbs])
   have hfull : (bs ++ nodeT tq n).length ≤ 1000000 := by
    rw [← HX.out]
    have h9 := HL.out.2
    rw [← HL.out.1, ← List.take_append_drop (i + 1) l] at h9
    have h8 : ∀ a b : List N, (nodesT tq a).length ≤ (nodesT tq (a ++ b)).length := by
     intro a b
     induction a with
     | nil => exact Nat.zero_le _
     | cons x r ih => rw [List.cons_append, nodesT, nodesT, List.length_append, List.length_append]; omega
    exact Nat.le_trans (h8 _ _) h9
   have HF := Lib.hid hfull
   have HS1 : Hid (Pr w wr bs []) := Lib.hid (by rw [← hbs]; exact HS.out)
   have HT := Lib.hid (HS1.out.new (q := ndO n C2 c2 C3 c3 C4 c4 C5 c5) (fun c fz h => by injection h with _ h9; exact absurd h9 (by decide)))
   have z0 : n.f0.size ≤ 1000000 := HN.out.2.name
   have z1 := HN.out.2.insz
   have z2 := HN.out.2.outsz
   have z3 := HN.out.2.varsz
   have hh := headT_size HN.out.2
   obtain ⟨ti, hti⟩ : ∃ t, dsT n.f2 = t := ⟨_, rfl⟩
   obtain ⟨tu, htu⟩ : ∃ t, dsT n.f3 = t := ⟨_, rfl⟩
   obtain ⟨tv, htv⟩ : ∃ t, vsT n.f4 = t := ⟨_, rfl⟩
   have hI := HN.out.2.ins
   have hU := HN.out.2.outs
   have hV := HN.out.2.vars
   have hhd : headT n = (⟨#[110, 111, 100, 101, 32]⟩ : ByteArray) ++ n.f0 ++ ⟨#[40]⟩ ++ ti ++ ⟨#[41, 32, 114, 101, 116, 117, 114, 110, 115, 32, 40]⟩ ++ tu ++ ⟨#[41, 10]⟩ := by rw [← hti, ← htu]; rfl
   have hvd : varT n = (⟨#[118, 97, 114, 32]⟩ : ByteArray) ++ tv ++ ⟨#[59, 10]⟩ := by rw [← htv]; rfl
   rw [hti] at z1 hI
   rw [htu] at z2 hU
   rw [htv] at z3 hV
   have HI := Lib.hid hI
   have HU := Lib.hid hU
   have HV := Lib.hid hV
   have HH := Lib.hid (And.intro hhd hh)
   have HVD := Lib.hid hvd
   have q0 : (9223372036854775807 < 5 + n.f0.size) = False := eq_false (by omega)
   have q1 : (9223372036854775807 < 5 + n.f0.size + 1) = False := eq_false (by omega)
   have q2 : (9223372036854775807 < 5 + n.f0.size + 1 + ti.size) = False := eq_false (by omega)
   have q3 : (9223372036854775807 < 5 + n.f0.size + 1 + ti.size + 11) = False := eq_false (by omega)
   have q4 : (9223372036854775807 < 5 + n.f0.size + 1 + ti.size + 11 + tu.size) = False := eq_false (by omega)
   have q5 : (9223372036854775807 < 5 + n.f0.size + 1 + ti.size + 11 + tu.size + 2) = False := eq_false (by omega)
   have q6 : (9223372036854775807 < 4 + tv.size) = False := eq_false (by omega)
   have q7 : (9223372036854775807 < 4 + tv.size + 2) = False := eq_false (by omega)
   have HBL : Hid (bs.length ≤ 1000000) := Lib.hid (by rw [List.length_append] at hfull; omega)
   clear hb hdk hdd hq e9 hbs hfull z0 z1 z2 z3 hh hti htu htv hI hU hV hhd hvd
   subst hA2
   go_wp2_with (fail)
   generalize hX : wr.alloc _ = X at HT ⊢
   generalize hgx : wr.heap.size = gx at HT ⊢
   clear hX hgx y0 y1 y2 y3 y4 y5 xl xn
   have HB := Lib.hid (HE.out.1.trans (HT.out.bel.mono HE.out.1.size))
   have pfS : ∀ {V : World} {b : List UInt8}, Pr w V b [(gx, ndO n C2 c2 C3 c3 C4 c4 C5 c5)] → V.cell? ⟨gx, 0, none⟩ = some (.string n.f0) ∧ V.cell? ⟨gx, 2, none⟩ = some (.slice C2 n.f2.length c2) ∧ V.cell? ⟨gx, 3, none⟩ = some (.slice C3 n.f3.length c3) := fun {V b} h => ⟨blk_cell h.l0 0, blk_cell h.l0 2, blk_cell h.l0 3⟩
   have hS0 : X.drew.cell? ⟨gx, 0, none⟩ = some (.string n.f0) ∧ X.drew.cell? ⟨gx, 2, none⟩ = some (.slice C2 n.f2.length c2) ∧ X.drew.cell? ⟨gx, 3, none⟩ = some (.slice C3 n.f3.length c3) := pfS HT.out.drew
   go_region_held2 (fun w' => w'.cell? ⟨gx, 0, none⟩ = some (.string n.f0) ∧ w'.cell? ⟨gx, 2, none⟩ = some (.slice C2 n.f2.length c2) ∧ w'.cell? ⟨gx, 3, none⟩ = some (.slice C3 n.f3.length c3)) (first | with_reducible exact hS0 | with_reducible exact hS1 | with_reducible exact hS2 | with_reducible exact hS3) (first | (go_at_call 48; (with_reducible refine (HI.out C2 c2 _ HN.out.1.h2 (HE.out.1.trans (HT.out.drew.bel.mono HE.out.1.size))).mono ?_); go_must (rintro e' v1 ⟨rfl, hb⟩; have HT1 := Lib.hid (HT.out.drew.below hb); have hS1 : v1.cell? ⟨gx, 0, none⟩ = some (.string n.f0) ∧ v1.cell? ⟨gx, 2, none⟩ = some (.slice C2 n.f2.length c2) ∧ v1.cell? ⟨gx, 3, none⟩ = some (.slice C3 n.f3.length c3) := pfS HT1.out; clear hb)) | (go_at_call 48; (with_reducible refine (HU.out C3 c3 _ HN.out.1.h3 (HE.out.1.trans (HT1.out.bel.mono HE.out.1.size))).mono ?_); go_must (rintro e' v2 ⟨rfl, hb⟩; have HT2 := Lib.hid (HT1.out.below hb); have hS2 : v2.cell? ⟨gx, 0, none⟩ = some (.string n.f0) ∧ v2.cell? ⟨gx, 2, none⟩ = some (.slice C2 n.f2.length c2) ∧ v2.cell? ⟨gx, 3, none⟩ = some (.slice C3 n.f3.length c3) := pfS HT2.out; clear hb)) | (go_at_call 47; (refine (HT2.out.write _ HBL.out (by rw [← HH.out.1]; exact HH.out.2)).mono ?_); go_must (rintro e' v3 ⟨rfl, hw⟩; have HT3 := Lib.hid hw; have hS3 : v3.cell? ⟨gx, 0, none⟩ = some (.string n.f0) ∧ v3.cell? ⟨gx, 2, none⟩ = some (.slice C2 n.f2.length c2) ∧ v3.cell? ⟨gx, 3, none⟩ = some (.slice C3 n.f3.length c3) := pfS HT3.out; clear hw)))
   clear hS0 hS1 hS2 hS3 pfS HT HT1 HT2
   have HA : Hid (Pr w v3 (bs ++ (headT n).data.toList) [(gx, ndO n C2 c2 C3 c3 C4 c4 C5 c5)]) := Lib.hid (by rw [HH.out.1]; exact HT3.out)
   clear HT3
   obtain ⟨m0, m1, m2, m3, m4, m5, mf⟩ := blk6 HA.out.l0
   have ml := blk_lt HA.out.l0
   by_cases hv : 0 < n.f4.length
   ·have g0 : decide ((n.f4.length : Int) > 0) = true := decide_eq_true (by omega)
    have g1 : decide (0 < (n.f4.length : Int)) = true := decide_eq_true (by omega)
    have g2 : (0 < (n.f4.length : Int)) = True := eq_true (by omega)
    have HVL : Hid ((bs ++ (headT n).data.toList).length ≤ 1000000) := Lib.hid (by
     have h9 := HF.out
     unfold nodeT at h9
     simp only [List.length_append] at h9 ⊢
     omega)
    have HVZ := Lib.hid (varT_size HN.out.2)
    have HCV := Lib.hid hv
    clear hv
    go_wp2_with (fail)
    refine (HV.out C4 c4 _ HN.out.1.h4 (HE.out.1.trans (HA.out.bel.mono HE.out.1.size))).mono ?_
    rintro e' v4 ⟨rfl, hb⟩
    have HA1 := Lib.hid (HA.out.below hb)
    clear hb m0 m1 m2 m3 m4 m5 mf ml HA
    go_wp2_with (fail)
    refine (HA1.out.write _ HVL.out (by rw [← HVD.out]; exact HVZ.out)).mono ?_
    rintro e' v5 ⟨rfl, hw⟩
    have HP : Hid (Pr w v5 (bs ++ (headT n).data.toList ++ (varT n).data.toList) [(gx, ndO n C2 c2 C3 c3 C4 c4 C5 c5)]) := Lib.hid (by rw [HVD.out]; exact hw)
    clear hw HA1
    go_wp2_with (fail)
    have hB1 : (bs ++ (headT n).data.toList ++ (varT n).data.toList).length ≤ 1000000 ∧ (bs ++ (headT n).data.toList ++ (varT n).data.toList ++ [108, 101, 116, 10]).length + (eqsT tq n.f5).length + 4 ≤ 1000000 := by
     have h9 := HF.out
     unfold nodeT at h9
     rw [if_pos HCV.out] at h9
     simp only [List.length_append, List.length_cons, List.length_nil] at h9 ⊢
     omega
    have HB1 := Lib.hid hB1
    have HN9 : Hid (nodesT tq (l.take (i + 1)) = (bs ++ (headT n).data.toList ++ (varT n).data.toList ++ [108, 101, 116, 10]) ++ eqsT tq n.f5 ++ [116, 101, 108, 10]) := Lib.hid (by
     rw [HX.out]
     unfold nodeT
     rw [if_pos HCV.out]
     simp only [List.append_assoc])
    clear hB1
    obtain ⟨B1, hB1⟩ : ∃ B, (bs ++ (headT n).data.toList ++ (varT n).data.toList) = B := ⟨_, rfl⟩
    obtain ⟨B2, hB2⟩ : ∃ B, (bs ++ (headT n).data.toList ++ (varT n).data.toList ++ [108, 101, 116, 10]) = B := ⟨_, rfl⟩
    have HB2 := Lib.hid hB2
    have HQ1 : Hid (B1.length ≤ 1000000 ∧ B2.length + (eqsT tq n.f5).length + 4 ≤ 1000000) := Lib.hid (by rw [← hB1, ← hB2]; exact HB1.out)
    have HQ2 : Hid (nodesT tq (l.take (i + 1)) = B2 ++ eqsT tq n.f5 ++ [116, 101, 108, 10]) := Lib.hid (by rw [← hB2]; exact HN9.out)
    have HQ3 : Hid (B1 ++ [108, 101, 116, 10] = B2) := Lib.hid (by rw [← hB1, ← hB2])
    have HP1 : Hid (Pr w _ B1 [(gx, ndO n C2 c2 C3 c3 C4 c4 C5 c5)]) := Lib.hid (by rw [← hB1]; exact HP.out)
    clear hB1 hB2 HB1 HN9 HP HB2
    refine (HP1.out.write _ HQ1.out.1 (by show (4 : Nat) ≤ _; decide)).mono ?_
    rintro e' v6 ⟨rfl, hw⟩
    have HP2 : Hid (Pr w v6 B2 [(gx, ndO n C2 c2 C3 c3 C4 c4 C5 c5)]) := Lib.hid (by rw [← HQ3.out]; exact hw)
    clear hw HP1
    obtain ⟨m0, m1, m2, m3, m4, m5, mf⟩ := blk6 HP2.out.l0
    have ml := blk_lt HP2.out.l0
    go_wp2_with (fail)
    clear m0 m1 m2 m3 m4 m5 mf ml
    have HP3 : Hid (Pr w v6 (B2 ++ eqsT tq (n.f5.take 0)) [(gx, ndO n C2 c2 C3 c3 C4 c4 C5 c5)]) := Lib.hid (by rw [List.take_zero, eqsT, List.append_nil]; exact HP2.out)
    go_loopg [43] (n.f5.length + 1) (fun m9 u wr2 => ∃ k : Nat, u = .int .i64 (k : Int) ∧ k ≤ n.f5.length ∧ m9 = n.f5.length + 1 - k ∧ Hid (Pr w wr2 (B2 ++ eqsT tq (n.f5.take k)) [(gx, ndO n C2 c2 C3 c3 C4 c4 C5 c5)]))
    case atStart => exact ⟨0, rfl, by omega, by simp, HP3⟩
    case round =>
     obtain ⟨k, rfl, hk, rfl, HP'⟩ := hrel
     clear HP2 HP3
     have HP := HP'
     clear HP'
     rcases Nat.lt_or_ge k n.f5.length with hkl | hkg
     ·obtain ⟨q, hqk, hqd⟩ := drop_at hkl
      obtain ⟨ad4, A0, c0, A7, c7, hA4, y0, y1, y2, y3, y4, y5, y6, y7, hq⟩ := eq_at HN.out.1.h5 k q hqk
      have HQ := Lib.hid (And.intro hq (HN.out.2.eqs q (List.mem_of_getElem? hqk)))
      have hb := HE.out.1.trans (HP.out.bel.mono HE.out.1.size)
      replace y0 := pw_cell_below hb y0
      replace y1 := pw_cell_below hb y1
      replace y2 := pw_cell_below hb y2
      replace y3 := pw_cell_below hb y3
      replace y4 := pw_cell_below hb y4
      replace y5 := pw_cell_below hb y5
      replace y6 := pw_cell_below hb y6
      replace y7 := pw_cell_below hb y7
      have xl := World.block_lt_of_cell? _ _ y0
      have xn : ¬ ((ad4.add (k * 8)).block = wr.heap.size) := Nat.ne_of_lt xl
      have k0 : ((k : Int) < (n.f5.length : Int)) = True := eq_true (by omega)
      have k1 : decide ((k : Int) < (n.f5.length : Int)) = true := decide_eq_true (by omega)
      have k2 : (0 ≤ (k : Int)) = True := eq_true (by omega)
      have hw8 : wrap64 ((k : Int) + 1) = ((k + 1 : Nat) : Int) := by have h9 := HN.out.1.h5.2.1; unfold maxLen at h9; unfold wrap64; omega
      have e9 : n.f5.take (k + 1) = n.f5.take k ++ [q] := by rw [List.take_add_one, hqk]; rfl
      have HK : Hid (B2 ++ eqsT tq (n.f5.take (k + 1)) = B2 ++ eqsT tq (n.f5.take k) ++ (eqT q (tq q)).data.toList) := Lib.hid (by rw [e9, eqsT_snoc, List.append_assoc])
      have HKL : Hid ((B2 ++ eqsT tq (n.f5.take k)).length ≤ 1000000) := Lib.hid (by
       have h9 := HQ1.out.2
       rw [← List.take_append_drop k n.f5] at h9
       have h8 : ∀ a b : List Q, (eqsT tq a).length ≤ (eqsT tq (a ++ b)).length := by
        intro a b
        induction a with
        | nil => exact Nat.zero_le _
        | cons x r ih => rw [List.cons_append, eqsT, eqsT, List.length_append, List.length_append]; omega
       have h7 := h8 (n.f5.take k) (n.f5.drop k)
       rw [List.length_append]
       omega)
      have HT := Lib.hid (HP.out.new (q := eqO q A0 c0 A7 c7) (fun c fz h => by injection h with _ h9; exact absurd h9 (by decide)))
      clear hb hqk hqd hq e9
      subst hA4
      go_wp2_with (fail)
      generalize hY : wr.alloc _ = Y at HT ⊢
      clear hY y0 y1 y2 y3 y4 y5 y6 y7 xl xn
      refine (HQ.out.2.1 A0 c0 A7 c7 _ HQ.out.1 (HE.out.1.trans (HT.out.bel.mono HE.out.1.size)) (Tl.Tabs.below HE.out.2 HT.out.bel)).mono ?_
      rintro e' v7 ⟨rfl, hb⟩
      have HT1 := Lib.hid (HT.out.below hb)
      clear hb
      go_wp2_with (fail)
      refine (HT1.out.write _ HKL.out (Nat.le_trans HQ.out.2.2 (by decide))).mono ?_
      rintro e' v8 ⟨rfl, hw⟩
      have HP9 : Hid (Pr w v8 (B2 ++ eqsT tq (n.f5.take (k + 1))) [(gx, ndO n C2 c2 C3 c3 C4 c4 (some ad4) c5)]) := Lib.hid (by rw [HK.out]; exact hw.drop1)
      clear hw
      go_wp2_with (fail)
      go_roundg (n.f5.length + 1 - (k + 1))
      case measure => exact ms9 hkl
      case rel => exact ⟨k + 1, (by first | rw [hw8] | rfl), hkl, rfl, HP9⟩
     ·have k0 : ((k : Int) < (n.f5.length : Int)) = False := eq_false (by omega)
      have k1 : decide ((k : Int) < (n.f5.length : Int)) = false := decide_eq_false (by omega)
      have HP5 : Hid (Pr w wr (B2 ++ eqsT tq n.f5) [(gx, ndO n C2 c2 C3 c3 C4 c4 C5 c5)]) := Lib.hid (by
       have h9 := HP.out
       rw [List.take_of_length_le hkg] at h9
       exact h9)
      clear HP
      go_wp2_with (fail)
      refine (HP5.out.write _ (by have := HQ1.out.2; rw [List.length_append]; omega) (by show (4 : Nat) ≤ _; decide)).mono ?_
      rintro e' v9 ⟨rfl, hw⟩
      have HP9 : Hid (Pr w v9 (nodesT tq (l.take (i + 1))) []) := Lib.hid (by rw [HQ2.out]; exact hw.drop1)
      clear hw
      go_wp2_with (fail)
      go_roundg (l.length + 1 - (i + 1))
      case measure => exact ms9 hlt
      case rel => exact ⟨i + 1, (by first | rw [hw9] | rfl), hlt, rfl, HP9⟩
   ·have g0 : decide ((n.f4.length : Int) > 0) = false := decide_eq_false (by omega)
    have g1 : decide (0 < (n.f4.length : Int)) = false := decide_eq_false (by omega)
    have g2 : (0 < (n.f4.length : Int)) = False := eq_false (by omega)
    have HCV := Lib.hid hv
    clear hv
    go_wp2_with (fail)
    have HP : Hid (Pr w v3 (bs ++ (headT n).data.toList ++ []) [(gx, ndO n C2 c2 C3 c3 C4 c4 C5 c5)]) := Lib.hid (by rw [List.append_nil]; exact HA.out)
    clear HA m0 m1 m2 m3 m4 m5 mf ml
    have hB1 : (bs ++ (headT n).data.toList ++ []).length ≤ 1000000 ∧ (bs ++ (headT n).data.toList ++ [] ++ [108, 101, 116, 10]).length + (eqsT tq n.f5).length + 4 ≤ 1000000 := by
     have h9 := HF.out
     unfold nodeT at h9
     rw [if_neg HCV.out] at h9
     simp only [List.length_append, List.length_cons, List.length_nil] at h9 ⊢
     omega
    have HB1 := Lib.hid hB1
    have HN9 : Hid (nodesT tq (l.take (i + 1)) = (bs ++ (headT n).data.toList ++ [] ++ [108, 101, 116, 10]) ++ eqsT tq n.f5 ++ [116, 101, 108, 10]) := Lib.hid (by
     rw [HX.out]
     unfold nodeT
     rw [if_neg HCV.out]
     simp only [List.append_assoc])
    clear hB1
    obtain ⟨B1, hB1⟩ : ∃ B, (bs ++ (headT n).data.toList ++ []) = B := ⟨_, rfl⟩
    obtain ⟨B2, hB2⟩ : ∃ B, (bs ++ (headT n).data.toList ++ [] ++ [108, 101, 116, 10]) = B := ⟨_, rfl⟩
    have HB2 := Lib.hid hB2
    have HQ1 : Hid (B1.length ≤ 1000000 ∧ B2.length + (eqsT tq n.f5).length + 4 ≤ 1000000) := Lib.hid (by rw [← hB1, ← hB2]; exact HB1.out)
    have HQ2 : Hid (nodesT tq (l.take (i + 1)) = B2 ++ eqsT tq n.f5 ++ [116, 101, 108, 10]) := Lib.hid (by rw [← hB2]; exact HN9.out)
    have HQ3 : Hid (B1 ++ [108, 101, 116, 10] = B2) := Lib.hid (by rw [← hB1, ← hB2])
    have HP1 : Hid (Pr w _ B1 [(gx, ndO n C2 c2 C3 c3 C4 c4 C5 c5)]) := Lib.hid (by rw [← hB1]; exact HP.out)
    clear hB1 hB2 HB1 HN9 HP HB2
    refine (HP1.out.write _ HQ1.out.1 (by show (4 : Nat) ≤ _; decide)).mono ?_
    rintro e' v6 ⟨rfl, hw⟩
    have HP2 : Hid (Pr w v6 B2 [(gx, ndO n C2 c2 C3 c3 C4 c4 C5 c5)]) := Lib.hid (by rw [← HQ3.out]; exact hw)
    clear hw HP1
    obtain ⟨m0, m1, m2, m3, m4, m5, mf⟩ := blk6 HP2.out.l0
    have ml := blk_lt HP2.out.l0
    go_wp2_with (fail)
    clear m0 m1 m2 m3 m4 m5 mf ml
    have HP3 : Hid (Pr w v6 (B2 ++ eqsT tq (n.f5.take 0)) [(gx, ndO n C2 c2 C3 c3 C4 c4 C5 c5)]) := Lib.hid (by rw [List.take_zero, eqsT, List.append_nil]; exact HP2.out)
    go_loopg [43] (n.f5.length + 1) (fun m9 u wr2 => ∃ k : Nat, u = .int .i64 (k : Int) ∧ k ≤ n.f5.length ∧ m9 = n.f5.length + 1 - k ∧ Hid (Pr w wr2 (B2 ++ eqsT tq (n.f5.take k)) [(gx, ndO n C2 c2 C3 c3 C4 c4 C5 c5)]))
    case atStart => exact ⟨0, rfl, by omega, by simp, HP3⟩
    case round =>
     obtain ⟨k, rfl, hk, rfl, HP'⟩ := hrel
     clear HP2 HP3
     have HP := HP'
     clear HP'
     rcases Nat.lt_or_ge k n.f5.length with hkl | hkg
     ·obtain ⟨q, hqk, hqd⟩ := drop_at hkl
      obtain ⟨ad4, A0, c0, A7, c7, hA4, y0, y1, y2, y3, y4, y5, y6, y7, hq⟩ := eq_at HN.out.1.h5 k q hqk
      have HQ := Lib.hid (And.intro hq (HN.out.2.eqs q (List.mem_of_getElem? hqk)))
      have hb := HE.out.1.trans (HP.out.bel.mono HE.out.1.size)
      replace y0 := pw_cell_below hb y0
      replace y1 := pw_cell_below hb y1
      replace y2 := pw_cell_below hb y2
      replace y3 := pw_cell_below hb y3
      replace y4 := pw_cell_below hb y4
      replace y5 := pw_cell_below hb y5
      replace y6 := pw_cell_below hb y6
      replace y7 := pw_cell_below hb y7
      have xl := World.block_lt_of_cell? _ _ y0
      have xn : ¬ ((ad4.add (k * 8)).block = wr.heap.size) := Nat.ne_of_lt xl
      have k0 : ((k : Int) < (n.f5.length : Int)) = True := eq_true (by omega)
      have k1 : decide ((k : Int) < (n.f5.length : Int)) = true := decide_eq_true (by omega)
      have k2 : (0 ≤ (k : Int)) = True := eq_true (by omega)
      have hw8 : wrap64 ((k : Int) + 1) = ((k + 1 : Nat) : Int) := by have h9 := HN.out.1.h5.2.1; unfold maxLen at h9; unfold wrap64; omega
      have e9 : n.f5.take (k + 1) = n.f5.take k ++ [q] := by rw [List.take_add_one, hqk]; rfl
      have HK : Hid (B2 ++ eqsT tq (n.f5.take (k + 1)) = B2 ++ eqsT tq (n.f5.take k) ++ (eqT q (tq q)).data.toList) := Lib.hid (by rw [e9, eqsT_snoc, List.append_assoc])
      have HKL : Hid ((B2 ++ eqsT tq (n.f5.take k)).length ≤ 1000000) := Lib.hid (by
       have h9 := HQ1.out.2
       rw [← List.take_append_drop k n.f5] at h9
       have h8 : ∀ a b : List Q, (eqsT tq a).length ≤ (eqsT tq (a ++ b)).length := by
        intro a b
        induction a with
        | nil => exact Nat.zero_le _
        | cons x r ih => rw [List.cons_append, eqsT, eqsT, List.length_append, List.length_append]; omega
       have h7 := h8 (n.f5.take k) (n.f5.drop k)
       rw [List.length_append]
       omega)
      have HT := Lib.hid (HP.out.new (q := eqO q A0 c0 A7 c7) (fun c fz h => by injection h with _ h9; exact absurd h9 (by decide)))
      clear hb hqk hqd hq e9
      subst hA4
      go_wp2_with (fail)
      generalize hY : wr.alloc _ = Y at HT ⊢
      clear hY y0 y1 y2 y3 y4 y5 y6 y7 xl xn
      refine (HQ.out.2.1 A0 c0 A7 c7 _ HQ.out.1 (HE.out.1.trans (HT.out.bel.mono HE.out.1.size)) (Tl.Tabs.below HE.out.2 HT.out.bel)).mono ?_
      rintro e' v7 ⟨rfl, hb⟩
      have HT1 := Lib.hid (HT.out.below hb)
      clear hb
      go_wp2_with (fail)
      refine (HT1.out.write _ HKL.out (Nat.le_trans HQ.out.2.2 (by decide))).mono ?_
      rintro e' v8 ⟨rfl, hw⟩
      have HP9 : Hid (Pr w v8 (B2 ++ eqsT tq (n.f5.take (k + 1))) [(gx, ndO n C2 c2 C3 c3 C4 c4 (some ad4) c5)]) := Lib.hid (by rw [HK.out]; exact hw.drop1)
      clear hw
      go_wp2_with (fail)
      go_roundg (n.f5.length + 1 - (k + 1))
      case measure => exact ms9 hkl
      case rel => exact ⟨k + 1, (by first | rw [hw8] | rfl), hkl, rfl, HP9⟩
     ·have k0 : ((k : Int) < (n.f5.length : Int)) = False := eq_false (by omega)
      have k1 : decide ((k : Int) < (n.f5.length : Int)) = false := decide_eq_false (by omega)
      have HP5 : Hid (Pr w wr (B2 ++ eqsT tq n.f5) [(gx, ndO n C2 c2 C3 c3 C4 c4 C5 c5)]) := Lib.hid (by
       have h9 := HP.out
       rw [List.take_of_length_le hkg] at h9
       exact h9)
      clear HP
      go_wp2_with (fail)
      refine (HP5.out.write _ (by have := HQ1.out.2; rw [List.length_append]; omega) (by show (4 : Nat) ≤ _; decide)).mono ?_
      rintro e' v9 ⟨rfl, hw⟩
      have HP9 : Hid (Pr w v9 (nodesT tq (l.take (i + 1))) []) := Lib.hid (by rw [HQ2.out]; exact hw.drop1)
      clear hw
      go_wp2_with (fail)
      go_roundg (l.length + 1 - (i + 1))
      case measure => exact ms9 hlt
      case rel => exact ⟨i + 1, (by first | rw [hw9] | rfl), hlt, rfl, HP9⟩
  ·have i0 : ((i : Int) < (l.length : Int)) = False := eq_false (by omega)
   have i1 : decide ((i : Int) < (l.length : Int)) = false := decide_eq_false (by omega)
   have HS2 : Hid (Pr w wr tot []) := Lib.hid (by
    have h9 := HS.out
    rw [List.take_of_length_le hge, HL.out.1] at h9
    exact h9)
   clear HS
   go_wp2_with (fail)
   refine (HS2.out.str).mono ?_
   rintro e' w5 ⟨rfl, hb⟩
   have HB := Lib.hid hb
   clear hb
   go_wp2_with (fail)
   go_ret
   exact ⟨rfl, HB.out⟩
end Go.Proofs.YtjafllnbgfcchaaGreatDoor.Tx
end
