/- Joined of: CtU, CtO, CtG. -/
import Derived.Test.YtjafllnbgfcchaaDoorZCGCtP
import Derived.StillTailTactics
section
/- The checker of types: call, walked. -/
namespace Go.Proofs.YtjafllnbgfcchaaDoor.Ct
set_option linter.unusedVariables false
set_option linter.unusedSimpArgs false
open Go Go.RowKit Go.Proofs.YtjafllnbgfcchaaDoorW.PrintWords Go.Proofs.YtjafllnbgfcchaaDoorW.PrintLast Go.Proofs.YtjafllnbgfcchaaDoorW.PrintMore Go.Proofs.YtjafllnbgfcchaaDoor.Lx Go.Proofs.YtjafllnbgfcchaaDoor.XK Go.Proofs.YtjafllnbgfcchaaDoor.Px Go.Proofs.YtjafllnbgfcchaaDoor.Ck
attribute [local go_sem ↓] Go.wp_at_zero Go.wp_at_succ
structure NdAt (w0 : World) (m : N) (B2 : Option Addr) (b2 : Nat) (B3 : Option Addr) (b3 : Nat) (B4 : Option Addr) (b4 : Nat) (B5 : Option Addr) (b5 : Nat) : Prop where
  h2 : Kd.C k39 w0 B2 m.f2.length m.f2
  m2 : m.f2.length ≤ b2
  h3 : Kd.C k39 w0 B3 m.f3.length m.f3
  m3 : m.f3.length ≤ b3
  h4 : Kd.C k39 w0 B4 m.f4.length m.f4
  m4 : m.f4.length ≤ b4
  h5 : Kd.C k45 w0 B5 m.f5.length m.f5
  m5 : m.f5.length ≤ b5
abbrev ndO (m : N) (B2 : Option Addr) (b2 : Nat) (B3 : Option Addr) (b3 : Nat) (B4 : Option Addr) (b4 : Nat) (B5 : Option Addr) (b5 : Nat) : Obj := .cells #[.string m.f0, .int .i64 m.f1, .slice B2 m.f2.length b2, .slice B3 m.f3.length b3, .slice B4 m.f4.length b4, .slice B5 m.f5.length b5] 34 (0, 0)
theorem callee_walk {x : Ctx} (hx : x.Ok) (nm : ByteArray) (w : World) (hb : Below x.w0.heap.size x.w0 w) :
    Calls Tryd.prog 86 #[.slice x.A x.l.length x.cap, .string nm] w fun e w' => ∃ B2 b2 B3 b3 B4 b4 B5 b5, e = .returned (.tuple #[.agg #[.string (callee x.l nm).f0, .int .i64 (callee x.l nm).f1, .slice B2 (callee x.l nm).f2.length b2, .slice B3 (callee x.l nm).f3.length b3, .slice B4 (callee x.l nm).f4.length b4, .slice B5 (callee x.l nm).f5.length b5], .bool (Fnd.findN x.l nm).isSome]) ∧
      NdAt x.w0 (callee x.l nm) B2 b2 B3 b3 B4 b4 B5 b5 ∧ Below w.heap.size w w' := by
  refine (Fnd.find_walk x.A x.cap x.l nm x.w0 w hb hx.hl hx.hlc).mono ?_
  rintro e w' ⟨hb, hm⟩
  unfold callee
  cases hf : Fnd.findN x.l nm with
  | none =>
    rw [hf] at hm
    exact ⟨none, 0, none, 0, none, 0, none, 0, hm, ⟨Kd.C_nil _ _, Nat.le_refl _, Kd.C_nil _ _, Nat.le_refl _, Kd.C_nil _ _, Nat.le_refl _, Kd.C_nil _ _, Nat.le_refl _⟩, hb⟩
  | some y =>
    rw [hf] at hm
    obtain ⟨cs, hK, he⟩ := hm
    obtain ⟨A2, c2, A3, c3, A4, c4, A5, c5, rfl, l2, g2, l3, g3, l4, g4, l5, g5⟩ := k34_open hK
    exact ⟨A2, c2, A3, c3, A4, c4, A5, c5, he, ⟨g2, l2, g3, l3, g4, l4, g5, l5⟩, hb⟩
theorem dec_at {w0 : World} {A : Option Addr} {l : List D} (h : Kd.C k39 w0 A l.length l) (i : Nat) (d : D) (hk : l[i]? = some d) : ∃ ad, A = some ad ∧ w0.cell? (ad.add (i * 6)) = some (.string d.f0) ∧
    w0.cell? ⟨(ad.add (i * 6)).block, (ad.add (i * 6)).off + 1, none⟩ = some (.int .i64 d.f1) ∧ w0.cell? ⟨(ad.add (i * 6)).block, (ad.add (i * 6)).off + 2, none⟩ = some (.bool d.f2.f0) ∧
    w0.cell? ⟨(ad.add (i * 6)).block, (ad.add (i * 6)).off + 3, none⟩ = some (.bool d.f2.f1) ∧ w0.cell? ⟨(ad.add (i * 6)).block, (ad.add (i * 6)).off + 4, none⟩ = some (.string d.f3) ∧
    w0.cell? ⟨(ad.add (i * 6)).block, (ad.add (i * 6)).off + 5, none⟩ = some (.bool d.f4) := by
  have hlt := (List.getElem?_eq_some_iff.1 hk).1
  obtain ⟨ad, e1, hx0, hx1, hx2, hx3, hx4, hx5⟩ := at_T39 h (i : Int) (by omega) (by omega)
  have hr : rd_T39 l (i : Int) = d := by
    unfold rd_T39
    simp [hk]
  rw [hr] at hx0 hx1 hx2 hx3 hx4 hx5
  simp only [Int.toNat_natCast] at hx0 hx1 hx2 hx3 hx4 hx5
  exact ⟨ad, e1, hx0, hx1, hx2, hx3, hx4, hx5⟩
theorem ms9 {a b : Nat} (h : b < a) : a + 1 - (b + 1) < a + 1 - b := by omega
abbrev CallIs (x : Ctx) (of : Of) : Prop := ∀ (e : E) (A : Option Addr) (c : Nat) (f r : F) (w : World), ExAt x.w0 e A c → At x w f → call of x.l x.n e f = some r →
  Calls Tryd.prog 113 #[.pointer (some ⟨x.c, 0, none⟩), exA e A c] w fun e' w' => e' = .returned (.tuple #[]) ∧ Does x r w w'
set_option maxHeartbeats 4000000 in
theorem call_walk {x : Ctx} (hx : x.Ok) {of : Of} (hof : OfIs x of) : CallIs x of := by
  intro e A c f r w he h hr
  unfold call at hr
  obtain ⟨m, hm⟩ : ∃ m, callee x.l e.f3 = m := ⟨_, rfl⟩
  rw [hm] at hr
  have H := Lib.hid h
  have HE := Lib.hid he
  have HR := Lib.hid hr
  have HD := Lib.hid hm
  clear h he hr hm
  go_enter Tryd.func113, Tryd.ntmps113
  have sl := blk_lt H.out.blk
  go_wp2_with (fail)
  have HS := Lib.hid (H.out.ck.new (q := exO e A c))
  generalize hW : w.alloc _ = W
  rw [hW] at HS
  clear hW
  have pfS : ∀ {V : World}, Ck x.c w V (x.obj f) [(w.heap.size, exO e A c)] → V.cell? ⟨x.c, 0, none⟩ = some (.slice x.A x.l.length x.cap) ∧ V.cell? ⟨w.heap.size, 3, none⟩ = some (.string e.f3) := fun {V} h => ⟨blk_cell h.blk 0, blk_cell h.l0 3⟩
  have hS0 : (W.drew).cell? ⟨x.c, 0, none⟩ = some (.slice x.A x.l.length x.cap) ∧ (W.drew).cell? ⟨w.heap.size, 3, none⟩ = some (.string e.f3) := pfS HS.out.drew
  have hSa : ∀ o, ((W.drew).alloc o).cell? ⟨x.c, 0, none⟩ = some (.slice x.A x.l.length x.cap) ∧ ((W.drew).alloc o).cell? ⟨w.heap.size, 3, none⟩ = some (.string e.f3) := fun o => pfS (Ck.alloc HS.out.drew)
  have hSb : ∀ o, ((W.alloc o).drew).cell? ⟨x.c, 0, none⟩ = some (.slice x.A x.l.length x.cap) ∧ ((W.alloc o).drew).cell? ⟨w.heap.size, 3, none⟩ = some (.string e.f3) := fun o => pfS (Ck.drew (Ck.alloc HS.out))
  have ge9 : w.heap.size ≤ W.heap.size := HS.out.sz
  have nb9 : ∀ y ∈ ([(w.heap.size, exO e A c)] : List (Nat × Obj)), y.1 ≠ W.heap.size := fun y hy => Nat.ne_of_lt (blk_lt (HS.out.loc y hy).2)
  go_cut [4] (fun u wc => ∃ gm B2 b2 B3 b3 B4 b4 B5 b5, u = .pointer (some ⟨gm, 0, none⟩) ∧ Hid (Ck x.c w wc (x.obj f) ((gm, ndO m B2 b2 B3 b3 B4 b4 B5 b5) :: [(w.heap.size, exO e A c)])) ∧ Hid (NdAt x.w0 m B2 b2 B3 b3 B4 b4 B5 b5))
  case first =>
    go_region_held2 (fun w' => w'.cell? ⟨x.c, 0, none⟩ = some (.slice x.A x.l.length x.cap) ∧ w'.cell? ⟨w.heap.size, 3, none⟩ = some (.string e.f3)) (first | with_reducible exact hS0 | with_reducible exact hSa _ | with_reducible exact hSb _ | with_reducible exact hS1 | with_reducible exact hS2 _ | with_reducible exact hS5 _ _ _ _ _ _) (first | (go_at_call 86; (first | ((with_reducible refine (callee_walk hx e.f3 _ (H.out.of_ck hx (HS.out.drew)).bel).mono ?_); go_must (rintro e' w1 ⟨B2, b2, B3, b3, B4, b4, B5, b5, rfl, hN, hb⟩; rw [HD.out] at hN; have HM := Lib.hid hN; clear hN; (try rw [HD.out]); have HSC := Lib.hid (Ck.below (HS.out.drew) hb); have mkX : True := trivial; have hS1 : w1.cell? ⟨x.c, 0, none⟩ = some (.slice x.A x.l.length x.cap) ∧ w1.cell? ⟨w.heap.size, 3, none⟩ = some (.string e.f3) := pfS HSC.out; have hS2 : ∀ o, (w1.alloc o).cell? ⟨x.c, 0, none⟩ = some (.slice x.A x.l.length x.cap) ∧ (w1.alloc o).cell? ⟨w.heap.size, 3, none⟩ = some (.string e.f3) := fun o => pfS (Ck.alloc HSC.out); clear hb)) | ((with_reducible refine (callee_walk hx e.f3 _ (H.out.of_ck hx (Ck.drew (Ck.new (q := Obj.cells #[.string ⟨#[]⟩, .int .i64 0, .slice none 0 0, .slice none 0 0, .slice none 0 0, .slice none 0 0] 34) HS.out))).bel).mono ?_); go_must (rintro e' w1 ⟨B2, b2, B3, b3, B4, b4, B5, b5, rfl, hN, hb⟩; rw [HD.out] at hN; have HM := Lib.hid hN; clear hN; (try rw [HD.out]); have HSC := Lib.hid (Ck.below (HS.out.new.drew) hb); have mkX : True ∧ True := ⟨trivial, trivial⟩; have hS1 : w1.cell? ⟨x.c, 0, none⟩ = some (.slice x.A x.l.length x.cap) ∧ w1.cell? ⟨w.heap.size, 3, none⟩ = some (.string e.f3) := pfS (Ck.drop1 HSC.out); have hS2 : ∀ o, (w1.alloc o).cell? ⟨x.c, 0, none⟩ = some (.slice x.A x.l.length x.cap) ∧ (w1.alloc o).cell? ⟨w.heap.size, 3, none⟩ = some (.string e.f3) := fun o => pfS (Ck.alloc (Ck.drop1 HSC.out)); have hS5 : ∀ v0 v1 v2 v3 v4 v5 : Value, ((((((w1.setCell ⟨W.heap.size, 0, none⟩ v0).setCell ⟨W.heap.size, 1, none⟩ v1).setCell ⟨W.heap.size, 2, none⟩ v2).setCell ⟨W.heap.size, 3, none⟩ v3).setCell ⟨W.heap.size, 4, none⟩ v4).setCell ⟨W.heap.size, 5, none⟩ v5).cell? ⟨x.c, 0, none⟩ = some (.slice x.A x.l.length x.cap) ∧ ((((((w1.setCell ⟨W.heap.size, 0, none⟩ v0).setCell ⟨W.heap.size, 1, none⟩ v1).setCell ⟨W.heap.size, 2, none⟩ v2).setCell ⟨W.heap.size, 3, none⟩ v3).setCell ⟨W.heap.size, 4, none⟩ v4).setCell ⟨W.heap.size, 5, none⟩ v5).cell? ⟨w.heap.size, 3, none⟩ = some (.string e.f3) := fun v0 v1 v2 v3 v4 v5 => pfS (Ck.st6 nb9 ge9 (Ck.drop1 HSC.out) v0 v1 v2 v3 v4 v5); obtain ⟨z0, z1, z2, z3, z4, z5, zf⟩ := blk6 HSC.out.l0; have zl := blk_lt HSC.out.l0; clear hb)) | ((with_reducible refine (callee_walk hx e.f3 _ (H.out.of_ck hx (Ck.newg (g := W.heap.size) (q := Obj.cells #[.string ⟨#[]⟩, .int .i64 0, .slice none 0 0, .slice none 0 0, .slice none 0 0, .slice none 0 0] 34) rfl (Ck.drew HS.out))).bel).mono ?_); go_must (rintro e' w1 ⟨B2, b2, B3, b3, B4, b4, B5, b5, rfl, hN, hb⟩; rw [HD.out] at hN; have HM := Lib.hid hN; clear hN; (try rw [HD.out]); have HSC := Lib.hid (Ck.below (Ck.newg (g := W.heap.size) rfl (Ck.drew HS.out)) hb); have mkX : True ∧ True := ⟨trivial, trivial⟩; have hS1 : w1.cell? ⟨x.c, 0, none⟩ = some (.slice x.A x.l.length x.cap) ∧ w1.cell? ⟨w.heap.size, 3, none⟩ = some (.string e.f3) := pfS (Ck.drop1 HSC.out); have hS2 : ∀ o, (w1.alloc o).cell? ⟨x.c, 0, none⟩ = some (.slice x.A x.l.length x.cap) ∧ (w1.alloc o).cell? ⟨w.heap.size, 3, none⟩ = some (.string e.f3) := fun o => pfS (Ck.alloc (Ck.drop1 HSC.out)); have hS5 : ∀ v0 v1 v2 v3 v4 v5 : Value, ((((((w1.setCell ⟨W.heap.size, 0, none⟩ v0).setCell ⟨W.heap.size, 1, none⟩ v1).setCell ⟨W.heap.size, 2, none⟩ v2).setCell ⟨W.heap.size, 3, none⟩ v3).setCell ⟨W.heap.size, 4, none⟩ v4).setCell ⟨W.heap.size, 5, none⟩ v5).cell? ⟨x.c, 0, none⟩ = some (.slice x.A x.l.length x.cap) ∧ ((((((w1.setCell ⟨W.heap.size, 0, none⟩ v0).setCell ⟨W.heap.size, 1, none⟩ v1).setCell ⟨W.heap.size, 2, none⟩ v2).setCell ⟨W.heap.size, 3, none⟩ v3).setCell ⟨W.heap.size, 4, none⟩ v4).setCell ⟨W.heap.size, 5, none⟩ v5).cell? ⟨w.heap.size, 3, none⟩ = some (.string e.f3) := fun v0 v1 v2 v3 v4 v5 => pfS (Ck.st6 nb9 ge9 (Ck.drop1 HSC.out) v0 v1 v2 v3 v4 v5); obtain ⟨z0, z1, z2, z3, z4, z5, zf⟩ := blk6 HSC.out.l0; have zl := blk_lt HSC.out.l0; clear hb)))))
    all_goals
      go_wp2_with (fail)
      go_meet
      case rel =>
        first
        | (have _tk : True ∧ True := mkX
           refine ⟨W.heap.size, _, _, _, _, _, _, _, _, rfl, Lib.hid ?_, HM⟩
           exact (Ck.set6 HSC.out nb9 _ _ _ _ _ _))
        | (have _tk : True := mkX
           refine ⟨w1.heap.size, _, _, _, _, _, _, _, _, rfl, Lib.hid ?_, HM⟩
           exact (Ck.new HSC.out))
  case rest =>
    obtain ⟨gm, B2, b2, B3, b3, B4, b4, B5, b5, rfl, HS', HM⟩ := hcut
    clear HS hS0 hSa hSb pfS ge9 nb9
    have HS := HS'
    clear HS'
    obtain ⟨m0, m1, m2, m3, m4, m5, mf⟩ := blk6 HS.out.l0
    have ml := blk_lt HS.out.l0
    obtain ⟨e0, e1, e2, e3, e4, e5, ef⟩ := blk6 HS.out.l1
    have el := blk_lt HS.out.l1
    have hR := HR.out
    clear HR
    have HL := Lib.hid (show insL of x.n (m.f2.drop 0) (e.f5.drop 0) f = some r from hR)
    clear hR
    go_wp2_with (fail)
    go_loopg [24] (m.f2.length + 1) (fun m9 u wr => ∃ (i : Nat) (f' : F), u = .int .i64 (i : Int) ∧ i ≤ m.f2.length ∧ m9 = m.f2.length + 1 - i ∧ Hid (Ck x.c w wr (x.obj f') [(gm, ndO m B2 b2 B3 b3 B4 b4 B5 b5), (w.heap.size, exO e A c)]) ∧ Hid (insL of x.n (m.f2.drop i) (e.f5.drop i) f' = some r))
    case atStart => exact ⟨0, _, rfl, by omega, by simp, HS, HL⟩
    case round =>
      obtain ⟨i, f', rfl, hi, rfl, HS', HL'⟩ := hrel
      clear HS HL
      have HS := HS'
      have HL := HL'
      clear HS' HL'
      obtain ⟨m0, m1, m2, m3, m4, m5, mf⟩ := blk6 HS.out.l0
      have ml := blk_lt HS.out.l0
      obtain ⟨e0, e1, e2, e3, e4, e5, ef⟩ := blk6 HS.out.l1
      have el := blk_lt HS.out.l1
      rcases Nat.lt_or_ge i m.f2.length with hlt | hge
      · obtain ⟨d, hdk, hdd⟩ := drop_at hlt
        have hL := HL.out
        rw [hdd] at hL
        have hle : i < e.f5.length := by
          rcases Nat.lt_or_ge i e.f5.length with h9 | h9
          · exact h9
          · rw [List.drop_eq_nil_of_le h9] at hL
            cases hL
        obtain ⟨k, hk, hd⟩ := drop_at hle
        rw [hd] at hL
        obtain ⟨f4, hw, hL⟩ := Option.bind_eq_some_iff.1 hL
        obtain ⟨ad, A', c', hA, x0, x1, x2, x3, x4, x5, hE⟩ := kid_at HE.out i k hk
        subst hA
        obtain ⟨ad2, hA2, y0, y1, y2, y3, y4, y5⟩ := dec_at HM.out.h2 i d hdk
        subst hA2
        have hb := (H.out.of_ck hx HS.out).bel
        replace x0 := pw_cell_below hb x0
        replace x1 := pw_cell_below hb x1
        replace x2 := pw_cell_below hb x2
        replace x3 := pw_cell_below hb x3
        replace x4 := pw_cell_below hb x4
        replace x5 := pw_cell_below hb x5
        replace y0 := pw_cell_below hb y0
        replace y1 := pw_cell_below hb y1
        replace y2 := pw_cell_below hb y2
        replace y3 := pw_cell_below hb y3
        replace y4 := pw_cell_below hb y4
        replace y5 := pw_cell_below hb y5
        have xl := World.block_lt_of_cell? _ _ x0
        have xn : ¬ ((ad.add (i * 6)).block = wr.heap.size) := by omega
        have xn1 : ¬ ((ad.add (i * 6)).block = wr.heap.size + 1) := by omega
        have HW := Lib.hid (And.intro hw hE)
        have HL2 := Lib.hid hL
        have i0 : ((i : Int) < (m.f2.length : Int)) = True := eq_true (by omega)
        have i1 : decide ((i : Int) < (m.f2.length : Int)) = true := decide_eq_true (by omega)
        have i2 : (0 ≤ (i : Int)) = True := eq_true (by omega)
        have i3 : ((i : Int) < (e.f5.length : Int)) = True := eq_true (by omega)
        clear hw hE hL hd hk hb hdk hdd
        obtain ⟨d0, d1, ⟨d2, d3⟩, d4, d5⟩ := d
        cases d3 with
        | false =>
          go_wp2_with (fail)
          have HT := Lib.hid (HS.out.two (dcO ⟨d0, d1, ⟨d2, false⟩, d4, d5⟩) (exO k A' c'))
          refine (want_walk hx hof k A' c' d2 f' f4 _ HW.out.2 (H.out.of_ck hx HT.out) HW.out.1).mono ?_
          rintro e' w9 ⟨rfl, hD⟩
          have HS2 := Lib.hid (Ck.does HT.out hD).drop1.drop1
          have hw9 : wrap64 ((i : Int) + 1) = ((i + 1 : Nat) : Int) := by have h9 := HM.out.h2.2.1; unfold maxLen at h9; unfold wrap64; omega
          clear hD
          go_wp2_with (fail)
          go_roundg (m.f2.length + 1 - (i + 1))
          case measure => omega
          case rel => exact ⟨i + 1, f4, (by first | rfl | rw [hw9]), by omega, rfl, HS2, HL2⟩
        | true =>
          go_wp2_with (fail)
          obtain ⟨y, hy⟩ : ∃ y, namedD x.n k.f3 = y := ⟨_, rfl⟩
          obtain ⟨B, hB⟩ : ∃ B, (named x.n k.f3).isSome = B := ⟨_, rfl⟩
          have HD2 := Lib.hid (And.intro hy hB)
          have HT := Lib.hid (HS.out.two (dcO ⟨d0, d1, ⟨d2, true⟩, d4, d5⟩) (exO k A' c'))
          generalize hV : (wr.alloc _).alloc _ = V2
          rw [hV] at HT
          clear hV hy hB m0 m1 m2 m3 m4 m5 mf e0 e1 e2 e3 e4 e5 ef x0 x1 x2 x3 x4 x5 y0 y1 y2 y3 y4 y5
          have pfS : ∀ {V : World}, Ck x.c w V (x.obj f') [(wr.heap.size + 1, exO k A' c'), (wr.heap.size, dcO ⟨d0, d1, ⟨d2, true⟩, d4, d5⟩), (gm, ndO m (some ad2) b2 B3 b3 B4 b4 B5 b5), (w.heap.size, exO e (some ad) c)] → V.cell? ⟨x.c, 1, none⟩ = some (.string x.n.f0) ∧ V.cell? ⟨x.c, 2, none⟩ = some (.int .i64 x.n.f1) ∧ V.cell? ⟨x.c, 3, none⟩ = some (.slice x.A2 x.n.f2.length x.c2) ∧ V.cell? ⟨x.c, 4, none⟩ = some (.slice x.A3 x.n.f3.length x.c3) ∧ V.cell? ⟨x.c, 5, none⟩ = some (.slice x.A4 x.n.f4.length x.c4) ∧ V.cell? ⟨x.c, 6, none⟩ = some (.slice x.A5 x.n.f5.length x.c5) ∧ V.cell? ⟨wr.heap.size + 1, 3, none⟩ = some (.string k.f3) := fun {V} h => ⟨blk_cell h.blk 1, blk_cell h.blk 2, blk_cell h.blk 3, blk_cell h.blk 4, blk_cell h.blk 5, blk_cell h.blk 6, blk_cell h.l0 3⟩
          have hS0 : (V2.drew).cell? ⟨x.c, 1, none⟩ = some (.string x.n.f0) ∧ (V2.drew).cell? ⟨x.c, 2, none⟩ = some (.int .i64 x.n.f1) ∧ (V2.drew).cell? ⟨x.c, 3, none⟩ = some (.slice x.A2 x.n.f2.length x.c2) ∧ (V2.drew).cell? ⟨x.c, 4, none⟩ = some (.slice x.A3 x.n.f3.length x.c3) ∧ (V2.drew).cell? ⟨x.c, 5, none⟩ = some (.slice x.A4 x.n.f4.length x.c4) ∧ (V2.drew).cell? ⟨x.c, 6, none⟩ = some (.slice x.A5 x.n.f5.length x.c5) ∧ (V2.drew).cell? ⟨wr.heap.size + 1, 3, none⟩ = some (.string k.f3) := pfS HT.out.drew
          have hSa : ∀ o, ((V2.drew).alloc o).cell? ⟨x.c, 1, none⟩ = some (.string x.n.f0) ∧ ((V2.drew).alloc o).cell? ⟨x.c, 2, none⟩ = some (.int .i64 x.n.f1) ∧ ((V2.drew).alloc o).cell? ⟨x.c, 3, none⟩ = some (.slice x.A2 x.n.f2.length x.c2) ∧ ((V2.drew).alloc o).cell? ⟨x.c, 4, none⟩ = some (.slice x.A3 x.n.f3.length x.c3) ∧ ((V2.drew).alloc o).cell? ⟨x.c, 5, none⟩ = some (.slice x.A4 x.n.f4.length x.c4) ∧ ((V2.drew).alloc o).cell? ⟨x.c, 6, none⟩ = some (.slice x.A5 x.n.f5.length x.c5) ∧ ((V2.drew).alloc o).cell? ⟨wr.heap.size + 1, 3, none⟩ = some (.string k.f3) := fun o => pfS (Ck.alloc HT.out.drew)
          have hSb : ∀ o, ((V2.alloc o).drew).cell? ⟨x.c, 1, none⟩ = some (.string x.n.f0) ∧ ((V2.alloc o).drew).cell? ⟨x.c, 2, none⟩ = some (.int .i64 x.n.f1) ∧ ((V2.alloc o).drew).cell? ⟨x.c, 3, none⟩ = some (.slice x.A2 x.n.f2.length x.c2) ∧ ((V2.alloc o).drew).cell? ⟨x.c, 4, none⟩ = some (.slice x.A3 x.n.f3.length x.c3) ∧ ((V2.alloc o).drew).cell? ⟨x.c, 5, none⟩ = some (.slice x.A4 x.n.f4.length x.c4) ∧ ((V2.alloc o).drew).cell? ⟨x.c, 6, none⟩ = some (.slice x.A5 x.n.f5.length x.c5) ∧ ((V2.alloc o).drew).cell? ⟨wr.heap.size + 1, 3, none⟩ = some (.string k.f3) := fun o => pfS (Ck.drew (Ck.alloc HT.out))
          have ge9 : w.heap.size ≤ V2.heap.size := HT.out.sz
          have nb9 : ∀ y ∈ ([(wr.heap.size + 1, exO k A' c'), (wr.heap.size, dcO ⟨d0, d1, ⟨d2, true⟩, d4, d5⟩), (gm, ndO m (some ad2) b2 B3 b3 B4 b4 B5 b5), (w.heap.size, exO e (some ad) c)] : List (Nat × Obj)), y.1 ≠ V2.heap.size := fun y hy => Nat.ne_of_lt (blk_lt (HT.out.loc y hy).2)
          go_cut [9, 10] (fun u v wc => ∃ gx, u = .pointer (some ⟨gx, 0, none⟩) ∧ v = .bool B ∧ Hid (Ck x.c w wc (x.obj f') ((gx, dcO y) :: [(wr.heap.size + 1, exO k A' c'), (wr.heap.size, dcO ⟨d0, d1, ⟨d2, true⟩, d4, d5⟩), (gm, ndO m (some ad2) b2 B3 b3 B4 b4 B5 b5), (w.heap.size, exO e (some ad) c)])))
          case first =>
            go_region_held2 (fun w' => w'.cell? ⟨x.c, 1, none⟩ = some (.string x.n.f0) ∧ w'.cell? ⟨x.c, 2, none⟩ = some (.int .i64 x.n.f1) ∧ w'.cell? ⟨x.c, 3, none⟩ = some (.slice x.A2 x.n.f2.length x.c2) ∧ w'.cell? ⟨x.c, 4, none⟩ = some (.slice x.A3 x.n.f3.length x.c3) ∧ w'.cell? ⟨x.c, 5, none⟩ = some (.slice x.A4 x.n.f4.length x.c4) ∧ w'.cell? ⟨x.c, 6, none⟩ = some (.slice x.A5 x.n.f5.length x.c5) ∧ w'.cell? ⟨wr.heap.size + 1, 3, none⟩ = some (.string k.f3)) (first | with_reducible exact hS0 | with_reducible exact hSa _ | with_reducible exact hSb _ | with_reducible exact hS1 | with_reducible exact hS2 _ | with_reducible exact hS5 _ _ _ _ _ _) (first | (go_at_call 93; (first | ((with_reducible refine (named_walk hx k.f3 _ (H.out.of_ck hx (HT.out.drew)).bel).mono ?_); go_must (rintro e' w8 ⟨rfl, hb⟩; (try rw [HD2.out.1, HD2.out.2]); have HTC := Lib.hid (Ck.below (HT.out.drew) hb); have mkX : True := trivial; have hS1 : w8.cell? ⟨x.c, 1, none⟩ = some (.string x.n.f0) ∧ w8.cell? ⟨x.c, 2, none⟩ = some (.int .i64 x.n.f1) ∧ w8.cell? ⟨x.c, 3, none⟩ = some (.slice x.A2 x.n.f2.length x.c2) ∧ w8.cell? ⟨x.c, 4, none⟩ = some (.slice x.A3 x.n.f3.length x.c3) ∧ w8.cell? ⟨x.c, 5, none⟩ = some (.slice x.A4 x.n.f4.length x.c4) ∧ w8.cell? ⟨x.c, 6, none⟩ = some (.slice x.A5 x.n.f5.length x.c5) ∧ w8.cell? ⟨wr.heap.size + 1, 3, none⟩ = some (.string k.f3) := pfS HTC.out; have hS2 : ∀ o, (w8.alloc o).cell? ⟨x.c, 1, none⟩ = some (.string x.n.f0) ∧ (w8.alloc o).cell? ⟨x.c, 2, none⟩ = some (.int .i64 x.n.f1) ∧ (w8.alloc o).cell? ⟨x.c, 3, none⟩ = some (.slice x.A2 x.n.f2.length x.c2) ∧ (w8.alloc o).cell? ⟨x.c, 4, none⟩ = some (.slice x.A3 x.n.f3.length x.c3) ∧ (w8.alloc o).cell? ⟨x.c, 5, none⟩ = some (.slice x.A4 x.n.f4.length x.c4) ∧ (w8.alloc o).cell? ⟨x.c, 6, none⟩ = some (.slice x.A5 x.n.f5.length x.c5) ∧ (w8.alloc o).cell? ⟨wr.heap.size + 1, 3, none⟩ = some (.string k.f3) := fun o => pfS (Ck.alloc HTC.out); clear hb)) | ((with_reducible refine (named_walk hx k.f3 _ (H.out.of_ck hx (Ck.drew (Ck.new (q := Obj.cells #[.string ⟨#[]⟩, .int .i64 0, .bool false, .bool false, .string ⟨#[]⟩, .bool false] 39) HT.out))).bel).mono ?_); go_must (rintro e' w8 ⟨rfl, hb⟩; (try rw [HD2.out.1, HD2.out.2]); have HTC := Lib.hid (Ck.below (HT.out.new.drew) hb); have mkX : True ∧ True := ⟨trivial, trivial⟩; have hS1 : w8.cell? ⟨x.c, 1, none⟩ = some (.string x.n.f0) ∧ w8.cell? ⟨x.c, 2, none⟩ = some (.int .i64 x.n.f1) ∧ w8.cell? ⟨x.c, 3, none⟩ = some (.slice x.A2 x.n.f2.length x.c2) ∧ w8.cell? ⟨x.c, 4, none⟩ = some (.slice x.A3 x.n.f3.length x.c3) ∧ w8.cell? ⟨x.c, 5, none⟩ = some (.slice x.A4 x.n.f4.length x.c4) ∧ w8.cell? ⟨x.c, 6, none⟩ = some (.slice x.A5 x.n.f5.length x.c5) ∧ w8.cell? ⟨wr.heap.size + 1, 3, none⟩ = some (.string k.f3) := pfS (Ck.drop1 HTC.out); have hS2 : ∀ o, (w8.alloc o).cell? ⟨x.c, 1, none⟩ = some (.string x.n.f0) ∧ (w8.alloc o).cell? ⟨x.c, 2, none⟩ = some (.int .i64 x.n.f1) ∧ (w8.alloc o).cell? ⟨x.c, 3, none⟩ = some (.slice x.A2 x.n.f2.length x.c2) ∧ (w8.alloc o).cell? ⟨x.c, 4, none⟩ = some (.slice x.A3 x.n.f3.length x.c3) ∧ (w8.alloc o).cell? ⟨x.c, 5, none⟩ = some (.slice x.A4 x.n.f4.length x.c4) ∧ (w8.alloc o).cell? ⟨x.c, 6, none⟩ = some (.slice x.A5 x.n.f5.length x.c5) ∧ (w8.alloc o).cell? ⟨wr.heap.size + 1, 3, none⟩ = some (.string k.f3) := fun o => pfS (Ck.alloc (Ck.drop1 HTC.out)); have hS5 : ∀ v0 v1 v2 v3 v4 v5 : Value, ((((((w8.setCell ⟨V2.heap.size, 0, none⟩ v0).setCell ⟨V2.heap.size, 1, none⟩ v1).setCell ⟨V2.heap.size, 2, none⟩ v2).setCell ⟨V2.heap.size, 3, none⟩ v3).setCell ⟨V2.heap.size, 4, none⟩ v4).setCell ⟨V2.heap.size, 5, none⟩ v5).cell? ⟨x.c, 1, none⟩ = some (.string x.n.f0) ∧ ((((((w8.setCell ⟨V2.heap.size, 0, none⟩ v0).setCell ⟨V2.heap.size, 1, none⟩ v1).setCell ⟨V2.heap.size, 2, none⟩ v2).setCell ⟨V2.heap.size, 3, none⟩ v3).setCell ⟨V2.heap.size, 4, none⟩ v4).setCell ⟨V2.heap.size, 5, none⟩ v5).cell? ⟨x.c, 2, none⟩ = some (.int .i64 x.n.f1) ∧ ((((((w8.setCell ⟨V2.heap.size, 0, none⟩ v0).setCell ⟨V2.heap.size, 1, none⟩ v1).setCell ⟨V2.heap.size, 2, none⟩ v2).setCell ⟨V2.heap.size, 3, none⟩ v3).setCell ⟨V2.heap.size, 4, none⟩ v4).setCell ⟨V2.heap.size, 5, none⟩ v5).cell? ⟨x.c, 3, none⟩ = some (.slice x.A2 x.n.f2.length x.c2) ∧ ((((((w8.setCell ⟨V2.heap.size, 0, none⟩ v0).setCell ⟨V2.heap.size, 1, none⟩ v1).setCell ⟨V2.heap.size, 2, none⟩ v2).setCell ⟨V2.heap.size, 3, none⟩ v3).setCell ⟨V2.heap.size, 4, none⟩ v4).setCell ⟨V2.heap.size, 5, none⟩ v5).cell? ⟨x.c, 4, none⟩ = some (.slice x.A3 x.n.f3.length x.c3) ∧ ((((((w8.setCell ⟨V2.heap.size, 0, none⟩ v0).setCell ⟨V2.heap.size, 1, none⟩ v1).setCell ⟨V2.heap.size, 2, none⟩ v2).setCell ⟨V2.heap.size, 3, none⟩ v3).setCell ⟨V2.heap.size, 4, none⟩ v4).setCell ⟨V2.heap.size, 5, none⟩ v5).cell? ⟨x.c, 5, none⟩ = some (.slice x.A4 x.n.f4.length x.c4) ∧ ((((((w8.setCell ⟨V2.heap.size, 0, none⟩ v0).setCell ⟨V2.heap.size, 1, none⟩ v1).setCell ⟨V2.heap.size, 2, none⟩ v2).setCell ⟨V2.heap.size, 3, none⟩ v3).setCell ⟨V2.heap.size, 4, none⟩ v4).setCell ⟨V2.heap.size, 5, none⟩ v5).cell? ⟨x.c, 6, none⟩ = some (.slice x.A5 x.n.f5.length x.c5) ∧ ((((((w8.setCell ⟨V2.heap.size, 0, none⟩ v0).setCell ⟨V2.heap.size, 1, none⟩ v1).setCell ⟨V2.heap.size, 2, none⟩ v2).setCell ⟨V2.heap.size, 3, none⟩ v3).setCell ⟨V2.heap.size, 4, none⟩ v4).setCell ⟨V2.heap.size, 5, none⟩ v5).cell? ⟨wr.heap.size + 1, 3, none⟩ = some (.string k.f3) := fun v0 v1 v2 v3 v4 v5 => pfS (Ck.st6 nb9 ge9 (Ck.drop1 HTC.out) v0 v1 v2 v3 v4 v5); obtain ⟨z0, z1, z2, z3, z4, z5, zf⟩ := blk6 HTC.out.l0; have zl := blk_lt HTC.out.l0; clear hb)) | ((with_reducible refine (named_walk hx k.f3 _ (H.out.of_ck hx (Ck.newg (g := V2.heap.size) (q := Obj.cells #[.string ⟨#[]⟩, .int .i64 0, .bool false, .bool false, .string ⟨#[]⟩, .bool false] 39) rfl (Ck.drew HT.out))).bel).mono ?_); go_must (rintro e' w8 ⟨rfl, hb⟩; (try rw [HD2.out.1, HD2.out.2]); have HTC := Lib.hid (Ck.below (Ck.newg (g := V2.heap.size) rfl (Ck.drew HT.out)) hb); have mkX : True ∧ True := ⟨trivial, trivial⟩; have hS1 : w8.cell? ⟨x.c, 1, none⟩ = some (.string x.n.f0) ∧ w8.cell? ⟨x.c, 2, none⟩ = some (.int .i64 x.n.f1) ∧ w8.cell? ⟨x.c, 3, none⟩ = some (.slice x.A2 x.n.f2.length x.c2) ∧ w8.cell? ⟨x.c, 4, none⟩ = some (.slice x.A3 x.n.f3.length x.c3) ∧ w8.cell? ⟨x.c, 5, none⟩ = some (.slice x.A4 x.n.f4.length x.c4) ∧ w8.cell? ⟨x.c, 6, none⟩ = some (.slice x.A5 x.n.f5.length x.c5) ∧ w8.cell? ⟨wr.heap.size + 1, 3, none⟩ = some (.string k.f3) := pfS (Ck.drop1 HTC.out); have hS2 : ∀ o, (w8.alloc o).cell? ⟨x.c, 1, none⟩ = some (.string x.n.f0) ∧ (w8.alloc o).cell? ⟨x.c, 2, none⟩ = some (.int .i64 x.n.f1) ∧ (w8.alloc o).cell? ⟨x.c, 3, none⟩ = some (.slice x.A2 x.n.f2.length x.c2) ∧ (w8.alloc o).cell? ⟨x.c, 4, none⟩ = some (.slice x.A3 x.n.f3.length x.c3) ∧ (w8.alloc o).cell? ⟨x.c, 5, none⟩ = some (.slice x.A4 x.n.f4.length x.c4) ∧ (w8.alloc o).cell? ⟨x.c, 6, none⟩ = some (.slice x.A5 x.n.f5.length x.c5) ∧ (w8.alloc o).cell? ⟨wr.heap.size + 1, 3, none⟩ = some (.string k.f3) := fun o => pfS (Ck.alloc (Ck.drop1 HTC.out)); have hS5 : ∀ v0 v1 v2 v3 v4 v5 : Value, ((((((w8.setCell ⟨V2.heap.size, 0, none⟩ v0).setCell ⟨V2.heap.size, 1, none⟩ v1).setCell ⟨V2.heap.size, 2, none⟩ v2).setCell ⟨V2.heap.size, 3, none⟩ v3).setCell ⟨V2.heap.size, 4, none⟩ v4).setCell ⟨V2.heap.size, 5, none⟩ v5).cell? ⟨x.c, 1, none⟩ = some (.string x.n.f0) ∧ ((((((w8.setCell ⟨V2.heap.size, 0, none⟩ v0).setCell ⟨V2.heap.size, 1, none⟩ v1).setCell ⟨V2.heap.size, 2, none⟩ v2).setCell ⟨V2.heap.size, 3, none⟩ v3).setCell ⟨V2.heap.size, 4, none⟩ v4).setCell ⟨V2.heap.size, 5, none⟩ v5).cell? ⟨x.c, 2, none⟩ = some (.int .i64 x.n.f1) ∧ ((((((w8.setCell ⟨V2.heap.size, 0, none⟩ v0).setCell ⟨V2.heap.size, 1, none⟩ v1).setCell ⟨V2.heap.size, 2, none⟩ v2).setCell ⟨V2.heap.size, 3, none⟩ v3).setCell ⟨V2.heap.size, 4, none⟩ v4).setCell ⟨V2.heap.size, 5, none⟩ v5).cell? ⟨x.c, 3, none⟩ = some (.slice x.A2 x.n.f2.length x.c2) ∧ ((((((w8.setCell ⟨V2.heap.size, 0, none⟩ v0).setCell ⟨V2.heap.size, 1, none⟩ v1).setCell ⟨V2.heap.size, 2, none⟩ v2).setCell ⟨V2.heap.size, 3, none⟩ v3).setCell ⟨V2.heap.size, 4, none⟩ v4).setCell ⟨V2.heap.size, 5, none⟩ v5).cell? ⟨x.c, 4, none⟩ = some (.slice x.A3 x.n.f3.length x.c3) ∧ ((((((w8.setCell ⟨V2.heap.size, 0, none⟩ v0).setCell ⟨V2.heap.size, 1, none⟩ v1).setCell ⟨V2.heap.size, 2, none⟩ v2).setCell ⟨V2.heap.size, 3, none⟩ v3).setCell ⟨V2.heap.size, 4, none⟩ v4).setCell ⟨V2.heap.size, 5, none⟩ v5).cell? ⟨x.c, 5, none⟩ = some (.slice x.A4 x.n.f4.length x.c4) ∧ ((((((w8.setCell ⟨V2.heap.size, 0, none⟩ v0).setCell ⟨V2.heap.size, 1, none⟩ v1).setCell ⟨V2.heap.size, 2, none⟩ v2).setCell ⟨V2.heap.size, 3, none⟩ v3).setCell ⟨V2.heap.size, 4, none⟩ v4).setCell ⟨V2.heap.size, 5, none⟩ v5).cell? ⟨x.c, 6, none⟩ = some (.slice x.A5 x.n.f5.length x.c5) ∧ ((((((w8.setCell ⟨V2.heap.size, 0, none⟩ v0).setCell ⟨V2.heap.size, 1, none⟩ v1).setCell ⟨V2.heap.size, 2, none⟩ v2).setCell ⟨V2.heap.size, 3, none⟩ v3).setCell ⟨V2.heap.size, 4, none⟩ v4).setCell ⟨V2.heap.size, 5, none⟩ v5).cell? ⟨wr.heap.size + 1, 3, none⟩ = some (.string k.f3) := fun v0 v1 v2 v3 v4 v5 => pfS (Ck.st6 nb9 ge9 (Ck.drop1 HTC.out) v0 v1 v2 v3 v4 v5); obtain ⟨z0, z1, z2, z3, z4, z5, zf⟩ := blk6 HTC.out.l0; have zl := blk_lt HTC.out.l0; clear hb)))))
            all_goals
              go_wp2_with (fail)
              go_meet
              case rel =>
                first
                | (have _tk : True ∧ True := mkX
                   refine ⟨V2.heap.size, rfl, rfl, Lib.hid ?_⟩
                   exact (Ck.set6 HTC.out nb9 _ _ _ _ _ _))
                | (have _tk : True := mkX
                   refine ⟨w8.heap.size, rfl, rfl, Lib.hid ?_⟩
                   exact (Ck.new HTC.out))
          case rest =>
            obtain ⟨gx, rfl, rfl, HS'⟩ := hcut
            clear HT hS0 hSa hSb pfS ge9 nb9
            have HT := HS'
            clear HS'
            obtain ⟨y0, y1, ⟨y2, y3⟩, y4, y5⟩ := y
            have hG : Hid ((if k.f0 = 3 ∧ B = true ∧ y2 = d2 ∧ y3 = true then f' else bad k.f1 7 f') = f4) := by
              have h1 := HW.out.1
              obtain ⟨h2, h3⟩ := HD2.out
              unfold inOne at h1
              unfold namedD at h2
              rw [if_pos rfl] at h1
              have h1 := Option.some.inj h1
              refine Lib.hid ?_
              rw [← h1]
              clear h1
              cases hn : named x.n k.f3 with
              | none =>
                rw [hn] at h3
                obtain rfl : false = B := h3
                simp
              | some z =>
                rw [hn] at h2 h3
                obtain rfl : true = B := h3
                have e2 : z = _ := h2
                subst e2
                by_cases h4 : k.f0 = 3 <;> cases y2 <;> cases y3 <;> cases d2 <;> simp [h4]
            obtain ⟨xx0, xx1, xx2, xx3, xx4, xx5, xxf⟩ := blk6 HT.out.l0
            have xxl := blk_lt HT.out.l0
            obtain ⟨kk0, kk1, kk2, kk3, kk4, kk5, kkf⟩ := blk6 HT.out.l1
            have kkl := blk_lt HT.out.l1
            obtain ⟨dd0, dd1, dd2, dd3, dd4, dd5, ddf⟩ := blk6 HT.out.l2
            have ddl := blk_lt HT.out.l2
            obtain ⟨mm0, mm1, mm2, mm3, mm4, mm5, mmf⟩ := blk6 HT.out.l3
            have mml := blk_lt HT.out.l3
            obtain ⟨ee0, ee1, ee2, ee3, ee4, ee5, eef⟩ := blk6 HT.out.drop1.l3
            have eel := blk_lt HT.out.drop1.l3
            rcases Classical.em (k.f0 = 3) with h3 | h3
            · cases B with
              | false =>
                have i4 : (k.f0 = 3) = True := eq_true h3
                have i5 : decide (k.f0 = 3) = true := decide_eq_true h3
                have hF := hG.out
                rw [if_neg (by rintro ⟨_, h9, _⟩; cases h9)] at hF
                subst hF
                clear hG HW
                go_wp2_with (fail)
                refine (bad_walk hx k.f1 7 f' _ (H.out.of_ck hx HT.out)).mono ?_
                rintro e' w9 ⟨rfl, hD⟩
                have HS2 := Lib.hid (Ck.does HT.out hD).drop1.drop1.drop1
                clear hD
                have hw9 : wrap64 ((i : Int) + 1) = ((i + 1 : Nat) : Int) := by have h9 := HM.out.h2.2.1; unfold maxLen at h9; unfold wrap64; omega
                go_wp2_with (fail)
                go_roundg (m.f2.length + 1 - (i + 1))
                case measure => exact ms9 hlt
                case rel => exact ⟨i + 1, _, (by first | rw [hw9] | rfl), hlt, rfl, HS2, HL2⟩
              | true =>
                cases y2 with
                | false =>
                  cases y3 with
                  | false =>
                    cases d2 with
                    | false =>
                      have i4 : (k.f0 = 3) = True := eq_true h3
                      have i5 : decide (k.f0 = 3) = true := decide_eq_true h3
                      have hF := hG.out
                      rw [if_neg (by rintro ⟨_, _, h9, h8⟩; first | cases h9; done | cases h8; done)] at hF
                      subst hF
                      clear hG HW
                      go_wp2_with (fail)
                      refine (bad_walk hx k.f1 7 f' _ (H.out.of_ck hx HT.out)).mono ?_
                      rintro e' w9 ⟨rfl, hD⟩
                      have HS2 := Lib.hid (Ck.does HT.out hD).drop1.drop1.drop1
                      clear hD
                      have hw9 : wrap64 ((i : Int) + 1) = ((i + 1 : Nat) : Int) := by have h9 := HM.out.h2.2.1; unfold maxLen at h9; unfold wrap64; omega
                      go_wp2_with (fail)
                      go_roundg (m.f2.length + 1 - (i + 1))
                      case measure => exact ms9 hlt
                      case rel => exact ⟨i + 1, _, (by first | rw [hw9] | rfl), hlt, rfl, HS2, HL2⟩
                    | true =>
                      have i4 : (k.f0 = 3) = True := eq_true h3
                      have i5 : decide (k.f0 = 3) = true := decide_eq_true h3
                      have hF := hG.out
                      rw [if_neg (by rintro ⟨_, _, h9, h8⟩; first | cases h9; done | cases h8; done)] at hF
                      subst hF
                      clear hG HW
                      go_wp2_with (fail)
                      refine (bad_walk hx k.f1 7 f' _ (H.out.of_ck hx HT.out)).mono ?_
                      rintro e' w9 ⟨rfl, hD⟩
                      have HS2 := Lib.hid (Ck.does HT.out hD).drop1.drop1.drop1
                      clear hD
                      have hw9 : wrap64 ((i : Int) + 1) = ((i + 1 : Nat) : Int) := by have h9 := HM.out.h2.2.1; unfold maxLen at h9; unfold wrap64; omega
                      go_wp2_with (fail)
                      go_roundg (m.f2.length + 1 - (i + 1))
                      case measure => exact ms9 hlt
                      case rel => exact ⟨i + 1, _, (by first | rw [hw9] | rfl), hlt, rfl, HS2, HL2⟩
                  | true =>
                    cases d2 with
                    | false =>
                      have i4 : (k.f0 = 3) = True := eq_true h3
                      have i5 : decide (k.f0 = 3) = true := decide_eq_true h3
                      have hF := hG.out
                      rw [if_pos ⟨h3, rfl, rfl, rfl⟩] at hF
                      subst hF
                      clear hG HW
                      have HS2 := Lib.hid HT.out.drop1.drop1.drop1
                      have hw9 : wrap64 ((i : Int) + 1) = ((i + 1 : Nat) : Int) := by have h9 := HM.out.h2.2.1; unfold maxLen at h9; unfold wrap64; omega
                      go_wp2_with (fail)
                      go_roundg (m.f2.length + 1 - (i + 1))
                      case measure => exact ms9 hlt
                      case rel => exact ⟨i + 1, _, (by first | rw [hw9] | rfl), hlt, rfl, HS2, HL2⟩
                    | true =>
                      have i4 : (k.f0 = 3) = True := eq_true h3
                      have i5 : decide (k.f0 = 3) = true := decide_eq_true h3
                      have hF := hG.out
                      rw [if_neg (by rintro ⟨_, _, h9, h8⟩; first | cases h9; done | cases h8; done)] at hF
                      subst hF
                      clear hG HW
                      go_wp2_with (fail)
                      refine (bad_walk hx k.f1 7 f' _ (H.out.of_ck hx HT.out)).mono ?_
                      rintro e' w9 ⟨rfl, hD⟩
                      have HS2 := Lib.hid (Ck.does HT.out hD).drop1.drop1.drop1
                      clear hD
                      have hw9 : wrap64 ((i : Int) + 1) = ((i + 1 : Nat) : Int) := by have h9 := HM.out.h2.2.1; unfold maxLen at h9; unfold wrap64; omega
                      go_wp2_with (fail)
                      go_roundg (m.f2.length + 1 - (i + 1))
                      case measure => exact ms9 hlt
                      case rel => exact ⟨i + 1, _, (by first | rw [hw9] | rfl), hlt, rfl, HS2, HL2⟩
                | true =>
                  cases y3 with
                  | false =>
                    cases d2 with
                    | false =>
                      have i4 : (k.f0 = 3) = True := eq_true h3
                      have i5 : decide (k.f0 = 3) = true := decide_eq_true h3
                      have hF := hG.out
                      rw [if_neg (by rintro ⟨_, _, h9, h8⟩; first | cases h9; done | cases h8; done)] at hF
                      subst hF
                      clear hG HW
                      go_wp2_with (fail)
                      refine (bad_walk hx k.f1 7 f' _ (H.out.of_ck hx HT.out)).mono ?_
                      rintro e' w9 ⟨rfl, hD⟩
                      have HS2 := Lib.hid (Ck.does HT.out hD).drop1.drop1.drop1
                      clear hD
                      have hw9 : wrap64 ((i : Int) + 1) = ((i + 1 : Nat) : Int) := by have h9 := HM.out.h2.2.1; unfold maxLen at h9; unfold wrap64; omega
                      go_wp2_with (fail)
                      go_roundg (m.f2.length + 1 - (i + 1))
                      case measure => exact ms9 hlt
                      case rel => exact ⟨i + 1, _, (by first | rw [hw9] | rfl), hlt, rfl, HS2, HL2⟩
                    | true =>
                      have i4 : (k.f0 = 3) = True := eq_true h3
                      have i5 : decide (k.f0 = 3) = true := decide_eq_true h3
                      have hF := hG.out
                      rw [if_neg (by rintro ⟨_, _, h9, h8⟩; first | cases h9; done | cases h8; done)] at hF
                      subst hF
                      clear hG HW
                      go_wp2_with (fail)
                      refine (bad_walk hx k.f1 7 f' _ (H.out.of_ck hx HT.out)).mono ?_
                      rintro e' w9 ⟨rfl, hD⟩
                      have HS2 := Lib.hid (Ck.does HT.out hD).drop1.drop1.drop1
                      clear hD
                      have hw9 : wrap64 ((i : Int) + 1) = ((i + 1 : Nat) : Int) := by have h9 := HM.out.h2.2.1; unfold maxLen at h9; unfold wrap64; omega
                      go_wp2_with (fail)
                      go_roundg (m.f2.length + 1 - (i + 1))
                      case measure => exact ms9 hlt
                      case rel => exact ⟨i + 1, _, (by first | rw [hw9] | rfl), hlt, rfl, HS2, HL2⟩
                  | true =>
                    cases d2 with
                    | false =>
                      have i4 : (k.f0 = 3) = True := eq_true h3
                      have i5 : decide (k.f0 = 3) = true := decide_eq_true h3
                      have hF := hG.out
                      rw [if_neg (by rintro ⟨_, _, h9, h8⟩; first | cases h9; done | cases h8; done)] at hF
                      subst hF
                      clear hG HW
                      go_wp2_with (fail)
                      refine (bad_walk hx k.f1 7 f' _ (H.out.of_ck hx HT.out)).mono ?_
                      rintro e' w9 ⟨rfl, hD⟩
                      have HS2 := Lib.hid (Ck.does HT.out hD).drop1.drop1.drop1
                      clear hD
                      have hw9 : wrap64 ((i : Int) + 1) = ((i + 1 : Nat) : Int) := by have h9 := HM.out.h2.2.1; unfold maxLen at h9; unfold wrap64; omega
                      go_wp2_with (fail)
                      go_roundg (m.f2.length + 1 - (i + 1))
                      case measure => exact ms9 hlt
                      case rel => exact ⟨i + 1, _, (by first | rw [hw9] | rfl), hlt, rfl, HS2, HL2⟩
                    | true =>
                      have i4 : (k.f0 = 3) = True := eq_true h3
                      have i5 : decide (k.f0 = 3) = true := decide_eq_true h3
                      have hF := hG.out
                      rw [if_pos ⟨h3, rfl, rfl, rfl⟩] at hF
                      subst hF
                      clear hG HW
                      have HS2 := Lib.hid HT.out.drop1.drop1.drop1
                      have hw9 : wrap64 ((i : Int) + 1) = ((i + 1 : Nat) : Int) := by have h9 := HM.out.h2.2.1; unfold maxLen at h9; unfold wrap64; omega
                      go_wp2_with (fail)
                      go_roundg (m.f2.length + 1 - (i + 1))
                      case measure => exact ms9 hlt
                      case rel => exact ⟨i + 1, _, (by first | rw [hw9] | rfl), hlt, rfl, HS2, HL2⟩
            · have i4 : (k.f0 = 3) = False := eq_false h3
              have i5 : decide (k.f0 = 3) = false := decide_eq_false h3
              have hF := hG.out
              rw [if_neg (by rintro ⟨h9, _⟩; exact h3 h9)] at hF
              subst hF
              clear hG HW
              go_wp2_with (fail)
              refine (bad_walk hx k.f1 7 f' _ (H.out.of_ck hx HT.out)).mono ?_
              rintro e' w9 ⟨rfl, hD⟩
              have HS2 := Lib.hid (Ck.does HT.out hD).drop1.drop1.drop1
              clear hD
              have hw9 : wrap64 ((i : Int) + 1) = ((i + 1 : Nat) : Int) := by have h9 := HM.out.h2.2.1; unfold maxLen at h9; unfold wrap64; omega
              go_wp2_with (fail)
              go_roundg (m.f2.length + 1 - (i + 1))
              case measure => exact ms9 hlt
              case rel => exact ⟨i + 1, _, (by first | rw [hw9] | rfl), hlt, rfl, HS2, HL2⟩
      · have hd : m.f2.drop i = [] := List.drop_eq_nil_of_le (by omega)
        have hL := HL.out
        rw [hd] at hL
        obtain rfl : f' = r := Option.some.inj hL
        have i0 : ((i : Int) < (m.f2.length : Int)) = False := eq_false (by omega)
        have i1 : decide ((i : Int) < (m.f2.length : Int)) = false := decide_eq_false (by omega)
        clear hL hd
        go_wp2_with (fail)
        go_end0
        exact ⟨rfl, Does.of_ck HS.out⟩
end Go.Proofs.YtjafllnbgfcchaaDoor.Ct
end
section
/- The checker of types: of, walked. -/
namespace Go.Proofs.YtjafllnbgfcchaaDoor.Ct
set_option linter.unusedVariables false
set_option linter.unusedSimpArgs false
open Go Go.RowKit Go.Proofs.YtjafllnbgfcchaaDoorW.PrintWords Go.Proofs.YtjafllnbgfcchaaDoorW.PrintLast Go.Proofs.YtjafllnbgfcchaaDoorW.PrintMore Go.Proofs.YtjafllnbgfcchaaDoor.Lx Go.Proofs.YtjafllnbgfcchaaDoor.XK Go.Proofs.YtjafllnbgfcchaaDoor.Px Go.Proofs.YtjafllnbgfcchaaDoor.Ck
attribute [local go_sem ↓] Go.wp_at_zero Go.wp_at_succ
abbrev OfK (x : Ctx) (of : Of) (P : Int → Prop) : Prop := ∀ (e : E) (A : Option Addr) (c : Nat) (f : F) (r : Bool × F) (w : World), P e.f0 → ExAt x.w0 e A c → At x w f → ofK of x.l x.n e f = some r →
  Calls Tryd.prog 112 #[.pointer (some ⟨x.c, 0, none⟩), exA e A c] w fun e' w' => e' = .returned (.bool r.1) ∧ Does x r.2 w w'
set_option maxHeartbeats 4000000 in
set_option maxRecDepth 100000 in
theorem of_k1 {x : Ctx} (hx : x.Ok) {of : Of} (hof : OfIs x of) : OfK x of (fun k => k = 1) := by
  intro e A c f r w hk he h hr
  obtain ⟨e0, e1, e2, e3, e4, e5⟩ := e
  obtain rfl : e0 = 1 := hk
  obtain rfl : (false, f) = r := Option.some.inj hr
  have H := Lib.hid h
  clear h he hr
  go_enter Tryd.func112, Tryd.ntmps112
  go_wp2_with (fail)
  go_ret
  exact ⟨rfl, Does.of_ck (H.out.ck.new (q := exO ⟨1, e1, e2, e3, e4, e5⟩ A c))⟩
set_option maxHeartbeats 4000000 in
set_option maxRecDepth 100000 in
theorem of_k2 {x : Ctx} (hx : x.Ok) {of : Of} (hof : OfIs x of) : OfK x of (fun k => k = 2) := by
  intro e A c f r w hk he h hr
  obtain ⟨e0, e1, e2, e3, e4, e5⟩ := e
  obtain rfl : e0 = 2 := hk
  obtain rfl : (true, f) = r := Option.some.inj hr
  have H := Lib.hid h
  clear h he hr
  go_enter Tryd.func112, Tryd.ntmps112
  go_wp2_with (fail)
  go_ret
  exact ⟨rfl, Does.of_ck (H.out.ck.new (q := exO ⟨2, e1, e2, e3, e4, e5⟩ A c))⟩
set_option maxHeartbeats 4000000 in
set_option maxRecDepth 100000 in
theorem of_k3 {x : Ctx} (hx : x.Ok) {of : Of} (hof : OfIs x of) : OfK x of (fun k => k = 3) := by
  intro e A c f r w hk he h hr
  obtain ⟨e0, e1, e2, e3, e4, e5⟩ := e
  obtain rfl : e0 = 3 := hk
  obtain rfl : plain x.n e3 e1 f = r := Option.some.inj hr
  have H := Lib.hid h
  clear h he hr
  go_enter Tryd.func112, Tryd.ntmps112
  go_wp2_with (fail)
  have HS := Lib.hid (H.out.ck.new (q := exO ⟨3, e1, e2, e3, e4, e5⟩ A c))
  refine (plain_walk hx e3 e1 f _ (H.out.of_ck hx HS.out)).mono ?_
  rintro e' w9 ⟨rfl, hD⟩
  have HS' := Lib.hid (Ck.does HS.out hD)
  clear hD HS
  have HS := HS'
  clear HS'
  go_wp2_with (fail)
  go_ret
  exact ⟨rfl, Does.of_ck HS.out⟩
set_option maxHeartbeats 4000000 in
set_option maxRecDepth 100000 in
theorem of_k4 {x : Ctx} (hx : x.Ok) {of : Of} (hof : OfIs x of) : OfK x of (fun k => k = 4) := by
  intro e A c f r w hk he h hr
  obtain ⟨e0, e1, e2, e3, e4, e5⟩ := e
  obtain rfl : e0 = 4 := hk
  obtain ⟨a, tl, hk, hr⟩ : ∃ a tl, e5 = a :: tl ∧ ((want of a false f).bind fun f1 => some (false, f1)) = some r := by
    rcases e5 with _ | ⟨a, tl⟩
    · exact absurd (show (none : Option (Bool × F)) = some r from hr) (by simp)
    · exact ⟨a, tl, rfl, hr⟩
  have hk0 : e5[0]? = some a := by rw [hk]; rfl
  obtain ⟨ad0, A0, c0, hA0, x0, x1, x2, x3, x4, x5, hE0⟩ := kid_at he 0 a hk0
  subst hA0
  have hlen : 1 ≤ e5.length := by rw [hk]; simp
  have HE := Lib.hid hE0
  have hX := And.intro x0 (And.intro x1 (And.intro x2 (And.intro x3 (And.intro x4 (x5)))))
  simp only [Nat.reduceMul, Nat.reduceEqDiff, Go.Addr.add, ↓reduceIte] at hX
  have HX := Lib.hid hX
  have H := Lib.hid h
  have HR := Lib.hid hr
  clear h he hr hk hX hk0 x0 x1 x2 x3 x4 x5 hE0
  obtain ⟨f1, hw, hr⟩ := Option.bind_eq_some_iff.1 HR.out
  obtain rfl := Option.some.inj hr
  have HW := Lib.hid hw
  clear hr hw HR
  have l0 : (0 : Int) < (e5.length : Int) := by omega
  have l0' : (0 < e5.length) = True := eq_true (by omega)
  obtain ⟨x0, x1, x2, x3, x4, x5⟩ := HX.out
  have hb := fun o : Obj => (H.out.of_ck hx (H.out.ck.new (q := o))).bel
  have x0 := fun o : Obj => pw_cell_below (hb o) x0
  have x1 := fun o : Obj => pw_cell_below (hb o) x1
  have x2 := fun o : Obj => pw_cell_below (hb o) x2
  have x3 := fun o : Obj => pw_cell_below (hb o) x3
  have x4 := fun o : Obj => pw_cell_below (hb o) x4
  have x5 := fun o : Obj => pw_cell_below (hb o) x5
  clear hb
  go_enter Tryd.func112, Tryd.ntmps112
  go_wp2_with (fail)
  have HS := Lib.hid (H.out.ck.new (q := exO ⟨4, e1, e2, e3, e4, e5⟩ (some ad0) c))
  refine (want_walk hx hof a A0 c0 false f f1 _ HE.out (H.out.of_ck hx HS.out) HW.out).mono ?_
  rintro e' w9 ⟨rfl, hD⟩
  have HS' := Lib.hid (Ck.does HS.out hD)
  clear hD HS
  have HS := HS'
  clear HS'
  go_wp2_with (fail)
  go_ret
  exact ⟨rfl, Does.of_ck HS.out⟩
set_option maxHeartbeats 4000000 in
set_option maxRecDepth 100000 in
theorem of_k5 {x : Ctx} (hx : x.Ok) {of : Of} (hof : OfIs x of) : OfK x of (fun k => k = 5) := by
  intro e A c f r w hk he h hr
  obtain ⟨e0, e1, e2, e3, e4, e5⟩ := e
  obtain rfl : e0 = 5 := hk
  obtain ⟨a, tl, hk, hr⟩ : ∃ a tl, e5 = a :: tl ∧ ((want of a true f).bind fun f1 => some (true, f1)) = some r := by
    rcases e5 with _ | ⟨a, tl⟩
    · exact absurd (show (none : Option (Bool × F)) = some r from hr) (by simp)
    · exact ⟨a, tl, rfl, hr⟩
  have hk0 : e5[0]? = some a := by rw [hk]; rfl
  obtain ⟨ad0, A0, c0, hA0, x0, x1, x2, x3, x4, x5, hE0⟩ := kid_at he 0 a hk0
  subst hA0
  have hlen : 1 ≤ e5.length := by rw [hk]; simp
  have HE := Lib.hid hE0
  have hX := And.intro x0 (And.intro x1 (And.intro x2 (And.intro x3 (And.intro x4 (x5)))))
  simp only [Nat.reduceMul, Nat.reduceEqDiff, Go.Addr.add, ↓reduceIte] at hX
  have HX := Lib.hid hX
  have H := Lib.hid h
  have HR := Lib.hid hr
  clear h he hr hk hX hk0 x0 x1 x2 x3 x4 x5 hE0
  obtain ⟨f1, hw, hr⟩ := Option.bind_eq_some_iff.1 HR.out
  obtain rfl := Option.some.inj hr
  have HW := Lib.hid hw
  clear hr hw HR
  have l0 : (0 : Int) < (e5.length : Int) := by omega
  have l0' : (0 < e5.length) = True := eq_true (by omega)
  obtain ⟨x0, x1, x2, x3, x4, x5⟩ := HX.out
  have hb := fun o : Obj => (H.out.of_ck hx (H.out.ck.new (q := o))).bel
  have x0 := fun o : Obj => pw_cell_below (hb o) x0
  have x1 := fun o : Obj => pw_cell_below (hb o) x1
  have x2 := fun o : Obj => pw_cell_below (hb o) x2
  have x3 := fun o : Obj => pw_cell_below (hb o) x3
  have x4 := fun o : Obj => pw_cell_below (hb o) x4
  have x5 := fun o : Obj => pw_cell_below (hb o) x5
  clear hb
  go_enter Tryd.func112, Tryd.ntmps112
  go_wp2_with (fail)
  have HS := Lib.hid (H.out.ck.new (q := exO ⟨5, e1, e2, e3, e4, e5⟩ (some ad0) c))
  refine (want_walk hx hof a A0 c0 true f f1 _ HE.out (H.out.of_ck hx HS.out) HW.out).mono ?_
  rintro e' w9 ⟨rfl, hD⟩
  have HS' := Lib.hid (Ck.does HS.out hD)
  clear hD HS
  have HS := HS'
  clear HS'
  go_wp2_with (fail)
  go_ret
  exact ⟨rfl, Does.of_ck HS.out⟩
set_option maxHeartbeats 4000000 in
set_option maxRecDepth 100000 in
theorem of_k6 {x : Ctx} (hx : x.Ok) {of : Of} (hof : OfIs x of) : OfK x of (fun k => k = 6) := by
  intro e A c f r w hk he h hr
  obtain ⟨e0, e1, e2, e3, e4, e5⟩ := e
  obtain rfl : e0 = 6 := hk
  have hr : binary of ⟨6, e1, e2, e3, e4, e5⟩ f = some r := hr
  have H := Lib.hid h
  have HE := Lib.hid he
  have HR := Lib.hid hr
  clear h he hr
  go_enter Tryd.func112, Tryd.ntmps112
  go_wp2_with (fail)
  have HS := Lib.hid (H.out.ck.new (q := exO ⟨6, e1, e2, e3, e4, e5⟩ A c))
  obtain ⟨q0, q1, q2, q3, q4, q5, qf⟩ := blk6 HS.out.l0
  have ql := blk_lt HS.out.l0
  go_wp2_with (fail)
  refine (binary_walk hx hof ⟨6, e1, e2, e3, e4, e5⟩ A c f r _ HE.out (H.out.of_ck hx HS.out) HR.out).mono ?_
  rintro e' w9 ⟨rfl, hD⟩
  have HS' := Lib.hid (Ck.does HS.out hD)
  clear hD HS
  have HS := HS'
  clear HS'
  go_wp2_with (fail)
  go_ret
  exact ⟨rfl, Does.of_ck HS.out⟩
set_option maxHeartbeats 4000000 in
set_option maxRecDepth 100000 in
theorem of_k7 {x : Ctx} (hx : x.Ok) {of : Of} (hof : OfIs x of) : OfK x of (fun k => k = 7) := by
  intro e A c f r w hk he h hr
  obtain ⟨e0, e1, e2, e3, e4, e5⟩ := e
  obtain rfl : e0 = 7 := hk
  obtain ⟨a, b, c', tl, hk, hr⟩ : ∃ a b c' tl, e5 = a :: b :: c' :: tl ∧ ((want of a true f).bind fun f1 => same of b c' f1) = some r := by
    rcases e5 with _ | ⟨a, _ | ⟨b, _ | ⟨c', tl⟩⟩⟩
    · exact absurd (show (none : Option (Bool × F)) = some r from hr) (by simp)
    · exact absurd (show (none : Option (Bool × F)) = some r from hr) (by simp)
    · exact absurd (show (none : Option (Bool × F)) = some r from hr) (by simp)
    · exact ⟨a, b, c', tl, rfl, hr⟩
  have hk0 : e5[0]? = some a := by rw [hk]; rfl
  have hk1 : e5[1]? = some b := by rw [hk]; rfl
  have hk2 : e5[2]? = some c' := by rw [hk]; rfl
  obtain ⟨ad0, A0, c0, hA0, x0, x1, x2, x3, x4, x5, hE0⟩ := kid_at he 0 a hk0
  obtain ⟨ad1, A1, c1, hA1, y0, y1, y2, y3, y4, y5, hE1⟩ := kid_at he 1 b hk1
  obtain ⟨ad2, A2, c2, hA2, z0, z1, z2, z3, z4, z5, hE2⟩ := kid_at he 2 c' hk2
  subst hA0
  obtain rfl : ad0 = ad1 := Option.some.inj hA1
  obtain rfl : ad0 = ad2 := Option.some.inj hA2
  have hlen : 3 ≤ e5.length := by rw [hk]; simp
  have HE := Lib.hid (And.intro hE0 (And.intro hE1 hE2))
  have hX := And.intro x0 (And.intro x1 (And.intro x2 (And.intro x3 (And.intro x4 (And.intro x5 (And.intro y0 (And.intro y1 (And.intro y2 (And.intro y3 (And.intro y4 (And.intro y5 (And.intro z0 (And.intro z1 (And.intro z2 (And.intro z3 (And.intro z4 (z5)))))))))))))))))
  simp only [Nat.reduceMul, Nat.reduceEqDiff, Go.Addr.add, ↓reduceIte] at hX
  have HX := Lib.hid hX
  have H := Lib.hid h
  have HR := Lib.hid hr
  clear h he hr hk hX hk0 hk1 hk2 x0 x1 x2 x3 x4 x5 y0 y1 y2 y3 y4 y5 z0 z1 z2 z3 z4 z5 hE0 hE1 hE2 hA1 hA2
  obtain ⟨f1, hw, hr⟩ := Option.bind_eq_some_iff.1 HR.out
  have HW := Lib.hid (And.intro hw hr)
  clear hr hw HR
  have l0 : (0 : Int) < (e5.length : Int) := by omega
  have l0' : (0 < e5.length) = True := eq_true (by omega)
  have l1 : (1 : Int) < (e5.length : Int) := by omega
  have l1' : (1 < e5.length) = True := eq_true (by omega)
  have l2 : (2 : Int) < (e5.length : Int) := by omega
  have l2' : (2 < e5.length) = True := eq_true (by omega)
  obtain ⟨x0, x1, x2, x3, x4, x5, y0, y1, y2, y3, y4, y5, z0, z1, z2, z3, z4, z5⟩ := HX.out
  have hb := fun o : Obj => (H.out.of_ck hx (H.out.ck.new (q := o))).bel
  have x0 := fun o : Obj => pw_cell_below (hb o) x0
  have x1 := fun o : Obj => pw_cell_below (hb o) x1
  have x2 := fun o : Obj => pw_cell_below (hb o) x2
  have x3 := fun o : Obj => pw_cell_below (hb o) x3
  have x4 := fun o : Obj => pw_cell_below (hb o) x4
  have x5 := fun o : Obj => pw_cell_below (hb o) x5
  have y0 := fun o : Obj => pw_cell_below (hb o) y0
  have y1 := fun o : Obj => pw_cell_below (hb o) y1
  have y2 := fun o : Obj => pw_cell_below (hb o) y2
  have y3 := fun o : Obj => pw_cell_below (hb o) y3
  have y4 := fun o : Obj => pw_cell_below (hb o) y4
  have y5 := fun o : Obj => pw_cell_below (hb o) y5
  have z0 := fun o : Obj => pw_cell_below (hb o) z0
  have z1 := fun o : Obj => pw_cell_below (hb o) z1
  have z2 := fun o : Obj => pw_cell_below (hb o) z2
  have z3 := fun o : Obj => pw_cell_below (hb o) z3
  have z4 := fun o : Obj => pw_cell_below (hb o) z4
  have z5 := fun o : Obj => pw_cell_below (hb o) z5
  clear hb
  go_enter Tryd.func112, Tryd.ntmps112
  go_wp2_with (fail)
  have HS := Lib.hid (H.out.ck.new (q := exO ⟨7, e1, e2, e3, e4, e5⟩ (some ad0) c))
  refine (want_walk hx hof a A0 c0 true f f1 _ HE.out.1 (H.out.of_ck hx HS.out) HW.out.1).mono ?_
  rintro e' w9 ⟨rfl, hD⟩
  have HS' := Lib.hid (Ck.does HS.out hD)
  clear hD HS
  have HS := HS'
  clear HS'
  clear x0 x1 x2 x3 x4 x5 y0 y1 y2 y3 y4 y5 z0 z1 z2 z3 z4 z5
  obtain ⟨x0, x1, x2, x3, x4, x5, y0, y1, y2, y3, y4, y5, z0, z1, z2, z3, z4, z5⟩ := HX.out
  have hb := (H.out.of_ck hx HS.out).bel
  replace x0 := pw_cell_below hb x0
  replace x1 := pw_cell_below hb x1
  replace x2 := pw_cell_below hb x2
  replace x3 := pw_cell_below hb x3
  replace x4 := pw_cell_below hb x4
  replace x5 := pw_cell_below hb x5
  replace y0 := pw_cell_below hb y0
  replace y1 := pw_cell_below hb y1
  replace y2 := pw_cell_below hb y2
  replace y3 := pw_cell_below hb y3
  replace y4 := pw_cell_below hb y4
  replace y5 := pw_cell_below hb y5
  replace z0 := pw_cell_below hb z0
  replace z1 := pw_cell_below hb z1
  replace z2 := pw_cell_below hb z2
  replace z3 := pw_cell_below hb z3
  replace z4 := pw_cell_below hb z4
  replace z5 := pw_cell_below hb z5
  clear hb
  obtain ⟨q0, q1, q2, q3, q4, q5, qf⟩ := blk6 HS.out.l0
  have ql := blk_lt HS.out.l0
  go_wp2_with (fail)
  refine wp_region_still_tail 9 (by kernel_rfl) (by kernel_rfl) ?_
  simp only [List.take_succ_cons, List.take_zero, List.drop_succ_cons, List.drop_zero]
  change wpStill _ _ (World.drew _) _ _ _
  repeat still_step
  refine wpStill_nil ?_
  change wpList _ _ _ _ _ (World.drew _)
  go_wp2_with (fail)
  refine (same_walk hx hof b A1 c1 c' A2 c2 f1 r _ HE.out.2.1 HE.out.2.2 (H.out.of_ck hx HS.out.drew) HW.out.2).mono ?_
  rintro e' w9 ⟨rfl, hD⟩
  have HS' := Lib.hid (Ck.does HS.out.drew hD)
  clear hD HS
  have HS := HS'
  clear HS'
  go_wp2_with (fail)
  go_ret
  exact ⟨rfl, Does.of_ck HS.out⟩
set_option maxHeartbeats 4000000 in
set_option maxRecDepth 100000 in
theorem of_k8 {x : Ctx} (hx : x.Ok) {of : Of} (hof : OfIs x of) : OfK x of (fun k => k = 8) := by
  intro e A c f r w hk he h hr
  obtain ⟨e0, e1, e2, e3, e4, e5⟩ := e
  obtain rfl : e0 = 8 := hk
  obtain ⟨a, b, tl, hk, hr⟩ : ∃ a b tl, e5 = a :: b :: tl ∧ (same of a b f) = some r := by
    rcases e5 with _ | ⟨a, _ | ⟨b, tl⟩⟩
    · exact absurd (show (none : Option (Bool × F)) = some r from hr) (by simp)
    · exact absurd (show (none : Option (Bool × F)) = some r from hr) (by simp)
    · exact ⟨a, b, tl, rfl, hr⟩
  have hk0 : e5[0]? = some a := by rw [hk]; rfl
  have hk1 : e5[1]? = some b := by rw [hk]; rfl
  obtain ⟨ad0, A0, c0, hA0, x0, x1, x2, x3, x4, x5, hE0⟩ := kid_at he 0 a hk0
  obtain ⟨ad1, A1, c1, hA1, y0, y1, y2, y3, y4, y5, hE1⟩ := kid_at he 1 b hk1
  subst hA0
  obtain rfl : ad0 = ad1 := Option.some.inj hA1
  have hlen : 2 ≤ e5.length := by rw [hk]; simp
  have HE := Lib.hid (And.intro hE0 hE1)
  have hX := And.intro x0 (And.intro x1 (And.intro x2 (And.intro x3 (And.intro x4 (And.intro x5 (And.intro y0 (And.intro y1 (And.intro y2 (And.intro y3 (And.intro y4 (y5)))))))))))
  simp only [Nat.reduceMul, Nat.reduceEqDiff, Go.Addr.add, ↓reduceIte] at hX
  have HX := Lib.hid hX
  have H := Lib.hid h
  have HR := Lib.hid hr
  clear h he hr hk hX hk0 hk1 x0 x1 x2 x3 x4 x5 y0 y1 y2 y3 y4 y5 hE0 hE1 hA1
  have l0 : (0 : Int) < (e5.length : Int) := by omega
  have l0' : (0 < e5.length) = True := eq_true (by omega)
  have l1 : (1 : Int) < (e5.length : Int) := by omega
  have l1' : (1 < e5.length) = True := eq_true (by omega)
  go_enter Tryd.func112, Tryd.ntmps112
  go_wp2_with (fail)
  have HS := Lib.hid (H.out.ck.new (q := exO ⟨8, e1, e2, e3, e4, e5⟩ (some ad0) c))
  generalize hW : w.alloc _ = W
  rw [hW] at HS
  clear hW
  obtain ⟨x0, x1, x2, x3, x4, x5, y0, y1, y2, y3, y4, y5⟩ := HX.out
  have hb := (H.out.of_ck hx HS.out).bel
  replace x0 := pw_cell_below hb x0
  replace x1 := pw_cell_below hb x1
  replace x2 := pw_cell_below hb x2
  replace x3 := pw_cell_below hb x3
  replace x4 := pw_cell_below hb x4
  replace x5 := pw_cell_below hb x5
  replace y0 := pw_cell_below hb y0
  replace y1 := pw_cell_below hb y1
  replace y2 := pw_cell_below hb y2
  replace y3 := pw_cell_below hb y3
  replace y4 := pw_cell_below hb y4
  replace y5 := pw_cell_below hb y5
  clear hb
  obtain ⟨q0, q1, q2, q3, q4, q5, qf⟩ := blk6 HS.out.l0
  have ql := blk_lt HS.out.l0
  refine wp_region_still_tail 9 (by kernel_rfl) (by kernel_rfl) ?_
  simp only [List.take_succ_cons, List.take_zero, List.drop_succ_cons, List.drop_zero]
  change wpStill _ _ (World.drew _) _ _ _
  repeat still_step
  refine wpStill_nil ?_
  change wpList _ _ _ _ _ (World.drew _)
  go_wp2_with (fail)
  refine (same_walk hx hof a A0 c0 b A1 c1 f r _ HE.out.1 HE.out.2 (H.out.of_ck hx HS.out.drew) HR.out).mono ?_
  rintro e' w9 ⟨rfl, hD⟩
  have HS' := Lib.hid (Ck.does HS.out.drew hD)
  clear hD HS
  have HS := HS'
  clear HS'
  go_wp2_with (fail)
  go_ret
  exact ⟨rfl, Does.of_ck HS.out⟩
set_option maxHeartbeats 4000000 in
set_option maxRecDepth 100000 in
theorem of_k9 {x : Ctx} (hx : x.Ok) {of : Of} (hof : OfIs x of) : OfK x of (fun k => k = 9) := by
  intro e A c f r w hk he h hr
  obtain ⟨e0, e1, e2, e3, e4, e5⟩ := e
  obtain rfl : e0 = 9 := hk
  obtain ⟨a, b, tl, hk, hr⟩ : ∃ a b tl, e5 = a :: b :: tl ∧ (same of a b f) = some r := by
    rcases e5 with _ | ⟨a, _ | ⟨b, tl⟩⟩
    · exact absurd (show (none : Option (Bool × F)) = some r from hr) (by simp)
    · exact absurd (show (none : Option (Bool × F)) = some r from hr) (by simp)
    · exact ⟨a, b, tl, rfl, hr⟩
  have hk0 : e5[0]? = some a := by rw [hk]; rfl
  have hk1 : e5[1]? = some b := by rw [hk]; rfl
  obtain ⟨ad0, A0, c0, hA0, x0, x1, x2, x3, x4, x5, hE0⟩ := kid_at he 0 a hk0
  obtain ⟨ad1, A1, c1, hA1, y0, y1, y2, y3, y4, y5, hE1⟩ := kid_at he 1 b hk1
  subst hA0
  obtain rfl : ad0 = ad1 := Option.some.inj hA1
  have hlen : 2 ≤ e5.length := by rw [hk]; simp
  have HE := Lib.hid (And.intro hE0 hE1)
  have hX := And.intro x0 (And.intro x1 (And.intro x2 (And.intro x3 (And.intro x4 (And.intro x5 (And.intro y0 (And.intro y1 (And.intro y2 (And.intro y3 (And.intro y4 (y5)))))))))))
  simp only [Nat.reduceMul, Nat.reduceEqDiff, Go.Addr.add, ↓reduceIte] at hX
  have HX := Lib.hid hX
  have H := Lib.hid h
  have HR := Lib.hid hr
  clear h he hr hk hX hk0 hk1 x0 x1 x2 x3 x4 x5 y0 y1 y2 y3 y4 y5 hE0 hE1 hA1
  have l0 : (0 : Int) < (e5.length : Int) := by omega
  have l0' : (0 < e5.length) = True := eq_true (by omega)
  have l1 : (1 : Int) < (e5.length : Int) := by omega
  have l1' : (1 < e5.length) = True := eq_true (by omega)
  go_enter Tryd.func112, Tryd.ntmps112
  go_wp2_with (fail)
  have HS := Lib.hid (H.out.ck.new (q := exO ⟨9, e1, e2, e3, e4, e5⟩ (some ad0) c))
  generalize hW : w.alloc _ = W
  rw [hW] at HS
  clear hW
  obtain ⟨x0, x1, x2, x3, x4, x5, y0, y1, y2, y3, y4, y5⟩ := HX.out
  have hb := (H.out.of_ck hx HS.out).bel
  replace x0 := pw_cell_below hb x0
  replace x1 := pw_cell_below hb x1
  replace x2 := pw_cell_below hb x2
  replace x3 := pw_cell_below hb x3
  replace x4 := pw_cell_below hb x4
  replace x5 := pw_cell_below hb x5
  replace y0 := pw_cell_below hb y0
  replace y1 := pw_cell_below hb y1
  replace y2 := pw_cell_below hb y2
  replace y3 := pw_cell_below hb y3
  replace y4 := pw_cell_below hb y4
  replace y5 := pw_cell_below hb y5
  clear hb
  obtain ⟨q0, q1, q2, q3, q4, q5, qf⟩ := blk6 HS.out.l0
  have ql := blk_lt HS.out.l0
  refine wp_region_still_tail 9 (by kernel_rfl) (by kernel_rfl) ?_
  simp only [List.take_succ_cons, List.take_zero, List.drop_succ_cons, List.drop_zero]
  change wpStill _ _ (World.drew _) _ _ _
  repeat still_step
  refine wpStill_nil ?_
  change wpList _ _ _ _ _ (World.drew _)
  go_wp2_with (fail)
  refine (same_walk hx hof a A0 c0 b A1 c1 f r _ HE.out.1 HE.out.2 (H.out.of_ck hx HS.out.drew) HR.out).mono ?_
  rintro e' w9 ⟨rfl, hD⟩
  have HS' := Lib.hid (Ck.does HS.out.drew hD)
  clear hD HS
  have HS := HS'
  clear HS'
  go_wp2_with (fail)
  go_ret
  exact ⟨rfl, Does.of_ck HS.out⟩
set_option maxHeartbeats 4000000 in
set_option maxRecDepth 100000 in
theorem of_k10 {x : Ctx} (hx : x.Ok) {of : Of} (hof : OfIs x of) : OfK x of (fun k => k = 10) := by
  intro e A c f r w hk he h hr
  obtain ⟨e0, e1, e2, e3, e4, e5⟩ := e
  obtain rfl : e0 = 10 := hk
  obtain ⟨a, tl, hk, hr⟩ : ∃ a tl, e5 = a :: tl ∧ (of a f) = some r := by
    rcases e5 with _ | ⟨a, tl⟩
    · exact absurd (show (none : Option (Bool × F)) = some r from hr) (by simp)
    · exact ⟨a, tl, rfl, hr⟩
  have hk0 : e5[0]? = some a := by rw [hk]; rfl
  obtain ⟨ad0, A0, c0, hA0, x0, x1, x2, x3, x4, x5, hE0⟩ := kid_at he 0 a hk0
  subst hA0
  have hlen : 1 ≤ e5.length := by rw [hk]; simp
  have HE := Lib.hid hE0
  have hX := And.intro x0 (And.intro x1 (And.intro x2 (And.intro x3 (And.intro x4 (x5)))))
  simp only [Nat.reduceMul, Nat.reduceEqDiff, Go.Addr.add, ↓reduceIte] at hX
  have HX := Lib.hid hX
  have H := Lib.hid h
  have HR := Lib.hid hr
  clear h he hr hk hX hk0 x0 x1 x2 x3 x4 x5 hE0
  have l0 : (0 : Int) < (e5.length : Int) := by omega
  have l0' : (0 < e5.length) = True := eq_true (by omega)
  obtain ⟨x0, x1, x2, x3, x4, x5⟩ := HX.out
  have hb := fun o : Obj => (H.out.of_ck hx (H.out.ck.new (q := o))).bel
  have x0 := fun o : Obj => pw_cell_below (hb o) x0
  have x1 := fun o : Obj => pw_cell_below (hb o) x1
  have x2 := fun o : Obj => pw_cell_below (hb o) x2
  have x3 := fun o : Obj => pw_cell_below (hb o) x3
  have x4 := fun o : Obj => pw_cell_below (hb o) x4
  have x5 := fun o : Obj => pw_cell_below (hb o) x5
  clear hb
  go_enter Tryd.func112, Tryd.ntmps112
  go_wp2_with (fail)
  have HS := Lib.hid (H.out.ck.new (q := exO ⟨10, e1, e2, e3, e4, e5⟩ (some ad0) c))
  refine (hof a A0 c0 f r _ HE.out (H.out.of_ck hx HS.out) HR.out).mono ?_
  rintro e' w9 ⟨rfl, hD⟩
  have HS' := Lib.hid (Ck.does HS.out hD)
  clear hD HS
  have HS := HS'
  clear HS'
  go_wp2_with (fail)
  go_ret
  exact ⟨rfl, Does.of_ck HS.out⟩
set_option maxHeartbeats 4000000 in
set_option maxRecDepth 100000 in
theorem of_k11 {x : Ctx} (hx : x.Ok) {of : Of} (hof : OfIs x of) : OfK x of (fun k => k = 11) := by
  intro e A c f r w hk he h hr
  obtain ⟨e0, e1, e2, e3, e4, e5⟩ := e
  obtain rfl : e0 = 11 := hk
  obtain ⟨a, tl, hk, hr⟩ : ∃ a tl, e5 = a :: tl ∧ (of a (if (plain x.n e3 e1 f).1 then (plain x.n e3 e1 f).2 else bad e1 7 (plain x.n e3 e1 f).2)) = some r := by
    rcases e5 with _ | ⟨a, tl⟩
    · exact absurd (show (none : Option (Bool × F)) = some r from hr) (by simp)
    · exact ⟨a, tl, rfl, hr⟩
  have hk0 : e5[0]? = some a := by rw [hk]; rfl
  obtain ⟨ad0, A0, c0, hA0, x0, x1, x2, x3, x4, x5, hE0⟩ := kid_at he 0 a hk0
  subst hA0
  have hlen : 1 ≤ e5.length := by rw [hk]; simp
  have HE := Lib.hid hE0
  have hX := And.intro x0 (And.intro x1 (And.intro x2 (And.intro x3 (And.intro x4 (x5)))))
  simp only [Nat.reduceMul, Nat.reduceEqDiff, Go.Addr.add, ↓reduceIte] at hX
  have HX := Lib.hid hX
  have H := Lib.hid h
  have HR := Lib.hid hr
  clear h he hr hk hX hk0 x0 x1 x2 x3 x4 x5 hE0
  have l0 : (0 : Int) < (e5.length : Int) := by omega
  have l0' : (0 < e5.length) = True := eq_true (by omega)
  obtain ⟨p, hp⟩ : ∃ p, plain x.n e3 e1 f = p := ⟨_, rfl⟩
  obtain ⟨pb, pg⟩ := p
  have hr := HR.out
  rw [hp] at hr
  have HP := Lib.hid hp
  have HR2 := Lib.hid hr
  clear hr hp HR
  go_enter Tryd.func112, Tryd.ntmps112
  go_wp2_with (fail)
  have HS := Lib.hid (H.out.ck.new (q := exO ⟨11, e1, e2, e3, e4, e5⟩ (some ad0) c))
  generalize hW : w.alloc _ = W
  rw [hW] at HS
  clear hW
  obtain ⟨q0, q1, q2, q3, q4, q5, qf⟩ := blk6 HS.out.l0
  have ql := blk_lt HS.out.l0
  go_wp2_with (fail)
  refine (plain_walk hx e3 e1 f _ (H.out.of_ck hx HS.out)).mono ?_
  rintro e' w9 ⟨rfl, hD⟩
  rw [HP.out] at hD ⊢
  have HS' := Lib.hid (Ck.does HS.out hD)
  clear hD HS q0 q1 q2 q3 q4 q5 qf ql
  have HS := HS'
  clear HS'
  cases pb with
  | true =>
    have hr : of a pg = some r := HR2.out
    have HR := Lib.hid hr
    clear hr HR2
    obtain ⟨x0, x1, x2, x3, x4, x5⟩ := HX.out
    have hb := (H.out.of_ck hx HS.out).bel
    replace x0 := pw_cell_below hb x0
    replace x1 := pw_cell_below hb x1
    replace x2 := pw_cell_below hb x2
    replace x3 := pw_cell_below hb x3
    replace x4 := pw_cell_below hb x4
    replace x5 := pw_cell_below hb x5
    clear hb
    obtain ⟨q0, q1, q2, q3, q4, q5, qf⟩ := blk6 HS.out.l0
    have ql := blk_lt HS.out.l0
    go_wp2_with (fail)
    refine (hof a A0 c0 pg r _ HE.out (H.out.of_ck hx HS.out) HR.out).mono ?_
    rintro e' w9 ⟨rfl, hD⟩
    have HS' := Lib.hid (Ck.does HS.out hD)
    clear hD HS
    have HS := HS'
    clear HS'
    go_wp2_with (fail)
    go_ret
    exact ⟨rfl, Does.of_ck HS.out⟩
  | false =>
    have hr : of a (bad e1 7 pg) = some r := HR2.out
    have HR := Lib.hid hr
    clear hr HR2
    obtain ⟨q0, q1, q2, q3, q4, q5, qf⟩ := blk6 HS.out.l0
    have ql := blk_lt HS.out.l0
    go_wp2_with (fail)
    refine (bad_walk hx e1 7 pg _ (H.out.of_ck hx HS.out)).mono ?_
    rintro e' w9 ⟨rfl, hD⟩
    have HS' := Lib.hid (Ck.does HS.out hD)
    clear hD HS
    have HS := HS'
    clear HS'
    clear q0 q1 q2 q3 q4 q5 qf ql
    obtain ⟨x0, x1, x2, x3, x4, x5⟩ := HX.out
    have hb := (H.out.of_ck hx HS.out).bel
    replace x0 := pw_cell_below hb x0
    replace x1 := pw_cell_below hb x1
    replace x2 := pw_cell_below hb x2
    replace x3 := pw_cell_below hb x3
    replace x4 := pw_cell_below hb x4
    replace x5 := pw_cell_below hb x5
    clear hb
    obtain ⟨q0, q1, q2, q3, q4, q5, qf⟩ := blk6 HS.out.l0
    have ql := blk_lt HS.out.l0
    go_wp2_with (fail)
    refine (hof a A0 c0 (bad e1 7 pg) r _ HE.out (H.out.of_ck hx HS.out) HR.out).mono ?_
    rintro e' w9 ⟨rfl, hD⟩
    have HS' := Lib.hid (Ck.does HS.out hD)
    clear hD HS
    have HS := HS'
    clear HS'
    go_wp2_with (fail)
    go_ret
    exact ⟨rfl, Does.of_ck HS.out⟩
set_option maxHeartbeats 4000000 in
set_option maxRecDepth 100000 in
theorem of_k12 {x : Ctx} (hx : x.Ok) {of : Of} (hof : OfIs x of) : OfK x of (fun k => k = 12) := by
  intro e A c f r w hk he h hr
  obtain ⟨e0, e1, e2, e3, e4, e5⟩ := e
  obtain rfl : e0 = 12 := hk
  obtain ⟨a, b, tl, hk, hr⟩ : ∃ a b tl, e5 = a :: b :: tl ∧ (same of a b (if (plain x.n e3 e1 f).1 then (plain x.n e3 e1 f).2 else bad e1 7 (plain x.n e3 e1 f).2)) = some r := by
    rcases e5 with _ | ⟨a, _ | ⟨b, tl⟩⟩
    · exact absurd (show (none : Option (Bool × F)) = some r from hr) (by simp)
    · exact absurd (show (none : Option (Bool × F)) = some r from hr) (by simp)
    · exact ⟨a, b, tl, rfl, hr⟩
  have hk0 : e5[0]? = some a := by rw [hk]; rfl
  have hk1 : e5[1]? = some b := by rw [hk]; rfl
  obtain ⟨ad0, A0, c0, hA0, x0, x1, x2, x3, x4, x5, hE0⟩ := kid_at he 0 a hk0
  obtain ⟨ad1, A1, c1, hA1, y0, y1, y2, y3, y4, y5, hE1⟩ := kid_at he 1 b hk1
  subst hA0
  obtain rfl : ad0 = ad1 := Option.some.inj hA1
  have hlen : 2 ≤ e5.length := by rw [hk]; simp
  have HE := Lib.hid (And.intro hE0 hE1)
  have hX := And.intro x0 (And.intro x1 (And.intro x2 (And.intro x3 (And.intro x4 (And.intro x5 (And.intro y0 (And.intro y1 (And.intro y2 (And.intro y3 (And.intro y4 (y5)))))))))))
  simp only [Nat.reduceMul, Nat.reduceEqDiff, Go.Addr.add, ↓reduceIte] at hX
  have HX := Lib.hid hX
  have H := Lib.hid h
  have HR := Lib.hid hr
  clear h he hr hk hX hk0 hk1 x0 x1 x2 x3 x4 x5 y0 y1 y2 y3 y4 y5 hE0 hE1 hA1
  have l0 : (0 : Int) < (e5.length : Int) := by omega
  have l0' : (0 < e5.length) = True := eq_true (by omega)
  have l1 : (1 : Int) < (e5.length : Int) := by omega
  have l1' : (1 < e5.length) = True := eq_true (by omega)
  obtain ⟨p, hp⟩ : ∃ p, plain x.n e3 e1 f = p := ⟨_, rfl⟩
  obtain ⟨pb, pg⟩ := p
  have hr := HR.out
  rw [hp] at hr
  have HP := Lib.hid hp
  have HR2 := Lib.hid hr
  clear hr hp HR
  go_enter Tryd.func112, Tryd.ntmps112
  go_wp2_with (fail)
  have HS := Lib.hid (H.out.ck.new (q := exO ⟨12, e1, e2, e3, e4, e5⟩ (some ad0) c))
  generalize hW : w.alloc _ = W
  rw [hW] at HS
  clear hW
  obtain ⟨q0, q1, q2, q3, q4, q5, qf⟩ := blk6 HS.out.l0
  have ql := blk_lt HS.out.l0
  go_wp2_with (fail)
  refine (plain_walk hx e3 e1 f _ (H.out.of_ck hx HS.out)).mono ?_
  rintro e' w9 ⟨rfl, hD⟩
  rw [HP.out] at hD ⊢
  have HS' := Lib.hid (Ck.does HS.out hD)
  clear hD HS q0 q1 q2 q3 q4 q5 qf ql
  have HS := HS'
  clear HS'
  cases pb with
  | true =>
    have hr : same of a b pg = some r := HR2.out
    have HR := Lib.hid hr
    clear hr HR2
    obtain ⟨x0, x1, x2, x3, x4, x5, y0, y1, y2, y3, y4, y5⟩ := HX.out
    have hb := (H.out.of_ck hx HS.out).bel
    replace x0 := pw_cell_below hb x0
    replace x1 := pw_cell_below hb x1
    replace x2 := pw_cell_below hb x2
    replace x3 := pw_cell_below hb x3
    replace x4 := pw_cell_below hb x4
    replace x5 := pw_cell_below hb x5
    replace y0 := pw_cell_below hb y0
    replace y1 := pw_cell_below hb y1
    replace y2 := pw_cell_below hb y2
    replace y3 := pw_cell_below hb y3
    replace y4 := pw_cell_below hb y4
    replace y5 := pw_cell_below hb y5
    clear hb
    obtain ⟨q0, q1, q2, q3, q4, q5, qf⟩ := blk6 HS.out.l0
    have ql := blk_lt HS.out.l0
    go_wp2_with (fail)
    refine wp_region_still_tail 9 (by kernel_rfl) (by kernel_rfl) ?_
    simp only [List.take_succ_cons, List.take_zero, List.drop_succ_cons, List.drop_zero]
    change wpStill _ _ (World.drew _) _ _ _
    repeat still_step
    refine wpStill_nil ?_
    change wpList _ _ _ _ _ (World.drew _)
    go_wp2_with (fail)
    refine (same_walk hx hof a A0 c0 b A1 c1 pg r _ HE.out.1 HE.out.2 (H.out.of_ck hx HS.out.drew) HR.out).mono ?_
    rintro e' w9 ⟨rfl, hD⟩
    have HS' := Lib.hid (Ck.does HS.out.drew hD)
    clear hD HS
    have HS := HS'
    clear HS'
    go_wp2_with (fail)
    go_ret
    exact ⟨rfl, Does.of_ck HS.out⟩
  | false =>
    have hr : same of a b (bad e1 7 pg) = some r := HR2.out
    have HR := Lib.hid hr
    clear hr HR2
    obtain ⟨q0, q1, q2, q3, q4, q5, qf⟩ := blk6 HS.out.l0
    have ql := blk_lt HS.out.l0
    go_wp2_with (fail)
    refine (bad_walk hx e1 7 pg _ (H.out.of_ck hx HS.out)).mono ?_
    rintro e' w9 ⟨rfl, hD⟩
    have HS' := Lib.hid (Ck.does HS.out hD)
    clear hD HS
    have HS := HS'
    clear HS'
    clear q0 q1 q2 q3 q4 q5 qf ql
    obtain ⟨x0, x1, x2, x3, x4, x5, y0, y1, y2, y3, y4, y5⟩ := HX.out
    have hb := (H.out.of_ck hx HS.out).bel
    replace x0 := pw_cell_below hb x0
    replace x1 := pw_cell_below hb x1
    replace x2 := pw_cell_below hb x2
    replace x3 := pw_cell_below hb x3
    replace x4 := pw_cell_below hb x4
    replace x5 := pw_cell_below hb x5
    replace y0 := pw_cell_below hb y0
    replace y1 := pw_cell_below hb y1
    replace y2 := pw_cell_below hb y2
    replace y3 := pw_cell_below hb y3
    replace y4 := pw_cell_below hb y4
    replace y5 := pw_cell_below hb y5
    clear hb
    obtain ⟨q0, q1, q2, q3, q4, q5, qf⟩ := blk6 HS.out.l0
    have ql := blk_lt HS.out.l0
    go_wp2_with (fail)
    refine wp_region_still_tail 9 (by kernel_rfl) (by kernel_rfl) ?_
    simp only [List.take_succ_cons, List.take_zero, List.drop_succ_cons, List.drop_zero]
    change wpStill _ _ (World.drew _) _ _ _
    repeat still_step
    refine wpStill_nil ?_
    change wpList _ _ _ _ _ (World.drew _)
    go_wp2_with (fail)
    refine (same_walk hx hof a A0 c0 b A1 c1 (bad e1 7 pg) r _ HE.out.1 HE.out.2 (H.out.of_ck hx HS.out.drew) HR.out).mono ?_
    rintro e' w9 ⟨rfl, hD⟩
    have HS' := Lib.hid (Ck.does HS.out.drew hD)
    clear hD HS
    have HS := HS'
    clear HS'
    go_wp2_with (fail)
    go_ret
    exact ⟨rfl, Does.of_ck HS.out⟩
set_option maxHeartbeats 4000000 in
set_option maxRecDepth 100000 in
theorem of_k14 {x : Ctx} (hx : x.Ok) {of : Of} (hof : OfIs x of) : OfK x of (fun k => k = 14) := by
  intro e A c f r w hk he h hr
  obtain ⟨e0, e1, e2, e3, e4, e5⟩ := e
  obtain rfl : e0 = 14 := hk
  have hr : await of x.n ⟨14, e1, e2, e3, e4, e5⟩ f = some r := hr
  have H := Lib.hid h
  have HE := Lib.hid he
  have HR := Lib.hid hr
  clear h he hr
  go_enter Tryd.func112, Tryd.ntmps112
  go_wp2_with (fail)
  have HS := Lib.hid (H.out.ck.new (q := exO ⟨14, e1, e2, e3, e4, e5⟩ A c))
  obtain ⟨q0, q1, q2, q3, q4, q5, qf⟩ := blk6 HS.out.l0
  have ql := blk_lt HS.out.l0
  go_wp2_with (fail)
  refine (await_walk hx hof ⟨14, e1, e2, e3, e4, e5⟩ A c f r _ HE.out (H.out.of_ck hx HS.out) HR.out).mono ?_
  rintro e' w9 ⟨rfl, hD⟩
  have HS' := Lib.hid (Ck.does HS.out hD)
  clear hD HS
  have HS := HS'
  clear HS'
  go_wp2_with (fail)
  go_ret
  exact ⟨rfl, Does.of_ck HS.out⟩
set_option maxHeartbeats 4000000 in
set_option maxRecDepth 100000 in
theorem of_kcall {x : Ctx} (hx : x.Ok) {of : Of} (hof : OfIs x of) : OfK x of (fun k => k ≠ 1 ∧ k ≠ 2 ∧ k ≠ 3 ∧ k ≠ 4 ∧ k ≠ 5 ∧ k ≠ 6 ∧ k ≠ 7 ∧ k ≠ 8 ∧ k ≠ 9 ∧ k ≠ 10 ∧ k ≠ 11 ∧ k ≠ 12 ∧ k ≠ 14) := by
  intro e A c f r w hk he h hr
  obtain ⟨n1, n2, n3, n4, n5, n6, n7, n8, n9, n10, n11, n12, n14⟩ := hk
  have hr : ((call of x.l x.n e f).bind fun f1 => match (callee x.l e.f3).f3 with | d :: _ => some (d.f2.f0, f1) | [] => none) = some r := by
    have h9 := hr
    unfold ofK at h9
    rw [if_neg n1, if_neg n2, if_neg n3, if_neg n4, if_neg n5, if_neg n6, if_neg n7, if_neg (by omega), if_neg n10, if_neg (by omega), if_neg n14] at h9
    exact h9
  have i1 : (e.f0 = 1) = False := eq_false n1
  have j1 : (e.f0 == 1) = false := beq_eq_false_iff_ne.2 n1
  have i2 : (e.f0 = 2) = False := eq_false n2
  have j2 : (e.f0 == 2) = false := beq_eq_false_iff_ne.2 n2
  have i3 : (e.f0 = 3) = False := eq_false n3
  have j3 : (e.f0 == 3) = false := beq_eq_false_iff_ne.2 n3
  have i4 : (e.f0 = 4) = False := eq_false n4
  have j4 : (e.f0 == 4) = false := beq_eq_false_iff_ne.2 n4
  have i5 : (e.f0 = 5) = False := eq_false n5
  have j5 : (e.f0 == 5) = false := beq_eq_false_iff_ne.2 n5
  have i6 : (e.f0 = 6) = False := eq_false n6
  have j6 : (e.f0 == 6) = false := beq_eq_false_iff_ne.2 n6
  have i7 : (e.f0 = 7) = False := eq_false n7
  have j7 : (e.f0 == 7) = false := beq_eq_false_iff_ne.2 n7
  have i8 : (e.f0 = 8) = False := eq_false n8
  have j8 : (e.f0 == 8) = false := beq_eq_false_iff_ne.2 n8
  have i9 : (e.f0 = 9) = False := eq_false n9
  have j9 : (e.f0 == 9) = false := beq_eq_false_iff_ne.2 n9
  have i10 : (e.f0 = 10) = False := eq_false n10
  have j10 : (e.f0 == 10) = false := beq_eq_false_iff_ne.2 n10
  have i11 : (e.f0 = 11) = False := eq_false n11
  have j11 : (e.f0 == 11) = false := beq_eq_false_iff_ne.2 n11
  have i12 : (e.f0 = 12) = False := eq_false n12
  have j12 : (e.f0 == 12) = false := beq_eq_false_iff_ne.2 n12
  have i14 : (e.f0 = 14) = False := eq_false n14
  have j14 : (e.f0 == 14) = false := beq_eq_false_iff_ne.2 n14
  clear n1 n2 n3 n4 n5 n6 n7 n8 n9 n10 n11 n12 n14
  obtain ⟨f1, hw, hr⟩ := Option.bind_eq_some_iff.1 hr
  obtain ⟨m, hm⟩ : ∃ m, callee x.l e.f3 = m := ⟨_, rfl⟩
  rw [hm] at hr
  obtain ⟨d, tl, hd, hr⟩ : ∃ d tl, m.f3 = d :: tl ∧ some (d.f2.f0, f1) = some r := by
    cases hd : m.f3 with
    | nil => rw [hd] at hr; cases hr
    | cons d tl => rw [hd] at hr; exact ⟨d, tl, rfl, hr⟩
  obtain rfl := Option.some.inj hr
  have H := Lib.hid h
  have HE := Lib.hid he
  have HD := Lib.hid hm
  have HW := Lib.hid (And.intro hw hd)
  clear h he hr hm hw hd
  go_enter Tryd.func112, Tryd.ntmps112
  go_wp2_with (fail)
  have HS := Lib.hid (H.out.ck.new (q := exO e A c))
  generalize hW : w.alloc _ = W
  rw [hW] at HS
  clear hW
  obtain ⟨q0, q1, q2, q3, q4, q5, qf⟩ := blk6 HS.out.l0
  have ql := blk_lt HS.out.l0
  go_wp2_with (fail)
  refine (call_walk hx hof e A c f f1 _ HE.out (H.out.of_ck hx HS.out) HW.out.1).mono ?_
  rintro e' w9 ⟨rfl, hD⟩
  have HS' := Lib.hid (Ck.does HS.out hD)
  clear hD HS
  have HS := HS'
  clear HS'
  clear q0 q1 q2 q3 q4 q5 qf ql i1 j1 i2 j2 i3 j3 i4 j4 i5 j5 i6 j6 i7 j7 i8 j8 i9 j9 i10 j10 i11 j11 i12 j12 i14 j14
  obtain ⟨q0, q1, q2, q3, q4, q5, qf⟩ := blk6 HS.out.l0
  have ql := blk_lt HS.out.l0
  go_wp2_with (fail)
  have pfS : ∀ {V : World}, Ck x.c w V (x.obj f1) [(w.heap.size, exO e A c)] → V.cell? ⟨x.c, 0, none⟩ = some (.slice x.A x.l.length x.cap) ∧ V.cell? ⟨w.heap.size, 3, none⟩ = some (.string e.f3) := fun {V} h => ⟨blk_cell h.blk 0, blk_cell h.l0 3⟩
  have hS0 : (w9.drew).cell? ⟨x.c, 0, none⟩ = some (.slice x.A x.l.length x.cap) ∧ (w9.drew).cell? ⟨w.heap.size, 3, none⟩ = some (.string e.f3) := pfS HS.out.drew
  have hSa : ∀ o, ((w9.drew).alloc o).cell? ⟨x.c, 0, none⟩ = some (.slice x.A x.l.length x.cap) ∧ ((w9.drew).alloc o).cell? ⟨w.heap.size, 3, none⟩ = some (.string e.f3) := fun o => pfS (Ck.alloc HS.out.drew)
  have hSb : ∀ o, ((w9.alloc o).drew).cell? ⟨x.c, 0, none⟩ = some (.slice x.A x.l.length x.cap) ∧ ((w9.alloc o).drew).cell? ⟨w.heap.size, 3, none⟩ = some (.string e.f3) := fun o => pfS (Ck.drew (Ck.alloc HS.out))
  have ge9 : w.heap.size ≤ w9.heap.size := HS.out.sz
  have nb9 : ∀ y ∈ ([(w.heap.size, exO e A c)] : List (Nat × Obj)), y.1 ≠ w9.heap.size := fun y hy => Nat.ne_of_lt (blk_lt (HS.out.loc y hy).2)
  go_cut [5] (fun u wc => ∃ gm B2 b2 B3 b3 B4 b4 B5 b5, u = .pointer (some ⟨gm, 0, none⟩) ∧ Hid (Ck x.c w wc (x.obj f1) ((gm, ndO m B2 b2 B3 b3 B4 b4 B5 b5) :: [(w.heap.size, exO e A c)])) ∧ Hid (NdAt x.w0 m B2 b2 B3 b3 B4 b4 B5 b5))
  case first =>
    go_region_held2 (fun w' => w'.cell? ⟨x.c, 0, none⟩ = some (.slice x.A x.l.length x.cap) ∧ w'.cell? ⟨w.heap.size, 3, none⟩ = some (.string e.f3)) (first | with_reducible exact hS0 | with_reducible exact hSa _ | with_reducible exact hSb _ | with_reducible exact hS1 | with_reducible exact hS2 _ | with_reducible exact hS5 _ _ _ _ _ _) (first | (go_at_call 86; (first | ((with_reducible refine (callee_walk hx e.f3 _ (H.out.of_ck hx (HS.out.drew)).bel).mono ?_); go_must (rintro e' w1 ⟨B2, b2, B3, b3, B4, b4, B5, b5, rfl, hN, hb⟩; rw [HD.out] at hN; have HM := Lib.hid hN; clear hN; (try rw [HD.out]); have HSC := Lib.hid (Ck.below (HS.out.drew) hb); have mkX : True := trivial; have hS1 : w1.cell? ⟨x.c, 0, none⟩ = some (.slice x.A x.l.length x.cap) ∧ w1.cell? ⟨w.heap.size, 3, none⟩ = some (.string e.f3) := pfS HSC.out; have hS2 : ∀ o, (w1.alloc o).cell? ⟨x.c, 0, none⟩ = some (.slice x.A x.l.length x.cap) ∧ (w1.alloc o).cell? ⟨w.heap.size, 3, none⟩ = some (.string e.f3) := fun o => pfS (Ck.alloc HSC.out); clear hb)) | ((with_reducible refine (callee_walk hx e.f3 _ (H.out.of_ck hx (Ck.drew (Ck.new (q := Obj.cells #[.string ⟨#[]⟩, .int .i64 0, .slice none 0 0, .slice none 0 0, .slice none 0 0, .slice none 0 0] 34) HS.out))).bel).mono ?_); go_must (rintro e' w1 ⟨B2, b2, B3, b3, B4, b4, B5, b5, rfl, hN, hb⟩; rw [HD.out] at hN; have HM := Lib.hid hN; clear hN; (try rw [HD.out]); have HSC := Lib.hid (Ck.below (HS.out.new.drew) hb); have mkX : True ∧ True := ⟨trivial, trivial⟩; have hS1 : w1.cell? ⟨x.c, 0, none⟩ = some (.slice x.A x.l.length x.cap) ∧ w1.cell? ⟨w.heap.size, 3, none⟩ = some (.string e.f3) := pfS (Ck.drop1 HSC.out); have hS2 : ∀ o, (w1.alloc o).cell? ⟨x.c, 0, none⟩ = some (.slice x.A x.l.length x.cap) ∧ (w1.alloc o).cell? ⟨w.heap.size, 3, none⟩ = some (.string e.f3) := fun o => pfS (Ck.alloc (Ck.drop1 HSC.out)); have hS5 : ∀ v0 v1 v2 v3 v4 v5 : Value, ((((((w1.setCell ⟨w9.heap.size, 0, none⟩ v0).setCell ⟨w9.heap.size, 1, none⟩ v1).setCell ⟨w9.heap.size, 2, none⟩ v2).setCell ⟨w9.heap.size, 3, none⟩ v3).setCell ⟨w9.heap.size, 4, none⟩ v4).setCell ⟨w9.heap.size, 5, none⟩ v5).cell? ⟨x.c, 0, none⟩ = some (.slice x.A x.l.length x.cap) ∧ ((((((w1.setCell ⟨w9.heap.size, 0, none⟩ v0).setCell ⟨w9.heap.size, 1, none⟩ v1).setCell ⟨w9.heap.size, 2, none⟩ v2).setCell ⟨w9.heap.size, 3, none⟩ v3).setCell ⟨w9.heap.size, 4, none⟩ v4).setCell ⟨w9.heap.size, 5, none⟩ v5).cell? ⟨w.heap.size, 3, none⟩ = some (.string e.f3) := fun v0 v1 v2 v3 v4 v5 => pfS (Ck.st6 nb9 ge9 (Ck.drop1 HSC.out) v0 v1 v2 v3 v4 v5); obtain ⟨z0, z1, z2, z3, z4, z5, zf⟩ := blk6 HSC.out.l0; have zl := blk_lt HSC.out.l0; clear hb)) | ((with_reducible refine (callee_walk hx e.f3 _ (H.out.of_ck hx (Ck.newg (g := w9.heap.size) (q := Obj.cells #[.string ⟨#[]⟩, .int .i64 0, .slice none 0 0, .slice none 0 0, .slice none 0 0, .slice none 0 0] 34) rfl (Ck.drew HS.out))).bel).mono ?_); go_must (rintro e' w1 ⟨B2, b2, B3, b3, B4, b4, B5, b5, rfl, hN, hb⟩; rw [HD.out] at hN; have HM := Lib.hid hN; clear hN; (try rw [HD.out]); have HSC := Lib.hid (Ck.below (Ck.newg (g := w9.heap.size) rfl (Ck.drew HS.out)) hb); have mkX : True ∧ True := ⟨trivial, trivial⟩; have hS1 : w1.cell? ⟨x.c, 0, none⟩ = some (.slice x.A x.l.length x.cap) ∧ w1.cell? ⟨w.heap.size, 3, none⟩ = some (.string e.f3) := pfS (Ck.drop1 HSC.out); have hS2 : ∀ o, (w1.alloc o).cell? ⟨x.c, 0, none⟩ = some (.slice x.A x.l.length x.cap) ∧ (w1.alloc o).cell? ⟨w.heap.size, 3, none⟩ = some (.string e.f3) := fun o => pfS (Ck.alloc (Ck.drop1 HSC.out)); have hS5 : ∀ v0 v1 v2 v3 v4 v5 : Value, ((((((w1.setCell ⟨w9.heap.size, 0, none⟩ v0).setCell ⟨w9.heap.size, 1, none⟩ v1).setCell ⟨w9.heap.size, 2, none⟩ v2).setCell ⟨w9.heap.size, 3, none⟩ v3).setCell ⟨w9.heap.size, 4, none⟩ v4).setCell ⟨w9.heap.size, 5, none⟩ v5).cell? ⟨x.c, 0, none⟩ = some (.slice x.A x.l.length x.cap) ∧ ((((((w1.setCell ⟨w9.heap.size, 0, none⟩ v0).setCell ⟨w9.heap.size, 1, none⟩ v1).setCell ⟨w9.heap.size, 2, none⟩ v2).setCell ⟨w9.heap.size, 3, none⟩ v3).setCell ⟨w9.heap.size, 4, none⟩ v4).setCell ⟨w9.heap.size, 5, none⟩ v5).cell? ⟨w.heap.size, 3, none⟩ = some (.string e.f3) := fun v0 v1 v2 v3 v4 v5 => pfS (Ck.st6 nb9 ge9 (Ck.drop1 HSC.out) v0 v1 v2 v3 v4 v5); obtain ⟨z0, z1, z2, z3, z4, z5, zf⟩ := blk6 HSC.out.l0; have zl := blk_lt HSC.out.l0; clear hb)))))
    all_goals
      go_wp2_with (fail)
      go_meet
      case rel =>
        first
        | (have _tk : True ∧ True := mkX
           refine ⟨w9.heap.size, _, _, _, _, _, _, _, _, rfl, Lib.hid ?_, HM⟩
           exact (Ck.set6 HSC.out nb9 _ _ _ _ _ _))
        | (have _tk : True := mkX
           refine ⟨w1.heap.size, _, _, _, _, _, _, _, _, rfl, Lib.hid ?_, HM⟩
           exact (Ck.new HSC.out))
  case rest =>
    obtain ⟨gm, B2, b2, B3, b3, B4, b4, B5, b5, rfl, HS', HM⟩ := hcut
    clear HS hS0 hSa hSb pfS ge9 nb9
    have HS := HS'
    clear HS'
    obtain ⟨m0, m1, m2, m3, m4, m5, mf⟩ := blk6 HS.out.l0
    have ml := blk_lt HS.out.l0
    obtain ⟨ad2, hA2, y0, y1, y2, y3, y4, y5⟩ := dec_at HM.out.h3 0 d (by rw [HW.out.2]; rfl)
    subst hA2
    simp only [Nat.reduceMul, Nat.reduceEqDiff, Go.Addr.add, ↓reduceIte] at y0 y1 y2 y3 y4 y5
    have hb := (H.out.of_ck hx HS.out).bel
    replace y2 := pw_cell_below hb y2
    have l0 : (0 : Int) < (m.f3.length : Int) := by rw [HW.out.2]; simp only [List.length_cons]; omega
    have l0' : (0 < m.f3.length) = True := eq_true (by omega)
    clear hb y0 y1 y3 y4 y5
    go_wp2_with (fail)
    go_ret
    exact ⟨rfl, Does.of_ck HS.out⟩
theorem of_walk {x : Ctx} (hx : x.Ok) {of : Of} (hof : OfIs x of) : OfIs x (ofK of x.l x.n) := by
  intro e A c f r w he h hr
  by_cases n1 : e.f0 = 1
  · exact of_k1 hx hof e A c f r w n1 he h hr
  by_cases n2 : e.f0 = 2
  · exact of_k2 hx hof e A c f r w n2 he h hr
  by_cases n3 : e.f0 = 3
  · exact of_k3 hx hof e A c f r w n3 he h hr
  by_cases n4 : e.f0 = 4
  · exact of_k4 hx hof e A c f r w n4 he h hr
  by_cases n5 : e.f0 = 5
  · exact of_k5 hx hof e A c f r w n5 he h hr
  by_cases n6 : e.f0 = 6
  · exact of_k6 hx hof e A c f r w n6 he h hr
  by_cases n7 : e.f0 = 7
  · exact of_k7 hx hof e A c f r w n7 he h hr
  by_cases n8 : e.f0 = 8
  · exact of_k8 hx hof e A c f r w n8 he h hr
  by_cases n9 : e.f0 = 9
  · exact of_k9 hx hof e A c f r w n9 he h hr
  by_cases n10 : e.f0 = 10
  · exact of_k10 hx hof e A c f r w n10 he h hr
  by_cases n11 : e.f0 = 11
  · exact of_k11 hx hof e A c f r w n11 he h hr
  by_cases n12 : e.f0 = 12
  · exact of_k12 hx hof e A c f r w n12 he h hr
  by_cases n14 : e.f0 = 14
  · exact of_k14 hx hof e A c f r w n14 he h hr
  exact of_kcall hx hof e A c f r w ⟨n1, n2, n3, n4, n5, n6, n7, n8, n9, n10, n11, n12, n14⟩ he h hr
theorem of_is {x : Ctx} (hx : x.Ok) : ∀ k : Nat, OfIs x (of k x.l x.n)
  | 0 => by intro e A c f r w he h hr; cases hr
  | k + 1 => of_walk hx (of_is hx k)
end Go.Proofs.YtjafllnbgfcchaaDoor.Ct
end
section
/- The checker of types: gives, walked. -/
namespace Go.Proofs.YtjafllnbgfcchaaDoor.Ct
set_option linter.unusedVariables false
set_option linter.unusedSimpArgs false
open Go Go.RowKit Go.Proofs.YtjafllnbgfcchaaDoorW.PrintWords Go.Proofs.YtjafllnbgfcchaaDoorW.PrintLast Go.Proofs.YtjafllnbgfcchaaDoorW.PrintMore Go.Proofs.YtjafllnbgfcchaaDoor.Lx Go.Proofs.YtjafllnbgfcchaaDoor.XK Go.Proofs.YtjafllnbgfcchaaDoor.Px Go.Proofs.YtjafllnbgfcchaaDoor.Ck
attribute [local go_sem ↓] Go.wp_at_zero Go.wp_at_succ
theorem blk8 {W : World} {g : Nat} {t : TypeId} {a0 a1 a2 a3 a4 a5 a6 a7 : Value} (h : W.heap[g]? = some (.cells #[a0, a1, a2, a3, a4, a5, a6, a7] t (0, 0))) :
    W.cell? ⟨g, 0, none⟩ = some a0 ∧ W.cell? ⟨g, 1, none⟩ = some a1 ∧ W.cell? ⟨g, 2, none⟩ = some a2 ∧ W.cell? ⟨g, 3, none⟩ = some a3 ∧ W.cell? ⟨g, 4, none⟩ = some a4 ∧ W.cell? ⟨g, 5, none⟩ = some a5 ∧ W.cell? ⟨g, 6, none⟩ = some a6 ∧ W.cell? ⟨g, 7, none⟩ = some a7 ∧ ∀ j, W.frozen? ⟨g, j, none⟩ = false :=
  ⟨blk_cell h 0, blk_cell h 1, blk_cell h 2, blk_cell h 3, blk_cell h 4, blk_cell h 5, blk_cell h 6, blk_cell h 7, fun j => blk_frozen h j⟩
def tyCells (l : List (Bool × Bool)) : List Value := (l.map fun t => [Value.bool t.1, .bool t.2]).flatten
theorem tyCells_add (l : List (Bool × Bool)) (t : Bool × Bool) : tyCells (l ++ [t]) = tyCells l ++ [.bool t.1, .bool t.2] := by simp [tyCells]
theorem own_one (W : World) (base : Nat) (hb : base ≤ W.heap.size) (a b : Bool) : (W.alloc (.cells #[.bool a, .bool b] 37)).ownsRow base 37 2 (.slice (some ⟨W.heap.size, 0, none⟩) 1 1) 1 (tyCells [(a, b)]) :=
  ⟨rfl, .inr ⟨W.heap.size, 1, _, rfl, hb, heap_alloc_new W _, Nat.le_refl _, by decide, rfl, rfl⟩⟩
theorem _root_.Go.Proofs.YtjafllnbgfcchaaDoor.Ck.Ck.grown {c : Nat} {w W W' : World} {o : Obj} {l : List (Nat × Obj)} {r : Option Nat} (h : Ck c w W o l) (hb : Below w.heap.size W W') (hg : W.grownBy W' r) (hn : ∀ y ∈ l, r ≠ some y.1) : Ck c w W' o l :=
  ⟨⟨hb.os.trans h.only.os, hb.tape.trans h.only.tape, hb.output.trans h.only.output, Nat.le_trans h.only.size hb.size, fun i hi hn => (hb.block i hi).trans (h.only.keep i hi hn)⟩, (hb.block c h.lc).trans h.blk, h.lc, fun y hy => ⟨(h.loc y hy).1, (hg.block y.1 (blk_lt (h.loc y hy).2) (fun e => hn y hy e.symm)).trans (h.loc y hy).2⟩⟩
theorem own_only {c base n size : Nat} {e : TypeId} {v : Value} {xs : List Value} {W W' : World} (hO : Only c W W') (h : W.ownsRow base e size v n xs) (hc : c < base) : W'.ownsRow base e size v n xs :=
  own_other h (row := some c) ⟨hO.os, hO.tape, hO.output, hO.size, fun k hk hn => hO.keep k hk (fun e => hn (by rw [e]))⟩ (.inr (fun he => by have := own_base h _ he; omega))
abbrev eqA (q : Q) (A0 : Option Addr) (c0 : Nat) (A7 : Option Addr) (c7 : Nat) : Value := .agg #[.slice A0 q.f0.length c0, .bool q.f1, .int .i64 q.f2.f0, .int .i64 q.f2.f1, .int .i64 q.f2.f2, .string q.f2.f3, .bool q.f2.f4, .slice A7 q.f2.f5.length c7]
abbrev eqO (q : Q) (A0 : Option Addr) (c0 : Nat) (A7 : Option Addr) (c7 : Nat) : Obj := .cells #[.slice A0 q.f0.length c0, .bool q.f1, .int .i64 q.f2.f0, .int .i64 q.f2.f1, .int .i64 q.f2.f2, .string q.f2.f3, .bool q.f2.f4, .slice A7 q.f2.f5.length c7] 45 (0, 0)
structure QAt (w0 : World) (q : Q) (A0 : Option Addr) (c0 : Nat) (A7 : Option Addr) (c7 : Nat) : Prop where
  left : Kd.C k47 w0 A0 q.f0.length q.f0
  room : q.f0.length ≤ c0
  e : ExAt w0 q.f2 A7 c7
abbrev GivesIs (x : Ctx) (of : Of) : Prop := ∀ (q : Q) (A0 : Option Addr) (c0 : Nat) (A7 : Option Addr) (c7 : Nat) (f : F) (r : List (Bool × Bool) × F) (w : World), QAt x.w0 q A0 c0 A7 c7 → At x w f → gives of x.l x.n q f = some r →
  Calls Tryd.prog 94 #[.pointer (some ⟨x.c, 0, none⟩), eqA q A0 c0 A7 c7] w fun e' w' => ∃ v, e' = .returned v ∧ w'.ownsRow w.heap.size 37 2 v r.1.length (tyCells r.1) ∧ Does x r.2 w w'
set_option maxHeartbeats 4000000 in
theorem gives_one {x : Ctx} (hx : x.Ok) {of : Of} (hof : OfIs x of) (q : Q) (A0 : Option Addr) (c0 : Nat) (A7 : Option Addr) (c7 : Nat) (f : F) (r : List (Bool × Bool) × F) (w : World) (hq : QAt x.w0 q A0 c0 A7 c7) (h : At x w f) (hr : gives of x.l x.n q f = some r) (hn : q.f2.f0 ≠ 13) :
  Calls Tryd.prog 94 #[.pointer (some ⟨x.c, 0, none⟩), eqA q A0 c0 A7 c7] w fun e' w' => ∃ v, e' = .returned v ∧ w'.ownsRow w.heap.size 37 2 v r.1.length (tyCells r.1) ∧ Does x r.2 w w' := by
  unfold gives at hr
  rw [if_neg hn] at hr
  obtain ⟨p, hp, hr⟩ := Option.bind_eq_some_iff.1 hr
  obtain rfl := Option.some.inj hr
  have H := Lib.hid h
  have HE := Lib.hid hq
  have HP := Lib.hid hp
  have hb : (q.f2.f0 != 13) = true := bne_iff_ne.2 hn
  clear h hq hr hp hn
  go_enter Tryd.func94, Tryd.ntmps94
  go_wp2_with (fail)
  have HS := Lib.hid (H.out.ck.new (q := eqO q A0 c0 A7 c7))
  generalize hW : w.alloc _ = W
  rw [hW] at HS
  clear hW
  obtain ⟨q0, q1, q2, q3, q4, q5, q6, q7, qf⟩ := blk8 HS.out.l0
  have ql := blk_lt HS.out.l0
  go_wp2_with (fail)
  refine (hof q.f2 A7 c7 f p _ HE.out.e (H.out.of_ck hx HS.out) HP.out).mono ?_
  rintro e' w9 ⟨rfl, hD⟩
  have HS' := Lib.hid (Ck.does HS.out hD)
  clear hD HS
  have HS := HS'
  clear HS'
  go_wp2_with (fail)
  go_ret
  exact ⟨_, rfl, own_one _ _ HS.out.sz _ _, Does.of_ck HS.out.alloc⟩
theorem info_ty : (Tryd.prog.info? 37).map (fun i => (i.zero, i.size, i.bytes)) = some (some (.agg #[.bool false, .bool false]), 2, 2) := by kernel_rfl
abbrev outs (m : N) (a : Bool) : List (Bool × Bool) := m.f3.map fun d => (d.f2.f0, a)
theorem outs_take {m : N} {a : Bool} {i : Nat} {d : D} (h : m.f3[i]? = some d) : (outs m a).take (i + 1) = (outs m a).take i ++ [(d.f2.f0, a)] := by
  have h2 : (outs m a)[i]? = some (d.f2.f0, a) := by simp [h]
  rw [List.take_add_one, h2]
  rfl
theorem ty_bytes {i n : Nat} (h : i < n) (hn : ¬ 1000000 < n) : (i + 1) * 2 ≤ 140737488355328 := by omega
set_option maxHeartbeats 4000000 in
set_option maxRecDepth 100000 in
theorem gives_call {x : Ctx} (hx : x.Ok) {of : Of} (hof : OfIs x of) (q : Q) (A0 : Option Addr) (c0 : Nat) (A7 : Option Addr) (c7 : Nat) (f : F) (r : List (Bool × Bool) × F) (w : World) (hq : QAt x.w0 q A0 c0 A7 c7) (h : At x w f) (hr : gives of x.l x.n q f = some r) (hn : q.f2.f0 = 13) :
  Calls Tryd.prog 94 #[.pointer (some ⟨x.c, 0, none⟩), eqA q A0 c0 A7 c7] w fun e' w' => ∃ v, e' = .returned v ∧ w'.ownsRow w.heap.size 37 2 v r.1.length (tyCells r.1) ∧ Does x r.2 w w' := by
  unfold gives at hr
  rw [if_pos hn] at hr
  split at hr
  case isTrue => cases hr
  rename_i hfew
  obtain ⟨f1, hw, hr⟩ := Option.bind_eq_some_iff.1 hr
  obtain ⟨m, hm⟩ : ∃ m, callee x.l q.f2.f3 = m := ⟨_, rfl⟩
  rw [hm] at hr hfew
  have HF := Lib.hid hfew
  clear hfew
  obtain rfl := Option.some.inj hr
  have H := Lib.hid h
  have HE := Lib.hid hq
  have HW := Lib.hid hw
  have HD := Lib.hid hm
  have hb : (q.f2.f0 != 13) = false := by rw [hn]; rfl
  clear h hq hr hw hm hn
  obtain ⟨P', hP⟩ : ∃ P' : Ending → World → Prop, P' = _ := ⟨fun e' w' => ∃ v, e' = .returned v ∧ w'.ownsRow w.heap.size 37 2 v (outs m q.f1).length (tyCells (outs m q.f1)) ∧ Does x (if q.f1 && (outs m q.f1).length != 1 then bad q.f2.f1 12 f1 else f1) w w', rfl⟩
  show Calls _ _ _ w (fun e' w' => ∃ v, e' = .returned v ∧ w'.ownsRow w.heap.size 37 2 v (outs m q.f1).length (tyCells (outs m q.f1)) ∧ Does x (if q.f1 && (outs m q.f1).length != 1 then bad q.f2.f1 12 f1 else f1) w w')
  rw [← hP]
  have HP := Lib.hid hP
  clear hP
  go_enter Tryd.func94, Tryd.ntmps94
  go_wp2_with (fail)
  have HS := Lib.hid (H.out.ck.new (q := eqO q A0 c0 A7 c7))
  generalize hW : w.alloc _ = W
  rw [hW] at HS
  clear hW
  obtain ⟨q0, q1, q2, q3, q4, q5, q6, q7, qf⟩ := blk8 HS.out.l0
  have ql := blk_lt HS.out.l0
  go_wp2_with (fail)
  refine (call_walk hx hof q.f2 A7 c7 f f1 _ HE.out.e (H.out.of_ck hx HS.out) HW.out).mono ?_
  rintro e' w9 ⟨rfl, hD⟩
  have HS' := Lib.hid (Ck.does HS.out hD)
  clear hD HS
  have HS := HS'
  clear HS'
  clear q0 q1 q2 q3 q4 q5 q6 q7 qf ql
  obtain ⟨q0, q1, q2, q3, q4, q5, q6, q7, qf⟩ := blk8 HS.out.l0
  have ql := blk_lt HS.out.l0
  go_wp2_with (fail)
  have pfS : ∀ {V : World}, Ck x.c w V (x.obj f1) [(w.heap.size, eqO q A0 c0 A7 c7)] → V.cell? ⟨x.c, 0, none⟩ = some (.slice x.A x.l.length x.cap) ∧ V.cell? ⟨w.heap.size, 5, none⟩ = some (.string q.f2.f3) := fun {V} h => ⟨blk_cell h.blk 0, blk_cell h.l0 5⟩
  have hS0 : (w9.drew).cell? ⟨x.c, 0, none⟩ = some (.slice x.A x.l.length x.cap) ∧ (w9.drew).cell? ⟨w.heap.size, 5, none⟩ = some (.string q.f2.f3) := pfS HS.out.drew
  have hSa : ∀ o, ((w9.drew).alloc o).cell? ⟨x.c, 0, none⟩ = some (.slice x.A x.l.length x.cap) ∧ ((w9.drew).alloc o).cell? ⟨w.heap.size, 5, none⟩ = some (.string q.f2.f3) := fun o => pfS (Ck.alloc HS.out.drew)
  have hSb : ∀ o, ((w9.alloc o).drew).cell? ⟨x.c, 0, none⟩ = some (.slice x.A x.l.length x.cap) ∧ ((w9.alloc o).drew).cell? ⟨w.heap.size, 5, none⟩ = some (.string q.f2.f3) := fun o => pfS (Ck.drew (Ck.alloc HS.out))
  have ge9 : w.heap.size ≤ w9.heap.size := HS.out.sz
  have nb9 : ∀ y ∈ ([(w.heap.size, eqO q A0 c0 A7 c7)] : List (Nat × Obj)), y.1 ≠ w9.heap.size := fun y hy => Nat.ne_of_lt (blk_lt (HS.out.loc y hy).2)
  go_cut [5] (fun u wc => ∃ gm B2 b2 B3 b3 B4 b4 B5 b5, u = .pointer (some ⟨gm, 0, none⟩) ∧ Hid (Ck x.c w wc (x.obj f1) ((gm, ndO m B2 b2 B3 b3 B4 b4 B5 b5) :: [(w.heap.size, eqO q A0 c0 A7 c7)])) ∧ Hid (NdAt x.w0 m B2 b2 B3 b3 B4 b4 B5 b5))
  case first =>
    go_region_held2 (fun w' => w'.cell? ⟨x.c, 0, none⟩ = some (.slice x.A x.l.length x.cap) ∧ w'.cell? ⟨w.heap.size, 5, none⟩ = some (.string q.f2.f3)) (first | with_reducible exact hS0 | with_reducible exact hSa _ | with_reducible exact hSb _ | with_reducible exact hS1 | with_reducible exact hS2 _ | with_reducible exact hS5 _ _ _ _ _ _) (first | (go_at_call 86; (first | ((with_reducible refine (callee_walk hx q.f2.f3 _ (H.out.of_ck hx (HS.out.drew)).bel).mono ?_); go_must (rintro e' w1 ⟨B2, b2, B3, b3, B4, b4, B5, b5, rfl, hN, hb⟩; rw [HD.out] at hN; have HM := Lib.hid hN; clear hN; (try rw [HD.out]); have HSC := Lib.hid (Ck.below (HS.out.drew) hb); have mkX : True := trivial; have hS1 : w1.cell? ⟨x.c, 0, none⟩ = some (.slice x.A x.l.length x.cap) ∧ w1.cell? ⟨w.heap.size, 5, none⟩ = some (.string q.f2.f3) := pfS HSC.out; have hS2 : ∀ o, (w1.alloc o).cell? ⟨x.c, 0, none⟩ = some (.slice x.A x.l.length x.cap) ∧ (w1.alloc o).cell? ⟨w.heap.size, 5, none⟩ = some (.string q.f2.f3) := fun o => pfS (Ck.alloc HSC.out); clear hb)) | ((with_reducible refine (callee_walk hx q.f2.f3 _ (H.out.of_ck hx (Ck.drew (Ck.new (q := Obj.cells #[.string ⟨#[]⟩, .int .i64 0, .slice none 0 0, .slice none 0 0, .slice none 0 0, .slice none 0 0] 34) HS.out))).bel).mono ?_); go_must (rintro e' w1 ⟨B2, b2, B3, b3, B4, b4, B5, b5, rfl, hN, hb⟩; rw [HD.out] at hN; have HM := Lib.hid hN; clear hN; (try rw [HD.out]); have HSC := Lib.hid (Ck.below (HS.out.new.drew) hb); have mkX : True ∧ True := ⟨trivial, trivial⟩; have hS1 : w1.cell? ⟨x.c, 0, none⟩ = some (.slice x.A x.l.length x.cap) ∧ w1.cell? ⟨w.heap.size, 5, none⟩ = some (.string q.f2.f3) := pfS (Ck.drop1 HSC.out); have hS2 : ∀ o, (w1.alloc o).cell? ⟨x.c, 0, none⟩ = some (.slice x.A x.l.length x.cap) ∧ (w1.alloc o).cell? ⟨w.heap.size, 5, none⟩ = some (.string q.f2.f3) := fun o => pfS (Ck.alloc (Ck.drop1 HSC.out)); have hS5 : ∀ v0 v1 v2 v3 v4 v5 : Value, ((((((w1.setCell ⟨w9.heap.size, 0, none⟩ v0).setCell ⟨w9.heap.size, 1, none⟩ v1).setCell ⟨w9.heap.size, 2, none⟩ v2).setCell ⟨w9.heap.size, 3, none⟩ v3).setCell ⟨w9.heap.size, 4, none⟩ v4).setCell ⟨w9.heap.size, 5, none⟩ v5).cell? ⟨x.c, 0, none⟩ = some (.slice x.A x.l.length x.cap) ∧ ((((((w1.setCell ⟨w9.heap.size, 0, none⟩ v0).setCell ⟨w9.heap.size, 1, none⟩ v1).setCell ⟨w9.heap.size, 2, none⟩ v2).setCell ⟨w9.heap.size, 3, none⟩ v3).setCell ⟨w9.heap.size, 4, none⟩ v4).setCell ⟨w9.heap.size, 5, none⟩ v5).cell? ⟨w.heap.size, 5, none⟩ = some (.string q.f2.f3) := fun v0 v1 v2 v3 v4 v5 => pfS (Ck.st6 nb9 ge9 (Ck.drop1 HSC.out) v0 v1 v2 v3 v4 v5); obtain ⟨z0, z1, z2, z3, z4, z5, zf⟩ := blk6 HSC.out.l0; have zl := blk_lt HSC.out.l0; clear hb)) | ((with_reducible refine (callee_walk hx q.f2.f3 _ (H.out.of_ck hx (Ck.newg (g := w9.heap.size) (q := Obj.cells #[.string ⟨#[]⟩, .int .i64 0, .slice none 0 0, .slice none 0 0, .slice none 0 0, .slice none 0 0] 34) rfl (Ck.drew HS.out))).bel).mono ?_); go_must (rintro e' w1 ⟨B2, b2, B3, b3, B4, b4, B5, b5, rfl, hN, hb⟩; rw [HD.out] at hN; have HM := Lib.hid hN; clear hN; (try rw [HD.out]); have HSC := Lib.hid (Ck.below (Ck.newg (g := w9.heap.size) rfl (Ck.drew HS.out)) hb); have mkX : True ∧ True := ⟨trivial, trivial⟩; have hS1 : w1.cell? ⟨x.c, 0, none⟩ = some (.slice x.A x.l.length x.cap) ∧ w1.cell? ⟨w.heap.size, 5, none⟩ = some (.string q.f2.f3) := pfS (Ck.drop1 HSC.out); have hS2 : ∀ o, (w1.alloc o).cell? ⟨x.c, 0, none⟩ = some (.slice x.A x.l.length x.cap) ∧ (w1.alloc o).cell? ⟨w.heap.size, 5, none⟩ = some (.string q.f2.f3) := fun o => pfS (Ck.alloc (Ck.drop1 HSC.out)); have hS5 : ∀ v0 v1 v2 v3 v4 v5 : Value, ((((((w1.setCell ⟨w9.heap.size, 0, none⟩ v0).setCell ⟨w9.heap.size, 1, none⟩ v1).setCell ⟨w9.heap.size, 2, none⟩ v2).setCell ⟨w9.heap.size, 3, none⟩ v3).setCell ⟨w9.heap.size, 4, none⟩ v4).setCell ⟨w9.heap.size, 5, none⟩ v5).cell? ⟨x.c, 0, none⟩ = some (.slice x.A x.l.length x.cap) ∧ ((((((w1.setCell ⟨w9.heap.size, 0, none⟩ v0).setCell ⟨w9.heap.size, 1, none⟩ v1).setCell ⟨w9.heap.size, 2, none⟩ v2).setCell ⟨w9.heap.size, 3, none⟩ v3).setCell ⟨w9.heap.size, 4, none⟩ v4).setCell ⟨w9.heap.size, 5, none⟩ v5).cell? ⟨w.heap.size, 5, none⟩ = some (.string q.f2.f3) := fun v0 v1 v2 v3 v4 v5 => pfS (Ck.st6 nb9 ge9 (Ck.drop1 HSC.out) v0 v1 v2 v3 v4 v5); obtain ⟨z0, z1, z2, z3, z4, z5, zf⟩ := blk6 HSC.out.l0; have zl := blk_lt HSC.out.l0; clear hb)))))
    all_goals
      go_wp2_with (fail)
      go_meet
      case rel =>
        first
        | (have _tk : True ∧ True := mkX
           refine ⟨w9.heap.size, _, _, _, _, _, _, _, _, rfl, Lib.hid ?_, HM⟩
           exact (Ck.set6 HSC.out nb9 _ _ _ _ _ _))
        | (have _tk : True := mkX
           refine ⟨w1.heap.size, _, _, _, _, _, _, _, _, rfl, Lib.hid ?_, HM⟩
           exact (Ck.new HSC.out))
  case rest =>
    obtain ⟨gm, B2, b2, B3, b3, B4, b4, B5, b5, rfl, HS', HM⟩ := hcut
    clear HS hS0 hSa hSb pfS ge9 nb9
    have HS := HS'
    clear HS'
    obtain ⟨m0, m1, m2, m3, m4, m5, mf⟩ := blk6 HS.out.l0
    have ml := blk_lt HS.out.l0
    obtain ⟨q0, q1, q2, q3, q4, q5, q6, q7, qf⟩ := blk8 HS.out.l1
    have ql := blk_lt HS.out.l1
    go_wp2_with (fail)
    go_loopg [7, 38] (m.f3.length + 1) (fun m9 v u wr => ∃ i : Nat, u = .int .i64 (i : Int) ∧ i ≤ m.f3.length ∧ m9 = m.f3.length + 1 - i ∧ Hid (Ck x.c w wr (x.obj f1) [(gm, ndO m B2 b2 B3 b3 B4 b4 B5 b5), (w.heap.size, eqO q A0 c0 A7 c7)]) ∧ Hid (wr.ownsRow w.heap.size 37 2 v i (tyCells ((outs m q.f1).take i))))
    case atStart => exact ⟨0, rfl, by omega, by simp, HS, Lib.hid (own_nil _ _ _ _)⟩
    case round =>
      obtain ⟨i, rfl, hi, rfl, HS', HO⟩ := hrel
      clear HS
      have HS := HS'
      clear HS'
      obtain ⟨m0, m1, m2, m3, m4, m5, mf⟩ := blk6 HS.out.l0
      have ml := blk_lt HS.out.l0
      obtain ⟨q0, q1, q2, q3, q4, q5, q6, q7, qf⟩ := blk8 HS.out.l1
      have ql := blk_lt HS.out.l1
      rcases Nat.lt_or_ge i m.f3.length with hlt | hge
      · obtain ⟨d, hdk, -⟩ := drop_at hlt
        obtain ⟨ad2, hA2, y0, y1, y2, y3, y4, y5⟩ := dec_at HM.out.h3 i d hdk
        subst hA2
        have hb := (H.out.of_ck hx HS.out).bel
        replace y0 := pw_cell_below hb y0
        replace y1 := pw_cell_below hb y1
        replace y2 := pw_cell_below hb y2
        replace y3 := pw_cell_below hb y3
        replace y4 := pw_cell_below hb y4
        replace y5 := pw_cell_below hb y5
        have xl := World.block_lt_of_cell? _ _ y0
        have xn : ¬ ((ad2.add (i * 6)).block = wr.heap.size) := Nat.ne_of_lt xl
        have i0 : ((i : Int) < (m.f3.length : Int)) = True := eq_true (by omega)
        have i1 : decide ((i : Int) < (m.f3.length : Int)) = true := decide_eq_true (by omega)
        have i2 : (0 ≤ (i : Int)) = True := eq_true (by omega)
        have hw9 : wrap64 ((i : Int) + 1) = ((i + 1 : Nat) : Int) := by have h9 := HM.out.h3.2.1; unfold maxLen at h9; unfold wrap64; omega
        have hl9 := ty_bytes hlt HF.out
        have HK := Lib.hid (And.intro hdk hl9)
        clear hb hdk hl9
        have hne : ∀ y ∈ ([(gm, ndO m B2 b2 (some ad2) b3 B4 b4 B5 b5), (w.heap.size, eqO q A0 c0 A7 c7)] : List (Nat × Obj)), Value.ownBlock u7 ≠ some y.1 := by
          intro y hy
          rcases List.mem_cons.1 hy with rfl | hy
          · exact (own_ne HO.out HS.out.l0 (by decide)).symm
          · rcases List.mem_cons.1 hy with rfl | hy
            · exact (own_ne HO.out HS.out.l1 (by decide)).symm
            · cases hy
        have hbo : ∀ o, Below w.heap.size wr (wr.alloc o) := fun o => (below_alloc (Below.refl wr.heap.size wr) o).mono HS.out.sz
        have hbs : ∀ o, w.heap.size ≤ (wr.alloc o).heap.size := fun o => Nat.le_trans HS.out.sz (hbo o).size
        have HN := Lib.hid (And.intro hne (And.intro hbo hbs))
        clear hne hbo hbs
        go_wp2_with (first | ((with_reducible refine gate_builtin (b := .append) (xs := #[.tmp 42, .tmp 49]) rfl ?_); at_builtin; (refine print_append_cells (w0 := wr) w.heap.size rfl (.tmp 42) (.tmp 49) 163 37 (.agg #[.bool false, .bool false]) 2 2 rfl Tryd.underlying163 info_ty rfl (by decide) (by decide) u7 i (tyCells ((outs m q.f1).take i)) [.bool d.f2.f0, .bool q.f1] rfl (show Value.slice (some ⟨wr.heap.size + 1, 0, none⟩) 1 1 = _ by simp) rfl (by simp [Value.oneCell']) (own_alloc HO.out _) (HN.out.2.1 _) (HN.out.2.2 _) HK.out.2 ?_); intro v5 w5 hown hb5 hg5 hat5; have HS5 := Lib.hid (Ck.grown HS.out hb5 (World.grownBy.trans (World.grownBy_alloc wr _ _) hg5) HN.out.1); have H5 := Lib.hid hown; clear hown hb5 hg5 hat5))
        go_roundg (m.f3.length + 1 - (i + 1))
        case measure => exact ms9 hlt
        case rel => exact ⟨i + 1, (by first | rw [hw9] | rfl), hlt, rfl, HS5, Lib.hid (by rw [outs_take HK.out.1, tyCells_add]; exact H5.out)⟩
      · obtain rfl : i = m.f3.length := by omega
        have hO := HO.out
        rw [List.take_of_length_le (by simp)] at hO
        obtain ⟨Ao, co, hv⟩ := own_slice hO
        rw [hv] at hO ⊢
        clear HO
        have HO := Lib.hid hO
        clear hO hv
        have i0 : ((m.f3.length : Int) < (m.f3.length : Int)) = False := eq_false (by omega)
        have i1 : decide ((m.f3.length : Int) < (m.f3.length : Int)) = false := decide_eq_false (by omega)
        rcases Bool.eq_false_or_eq_true q.f1 with b1 | b1
        · by_cases h1 : m.f3.length = 1
          · have b2 : ((m.f3.length : Int) != 1) = false := by rw [h1]; rfl
            go_wp2_with (fail)
            rw [HP.out]
            refine ⟨_, rfl, by rw [List.length_map]; exact HO.out, ?_⟩
            rw [if_neg (by simp [h1])]
            exact Does.of_ck HS.out
          · have b2 : ((m.f3.length : Int) != 1) = true := bne_iff_ne.2 (by omega)
            go_wp2_with (fail)
            refine (bad_walk hx q.f2.f1 12 f1 _ (H.out.of_ck hx HS.out)).mono ?_
            rintro e' w8 ⟨rfl, hD⟩
            have HS' := Lib.hid (Ck.does HS.out hD)
            have HO' := Lib.hid (own_only hD.only HO.out HS.out.lc)
            clear hD HS HO
            go_wp2_with (fail)
            rw [HP.out]
            refine ⟨_, rfl, by rw [List.length_map]; exact HO'.out, ?_⟩
            rw [if_pos (by rw [b1, List.length_map]; simp [h1])]
            exact Does.of_ck HS'.out
        · go_wp2_with (fail)
          rw [HP.out]
          refine ⟨_, rfl, by rw [List.length_map]; exact HO.out, ?_⟩
          rw [if_neg (by rw [b1]; simp)]
          exact Does.of_ck HS.out
end Go.Proofs.YtjafllnbgfcchaaDoor.Ct
end
