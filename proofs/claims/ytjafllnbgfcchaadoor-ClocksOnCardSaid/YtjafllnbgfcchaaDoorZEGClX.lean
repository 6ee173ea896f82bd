/- Joined of: ClX, ClN, ClC. -/
import Derived.Test.YtjafllnbgfcchaaDoorZEGOw
import Derived.Laws.Rows
section
/- The checker of clocks: kids, call, expr, walked. -/
namespace Go.Proofs.YtjafllnbgfcchaaDoor.Cl
set_option linter.unusedVariables false
set_option linter.unusedSimpArgs false
open Go Go.RowKit Go.Proofs.YtjafllnbgfcchaaDoorW.PrintWords Go.Proofs.YtjafllnbgfcchaaDoorW.PrintLast Go.Proofs.YtjafllnbgfcchaaDoorW.PrintMore Go.Proofs.YtjafllnbgfcchaaDoor.Lx Go.Proofs.YtjafllnbgfcchaaDoor.XK Go.Proofs.YtjafllnbgfcchaaDoor.XCK Go.Proofs.YtjafllnbgfcchaaDoor.Px Go.Proofs.YtjafllnbgfcchaaDoor.Ck Go.Proofs.YtjafllnbgfcchaaDoor.Ow
attribute [local go_sem ↓] Go.wp_at_zero Go.wp_at_succ
abbrev exO (e : E) (A : Option Addr) (c : Nat) : Obj := .cells #[.int .i64 e.f0, .int .i64 e.f1, .int .i64 e.f2, .string e.f3, .bool e.f4, .slice A e.f5.length c] 43 (0, 0)
abbrev ExIs (x : Ctx) (ex : Ex) : Prop := ∀ (e : E) (A : Option Addr) (c : Nat) (on : List G) (oA : Option Addr) (oc : Nat) (f r : F) (w : World), ExAt x.w0 e A c → ClV (x.c + 1) w oA oc on → At x w f → ex e on f = some r →
  Calls Tryd.prog 91 #[.pointer (some ⟨x.c, 0, none⟩), exA e A c, .slice oA on.length oc] w fun e' w' => e' = .returned (.tuple #[]) ∧ Does x r w w'
theorem ck_only {x : Ctx} {w W : World} {f : F} {l : List (Nat × Obj)} {A : Option Addr} {c : Nat} {on : List G} (k : Ck x.c w W (x.obj f) l) (h : ClV (x.c + 1) w A c on) : ClV (x.c + 1) W A c on := h.only (Nat.lt_succ_self _) k.only
set_option maxHeartbeats 4000000 in
set_option maxRecDepth 100000 in
theorem kids_walk {x : Ctx} (hx : x.Ok) {ex : Ex} (hex : ExIs x ex) (l : List E) (A : Option Addr) (c : Nat) (on : List G) (oA : Option Addr) (oc : Nat) (f r : F) (w : World) (hl : Kd.C k43 x.w0 A l.length l) (ho : ClV (x.c + 1) w oA oc on) (h : At x w f) (hr : kidsC ex on l f = some r) :
    Calls Tryd.prog 110 #[.pointer (some ⟨x.c, 0, none⟩), .slice oA on.length oc, .slice A l.length c] w fun e' w' => e' = .returned (.tuple #[]) ∧ Does x r w w' := by
  have H := Lib.hid h
  have HE : Hid (ExAt x.w0 ⟨0, 0, 0, ⟨#[]⟩, false, l⟩ A l.length) := Lib.hid ⟨hl, Nat.le_refl _⟩
  have HV := Lib.hid ho
  have HS := Lib.hid H.out.ck
  have HL := Lib.hid (show kidsC ex on (l.drop 0) f = some r from hr)
  clear h hl ho hr
  go_enter Tryd.func110, Tryd.ntmps110
  go_wp2_with (fail)
  go_loopg [10] (l.length + 1) (fun m9 u wr => ∃ (i : Nat) (f' : F), u = .int .i64 (i : Int) ∧ i ≤ l.length ∧ m9 = l.length + 1 - i ∧ Hid (Ck x.c w wr (x.obj f') []) ∧ Hid (kidsC ex on (l.drop i) f' = some r))
  case atStart => exact ⟨0, _, rfl, by omega, by simp, HS, HL⟩
  case round =>
    obtain ⟨i, f', rfl, hi, rfl, HS', HL'⟩ := hrel
    clear HS HL
    have HS := HS'
    have HL := HL'
    clear HS' HL'
    rcases Nat.lt_or_ge i l.length with hlt | hge
    · obtain ⟨k, hk, hd⟩ := drop_at hlt
      obtain ⟨ad, A', c', hA, x0, x1, x2, x3, x4, x5, hE⟩ := kid_at HE.out i k hk
      subst hA
      have hb := (H.out.of_ck hx HS.out).bel
      replace x0 := pw_cell_below hb x0
      replace x1 := pw_cell_below hb x1
      replace x2 := pw_cell_below hb x2
      replace x3 := pw_cell_below hb x3
      replace x4 := pw_cell_below hb x4
      replace x5 := pw_cell_below hb x5
      have xl := World.block_lt_of_cell? _ _ x0
      have xn : ¬ ((ad.add (i * 6)).block = wr.heap.size) := Nat.ne_of_lt xl
      have hL := HL.out
      rw [hd] at hL
      obtain ⟨f4, hw, hL⟩ := Option.bind_eq_some_iff.1 hL
      have HW := Lib.hid (And.intro hw hE)
      have HL2 := Lib.hid hL
      have i0 : ((i : Int) < (l.length : Int)) = True := eq_true (by omega)
      have i1 : decide ((i : Int) < (l.length : Int)) = true := decide_eq_true (by omega)
      have i2 : (0 ≤ (i : Int)) = True := eq_true (by omega)
      clear hw hE hL hd hk hb
      go_wp2_with (fail)
      have HT := Lib.hid (HS.out.new (q := exO k A' c'))
      refine (hex k A' c' on oA oc f' f4 _ HW.out.2 (ck_only HT.out HV.out) (H.out.of_ck hx HT.out) HW.out.1).mono ?_
      rintro e' w9 ⟨rfl, hD⟩
      have HS2 := Lib.hid (Ck.does HT.out hD).drop1
      have hw9 : wrap64 ((i : Int) + 1) = ((i + 1 : Nat) : Int) := by have h9 := HE.out.kids.2.1; unfold maxLen at h9; unfold wrap64; dsimp only at h9; omega
      clear hD
      go_wp2_with (fail)
      go_roundg (l.length + 1 - (i + 1))
      case measure => exact ms9 hlt
      case rel => exact ⟨i + 1, f4, (by first | rfl | rw [hw9]), hlt, rfl, HS2, HL2⟩
    · have hd : l.drop i = [] := List.drop_eq_nil_of_le hge
      have hL := HL.out
      rw [hd] at hL
      obtain rfl : f' = r := Option.some.inj hL
      have i0 : ((i : Int) < (l.length : Int)) = False := eq_false (by omega)
      have i1 : decide ((i : Int) < (l.length : Int)) = false := decide_eq_false (by omega)
      clear hL hd
      go_wp2_with (fail)
      go_end0
      exact ⟨rfl, Does.of_ck HS.out⟩
set_option maxHeartbeats 4000000 in
set_option maxRecDepth 100000 in
theorem call_walk {x : Ctx} (hx : x.Ok) {ex : Ex} (hex : ExIs x ex) (e : E) (A : Option Addr) (c : Nat) (on : List G) (oA : Option Addr) (oc : Nat) (f r : F) (w : World) (he : ExAt x.w0 e A c) (ho : ClV (x.c + 1) w oA oc on) (h : At x w f) (hr : callC ex x.l e on f = some r) :
    Calls Tryd.prog 111 #[.pointer (some ⟨x.c, 0, none⟩), exA e A c, .slice oA on.length oc] w fun e' w' => e' = .returned (.tuple #[]) ∧ Does x r w w' := by
  unfold callC at hr
  obtain ⟨m, hm⟩ : ∃ m, callee x.l e.f3 = m := ⟨_, rfl⟩
  rw [hm] at hr
  have H := Lib.hid h
  have HE := Lib.hid he
  have HR := Lib.hid hr
  have HD := Lib.hid hm
  have HV := Lib.hid ho
  clear h he hr hm ho
  go_enter Tryd.func111, Tryd.ntmps111
  have sl := blk_lt H.out.blk
  go_wp2_with (fail)
  have HS := Lib.hid (H.out.ck.new (q := exO e A c))
  generalize hW : w.alloc _ = W
  rw [hW] at HS
  clear hW
  have pfS : ∀ {V : World}, Ck x.c w V (x.obj f) [(w.heap.size, exO e A c)] → V.cell? ⟨x.c, 0, none⟩ = some (.slice x.A x.l.length x.cap) ∧ V.cell? ⟨w.heap.size, 3, none⟩ = some (.string e.f3) := fun {V} h => ⟨blk_cell h.blk 0, blk_cell h.l0 3⟩
  have hS0 : (W.drew).cell? ⟨x.c, 0, none⟩ = some (.slice x.A x.l.length x.cap) ∧ (W.drew).cell? ⟨w.heap.size, 3, none⟩ = some (.string e.f3) := pfS HS.out.drew
  have hSa : ∀ o, ((W.drew).alloc o).cell? ⟨x.c, 0, none⟩ = some (.slice x.A x.l.length x.cap) ∧ ((W.drew).alloc o).cell? ⟨w.heap.size, 3, none⟩ = some (.string e.f3) := fun o => pfS (Ck.alloc HS.out.drew)
  have hSb : ∀ o, ((W.alloc o).drew).cell? ⟨x.c, 0, none⟩ = some (.slice x.A x.l.length x.cap) ∧ ((W.alloc o).drew).cell? ⟨w.heap.size, 3, none⟩ = some (.string e.f3) := fun o => pfS (Ck.drew (Ck.alloc HS.out))
  have ge9 : w.heap.size ≤ W.heap.size := HS.out.sz
  have nb9 : ∀ y ∈ ([(w.heap.size, exO e A c)] : List (Nat × Obj)), y.1 ≠ W.heap.size := fun y hy => Nat.ne_of_lt (blk_lt (HS.out.loc y hy).2)
  go_cut [6] (fun u wc => ∃ gm B2 b2 B3 b3 B4 b4 B5 b5, u = .pointer (some ⟨gm, 0, none⟩) ∧ Hid (Ck x.c w wc (x.obj f) ((gm, ndO m B2 b2 B3 b3 B4 b4 B5 b5) :: [(w.heap.size, exO e A c)])) ∧ Hid (NdAt x.w0 m B2 b2 B3 b3 B4 b4 B5 b5))
  case first =>
    go_region_held2 (fun w' => w'.cell? ⟨x.c, 0, none⟩ = some (.slice x.A x.l.length x.cap) ∧ w'.cell? ⟨w.heap.size, 3, none⟩ = some (.string e.f3)) (first | with_reducible exact hS0 | with_reducible exact hSa _ | with_reducible exact hSb _ | with_reducible exact hS1 | with_reducible exact hS2 _ | with_reducible exact hS5 _ _ _ _ _ _) (first | (go_at_call 86; (first | ((with_reducible refine (callee_walk hx e.f3 _ (H.out.of_ck hx (HS.out.drew)).bel).mono ?_); go_must (rintro e' w1 ⟨B2, b2, B3, b3, B4, b4, B5, b5, rfl, hN, hb⟩; rw [HD.out] at hN; have HM := Lib.hid hN; clear hN; (try rw [HD.out]); have HSC := Lib.hid (Ck.below (HS.out.drew) hb); have mkX : True := trivial; have hS1 : w1.cell? ⟨x.c, 0, none⟩ = some (.slice x.A x.l.length x.cap) ∧ w1.cell? ⟨w.heap.size, 3, none⟩ = some (.string e.f3) := pfS HSC.out; have hS2 : ∀ o, (w1.alloc o).cell? ⟨x.c, 0, none⟩ = some (.slice x.A x.l.length x.cap) ∧ (w1.alloc o).cell? ⟨w.heap.size, 3, none⟩ = some (.string e.f3) := fun o => pfS (Ck.alloc HSC.out); clear hb)) | ((with_reducible refine (callee_walk hx e.f3 _ (H.out.of_ck hx (Ck.drew (Ck.new (q := Obj.cells #[.string ⟨#[]⟩, .int .i64 0, .slice none 0 0, .slice none 0 0, .slice none 0 0, .slice none 0 0] 34) HS.out))).bel).mono ?_); go_must (rintro e' w1 ⟨B2, b2, B3, b3, B4, b4, B5, b5, rfl, hN, hb⟩; rw [HD.out] at hN; have HM := Lib.hid hN; clear hN; (try rw [HD.out]); have HSC := Lib.hid (Ck.below (HS.out.new.drew) hb); have mkX : True ∧ True := ⟨trivial, trivial⟩; have hS1 : w1.cell? ⟨x.c, 0, none⟩ = some (.slice x.A x.l.length x.cap) ∧ w1.cell? ⟨w.heap.size, 3, none⟩ = some (.string e.f3) := pfS (Ck.drop1 HSC.out); have hS2 : ∀ o, (w1.alloc o).cell? ⟨x.c, 0, none⟩ = some (.slice x.A x.l.length x.cap) ∧ (w1.alloc o).cell? ⟨w.heap.size, 3, none⟩ = some (.string e.f3) := fun o => pfS (Ck.alloc (Ck.drop1 HSC.out)); have hS5 : ∀ v0 v1 v2 v3 v4 v5 : Value, ((((((w1.setCell ⟨W.heap.size, 0, none⟩ v0).setCell ⟨W.heap.size, 1, none⟩ v1).setCell ⟨W.heap.size, 2, none⟩ v2).setCell ⟨W.heap.size, 3, none⟩ v3).setCell ⟨W.heap.size, 4, none⟩ v4).setCell ⟨W.heap.size, 5, none⟩ v5).cell? ⟨x.c, 0, none⟩ = some (.slice x.A x.l.length x.cap) ∧ ((((((w1.setCell ⟨W.heap.size, 0, none⟩ v0).setCell ⟨W.heap.size, 1, none⟩ v1).setCell ⟨W.heap.size, 2, none⟩ v2).setCell ⟨W.heap.size, 3, none⟩ v3).setCell ⟨W.heap.size, 4, none⟩ v4).setCell ⟨W.heap.size, 5, none⟩ v5).cell? ⟨w.heap.size, 3, none⟩ = some (.string e.f3) := fun v0 v1 v2 v3 v4 v5 => pfS (Ck.st6 nb9 ge9 (Ck.drop1 HSC.out) v0 v1 v2 v3 v4 v5); obtain ⟨z0, z1, z2, z3, z4, z5, zf⟩ := blk6 HSC.out.l0; have zl := blk_lt HSC.out.l0; clear hb)) | ((with_reducible refine (callee_walk hx e.f3 _ (H.out.of_ck hx (Ck.newg (g := W.heap.size) (q := Obj.cells #[.string ⟨#[]⟩, .int .i64 0, .slice none 0 0, .slice none 0 0, .slice none 0 0, .slice none 0 0] 34) rfl (Ck.drew HS.out))).bel).mono ?_); go_must (rintro e' w1 ⟨B2, b2, B3, b3, B4, b4, B5, b5, rfl, hN, hb⟩; rw [HD.out] at hN; have HM := Lib.hid hN; clear hN; (try rw [HD.out]); have HSC := Lib.hid (Ck.below (Ck.newg (g := W.heap.size) rfl (Ck.drew HS.out)) hb); have mkX : True ∧ True := ⟨trivial, trivial⟩; have hS1 : w1.cell? ⟨x.c, 0, none⟩ = some (.slice x.A x.l.length x.cap) ∧ w1.cell? ⟨w.heap.size, 3, none⟩ = some (.string e.f3) := pfS (Ck.drop1 HSC.out); have hS2 : ∀ o, (w1.alloc o).cell? ⟨x.c, 0, none⟩ = some (.slice x.A x.l.length x.cap) ∧ (w1.alloc o).cell? ⟨w.heap.size, 3, none⟩ = some (.string e.f3) := fun o => pfS (Ck.alloc (Ck.drop1 HSC.out)); have hS5 : ∀ v0 v1 v2 v3 v4 v5 : Value, ((((((w1.setCell ⟨W.heap.size, 0, none⟩ v0).setCell ⟨W.heap.size, 1, none⟩ v1).setCell ⟨W.heap.size, 2, none⟩ v2).setCell ⟨W.heap.size, 3, none⟩ v3).setCell ⟨W.heap.size, 4, none⟩ v4).setCell ⟨W.heap.size, 5, none⟩ v5).cell? ⟨x.c, 0, none⟩ = some (.slice x.A x.l.length x.cap) ∧ ((((((w1.setCell ⟨W.heap.size, 0, none⟩ v0).setCell ⟨W.heap.size, 1, none⟩ v1).setCell ⟨W.heap.size, 2, none⟩ v2).setCell ⟨W.heap.size, 3, none⟩ v3).setCell ⟨W.heap.size, 4, none⟩ v4).setCell ⟨W.heap.size, 5, none⟩ v5).cell? ⟨w.heap.size, 3, none⟩ = some (.string e.f3) := fun v0 v1 v2 v3 v4 v5 => pfS (Ck.st6 nb9 ge9 (Ck.drop1 HSC.out) v0 v1 v2 v3 v4 v5); obtain ⟨z0, z1, z2, z3, z4, z5, zf⟩ := blk6 HSC.out.l0; have zl := blk_lt HSC.out.l0; clear hb)))))
    all_goals
      go_wp2_with (fail)
      go_meet
      case rel =>
        first
        | (have _tk : True ∧ True := mkX
           refine ⟨W.heap.size, _, _, _, _, _, _, _, _, rfl, Lib.hid ?_, HM⟩
           exact (Ck.set6 HSC.out nb9 _ _ _ _ _ _))
        | (have _tk : True := mkX
           refine ⟨w1.heap.size, _, _, _, _, _, _, _, _, rfl, Lib.hid ?_, HM⟩
           exact (Ck.new HSC.out))
  case rest =>
    obtain ⟨gm, B2, b2, B3, b3, B4, b4, B5, b5, rfl, HS', HM⟩ := hcut
    clear HS hS0 hSa hSb pfS ge9 nb9
    have HS := HS'
    clear HS'
    obtain ⟨m0, m1, m2, m3, m4, m5, mf⟩ := blk6 HS.out.l0
    have ml := blk_lt HS.out.l0
    obtain ⟨e0, e1, e2, e3, e4, e5, ef⟩ := blk6 HS.out.l1
    have el := blk_lt HS.out.l1
    have hR := HR.out
    clear HR
    have HL := Lib.hid (show insC ex on (m.f2.drop 0) (e.f5.drop 0) f = some r from hR)
    clear hR
    go_wp2_with (fail)
    go_loopg [23] (m.f2.length + 1) (fun m9 u wr => ∃ (i : Nat) (f' : F), u = .int .i64 (i : Int) ∧ i ≤ m.f2.length ∧ m9 = m.f2.length + 1 - i ∧ Hid (Ck x.c w wr (x.obj f') [(gm, ndO m B2 b2 B3 b3 B4 b4 B5 b5), (w.heap.size, exO e A c)]) ∧ Hid (insC ex on (m.f2.drop i) (e.f5.drop i) f' = some r))
    case atStart => exact ⟨0, _, rfl, by omega, by simp, HS, HL⟩
    case round =>
      obtain ⟨i, f', rfl, hi, rfl, HS', HL'⟩ := hrel
      clear HS HL
      have HS := HS'
      have HL := HL'
      clear HS' HL'
      obtain ⟨m0, m1, m2, m3, m4, m5, mf⟩ := blk6 HS.out.l0
      have ml := blk_lt HS.out.l0
      obtain ⟨e0, e1, e2, e3, e4, e5, ef⟩ := blk6 HS.out.l1
      have el := blk_lt HS.out.l1
      rcases Nat.lt_or_ge i m.f2.length with hlt | hge
      · have hw9 : wrap64 ((i : Int) + 1) = ((i + 1 : Nat) : Int) := by have h9 := HM.out.h2.2.1; unfold maxLen at h9; unfold wrap64; omega
        obtain ⟨d, hdk, hdd⟩ := drop_at hlt
        have hL := HL.out
        rw [hdd] at hL
        obtain ⟨ad2, hA2, y0, y1, y2, y3, y4, y5⟩ := dec_at HM.out.h2 i d hdk
        subst hA2
        have hb := (H.out.of_ck hx HS.out).bel
        replace y0 := pw_cell_below hb y0
        replace y1 := pw_cell_below hb y1
        replace y2 := pw_cell_below hb y2
        replace y3 := pw_cell_below hb y3
        replace y4 := pw_cell_below hb y4
        replace y5 := pw_cell_below hb y5
        have yl := World.block_lt_of_cell? _ _ y0
        have yn : ¬ ((ad2.add (i * 6)).block = wr.heap.size) := Nat.ne_of_lt yl
        have i0 : ((i : Int) < (m.f2.length : Int)) = True := eq_true (by omega)
        have i1 : decide ((i : Int) < (m.f2.length : Int)) = true := decide_eq_true (by omega)
        have i2 : (0 ≤ (i : Int)) = True := eq_true (by omega)
        obtain ⟨d0, d1, ⟨d2, d3⟩, d4, d5⟩ := d
        cases d3 with
        | true =>
          have hL : insC ex on (m.f2.drop (i + 1)) (e.f5.drop i).tail f' = some r := hL
          rw [List.tail_drop] at hL
          have HL2 := Lib.hid hL
          have HS2 := Lib.hid (HS.out.new (q := dcO ⟨d0, d1, ⟨d2, true⟩, d4, d5⟩)).drop1
          clear hL hb hdk hdd
          go_wp2_with (fail)
          go_roundg (m.f2.length + 1 - (i + 1))
          case measure => exact ms9 hlt
          case rel => exact ⟨i + 1, _, (by first | rfl | rw [hw9]), hlt, rfl, HS2, HL2⟩
        | false =>
          have hL : (match e.f5.drop i with | [] => none | k :: ks' => (ex k on f').bind fun f1 => insC ex on (m.f2.drop (i + 1)) ks' f1) = some r := hL
          have hle : i < e.f5.length := by
            rcases Nat.lt_or_ge i e.f5.length with h9 | h9
            · exact h9
            · rw [List.drop_eq_nil_of_le h9] at hL
              cases hL
          obtain ⟨k, hk, hd⟩ := drop_at hle
          rw [hd] at hL
          obtain ⟨f4, hw, hL⟩ := Option.bind_eq_some_iff.1 hL
          obtain ⟨ad, A', c', hA, x0, x1, x2, x3, x4, x5, hE⟩ := kid_at HE.out i k hk
          subst hA
          replace x0 := pw_cell_below hb x0
          replace x1 := pw_cell_below hb x1
          replace x2 := pw_cell_below hb x2
          replace x3 := pw_cell_below hb x3
          replace x4 := pw_cell_below hb x4
          replace x5 := pw_cell_below hb x5
          have xl := World.block_lt_of_cell? _ _ x0
          have xn : ¬ ((ad.add (i * 6)).block = wr.heap.size) := Nat.ne_of_lt xl
          have HW := Lib.hid (And.intro hw hE)
          have HL2 := Lib.hid hL
          have i3 : ((i : Int) < (e.f5.length : Int)) = True := eq_true (by omega)
          clear hw hE hL hd hk hb hdk hdd
          go_wp2_with (fail)
          have HT := Lib.hid (HS.out.new (q := dcO ⟨d0, d1, ⟨d2, false⟩, d4, d5⟩))
          refine (hex k A' c' on oA oc f' f4 _ HW.out.2 (ck_only HT.out HV.out) (H.out.of_ck hx HT.out) HW.out.1).mono ?_
          rintro e' w9 ⟨rfl, hD⟩
          have HS2 := Lib.hid (Ck.does HT.out hD).drop1
          clear hD
          go_wp2_with (fail)
          go_roundg (m.f2.length + 1 - (i + 1))
          case measure => exact ms9 hlt
          case rel => exact ⟨i + 1, f4, (by first | rfl | rw [hw9]), hlt, rfl, HS2, HL2⟩
      · have hd : m.f2.drop i = [] := List.drop_eq_nil_of_le hge
        have hL := HL.out
        rw [hd] at hL
        obtain rfl : f' = r := Option.some.inj hL
        have i0 : ((i : Int) < (m.f2.length : Int)) = False := eq_false (by omega)
        have i1 : decide ((i : Int) < (m.f2.length : Int)) = false := decide_eq_false (by omega)
        clear hL hd
        go_wp2_with (fail)
        go_end0
        exact ⟨rfl, Does.of_ck HS.out⟩
set_option maxHeartbeats 4000000 in
set_option maxRecDepth 100000 in
theorem expr_k3 {x : Ctx} (hx : x.Ok) {ex : Ex} (hex : ExIs x ex) (e : E) (A : Option Addr) (c : Nat) (on : List G) (oA : Option Addr) (oc : Nat) (f r : F) (w : World) (hk : e.f0 = 3) (he : ExAt x.w0 e A c) (ho : ClV (x.c + 1) w oA oc on) (h : At x w f) (hs : on.length ≤ 1000000) (hr : exprK ex x.l x.n e on f = some r) :
    Calls Tryd.prog 91 #[.pointer (some ⟨x.c, 0, none⟩), exA e A c, .slice oA on.length oc] w fun e' w' => e' = .returned (.tuple #[]) ∧ Does x r w w' := by
  obtain ⟨e0, e1, e2, e3, e4, e5⟩ := e
  obtain rfl : e0 = 3 := hk
  have hr : some (bad (!sameG (ofN x.n e3).1 on) e1 8 f) = some r := by
    have h9 := hr
    unfold exprK at h9
    rw [if_neg (Nat.not_lt.2 hs)] at h9
    dsimp only at h9
    rw [if_pos rfl] at h9
    exact h9
  have H := Lib.hid h
  have HE := Lib.hid he
  have HV := Lib.hid ho
  have HN := Lib.hid hs
  have HR := Lib.hid hr
  clear h he ho hr hs
  obtain rfl := Option.some.inj HR.out
  clear HR
  go_enter Tryd.func91, Tryd.ntmps91
  go_wp2_with (fail)
  have HS := Lib.hid (H.out.ck.new (q := exO ⟨3, e1, e2, e3, e4, e5⟩ A c))
  generalize hW : w.alloc _ = W
  rw [hW] at HS
  clear hW
  obtain ⟨q0, q1, q2, q3, q4, q5, qf⟩ := blk6 HS.out.l0
  have ql := blk_lt HS.out.l0
  go_wp2_with (fail)
  have pfS : ∀ {V : World} {g : F}, Ck x.c w V (x.obj g) [(w.heap.size, exO ⟨3, e1, e2, e3, e4, e5⟩ A c)] → V.cell? ⟨w.heap.size, 1, none⟩ = some (.int .i64 e1) ∧ V.cell? ⟨w.heap.size, 3, none⟩ = some (.string e3) := fun {V g} h => ⟨blk_cell h.l0 1, blk_cell h.l0 3⟩
  have hS0 : (W.drew).cell? ⟨w.heap.size, 1, none⟩ = some (.int .i64 e1) ∧ (W.drew).cell? ⟨w.heap.size, 3, none⟩ = some (.string e3) := pfS HS.out.drew
  go_region_held2 (fun w' => w'.cell? ⟨w.heap.size, 1, none⟩ = some (.int .i64 e1) ∧ w'.cell? ⟨w.heap.size, 3, none⟩ = some (.string e3)) (first | with_reducible exact hS0 | with_reducible exact hS1 | with_reducible exact hS2 | with_reducible exact hS3) (first | (go_at_call 90; (refine (cof_walk hx e3 f _ (H.out.of_ck hx (HS.out.drew))).mono ?_); go_must (rintro e' v1 ⟨A1, c1, rfl, hV, hb⟩; have HT1 := Lib.hid (Ck.below (HS.out.drew) hb); have HV1 := Lib.hid hV; clear hV; have hS1 : v1.cell? ⟨w.heap.size, 1, none⟩ = some (.int .i64 e1) ∧ v1.cell? ⟨w.heap.size, 3, none⟩ = some (.string e3) := pfS HT1.out; clear hb)) | (go_at_call 27; (refine (same_walk A1 c1 ((ofN x.n e3).1) oA oc on _ (HV1.out) (ck_only (HT1.out) HV.out)).mono ?_); go_must (rintro e' v2 ⟨rfl, hb⟩; have HT2 := Lib.hid (Ck.below (HT1.out) hb); have hS2 : v2.cell? ⟨w.heap.size, 1, none⟩ = some (.int .i64 e1) ∧ v2.cell? ⟨w.heap.size, 3, none⟩ = some (.string e3) := pfS HT2.out; clear hb)) | (go_at_call 89; (refine (bad_walk hx (!sameG (ofN x.n e3).1 on) e1 8 f _ (H.out.of_ck hx (HT2.out))).mono ?_); go_must (rintro e' v3 ⟨rfl, hD⟩; have HT3 := Lib.hid (Ck.does (HT2.out) hD); have hS3 : v3.cell? ⟨w.heap.size, 1, none⟩ = some (.int .i64 e1) ∧ v3.cell? ⟨w.heap.size, 3, none⟩ = some (.string e3) := pfS HT3.out; clear hD)))
  go_wp2_with (fail)
  go_end0
  exact ⟨rfl, Does.of_ck HT3.out⟩
set_option maxHeartbeats 4000000 in
set_option maxRecDepth 100000 in
theorem expr_k14 {x : Ctx} (hx : x.Ok) {ex : Ex} (hex : ExIs x ex) (e : E) (A : Option Addr) (c : Nat) (on : List G) (oA : Option Addr) (oc : Nat) (f r : F) (w : World) (hk : e.f0 = 14) (he : ExAt x.w0 e A c) (ho : ClV (x.c + 1) w oA oc on) (h : At x w f) (hs : on.length ≤ 1000000) (hr : exprK ex x.l x.n e on f = some r) :
    Calls Tryd.prog 91 #[.pointer (some ⟨x.c, 0, none⟩), exA e A c, .slice oA on.length oc] w fun e' w' => e' = .returned (.tuple #[]) ∧ Does x r w w' := by
  obtain ⟨e0, e1, e2, e3, e4, e5⟩ := e
  obtain rfl : e0 = 14 := hk
  have hr : some (bad (decide (0 < on.length)) e1 8 f) = some r := by
    have h9 := hr
    unfold exprK at h9
    rw [if_neg (Nat.not_lt.2 hs)] at h9
    dsimp only at h9
    rw [if_neg (by decide : ¬ (14 : Int) = 3)] at h9
    rw [if_neg (by decide : ¬ (14 : Int) = 11)] at h9
    rw [if_neg (by decide : ¬ (14 : Int) = 12)] at h9
    rw [if_pos rfl] at h9
    exact h9
  have H := Lib.hid h
  have HE := Lib.hid he
  have HV := Lib.hid ho
  have HN := Lib.hid hs
  have HR := Lib.hid hr
  clear h he ho hr hs
  obtain rfl := Option.some.inj HR.out
  clear HR
  have d0 : decide ((0 : Int) < (on.length : Int)) = decide (0 < on.length) := decide_eq_decide.2 (by omega)
  go_enter Tryd.func91, Tryd.ntmps91
  go_wp2_with (fail)
  have HS := Lib.hid (H.out.ck.new (q := exO ⟨14, e1, e2, e3, e4, e5⟩ A c))
  generalize hW : w.alloc _ = W
  rw [hW] at HS
  clear hW
  obtain ⟨p0, p1, p2, p3, p4, p5, pf⟩ := blk6 HS.out.l0
  have pl := blk_lt HS.out.l0
  go_wp2_with (fail)
  refine (bad_walk hx (decide (0 < on.length)) e1 8 f _ (H.out.of_ck hx HS.out)).mono ?_
  rintro e' w9 ⟨rfl, hD⟩
  have HT := Lib.hid (Ck.does HS.out hD)
  clear hD
  go_wp2_with (fail)
  go_end0
  exact ⟨rfl, Does.of_ck HT.out⟩
set_option maxHeartbeats 4000000 in
set_option maxRecDepth 100000 in
theorem expr_k13 {x : Ctx} (hx : x.Ok) {ex : Ex} (hex : ExIs x ex) (e : E) (A : Option Addr) (c : Nat) (on : List G) (oA : Option Addr) (oc : Nat) (f r : F) (w : World) (hk : e.f0 = 13) (he : ExAt x.w0 e A c) (ho : ClV (x.c + 1) w oA oc on) (h : At x w f) (hs : on.length ≤ 1000000) (hr : exprK ex x.l x.n e on f = some r) :
    Calls Tryd.prog 91 #[.pointer (some ⟨x.c, 0, none⟩), exA e A c, .slice oA on.length oc] w fun e' w' => e' = .returned (.tuple #[]) ∧ Does x r w w' := by
  obtain ⟨e0, e1, e2, e3, e4, e5⟩ := e
  obtain rfl : e0 = 13 := hk
  have hr : callC ex x.l ⟨13, e1, e2, e3, e4, e5⟩ on f = some r := by
    have h9 := hr
    unfold exprK at h9
    rw [if_neg (Nat.not_lt.2 hs)] at h9
    dsimp only at h9
    rw [if_neg (by decide : ¬ (13 : Int) = 3)] at h9
    rw [if_neg (by decide : ¬ (13 : Int) = 11)] at h9
    rw [if_neg (by decide : ¬ (13 : Int) = 12)] at h9
    rw [if_neg (by decide : ¬ (13 : Int) = 14)] at h9
    rw [if_pos rfl] at h9
    exact h9
  have H := Lib.hid h
  have HE := Lib.hid he
  have HV := Lib.hid ho
  have HN := Lib.hid hs
  have HR := Lib.hid hr
  clear h he ho hr hs
  go_enter Tryd.func91, Tryd.ntmps91
  go_wp2_with (fail)
  have HS := Lib.hid (H.out.ck.new (q := exO ⟨13, e1, e2, e3, e4, e5⟩ A c))
  generalize hW : w.alloc _ = W
  rw [hW] at HS
  clear hW
  obtain ⟨p0, p1, p2, p3, p4, p5, pf⟩ := blk6 HS.out.l0
  have pl := blk_lt HS.out.l0
  go_wp2_with (fail)
  refine (call_walk hx hex ⟨13, e1, e2, e3, e4, e5⟩ A c on oA oc f r _ HE.out (ck_only HS.out HV.out) (H.out.of_ck hx HS.out) HR.out).mono ?_
  rintro e' w9 ⟨rfl, hD⟩
  have HU := Lib.hid (Ck.does HS.out hD)
  clear hD
  go_wp2_with (fail)
  go_end0
  exact ⟨rfl, Does.of_ck HU.out⟩
set_option maxHeartbeats 4000000 in
set_option maxRecDepth 100000 in
theorem expr_kdef {x : Ctx} (hx : x.Ok) {ex : Ex} (hex : ExIs x ex) (e : E) (A : Option Addr) (c : Nat) (on : List G) (oA : Option Addr) (oc : Nat) (f r : F) (w : World) (hk : e.f0 ≠ 3 ∧ e.f0 ≠ 11 ∧ e.f0 ≠ 12 ∧ e.f0 ≠ 14 ∧ e.f0 ≠ 13) (he : ExAt x.w0 e A c) (ho : ClV (x.c + 1) w oA oc on) (h : At x w f) (hs : on.length ≤ 1000000) (hr : exprK ex x.l x.n e on f = some r) :
    Calls Tryd.prog 91 #[.pointer (some ⟨x.c, 0, none⟩), exA e A c, .slice oA on.length oc] w fun e' w' => e' = .returned (.tuple #[]) ∧ Does x r w w' := by
  obtain ⟨n3, n11, n12, n14, n13⟩ := hk
  have hr : kidsC ex on e.f5 f = some r := by
    have h9 := hr
    unfold exprK at h9
    rw [if_neg (Nat.not_lt.2 hs), if_neg n3, if_neg n11, if_neg n12, if_neg n14, if_neg n13] at h9
    exact h9
  have i3 : (e.f0 = 3) = False := eq_false n3
  have j3 : (e.f0 == 3) = false := beq_eq_false_iff_ne.2 n3
  have i11 : (e.f0 = 11) = False := eq_false n11
  have j11 : (e.f0 == 11) = false := beq_eq_false_iff_ne.2 n11
  have i12 : (e.f0 = 12) = False := eq_false n12
  have j12 : (e.f0 == 12) = false := beq_eq_false_iff_ne.2 n12
  have i14 : (e.f0 = 14) = False := eq_false n14
  have j14 : (e.f0 == 14) = false := beq_eq_false_iff_ne.2 n14
  have i13 : (e.f0 = 13) = False := eq_false n13
  have j13 : (e.f0 == 13) = false := beq_eq_false_iff_ne.2 n13
  clear n3 n11 n12 n14 n13
  have H := Lib.hid h
  have HE := Lib.hid he
  have HV := Lib.hid ho
  have HR := Lib.hid hr
  clear h he ho hr hs
  go_enter Tryd.func91, Tryd.ntmps91
  go_wp2_with (fail)
  have HS := Lib.hid (H.out.ck.new (q := exO e A c))
  generalize hW : w.alloc _ = W
  rw [hW] at HS
  clear hW
  obtain ⟨p0, p1, p2, p3, p4, p5, pf⟩ := blk6 HS.out.l0
  have pl := blk_lt HS.out.l0
  go_wp2_with (fail)
  refine (kids_walk hx hex e.f5 A c on oA oc f r _ HE.out.kids (ck_only HS.out HV.out) (H.out.of_ck hx HS.out) HR.out).mono ?_
  rintro e' w9 ⟨rfl, hD⟩
  have HU := Lib.hid (Ck.does HS.out hD)
  clear hD
  go_wp2_with (fail)
  go_end0
  exact ⟨rfl, Does.of_ck HU.out⟩
set_option maxHeartbeats 4000000 in
set_option maxRecDepth 100000 in
theorem expr_k11 {x : Ctx} (hx : x.Ok) {ex : Ex} (hex : ExIs x ex) (e : E) (A : Option Addr) (c : Nat) (on : List G) (oA : Option Addr) (oc : Nat) (f r : F) (w : World) (hk : e.f0 = 11) (he : ExAt x.w0 e A c) (ho : ClV (x.c + 1) w oA oc on) (h : At x w f) (hs : on.length ≤ 1000000) (hr : exprK ex x.l x.n e on f = some r) :
    Calls Tryd.prog 91 #[.pointer (some ⟨x.c, 0, none⟩), exA e A c, .slice oA on.length oc] w fun e' w' => e' = .returned (.tuple #[]) ∧ Does x r w w' := by
  obtain ⟨e0, e1, e2, e3, e4, e5⟩ := e
  obtain rfl : e0 = 11 := hk
  have hr : kidsC ex (ofN x.n e3).1 e5 (bad (!sameG ((ofN x.n e3).1 ++ [⟨e3, e4⟩]) on) e1 8 f) = some r := by
    have h9 := hr
    unfold exprK at h9
    rw [if_neg (Nat.not_lt.2 hs)] at h9
    dsimp only at h9
    rw [if_neg (by decide : ¬ (11 : Int) = 3)] at h9
    rw [if_pos rfl] at h9
    exact h9
  have H := Lib.hid h
  have HE := Lib.hid he
  have HV := Lib.hid ho
  have HN := Lib.hid hs
  have HR := Lib.hid hr
  clear h he ho hr hs
  go_enter Tryd.func91, Tryd.ntmps91
  go_wp2_with (fail)
  have HS := Lib.hid (H.out.ck.new (q := exO ⟨11, e1, e2, e3, e4, e5⟩ A c))
  generalize hW : w.alloc _ = W
  rw [hW] at HS
  clear hW
  obtain ⟨p0, p1, p2, p3, p4, p5, pf⟩ := blk6 HS.out.l0
  have pl := blk_lt HS.out.l0
  go_wp2_with (fail)
  refine (cof_walk hx e3 f _ (H.out.of_ck hx HS.out)).mono ?_
  rintro e' w1 ⟨A1, c1, rfl, hV, hb⟩
  have HS1 := Lib.hid (HS.out.below hb)
  have HV1 := Lib.hid hV
  have HL1 : Hid ((ofN x.n e3).1.length ≤ 1000000) := Lib.hid (Nat.le_trans (ofC_len _ _ _) (by have := hx.few; simp only [List.length_append]; omega))
  clear hb hV HS p0 p1 p2 p3 p4 p5 pf pl
  have HS := HS1
  clear HS1
  obtain ⟨p, hp⟩ : ∃ p, (ofN x.n e3).1 = p := ⟨_, rfl⟩
  have HV2 : Hid (ClV (x.c + 1) w1 A1 c1 p) := Lib.hid (by rw [← hp]; exact HV1.out)
  have HL2 : Hid (p.length ≤ 1000000) := Lib.hid (by rw [← hp]; exact HL1.out)
  have hp2 : (ofN x.n e3).1.length = p.length := congrArg _ hp
  clear HV1 HL1
  obtain ⟨q9, hq9⟩ : ∃ q, p ++ [(⟨e3, e4⟩ : G)] = q := ⟨_, rfl⟩
  have HQ9 := Lib.hid hq9
  have hR := HR.out
  rw [hp, hq9] at hR
  have HR2 := Lib.hid hR
  clear hR HR hp hq9
  simp only [hp2]
  clear hp2
  obtain ⟨p0, p1, p2, p3, p4, p5, pf⟩ := blk6 HS.out.l0
  have pl := blk_lt HS.out.l0
  go_wp2_with (fail)
  have pfS : ∀ {V : World} {g : F}, Ck x.c w V (x.obj g) [(w.heap.size, exO ⟨11, e1, e2, e3, e4, e5⟩ A c)] → V.cell? ⟨w.heap.size, 1, none⟩ = some (.int .i64 e1) ∧ V.cell? ⟨w.heap.size, 3, none⟩ = some (.string e3) ∧ V.cell? ⟨w.heap.size, 4, none⟩ = some (.bool e4) := fun {V g} h => ⟨blk_cell h.l0 1, blk_cell h.l0 3, blk_cell h.l0 4⟩
  have hS0 : (w1.drew).cell? ⟨w.heap.size, 1, none⟩ = some (.int .i64 e1) ∧ (w1.drew).cell? ⟨w.heap.size, 3, none⟩ = some (.string e3) ∧ (w1.drew).cell? ⟨w.heap.size, 4, none⟩ = some (.bool e4) := pfS HS.out.drew
  go_region_held2 (fun w' => w'.cell? ⟨w.heap.size, 1, none⟩ = some (.int .i64 e1) ∧ w'.cell? ⟨w.heap.size, 3, none⟩ = some (.string e3) ∧ w'.cell? ⟨w.heap.size, 4, none⟩ = some (.bool e4)) (first | with_reducible exact hS0 | with_reducible exact hS1 | with_reducible exact hS2 | with_reducible exact hS3) (first | (go_at_call 26; (refine (onq_walk A1 c1 p e3 e4 q9 _ (HV2.out.below (below_drew (Below.refl _ _))) HL2.out HQ9.out).mono ?_); go_must (rintro e' v1 ⟨A2, c2, rfl, hV, hb⟩; have HT1 := Lib.hid (Ck.below (HS.out.drew) hb); have HV3 := Lib.hid hV; have HP1 := Lib.hid ((HV2.out.below (below_drew (Below.refl _ _))).below hb); clear hV; have hS1 : v1.cell? ⟨w.heap.size, 1, none⟩ = some (.int .i64 e1) ∧ v1.cell? ⟨w.heap.size, 3, none⟩ = some (.string e3) ∧ v1.cell? ⟨w.heap.size, 4, none⟩ = some (.bool e4) := pfS HT1.out; clear hb)) | (go_at_call 27; (refine (same_walk A2 c2 (q9) oA oc on _ (HV3.out) (ck_only (HT1.out) HV.out)).mono ?_); go_must (rintro e' v2 ⟨rfl, hb⟩; have HT2 := Lib.hid (Ck.below (HT1.out) hb); have HP2 := Lib.hid (HP1.out.below hb); have hS2 : v2.cell? ⟨w.heap.size, 1, none⟩ = some (.int .i64 e1) ∧ v2.cell? ⟨w.heap.size, 3, none⟩ = some (.string e3) ∧ v2.cell? ⟨w.heap.size, 4, none⟩ = some (.bool e4) := pfS HT2.out; clear hb)) | (go_at_call 89; (refine (bad_walk hx (!sameG q9 on) e1 8 f _ (H.out.of_ck hx (HT2.out))).mono ?_); go_must (rintro e' v3 ⟨rfl, hD⟩; have HT3 := Lib.hid (Ck.does (HT2.out) hD); have HV9 := Lib.hid (HP2.out.only (Nat.lt_succ_self _) hD.only); have hS3 : v3.cell? ⟨w.heap.size, 1, none⟩ = some (.int .i64 e1) ∧ v3.cell? ⟨w.heap.size, 3, none⟩ = some (.string e3) ∧ v3.cell? ⟨w.heap.size, 4, none⟩ = some (.bool e4) := pfS HT3.out; clear hD)))
  obtain ⟨p0, p1, p2, p3, p4, p5, pf⟩ := blk6 HT3.out.l0
  have pl := blk_lt HT3.out.l0
  go_wp2_with (fail)
  refine (kids_walk hx hex e5 A c p A1 c1 (bad (!sameG q9 on) e1 8 f) r _ HE.out.kids (HV9.out) (H.out.of_ck hx HT3.out) HR2.out).mono ?_
  rintro e' w9 ⟨rfl, hD⟩
  have HU := Lib.hid (Ck.does HT3.out hD)
  clear hD
  go_wp2_with (fail)
  go_end0
  exact ⟨rfl, Does.of_ck HU.out⟩
set_option maxHeartbeats 4000000 in
set_option maxRecDepth 100000 in
theorem expr_k12 {x : Ctx} (hx : x.Ok) {ex : Ex} (hex : ExIs x ex) (e : E) (A : Option Addr) (c : Nat) (on : List G) (oA : Option Addr) (oc : Nat) (f r : F) (w : World) (hk : e.f0 = 12) (he : ExAt x.w0 e A c) (ho : ClV (x.c + 1) w oA oc on) (h : At x w f) (hs : on.length ≤ 1000000) (hr : exprK ex x.l x.n e on f = some r) :
    Calls Tryd.prog 91 #[.pointer (some ⟨x.c, 0, none⟩), exA e A c, .slice oA on.length oc] w fun e' w' => e' = .returned (.tuple #[]) ∧ Does x r w w' := by
  obtain ⟨e0, e1, e2, e3, e4, e5⟩ := e
  obtain rfl : e0 = 12 := hk
  have hr : (match (generalizing := false) e5 with | a :: b :: _ => (ex a (on ++ [⟨e3, false⟩]) (bad (!sameG (ofN x.n e3).1 on) e1 8 f)).bind fun f1 => ex b (on ++ [⟨e3, true⟩]) f1 | _ => none) = some r := by
    have h9 := hr
    unfold exprK at h9
    rw [if_neg (Nat.not_lt.2 hs)] at h9
    dsimp only at h9
    rw [if_neg (by decide : ¬ (12 : Int) = 3)] at h9
    rw [if_neg (by decide : ¬ (12 : Int) = 11)] at h9
    rw [if_pos rfl] at h9
    exact h9
  have H := Lib.hid h
  have HE := Lib.hid he
  have HV := Lib.hid ho
  have HN := Lib.hid hs
  have HR := Lib.hid hr
  clear h he ho hr hs
  obtain ⟨a, b, tl, hk, hr⟩ : ∃ a b tl, e5 = a :: b :: tl ∧ ((ex a (on ++ [⟨e3, false⟩]) (bad (!sameG (ofN x.n e3).1 on) e1 8 f)).bind fun f1 => ex b (on ++ [⟨e3, true⟩]) f1) = some r := by
    have h9 := HR.out
    rcases e5 with _ | ⟨a, _ | ⟨b, tl⟩⟩
    · cases h9
    · cases h9
    · exact ⟨a, b, tl, rfl, h9⟩
  obtain ⟨f1, hw, hr⟩ := Option.bind_eq_some_iff.1 hr
  obtain ⟨ad0, B0, b0, hA0, x0, x1, x2, x3, x4, x5, hE0⟩ := kid_at HE.out 0 a (by show e5[0]? = _; rw [hk]; rfl)
  obtain ⟨ad1, B1, b1, hA1, y0, y1, y2, y3, y4, y5, hE1⟩ := kid_at HE.out 1 b (by show e5[1]? = _; rw [hk]; rfl)
  subst hA0
  obtain rfl : ad0 = ad1 := Option.some.inj hA1
  have hlen : 2 ≤ e5.length := by rw [hk]; simp
  have l0 : (0 : Int) < (e5.length : Int) := by omega
  have l1 : (1 : Int) < (e5.length : Int) := by omega
  have l0' : (0 < e5.length) = True := eq_true (by omega)
  have l1' : (1 < e5.length) = True := eq_true (by omega)
  simp only [Nat.reduceMul, Nat.reduceEqDiff, Go.Addr.add, ↓reduceIte] at x0 x1 x2 x3 x4 x5 y0 y1 y2 y3 y4 y5
  have HX : Hid (x.w0.cell? ad0 = some (.int .i64 a.f0) ∧ x.w0.cell? ⟨ad0.block, ad0.off + 1, none⟩ = some (.int .i64 a.f1) ∧ x.w0.cell? ⟨ad0.block, ad0.off + 2, none⟩ = some (.int .i64 a.f2) ∧ x.w0.cell? ⟨ad0.block, ad0.off + 3, none⟩ = some (.string a.f3) ∧ x.w0.cell? ⟨ad0.block, ad0.off + 4, none⟩ = some (.bool a.f4) ∧ x.w0.cell? ⟨ad0.block, ad0.off + 5, none⟩ = some (.slice B0 a.f5.length b0)) := Lib.hid ⟨x0, x1, x2, x3, x4, x5⟩
  have HY : Hid (x.w0.cell? ⟨ad0.block, ad0.off + 6, none⟩ = some (.int .i64 b.f0) ∧ x.w0.cell? ⟨ad0.block, ad0.off + 6 + 1, none⟩ = some (.int .i64 b.f1) ∧ x.w0.cell? ⟨ad0.block, ad0.off + 6 + 2, none⟩ = some (.int .i64 b.f2) ∧ x.w0.cell? ⟨ad0.block, ad0.off + 6 + 3, none⟩ = some (.string b.f3) ∧ x.w0.cell? ⟨ad0.block, ad0.off + 6 + 4, none⟩ = some (.bool b.f4) ∧ x.w0.cell? ⟨ad0.block, ad0.off + 6 + 5, none⟩ = some (.slice B1 b.f5.length b1)) := Lib.hid ⟨y0, y1, y2, y3, y4, y5⟩
  have HK := Lib.hid (And.intro hE0 hE1)
  obtain ⟨q0, hq0⟩ : ∃ q, on ++ [(⟨e3, false⟩ : G)] = q := ⟨_, rfl⟩
  obtain ⟨q1, hq1⟩ : ∃ q, on ++ [(⟨e3, true⟩ : G)] = q := ⟨_, rfl⟩
  rw [hq0] at hw
  rw [hq1] at hr
  have HQ := Lib.hid (And.intro hq0 hq1)
  have HW := Lib.hid (And.intro hw hr)
  clear hq0 hq1 hk hw hr HR x0 x1 x2 x3 x4 x5 y0 y1 y2 y3 y4 y5 hE0 hE1 hA1 hlen
  go_enter Tryd.func91, Tryd.ntmps91
  go_wp2_with (fail)
  have HS := Lib.hid (H.out.ck.new (q := exO ⟨12, e1, e2, e3, e4, e5⟩ (some ad0) c))
  generalize hW : w.alloc _ = W
  rw [hW] at HS
  clear hW
  obtain ⟨p0, p1, p2, p3, p4, p5, pf⟩ := blk6 HS.out.l0
  have pl := blk_lt HS.out.l0
  go_wp2_with (fail)
  have pfS : ∀ {V : World} {g : F}, Ck x.c w V (x.obj g) [(w.heap.size, exO ⟨12, e1, e2, e3, e4, e5⟩ (some ad0) c)] → V.cell? ⟨w.heap.size, 1, none⟩ = some (.int .i64 e1) ∧ V.cell? ⟨w.heap.size, 3, none⟩ = some (.string e3) := fun {V g} h => ⟨blk_cell h.l0 1, blk_cell h.l0 3⟩
  have hS0 : (W.drew).cell? ⟨w.heap.size, 1, none⟩ = some (.int .i64 e1) ∧ (W.drew).cell? ⟨w.heap.size, 3, none⟩ = some (.string e3) := pfS HS.out.drew
  go_region_held2 (fun w' => w'.cell? ⟨w.heap.size, 1, none⟩ = some (.int .i64 e1) ∧ w'.cell? ⟨w.heap.size, 3, none⟩ = some (.string e3)) (first | with_reducible exact hS0 | with_reducible exact hS1 | with_reducible exact hS2 | with_reducible exact hS3) (first | (go_at_call 90; (refine (cof_walk hx e3 f _ (H.out.of_ck hx (HS.out.drew))).mono ?_); go_must (rintro e' v1 ⟨A1, c1, rfl, hV, hb⟩; have HT1 := Lib.hid (Ck.below (HS.out.drew) hb); have HV1 := Lib.hid hV; clear hV; have hS1 : v1.cell? ⟨w.heap.size, 1, none⟩ = some (.int .i64 e1) ∧ v1.cell? ⟨w.heap.size, 3, none⟩ = some (.string e3) := pfS HT1.out; clear hb)) | (go_at_call 27; (refine (same_walk A1 c1 ((ofN x.n e3).1) oA oc on _ (HV1.out) (ck_only (HT1.out) HV.out)).mono ?_); go_must (rintro e' v2 ⟨rfl, hb⟩; have HT2 := Lib.hid (Ck.below (HT1.out) hb); have hS2 : v2.cell? ⟨w.heap.size, 1, none⟩ = some (.int .i64 e1) ∧ v2.cell? ⟨w.heap.size, 3, none⟩ = some (.string e3) := pfS HT2.out; clear hb)) | (go_at_call 89; (refine (bad_walk hx (!sameG (ofN x.n e3).1 on) e1 8 f _ (H.out.of_ck hx (HT2.out))).mono ?_); go_must (rintro e' v3 ⟨rfl, hD⟩; have HT3 := Lib.hid (Ck.does (HT2.out) hD); have hS3 : v3.cell? ⟨w.heap.size, 1, none⟩ = some (.int .i64 e1) ∧ v3.cell? ⟨w.heap.size, 3, none⟩ = some (.string e3) := pfS HT3.out; clear hD)))
  clear hS0 hS1 hS2 hS3 pfS p0 p1 p2 p3 p4 p5 pf pl
  obtain ⟨p0, p1, p2, p3, p4, p5, pf⟩ := blk6 HT3.out.l0
  have pl := blk_lt HT3.out.l0
  go_wp2_with (fail)
  have pfS : ∀ {V : World} {g : F}, Ck x.c w V (x.obj g) [(w.heap.size, exO ⟨12, e1, e2, e3, e4, e5⟩ (some ad0) c)] → V.cell? ⟨w.heap.size, 3, none⟩ = some (.string e3) ∧ V.cell? ⟨w.heap.size, 5, none⟩ = some (.slice (some ad0) e5.length c) ∧ V.cell? ad0 = some (.int .i64 a.f0) ∧ V.cell? ⟨ad0.block, ad0.off + 1, none⟩ = some (.int .i64 a.f1) ∧ V.cell? ⟨ad0.block, ad0.off + 2, none⟩ = some (.int .i64 a.f2) ∧ V.cell? ⟨ad0.block, ad0.off + 3, none⟩ = some (.string a.f3) ∧ V.cell? ⟨ad0.block, ad0.off + 4, none⟩ = some (.bool a.f4) ∧ V.cell? ⟨ad0.block, ad0.off + 5, none⟩ = some (.slice B0 a.f5.length b0) := fun {V g} h => ⟨blk_cell h.l0 3, blk_cell h.l0 5, pw_cell_below (H.out.of_ck hx h).bel HX.out.1, pw_cell_below (H.out.of_ck hx h).bel HX.out.2.1, pw_cell_below (H.out.of_ck hx h).bel HX.out.2.2.1, pw_cell_below (H.out.of_ck hx h).bel HX.out.2.2.2.1, pw_cell_below (H.out.of_ck hx h).bel HX.out.2.2.2.2.1, pw_cell_below (H.out.of_ck hx h).bel HX.out.2.2.2.2.2⟩
  have hS0 : (v3.drew).cell? ⟨w.heap.size, 3, none⟩ = some (.string e3) ∧ (v3.drew).cell? ⟨w.heap.size, 5, none⟩ = some (.slice (some ad0) e5.length c) ∧ (v3.drew).cell? ad0 = some (.int .i64 a.f0) ∧ (v3.drew).cell? ⟨ad0.block, ad0.off + 1, none⟩ = some (.int .i64 a.f1) ∧ (v3.drew).cell? ⟨ad0.block, ad0.off + 2, none⟩ = some (.int .i64 a.f2) ∧ (v3.drew).cell? ⟨ad0.block, ad0.off + 3, none⟩ = some (.string a.f3) ∧ (v3.drew).cell? ⟨ad0.block, ad0.off + 4, none⟩ = some (.bool a.f4) ∧ (v3.drew).cell? ⟨ad0.block, ad0.off + 5, none⟩ = some (.slice B0 a.f5.length b0) := pfS HT3.out.drew
  go_region_held2 (fun w' => w'.cell? ⟨w.heap.size, 3, none⟩ = some (.string e3) ∧ w'.cell? ⟨w.heap.size, 5, none⟩ = some (.slice (some ad0) e5.length c) ∧ w'.cell? ad0 = some (.int .i64 a.f0) ∧ w'.cell? ⟨ad0.block, ad0.off + 1, none⟩ = some (.int .i64 a.f1) ∧ w'.cell? ⟨ad0.block, ad0.off + 2, none⟩ = some (.int .i64 a.f2) ∧ w'.cell? ⟨ad0.block, ad0.off + 3, none⟩ = some (.string a.f3) ∧ w'.cell? ⟨ad0.block, ad0.off + 4, none⟩ = some (.bool a.f4) ∧ w'.cell? ⟨ad0.block, ad0.off + 5, none⟩ = some (.slice B0 a.f5.length b0)) (first | with_reducible exact hS0 | with_reducible exact hS1 | with_reducible exact hS2) (first | (go_at_call 26; (refine (onq_walk oA oc on e3 false q0 _ (ck_only (HT3.out.drew) HV.out) HN.out HQ.out.1).mono ?_); go_must (rintro e' u1 ⟨A2, c2, rfl, hV, hb⟩; have HU1 := Lib.hid (Ck.below (HT3.out.drew) hb); have HV2 := Lib.hid hV; clear hV; have hS1 : u1.cell? ⟨w.heap.size, 3, none⟩ = some (.string e3) ∧ u1.cell? ⟨w.heap.size, 5, none⟩ = some (.slice (some ad0) e5.length c) ∧ u1.cell? ad0 = some (.int .i64 a.f0) ∧ u1.cell? ⟨ad0.block, ad0.off + 1, none⟩ = some (.int .i64 a.f1) ∧ u1.cell? ⟨ad0.block, ad0.off + 2, none⟩ = some (.int .i64 a.f2) ∧ u1.cell? ⟨ad0.block, ad0.off + 3, none⟩ = some (.string a.f3) ∧ u1.cell? ⟨ad0.block, ad0.off + 4, none⟩ = some (.bool a.f4) ∧ u1.cell? ⟨ad0.block, ad0.off + 5, none⟩ = some (.slice B0 a.f5.length b0) := pfS HU1.out; clear hb)) | (go_at_call 91; (refine (hex a B0 b0 q0 A2 c2 (bad (!sameG (ofN x.n e3).1 on) e1 8 f) f1 _ HK.out.1 (HV2.out.le (Nat.le_trans HS.out.lc HT3.out.sz)) (H.out.of_ck hx (HU1.out)) HW.out.1).mono ?_); go_must (rintro e' u2 ⟨rfl, hD⟩; have HU2 := Lib.hid (Ck.does (HU1.out) hD); have hS2 : u2.cell? ⟨w.heap.size, 3, none⟩ = some (.string e3) ∧ u2.cell? ⟨w.heap.size, 5, none⟩ = some (.slice (some ad0) e5.length c) ∧ u2.cell? ad0 = some (.int .i64 a.f0) ∧ u2.cell? ⟨ad0.block, ad0.off + 1, none⟩ = some (.int .i64 a.f1) ∧ u2.cell? ⟨ad0.block, ad0.off + 2, none⟩ = some (.int .i64 a.f2) ∧ u2.cell? ⟨ad0.block, ad0.off + 3, none⟩ = some (.string a.f3) ∧ u2.cell? ⟨ad0.block, ad0.off + 4, none⟩ = some (.bool a.f4) ∧ u2.cell? ⟨ad0.block, ad0.off + 5, none⟩ = some (.slice B0 a.f5.length b0) := pfS HU2.out; clear hD)))
  clear hS0 hS1 hS2 pfS p0 p1 p2 p3 p4 p5 pf pl HV2
  obtain ⟨p0, p1, p2, p3, p4, p5, pf⟩ := blk6 HU2.out.l0
  have pl := blk_lt HU2.out.l0
  go_wp2_with (fail)
  have pfS : ∀ {V : World} {g : F}, Ck x.c w V (x.obj g) [(w.heap.size, exO ⟨12, e1, e2, e3, e4, e5⟩ (some ad0) c)] → V.cell? ⟨w.heap.size, 3, none⟩ = some (.string e3) ∧ V.cell? ⟨w.heap.size, 5, none⟩ = some (.slice (some ad0) e5.length c) ∧ V.cell? ⟨ad0.block, ad0.off + 6, none⟩ = some (.int .i64 b.f0) ∧ V.cell? ⟨ad0.block, ad0.off + 6 + 1, none⟩ = some (.int .i64 b.f1) ∧ V.cell? ⟨ad0.block, ad0.off + 6 + 2, none⟩ = some (.int .i64 b.f2) ∧ V.cell? ⟨ad0.block, ad0.off + 6 + 3, none⟩ = some (.string b.f3) ∧ V.cell? ⟨ad0.block, ad0.off + 6 + 4, none⟩ = some (.bool b.f4) ∧ V.cell? ⟨ad0.block, ad0.off + 6 + 5, none⟩ = some (.slice B1 b.f5.length b1) := fun {V g} h => ⟨blk_cell h.l0 3, blk_cell h.l0 5, pw_cell_below (H.out.of_ck hx h).bel HY.out.1, pw_cell_below (H.out.of_ck hx h).bel HY.out.2.1, pw_cell_below (H.out.of_ck hx h).bel HY.out.2.2.1, pw_cell_below (H.out.of_ck hx h).bel HY.out.2.2.2.1, pw_cell_below (H.out.of_ck hx h).bel HY.out.2.2.2.2.1, pw_cell_below (H.out.of_ck hx h).bel HY.out.2.2.2.2.2⟩
  have hS0 : (u2.drew).cell? ⟨w.heap.size, 3, none⟩ = some (.string e3) ∧ (u2.drew).cell? ⟨w.heap.size, 5, none⟩ = some (.slice (some ad0) e5.length c) ∧ (u2.drew).cell? ⟨ad0.block, ad0.off + 6, none⟩ = some (.int .i64 b.f0) ∧ (u2.drew).cell? ⟨ad0.block, ad0.off + 6 + 1, none⟩ = some (.int .i64 b.f1) ∧ (u2.drew).cell? ⟨ad0.block, ad0.off + 6 + 2, none⟩ = some (.int .i64 b.f2) ∧ (u2.drew).cell? ⟨ad0.block, ad0.off + 6 + 3, none⟩ = some (.string b.f3) ∧ (u2.drew).cell? ⟨ad0.block, ad0.off + 6 + 4, none⟩ = some (.bool b.f4) ∧ (u2.drew).cell? ⟨ad0.block, ad0.off + 6 + 5, none⟩ = some (.slice B1 b.f5.length b1) := pfS HU2.out.drew
  go_region_held2 (fun w' => w'.cell? ⟨w.heap.size, 3, none⟩ = some (.string e3) ∧ w'.cell? ⟨w.heap.size, 5, none⟩ = some (.slice (some ad0) e5.length c) ∧ w'.cell? ⟨ad0.block, ad0.off + 6, none⟩ = some (.int .i64 b.f0) ∧ w'.cell? ⟨ad0.block, ad0.off + 6 + 1, none⟩ = some (.int .i64 b.f1) ∧ w'.cell? ⟨ad0.block, ad0.off + 6 + 2, none⟩ = some (.int .i64 b.f2) ∧ w'.cell? ⟨ad0.block, ad0.off + 6 + 3, none⟩ = some (.string b.f3) ∧ w'.cell? ⟨ad0.block, ad0.off + 6 + 4, none⟩ = some (.bool b.f4) ∧ w'.cell? ⟨ad0.block, ad0.off + 6 + 5, none⟩ = some (.slice B1 b.f5.length b1)) (first | with_reducible exact hS0 | with_reducible exact hS1 | with_reducible exact hS2) (first | (go_at_call 26; (refine (onq_walk oA oc on e3 true q1 _ (ck_only (HU2.out.drew) HV.out) HN.out HQ.out.2).mono ?_); go_must (rintro e' t1 ⟨A2, c2, rfl, hV, hb⟩; have HX9_1 := Lib.hid (Ck.below (HU2.out.drew) hb); have HV2 := Lib.hid hV; clear hV; have hS1 : t1.cell? ⟨w.heap.size, 3, none⟩ = some (.string e3) ∧ t1.cell? ⟨w.heap.size, 5, none⟩ = some (.slice (some ad0) e5.length c) ∧ t1.cell? ⟨ad0.block, ad0.off + 6, none⟩ = some (.int .i64 b.f0) ∧ t1.cell? ⟨ad0.block, ad0.off + 6 + 1, none⟩ = some (.int .i64 b.f1) ∧ t1.cell? ⟨ad0.block, ad0.off + 6 + 2, none⟩ = some (.int .i64 b.f2) ∧ t1.cell? ⟨ad0.block, ad0.off + 6 + 3, none⟩ = some (.string b.f3) ∧ t1.cell? ⟨ad0.block, ad0.off + 6 + 4, none⟩ = some (.bool b.f4) ∧ t1.cell? ⟨ad0.block, ad0.off + 6 + 5, none⟩ = some (.slice B1 b.f5.length b1) := pfS HX9_1.out; clear hb)) | (go_at_call 91; (refine (hex b B1 b1 q1 A2 c2 f1 r _ HK.out.2 (HV2.out.le (Nat.le_trans HS.out.lc HU2.out.sz)) (H.out.of_ck hx (HX9_1.out)) HW.out.2).mono ?_); go_must (rintro e' t2 ⟨rfl, hD⟩; have HX9_2 := Lib.hid (Ck.does (HX9_1.out) hD); have hS2 : t2.cell? ⟨w.heap.size, 3, none⟩ = some (.string e3) ∧ t2.cell? ⟨w.heap.size, 5, none⟩ = some (.slice (some ad0) e5.length c) ∧ t2.cell? ⟨ad0.block, ad0.off + 6, none⟩ = some (.int .i64 b.f0) ∧ t2.cell? ⟨ad0.block, ad0.off + 6 + 1, none⟩ = some (.int .i64 b.f1) ∧ t2.cell? ⟨ad0.block, ad0.off + 6 + 2, none⟩ = some (.int .i64 b.f2) ∧ t2.cell? ⟨ad0.block, ad0.off + 6 + 3, none⟩ = some (.string b.f3) ∧ t2.cell? ⟨ad0.block, ad0.off + 6 + 4, none⟩ = some (.bool b.f4) ∧ t2.cell? ⟨ad0.block, ad0.off + 6 + 5, none⟩ = some (.slice B1 b.f5.length b1) := pfS HX9_2.out; clear hD)))
  go_wp2_with (fail)
  go_end0
  exact ⟨rfl, Does.of_ck HX9_2.out⟩
theorem expr_walk {x : Ctx} (hx : x.Ok) {ex : Ex} (hex : ExIs x ex) : ExIs x (exprK ex x.l x.n) := by
  intro e A c on oA oc f r w he ho h hr
  have hs : on.length ≤ 1000000 := by
    rcases Nat.lt_or_ge 1000000 on.length with h9 | h9
    · unfold exprK at hr
      rw [if_pos h9] at hr
      cases hr
    · exact h9
  by_cases n3 : e.f0 = 3
  · exact expr_k3 hx hex e A c on oA oc f r w n3 he ho h hs hr
  by_cases n11 : e.f0 = 11
  · exact expr_k11 hx hex e A c on oA oc f r w n11 he ho h hs hr
  by_cases n12 : e.f0 = 12
  · exact expr_k12 hx hex e A c on oA oc f r w n12 he ho h hs hr
  by_cases n14 : e.f0 = 14
  · exact expr_k14 hx hex e A c on oA oc f r w n14 he ho h hs hr
  by_cases n13 : e.f0 = 13
  · exact expr_k13 hx hex e A c on oA oc f r w n13 he ho h hs hr
  exact expr_kdef hx hex e A c on oA oc f r w ⟨n3, n11, n12, n14, n13⟩ he ho h hs hr
theorem expr_is {x : Ctx} (hx : x.Ok) : ∀ k : Nat, ExIs x (expr k x.l x.n)
  | 0 => by intro e A c on oA oc f r w he ho h hr; cases hr
  | k + 1 => expr_walk hx (expr_is hx k)
end Go.Proofs.YtjafllnbgfcchaaDoor.Cl
end
section
/- The checker of clocks: node, Check, walked. -/
namespace Go.Proofs.YtjafllnbgfcchaaDoor.Cl
set_option linter.unusedVariables false
set_option linter.unusedSimpArgs false
open Go Go.RowKit Go.Proofs.YtjafllnbgfcchaaDoorW.PrintWords Go.Proofs.YtjafllnbgfcchaaDoorW.PrintLast Go.Proofs.YtjafllnbgfcchaaDoorW.PrintMore Go.Proofs.YtjafllnbgfcchaaDoor.Lx Go.Proofs.YtjafllnbgfcchaaDoor.XK Go.Proofs.YtjafllnbgfcchaaDoor.XCK Go.Proofs.YtjafllnbgfcchaaDoor.Px Go.Proofs.YtjafllnbgfcchaaDoor.Ck Go.Proofs.YtjafllnbgfcchaaDoor.Ow
attribute [local go_sem ↓] Go.wp_at_zero Go.wp_at_succ
abbrev eqO (q : Q) (A0 : Option Addr) (c0 : Nat) (A7 : Option Addr) (c7 : Nat) : Obj := .cells #[.slice A0 q.f0.length c0, .bool q.f1, .int .i64 q.f2.f0, .int .i64 q.f2.f1, .int .i64 q.f2.f2, .string q.f2.f3, .bool q.f2.f4, .slice A7 q.f2.f5.length c7] 45 (0, 0)
abbrev lfO (x : S47) : Obj := .cells #[.string x.f0, .int .i64 x.f1] 47 (0, 0)
structure QAt (w0 : World) (q : Q) (A0 : Option Addr) (c0 : Nat) (A7 : Option Addr) (c7 : Nat) : Prop where
 left : Kd.C k47 w0 A0 q.f0.length q.f0
 room : q.f0.length ≤ c0
 ex : ExAt w0 q.f2 A7 c7
theorem blk8 {W : World} {g : Nat} {t : TypeId} {a0 a1 a2 a3 a4 a5 a6 a7 : Value} (h : W.heap[g]? = some (.cells #[a0, a1, a2, a3, a4, a5, a6, a7] t (0, 0))) :
  W.cell? ⟨g, 0, none⟩ = some a0 ∧ W.cell? ⟨g, 1, none⟩ = some a1 ∧ W.cell? ⟨g, 2, none⟩ = some a2 ∧ W.cell? ⟨g, 3, none⟩ = some a3 ∧ W.cell? ⟨g, 4, none⟩ = some a4 ∧ W.cell? ⟨g, 5, none⟩ = some a5 ∧ W.cell? ⟨g, 6, none⟩ = some a6 ∧ W.cell? ⟨g, 7, none⟩ = some a7 ∧ ∀ j, W.frozen? ⟨g, j, none⟩ = false :=
 ⟨blk_cell h 0, blk_cell h 1, blk_cell h 2, blk_cell h 3, blk_cell h 4, blk_cell h 5, blk_cell h 6, blk_cell h 7, fun j => blk_frozen h j⟩
abbrev Ctx.put (x : Ctx) (n : N) (B2 : Option Addr) (b2 : Nat) (B3 : Option Addr) (b3 : Nat) (B4 : Option Addr) (b4 : Nat) (B5 : Option Addr) (b5 : Nat) : Ctx := ⟨x.w0, x.c, x.A, x.cap, x.l, n, B2, b2, B3, b3, B4, b4, B5, b5⟩
theorem Ctx.Ok.put {x : Ctx} (hx : x.Ok) {n : N} {B2 : Option Addr} {b2 : Nat} {B3 : Option Addr} {b3 : Nat} {B4 : Option Addr} {b4 : Nat} {B5 : Option Addr} {b5 : Nat} (h : NdAt x.w0 n B2 b2 B3 b3 B4 b4 B5 b5) (hf : ¬ 1000000 < n.f2.length + n.f3.length + n.f4.length) : (x.put n B2 b2 B3 b3 B4 b4 B5 b5).Ok :=
 ⟨hx.hc, hx.hl, hx.hlc, h.h2, h.m2, h.h3, h.m3, h.h4, h.m4, h.h5, h.m5, by show n.f2.length + n.f3.length + n.f4.length ≤ 1000000; omega⟩
theorem at_put {x : Ctx} {n : N} {B2 : Option Addr} {b2 : Nat} {B3 : Option Addr} {b3 : Nat} {B4 : Option Addr} {b4 : Nat} {B5 : Option Addr} {b5 : Nat} {w W : World} {f : F} {l : List (Nat × Obj)} (k : Ck x.c w W ((x.put n B2 b2 B3 b3 B4 b4 B5 b5).obj f) l) (hb : Below x.w0.heap.size x.w0 w) (hx : x.Ok) : At (x.put n B2 b2 B3 b3 B4 b4 B5 b5) W f :=
 ⟨k.blk, Ck.old k hb hx.hc⟩
theorem left_at {w0 : World} {A : Option Addr} {l : List S47} (h : Kd.C k47 w0 A l.length l) (i : Nat) (d : S47) (hk : l[i]? = some d) : ∃ ad, A = some ad ∧ w0.cell? (ad.add (i * 2)) = some (.string d.f0) ∧
  w0.cell? ⟨(ad.add (i * 2)).block, (ad.add (i * 2)).off + 1, none⟩ = some (.int .i64 d.f1) := by
 have hlt := (List.getElem?_eq_some_iff.1 hk).1
 obtain ⟨ad, e1, hx0, hx1⟩ := at_T47 h (i : Int) (by omega) (by omega)
 have hr : rd_T47 l (i : Int) = d := by
  unfold rd_T47
  simp [hk]
 rw [hr] at hx0 hx1
 simp only [Int.toNat_natCast] at hx0 hx1
 exact ⟨ad, e1, hx0, hx1⟩
theorem eq_at {w0 : World} {A : Option Addr} {l : List Q} (h : Kd.C k45 w0 A l.length l) (i : Nat) (q : Q) (hk : l[i]? = some q) : ∃ ad A0 c0 A7 c7, A = some ad ∧ w0.cell? (ad.add (i * 8)) = some (.slice A0 q.f0.length c0) ∧
  w0.cell? ⟨(ad.add (i * 8)).block, (ad.add (i * 8)).off + 1, none⟩ = some (.bool q.f1) ∧ w0.cell? ⟨(ad.add (i * 8)).block, (ad.add (i * 8)).off + 2, none⟩ = some (.int .i64 q.f2.f0) ∧
  w0.cell? ⟨(ad.add (i * 8)).block, (ad.add (i * 8)).off + 3, none⟩ = some (.int .i64 q.f2.f1) ∧ w0.cell? ⟨(ad.add (i * 8)).block, (ad.add (i * 8)).off + 4, none⟩ = some (.int .i64 q.f2.f2) ∧
  w0.cell? ⟨(ad.add (i * 8)).block, (ad.add (i * 8)).off + 5, none⟩ = some (.string q.f2.f3) ∧ w0.cell? ⟨(ad.add (i * 8)).block, (ad.add (i * 8)).off + 6, none⟩ = some (.bool q.f2.f4) ∧
  w0.cell? ⟨(ad.add (i * 8)).block, (ad.add (i * 8)).off + 7, none⟩ = some (.slice A7 q.f2.f5.length c7) ∧ QAt w0 q A0 c0 A7 c7 := by
 have hlt := (List.getElem?_eq_some_iff.1 hk).1
 obtain ⟨ad, A0, c0, A7, c7, e1, hx0, hx1, hx2, hx3, hx4, hx5, hx6, hx7, l0, g0, l7, g7⟩ := at_T45 h (i : Int) (by omega) (by omega)
 have hr : rd_T45 l (i : Int) = q := by
  unfold rd_T45
  simp [hk]
 rw [hr] at hx0 hx1 hx2 hx3 hx4 hx5 hx6 hx7 l0 g0 l7 g7
 simp only [Int.toNat_natCast] at hx0 hx1 hx2 hx3 hx4 hx5 hx6 hx7
 exact ⟨ad, A0, c0, A7, c7, e1, hx0, hx1, hx2, hx3, hx4, hx5, hx6, hx7, ⟨g0, l0, ⟨g7, l7⟩⟩⟩
theorem node_at {w0 : World} {A : Option Addr} {l : List N} (h : Kd.C k34 w0 A l.length l) (i : Nat) (q : N) (hk : l[i]? = some q) : ∃ ad B2 b2 B3 b3 B4 b4 B5 b5, A = some ad ∧ w0.cell? (ad.add (i * 6)) = some (.string q.f0) ∧
  w0.cell? ⟨(ad.add (i * 6)).block, (ad.add (i * 6)).off + 1, none⟩ = some (.int .i64 q.f1) ∧ w0.cell? ⟨(ad.add (i * 6)).block, (ad.add (i * 6)).off + 2, none⟩ = some (.slice B2 q.f2.length b2) ∧
  w0.cell? ⟨(ad.add (i * 6)).block, (ad.add (i * 6)).off + 3, none⟩ = some (.slice B3 q.f3.length b3) ∧ w0.cell? ⟨(ad.add (i * 6)).block, (ad.add (i * 6)).off + 4, none⟩ = some (.slice B4 q.f4.length b4) ∧
  w0.cell? ⟨(ad.add (i * 6)).block, (ad.add (i * 6)).off + 5, none⟩ = some (.slice B5 q.f5.length b5) ∧ NdAt w0 q B2 b2 B3 b3 B4 b4 B5 b5 := by
 have hlt := (List.getElem?_eq_some_iff.1 hk).1
 obtain ⟨ad, B2, b2, B3, b3, B4, b4, B5, b5, e1, hx0, hx1, hx2, hx3, hx4, hx5, l2, g2, l3, g3, l4, g4, l5, g5⟩ := at_T34 h (i : Int) (by omega) (by omega)
 have hr : rd_T34 l (i : Int) = q := by
  unfold rd_T34
  simp [hk]
 rw [hr] at hx0 hx1 hx2 hx3 hx4 hx5 l2 g2 l3 g3 l4 g4 l5 g5
 simp only [Int.toNat_natCast] at hx0 hx1 hx2 hx3 hx4 hx5
 exact ⟨ad, B2, b2, B3, b3, B4, b4, B5, b5, e1, hx0, hx1, hx2, hx3, hx4, hx5, ⟨g2, l2, g3, l3, g4, l4, g5, l5⟩⟩
abbrev ctx0 (w : World) (A : Option Addr) (cap : Nat) (l : List N) (n : N) (B2 : Option Addr) (b2 : Nat) (B3 : Option Addr) (b3 : Nat) (B4 : Option Addr) (b4 : Nat) (B5 : Option Addr) (b5 : Nat) : Ctx := ⟨w, w.heap.size + 1, A, cap, l, n, B2, b2, B3, b3, B4, b4, B5, b5⟩
theorem int_pos {J : Int} (h : 0 < J) : decide (0 < J) = true ∧ (0 < J) = True ∧ (J == 0) = false ∧ (J = 0) = False := ⟨decide_eq_true h, eq_true h, beq_eq_false_iff_ne.2 (by omega), eq_false (by omega)⟩
theorem int_np {J : Int} (h : J = 0) : decide (0 < J) = false ∧ (0 < J) = False ∧ (J == 0) = true ∧ (J = 0) = True := ⟨decide_eq_false (by omega), eq_false (by omega), beq_iff_eq.2 h, eq_true h⟩
theorem nat_pos {j : Nat} (h : ¬ j = 0) : (0 : Int) < (j : Int) := by omega
theorem nat_np {j : Nat} (h : j = 0) : (j : Int) = 0 := by omega
set_option maxHeartbeats 4000000 in
set_option maxRecDepth 100000 in
theorem node_walk {x : Ctx} (hx : x.Ok) (k : Nat) (n : N) (B2 : Option Addr) (b2 : Nat) (B3 : Option Addr) (b3 : Nat) (B4 : Option Addr) (b4 : Nat) (B5 : Option Addr) (b5 : Nat) (f r : F) (w : World) (hN : NdAt x.w0 n B2 b2 B3 b3 B4 b4 B5 b5) (h : At x w f) (hr : node k x.l n f = some r) :
  Calls Tryd.prog 54 #[.pointer (some ⟨x.c, 0, none⟩), .agg #[.string n.f0, .int .i64 n.f1, .slice B2 n.f2.length b2, .slice B3 n.f3.length b3, .slice B4 n.f4.length b4, .slice B5 n.f5.length b5]] w fun e' w' => e' = .returned (.tuple #[]) ∧ Only x.c w w' ∧ w'.heap[x.c]? = some ((x.put n B2 b2 B3 b3 B4 b4 B5 b5).obj r) := by
 unfold node at hr
 split at hr
 case isTrue => cases hr
 rename_i hfew
 have hy := hx.put hN hfew
 obtain ⟨f1, h1⟩ : ∃ f1, varsC n n.f4 f = f1 := ⟨_, rfl⟩
 rw [h1] at hr
 have H := Lib.hid h
 have HM := Lib.hid hN
 have HR := Lib.hid hr
 have H1 := Lib.hid h1
 obtain ⟨r0, r1, r2, r3, r4, r5, r6, r7, r8, rf⟩ := blk9 h.blk
 have rl := blk_lt h.blk
 have rn : ¬ (x.c = w.heap.size) := Nat.ne_of_lt rl
 clear h hN hr h1 hfew
 go_enter Tryd.func54, Tryd.ntmps54
 go_wp2_with (fail)
 have HS : Hid (Ck x.c w _ ((x.put n B2 b2 B3 b3 B4 b4 B5 b5).obj f) [(w.heap.size, ndO n B2 b2 B3 b3 B4 b4 B5 b5)]) := Lib.hid (Ck.newg (g := w.heap.size) (q := ndO n B2 b2 B3 b3 B4 b4 B5 b5) (by simp [World.setCell]) ((((((H.out.ck.put 1 (.string n.f0)).put 2 (.int .i64 n.f1)).put 3 (.slice B2 n.f2.length b2)).put 4 (.slice B3 n.f3.length b3)).put 5 (.slice B4 n.f4.length b4)).put 6 (.slice B5 n.f5.length b5)))
 generalize hW : World.alloc _ _ = W
 rw [hW] at HS
 clear hW r0 r1 r2 r3 r4 r5 r6 r7 r8 rf rn rl
 obtain ⟨m0, m1, m2, m3, m4, m5, mf⟩ := blk6 HS.out.l0
 have ml := blk_lt HS.out.l0
 have HQ := H1
 go_wp2_with (fail)
 go_loopg [21] (n.f4.length + 1) (fun m9 u wr => ∃ (i : Nat) (f' : F), u = .int .i64 (i : Int) ∧ i ≤ n.f4.length ∧ m9 = n.f4.length + 1 - i ∧ Hid (Ck x.c w wr ((x.put n B2 b2 B3 b3 B4 b4 B5 b5).obj f') [(w.heap.size, ndO n B2 b2 B3 b3 B4 b4 B5 b5)]) ∧ Hid (varsC n (n.f4.drop i) f' = f1))
 case atStart => exact ⟨0, _, rfl, by omega, by simp, HS, HQ⟩
 case round =>
  obtain ⟨i, f', rfl, hi, rfl, HS', HL⟩ := hrel
  clear HS
  have HS := HS'
  clear HS'
  obtain ⟨m0, m1, m2, m3, m4, m5, mf⟩ := blk6 HS.out.l0
  have ml := blk_lt HS.out.l0
  rcases Nat.lt_or_ge i n.f4.length with hlt | hge
  ·obtain ⟨d, hdk, hdd⟩ := drop_at hlt
   obtain ⟨ad2, hA2, y0, y1, y2, y3, y4, y5⟩ := dec_at HM.out.h4 i d hdk
   have hb := Ck.old HS.out H.out.bel hx.hc
   replace y0 := pw_cell_below hb y0
   replace y1 := pw_cell_below hb y1
   replace y2 := pw_cell_below hb y2
   replace y3 := pw_cell_below hb y3
   replace y4 := pw_cell_below hb y4
   replace y5 := pw_cell_below hb y5
   have xl := World.block_lt_of_cell? _ _ y0
   have xn : ¬ ((ad2.add (i * 6)).block = wr.heap.size) := Nat.ne_of_lt xl
   have mn : ¬ (w.heap.size = wr.heap.size) := Nat.ne_of_lt ml
   have i0 : ((i : Int) < (n.f4.length : Int)) = True := eq_true (by omega)
   have i1 : decide ((i : Int) < (n.f4.length : Int)) = true := decide_eq_true (by omega)
   have i2 : (0 ≤ (i : Int)) = True := eq_true (by omega)
   have hw9 : wrap64 ((i : Int) + 1) = ((i + 1 : Nat) : Int) := by have h9 := HM.out.h4.2.1; unfold maxLen at h9; unfold wrap64; omega
   have hL : varsC n (n.f4.drop (i + 1)) (bad (!(ofN n d.f0).2) d.f1 10 f') = f1 := by have h9 := HL.out; rw [hdd] at h9; exact h9
   obtain ⟨p, hp⟩ : ∃ p, ofN n d.f0 = p := ⟨_, rfl⟩
   rw [hp] at hL
   have HP := Lib.hid hp
   have HL2 := Lib.hid hL
   clear hb hdk hdd HL hL hp
   obtain ⟨d0, d1, ⟨d2, d3⟩, d4, d5⟩ := d
   subst hA2
   have HT := Lib.hid (HS.out.new (q := dcO ⟨d0, d1, ⟨d2, d3⟩, d4, d5⟩))
   go_wp2_with (fail)
   have h9 := off_walk hy d0 _ (Ck.old HT.out H.out.bel hx.hc)
   have hP : ofN (x.put n B2 b2 B3 b3 (some ad2) b4 B5 b5).n d0 = p := HP.out
   rw [hP] at h9
   refine h9.mono ?_
   rintro e' w7 ⟨A1, c1, rfl, hV, hb⟩
   have HU := Lib.hid (HT.out.below hb)
   clear hb hV h9 hP
   obtain ⟨uu0, uu1, uu2, uu3, uu4, uu5, uuf⟩ := blk6 HU.out.l0
   have uul := blk_lt HU.out.l0
   obtain ⟨vv0, vv1, vv2, vv3, vv4, vv5, vvf⟩ := blk6 HU.out.l1
   have vvl := blk_lt HU.out.l1
   obtain ⟨p0, p1⟩ := p
   go_wp2_with (fail)
   refine (bad_walk hy (!p1) d1 10 f' _ (at_put HU.out H.out.bel hx)).mono ?_
   rintro e' w8 ⟨rfl, hD⟩
   have HS2 := Lib.hid (Ck.call HU.out hD.only hD.blk).drop1
   clear hD
   go_wp2_with (fail)
   go_roundg (n.f4.length + 1 - (i + 1))
   case measure => exact ms9 hlt
   case rel => exact ⟨i + 1, _, (by first | rw [hw9] | rfl), hlt, rfl, HS2, HL2⟩
  ·have hd : n.f4.drop i = [] := List.drop_eq_nil_of_le hge
   have hL := HL.out
   rw [hd] at hL
   obtain rfl : f' = f1 := hL
   have i0 : ((i : Int) < (n.f4.length : Int)) = False := eq_false (by omega)
   have i1 : decide ((i : Int) < (n.f4.length : Int)) = false := decide_eq_false (by omega)
   clear hd hi hge HL
   obtain ⟨fa, fe⟩ := f'
   obtain ⟨r0, r1, r2, r3, r4, r5, r6, r7, r8, rf⟩ := blk9 HS.out.blk
   have rl := blk_lt HS.out.blk
   by_cases hz : fe = 0
   ·subst hz
    have HR2 := Lib.hid (show eqsC (expr k x.l n) n n.f5 (fa, 0) = some r from HR.out)
    clear HR
    have HQ := HR2
    go_wp2_with (fail)
    clear r0 r1 r2 r3 r4 r5 r6 r7 r8 rf rl m0 m1 m2 m3 m4 m5 mf ml
    go_loopg [48] (n.f5.length + 1) (fun m9 u wr => ∃ (i : Nat) (f' : F), u = .int .i64 (i : Int) ∧ i ≤ n.f5.length ∧ m9 = n.f5.length + 1 - i ∧ Hid (Ck x.c w wr ((x.put n B2 b2 B3 b3 B4 b4 B5 b5).obj f') [(w.heap.size, ndO n B2 b2 B3 b3 B4 b4 B5 b5)]) ∧ Hid (eqsC (expr k x.l n) n (n.f5.drop i) f' = some r))
    case atStart => exact ⟨0, _, rfl, by omega, by simp, HS, HQ⟩
    case round =>
     obtain ⟨i, f', rfl, hi, rfl, HS', HL⟩ := hrel
     clear HS HQ HR2
     have HS := HS'
     clear HS'
     obtain ⟨m0, m1, m2, m3, m4, m5, mf⟩ := blk6 HS.out.l0
     have ml := blk_lt HS.out.l0
     rcases Nat.lt_or_ge i n.f5.length with hlt | hge
     ·obtain ⟨q, hdk, hdd⟩ := drop_at hlt
      obtain ⟨ad2, A0, c0, A7, c7, hA2, y0, y1, y2, y3, y4, y5, y6, y7, hq⟩ := eq_at HM.out.h5 i q hdk
      have hb := Ck.old HS.out H.out.bel hx.hc
      replace y0 := pw_cell_below hb y0
      replace y1 := pw_cell_below hb y1
      replace y2 := pw_cell_below hb y2
      replace y3 := pw_cell_below hb y3
      replace y4 := pw_cell_below hb y4
      replace y5 := pw_cell_below hb y5
      replace y6 := pw_cell_below hb y6
      replace y7 := pw_cell_below hb y7
      have xl := World.block_lt_of_cell? _ _ y0
      have xn : ¬ ((ad2.add (i * 8)).block = wr.heap.size) := Nat.ne_of_lt xl
      have mn : ¬ (w.heap.size = wr.heap.size) := Nat.ne_of_lt ml
      have i0 : ((i : Int) < (n.f5.length : Int)) = True := eq_true (by omega)
      have i1 : decide ((i : Int) < (n.f5.length : Int)) = true := decide_eq_true (by omega)
      have i2 : (0 ≤ (i : Int)) = True := eq_true (by omega)
      have hw9 : wrap64 ((i : Int) + 1) = ((i + 1 : Nat) : Int) := by have h9 := HM.out.h5.2.1; unfold maxLen at h9; unfold wrap64; omega
      have hL := HL.out
      rw [hdd] at hL
      obtain ⟨⟨on9, g9⟩, hlf⟩ : ∃ p, leftC n (q.f0.drop 0) true [] f' = p := ⟨_, rfl⟩
      have hL : ((expr k x.l n) q.f2 (leftC n (q.f0.drop 0) true [] f').1 (leftC n (q.f0.drop 0) true [] f').2).bind (fun f1 => eqsC (expr k x.l n) n (n.f5.drop (i + 1)) f1) = some r := hL
      rw [hlf] at hL
      obtain ⟨f4, hl4, hL⟩ := Option.bind_eq_some_iff.1 hL
      have HG := Lib.hid (And.intro hl4 hL)
      have HE := Lib.hid hq
      have HF := Lib.hid hlf
      clear hb hdk hdd HL hl4 hL hq hlf
      subst hA2
      have HT := Lib.hid (HS.out.new (q := eqO q A0 c0 A7 c7))
      go_wp2_with (fail)
      generalize hgq : wr.heap.size = gq at HT ⊢
      generalize hV : wr.alloc _ = V at HT ⊢
      clear hV HS m0 m1 m2 m3 m4 m5 mf y0 y1 y2 y3 y4 y5 y6 y7 xl xn mn
      have HV : Hid (ClV (x.c + 1) V none 0 []) := Lib.hid (ClV.nil _ _)
      go_loopg [55, 10] (q.f0.length + 1) (fun m9 u uo wr2 => ∃ (j : Nat) (oA : Option Addr) (on : List G) (oc : Nat) (f5 : F), u = .int .i64 (j : Int) ∧ uo = .slice oA on.length oc ∧ j ≤ q.f0.length ∧ m9 = q.f0.length + 1 - j ∧ Hid (Ck x.c w wr2 ((x.put n B2 b2 B3 b3 B4 b4 (some ad2) b5).obj f5) [(gq, eqO q A0 c0 A7 c7), (w.heap.size, ndO n B2 b2 B3 b3 B4 b4 (some ad2) b5)]) ∧ Hid (ClV (x.c + 1) wr2 oA oc on) ∧ Hid (leftC n (q.f0.drop j) (j == 0) on f5 = (on9, g9)))
      case atStart => exact ⟨0, none, [], 0, _, rfl, rfl, by omega, by simp, HT, HV, HF⟩
      case round =>
       obtain ⟨j, oA, on, oc, f5, rfl, rfl, hj, rfl, HS', HV', HL'⟩ := hrel
       clear HT HV HF
       have HS := HS'
       have HV := HV'
       have HL := HL'
       clear HS' HV' HL'
       obtain ⟨q0, q1, q2, q3, q4, q5, q6, q7, qf⟩ := blk8 HS.out.l0
       have ql := blk_lt HS.out.l0
       obtain ⟨m0, m1, m2, m3, m4, m5, mf⟩ := blk6 HS.out.l1
       have ml := blk_lt HS.out.l1
       rcases Nat.lt_or_ge j q.f0.length with hjl | hjg
       ·have j0 : ((j : Int) < (q.f0.length : Int)) = True := eq_true (by omega)
        have j1 : decide ((j : Int) < (q.f0.length : Int)) = true := decide_eq_true (by omega)
        have j2 : (0 ≤ (j : Int)) = True := eq_true (by omega)
        obtain ⟨lf, hlk, hld⟩ := drop_at hjl
        have hL : leftC n (q.f0.drop (j + 1)) false (if (j == 0) then (ofN n lf.f0).1 else on) (bad (!(j == 0) && !sameG (ofN n lf.f0).1 on) lf.f1 8 f5) = (on9, g9) := by have h9 := HL.out; rw [hld] at h9; exact h9
        obtain ⟨al, hA0, l0, l1⟩ := left_at HE.out.left j lf hlk
        subst hA0
        have hb := Ck.old HS.out H.out.bel hx.hc
        replace l0 := pw_cell_below hb l0
        replace l1 := pw_cell_below hb l1
        have ll := World.block_lt_of_cell? _ _ l0
        have ln : ¬ ((al.add (j * 2)).block = wr.heap.size) := Nat.ne_of_lt ll
        have hw8 : wrap64 ((j : Int) + 1) = ((j + 1 : Nat) : Int) := by have h9 := HE.out.left.2.1; unfold maxLen at h9; unfold wrap64; omega
        obtain ⟨lm, la⟩ := lf
        obtain ⟨p, hp⟩ : ∃ p, (ofN n lm).1 = p := ⟨_, rfl⟩
        rw [hp] at hL
        have HP := Lib.hid hp
        have HT := Lib.hid (HS.out.new (q := lfO ⟨lm, la⟩))
        have HL3 := Lib.hid hL
        clear hb hlk hld HL hL hp
        go_wp2_with (fail)
        have h9 := cof_walk hy lm f5 _ (at_put HT.out H.out.bel hx)
        have hP : (ofN (x.put n B2 b2 B3 b3 B4 b4 (some ad2) b5).n lm).1 = p := HP.out
        rw [hP] at h9
        refine h9.mono ?_
        rintro e' w7 ⟨A1, c1, rfl, hV1, hb⟩
        have HU := Lib.hid (HT.out.below hb)
        have HV1 : Hid (ClV (x.c + 1) w7 A1 c1 p) := Lib.hid hV1
        have HV2 := Lib.hid ((HV.out.below (below_alloc (Below.refl _ _) _)).below hb)
        clear hb hV1 h9 hP
        generalize hgl : wr.heap.size = gl at HU ⊢
        have HA := hgl
        clear HA
        obtain ⟨u0, u1, uf⟩ : w7.cell? ⟨gl, 0, none⟩ = some (.string lm) ∧ w7.cell? ⟨gl, 1, none⟩ = some (.int .i64 la) ∧ ∀ j, w7.frozen? ⟨gl, j, none⟩ = false := ⟨blk_cell HU.out.l0 0, blk_cell HU.out.l0 1, fun j => blk_frozen HU.out.l0 j⟩
        have ul := blk_lt HU.out.l0
        have hS0 : (w7.drew.cell? ⟨gl, 1, none⟩ = some (.int .i64 la)) := blk_cell HU.out.drew.l0 1
        have HVd := Lib.hid (HV2.out.below (below_drew (Below.refl _ _)))
        have HVe := Lib.hid (HV1.out.below (below_drew (Below.refl _ _)))
        by_cases hj0 : j = 0
        ·have HL4 := Lib.hid (show leftC n (q.f0.drop (j + 1)) (j + 1 == 0) p (bad false la 8 f5) = (on9, g9) from by
          have h9 := HL3.out
          rw [beq_iff_eq.2 hj0] at h9
          exact h9)
         have g9 := nat_np hj0
         clear hj0 j0 j1 j2
         generalize hJ : (j : Int) = J at hw8 g9 ⊢
         clear hJ
         have g0 := (int_np g9).1
         have HG9 := Lib.hid g9
         clear g9
         go_wp2_with (fail)
         first
         | (have hL0 : (w7.drew.cell? ⟨gl, 1, none⟩ = some (.int .i64 la)) := hS0; go_region_law (first | (go_simp; go_at_call 89; (refine (bad_walk hy (false) la 8 f5 _ (at_put (HU.out.drew) H.out.bel hx)).mono ?_); go_must (rintro e' v1 ⟨rfl, hD⟩; have HX := Lib.hid (Ck.call (HU.out.drew) hD.only hD.blk); have HV9 := Lib.hid (HVe.out.only (Nat.lt_succ_self _) hD.only); have HVa := Lib.hid (HVd.out.only (Nat.lt_succ_self _) hD.only); have hS9 : (v1.cell? ⟨gl, 1, none⟩ = some (.int .i64 la)) := blk_cell HX.out.l0 1; clear hD))))
         | skip
         all_goals
          have g2 := (int_np HG9.out).2.2.1
          go_wp2_with (fail)
          have HS2 := Lib.hid HX.out.drop1
          go_roundg (q.f0.length + 1 - (j + 1))
          case measure => exact ms9 hjl
          case rel => exact ⟨j + 1, A1, p, c1, _, (by first | rw [hw8] | rfl), rfl, hjl, rfl, HS2, HV9, HL4⟩
        ·have HL4 := Lib.hid (show leftC n (q.f0.drop (j + 1)) (j + 1 == 0) on (bad (!sameG p on) la 8 f5) = (on9, g9) from by
          have h9 := HL3.out
          have e0 : (j == 0) = false := beq_eq_false_iff_ne.2 hj0
          rw [e0] at h9
          exact h9)
         have g9 := nat_pos hj0
         clear hj0 j0 j1 j2
         generalize hJ : (j : Int) = J at hw8 g9 ⊢
         clear hJ
         obtain ⟨g0, g1, g2, g3⟩ := int_pos g9
         go_wp2_with (fail)
         go_region_held2 (fun w' => (w'.cell? ⟨gl, 1, none⟩ = some (.int .i64 la))) (first | with_reducible exact hS0 | with_reducible exact hS9 | with_reducible exact hS1) (first | (go_at_call 27; (refine (same_walk A1 c1 p oA oc on _ HVe.out HVd.out).mono ?_); go_must (rintro e' v1 ⟨rfl, hb⟩; have HU1 := Lib.hid (HU.out.drew.below hb); have HVf := Lib.hid (HVd.out.below hb); have HVg := Lib.hid (HVe.out.below hb); have hS1 : (v1.cell? ⟨gl, 1, none⟩ = some (.int .i64 la)) := blk_cell HU1.out.l0 1; clear hb)) | (go_at_call 89; (refine (bad_walk hy (!sameG p on) la 8 f5 _ (at_put (HU1.out) H.out.bel hx)).mono ?_); go_must (rintro e' v2 ⟨rfl, hD⟩; have HX := Lib.hid (Ck.call (HU1.out) hD.only hD.blk); have HV9 := Lib.hid (HVg.out.only (Nat.lt_succ_self _) hD.only); have HVa := Lib.hid (HVf.out.only (Nat.lt_succ_self _) hD.only); have hS9 : (v2.cell? ⟨gl, 1, none⟩ = some (.int .i64 la)) := blk_cell HX.out.l0 1; clear hD)))
         go_wp2_with (fail)
         have HS2 := Lib.hid HX.out.drop1
         go_roundg (q.f0.length + 1 - (j + 1))
         case measure => exact ms9 hjl
         case rel => exact ⟨j + 1, oA, on, oc, _, (by first | rw [hw8] | rfl), rfl, hjl, rfl, HS2, HVa, HL4⟩
       ·have j0 : ((j : Int) < (q.f0.length : Int)) = False := eq_false (by omega)
        have j1 : decide ((j : Int) < (q.f0.length : Int)) = false := decide_eq_false (by omega)
        have hL := HL.out
        rw [List.drop_eq_nil_of_le hjg] at hL
        have hL : (on, f5) = (on9, g9) := hL
        obtain ⟨rfl, rfl⟩ := Prod.mk.inj hL
        clear HL hL
        go_wp2_with (fail)
        refine (expr_is hy k q.f2 A7 c7 on oA oc f5 f4 _ HE.out.ex HV.out (at_put HS.out H.out.bel hx) HG.out.1).mono ?_
        rintro e' w9 ⟨rfl, hD⟩
        have HS2 := Lib.hid (Ck.call HS.out hD.only hD.blk).drop1
        have HL2 := Lib.hid HG.out.2
        clear hD HG
        go_wp2_with (fail)
        go_roundg (n.f5.length + 1 - (i + 1))
        case measure => exact ms9 hlt
        case rel => exact ⟨i + 1, _, (by first | rw [hw9] | rfl), hlt, rfl, HS2, HL2⟩
     ·have hd : n.f5.drop i = [] := List.drop_eq_nil_of_le hge
      have hL := HL.out
      rw [hd] at hL
      obtain rfl : f' = r := Option.some.inj hL
      have i0 : ((i : Int) < (n.f5.length : Int)) = False := eq_false (by omega)
      have i1 : decide ((i : Int) < (n.f5.length : Int)) = false := decide_eq_false (by omega)
      clear hd hi hge HL hL
      go_wp2_with (fail)
      go_end0
      exact ⟨rfl, HS.out.only, HS.out.blk⟩
   ·have h1 : (fe == 0) = false := by simpa using hz
    have hr : some (fa, fe) = some r := by
     have h9 := HR.out
     rw [if_neg (by simpa using hz)] at h9
     exact h9
    obtain rfl := Option.some.inj hr
    clear hr HR
    go_wp2_with (fail)
    refine bodyPost_ret (results_none rfl _ _ _) rfl ?_
    exact ⟨rfl, HS.out.only, HS.out.blk⟩
end Go.Proofs.YtjafllnbgfcchaaDoor.Cl
end
section
/- The checker of clocks: Check, walked. -/
namespace Go.Proofs.YtjafllnbgfcchaaDoor.Cl
set_option linter.unusedVariables false
set_option linter.unusedSimpArgs false
open Go Go.RowKit Go.Proofs.YtjafllnbgfcchaaDoorW.PrintWords Go.Proofs.YtjafllnbgfcchaaDoorW.PrintLast Go.Proofs.YtjafllnbgfcchaaDoorW.PrintMore Go.Proofs.YtjafllnbgfcchaaDoor.Lx Go.Proofs.YtjafllnbgfcchaaDoor.XK Go.Proofs.YtjafllnbgfcchaaDoor.XCK Go.Proofs.YtjafllnbgfcchaaDoor.Px Go.Proofs.YtjafllnbgfcchaaDoor.Ck Go.Proofs.YtjafllnbgfcchaaDoor.Ow
attribute [local go_sem ↓] Go.wp_at_zero Go.wp_at_succ
set_option maxHeartbeats 4000000 in
set_option maxRecDepth 100000 in
theorem check_walk (k : Nat) (l : List N) (A : Option Addr) (cap : Nat) (r : F) (w : World) (hl : Kd.C k34 w A l.length l) (hlc : l.length ≤ cap) (hr : check k l = some r) :
  Calls Tryd.prog 30 #[.slice A l.length cap] w fun e w' => e = .returned (.agg #[.int .i64 r.1, .int .i64 r.2]) ∧ Below w.heap.size w w' := by
 have hr : nodesC k l l (0, 0) = some r := hr
 obtain ⟨W1, hW1⟩ : ∃ W, W = ((w.alloc (.cells #[.int .i64 0, .int .i64 0] 27 (0, 0))).alloc ((ctx0 w A cap l z34 none 0 none 0 none 0 none 0).obj (0, 0))) := ⟨_, rfl⟩
 have HW := Lib.hid hW1
 have HM := Lib.hid hl
 have HR := Lib.hid hr
 have HX : Hid ((ctx0 w A cap l z34 none 0 none 0 none 0 none 0).Ok) := Lib.hid ⟨Nat.le_succ _, hl, hlc, Kd.C_nil _ _, Nat.le_refl _, Kd.C_nil _ _, Nat.le_refl _, Kd.C_nil _ _, Nat.le_refl _, Kd.C_nil _ _, Nat.le_refl _, Nat.zero_le _⟩
 clear hl hlc hr
 go_enter Tryd.func30, Tryd.ntmps30
 go_wp2_with (fail)
 have HB : Hid (Below w.heap.size w W1) := Lib.hid (by rw [HW.out]; exact below_alloc (below_alloc (Below.refl _ _) _) _)
 have HS : Hid (Ck (w.heap.size + 1) W1 W1 ((ctx0 w A cap l z34 none 0 none 0 none 0 none 0).obj (0, 0)) []) := Lib.hid (Ck.start (by
  have h9 := blk_new (w.alloc (.cells #[.int .i64 0, .int .i64 0] 27 (0, 0))) ((ctx0 w A cap l z34 none 0 none 0 none 0 none 0).obj (0, 0))
  rw [World.size_alloc] at h9
  rw [HW.out]
  exact h9))
 have HRB : Hid (W1.heap[w.heap.size]? = some (.cells #[.int .i64 0, .int .i64 0] 27 (0, 0))) := Lib.hid (by
  rw [HW.out]
  exact blk_below (blk_new w _) (below_alloc (Below.refl _ _) _))
 have hW := HW.out
 change Code.wp _ _ _ _ ((w.alloc _).alloc ((ctx0 w A cap l z34 none 0 none 0 none 0 none 0).obj (0, 0)))
 rw [← hW]
 clear hW HW
 go_loopg [11] (l.length + 1) (fun m9 u wr => ∃ (i : Nat) (f' : F) (n : N) (B2 : Option Addr) (b2 : Nat) (B3 : Option Addr) (b3 : Nat) (B4 : Option Addr) (b4 : Nat) (B5 : Option Addr) (b5 : Nat), u = .int .i64 (i : Int) ∧ i ≤ l.length ∧ m9 = l.length + 1 - i ∧ Hid ((ctx0 w A cap l n B2 b2 B3 b3 B4 b4 B5 b5).Ok) ∧ Hid (Ck (w.heap.size + 1) W1 wr ((ctx0 w A cap l n B2 b2 B3 b3 B4 b4 B5 b5).obj f') []) ∧ Hid (nodesC k l (l.drop i) f' = some r))
 case atStart => exact ⟨0, (0, 0), z34, none, 0, none, 0, none, 0, none, 0, rfl, Nat.zero_le _, by simp, HX, HS, HR⟩
 case round =>
  obtain ⟨i, f', n, B2, b2, B3, b3, B4, b4, B5, b5, rfl, hi, rfl, HX', HS', HR'⟩ := hrel
  clear HX HS HR
  have HX := HX'
  have HS := HS'
  have HR := HR'
  clear HX' HS' HR'
  rcases Nat.lt_or_ge i l.length with hlt | hge
  ·obtain ⟨q, hdk, hdd⟩ := drop_at hlt
   obtain ⟨ad2, C2, c2, C3, c3, C4, c4, C5, c5, hA2, y0, y1, y2, y3, y4, y5, hq⟩ := node_at HM.out i q hdk
   have hb := Ck.old HS.out HB.out (Nat.le_succ _)
   replace y0 := pw_cell_below hb y0
   replace y1 := pw_cell_below hb y1
   replace y2 := pw_cell_below hb y2
   replace y3 := pw_cell_below hb y3
   replace y4 := pw_cell_below hb y4
   replace y5 := pw_cell_below hb y5
   have xl := World.block_lt_of_cell? _ _ y0
   have xn : ¬ ((ad2.add (i * 6)).block = wr.heap.size) := Nat.ne_of_lt xl
   have i0 : ((i : Int) < (l.length : Int)) = True := eq_true (by omega)
   have i1 : decide ((i : Int) < (l.length : Int)) = true := decide_eq_true (by omega)
   have i2 : (0 ≤ (i : Int)) = True := eq_true (by omega)
   have hw9 : wrap64 ((i : Int) + 1) = ((i + 1 : Nat) : Int) := by have h9 := HM.out.2.1; unfold maxLen at h9; unfold wrap64; omega
   have hL := HR.out
   rw [hdd] at hL
   obtain ⟨f1, hf1, hL⟩ := Option.bind_eq_some_iff.1 hL
   have HL := Lib.hid hL
   have HE := Lib.hid (And.intro hf1 hq)
   clear hb hdk hdd hL hf1 hq HR
   subst hA2
   have HT := Lib.hid (HS.out.new (q := ndO q C2 c2 C3 c3 C4 c4 C5 c5))
   go_wp2_with (fail)
   refine (node_walk HX.out k q C2 c2 C3 c3 C4 c4 C5 c5 f' f1 _ HE.out.2 ⟨HT.out.blk, Ck.old HT.out HB.out (Nat.le_succ _)⟩ HE.out.1).mono ?_
   rintro e' w7 ⟨rfl, hO, hk9⟩
   have hfew : ¬ 1000000 < q.f2.length + q.f3.length + q.f4.length := fun h9 => by
    have h8 := HE.out.1
    unfold node at h8
    rw [if_pos h9] at h8
    cases h8
   have HX2 := Lib.hid (HX.out.put HE.out.2 hfew)
   have HS2 := Lib.hid (Ck.call HT.out hO hk9).drop1
   clear hO hk9 hfew
   go_wp2_with (fail)
   go_roundg (l.length + 1 - (i + 1))
   case measure => exact ms9 hlt
   case rel => exact ⟨i + 1, f1, q, C2, c2, C3, c3, C4, c4, C5, c5, (by first | rw [hw9] | rfl), hlt, rfl, HX2, HS2, HL⟩
  ·have hd : l.drop i = [] := List.drop_eq_nil_of_le hge
   have hL := HR.out
   rw [hd] at hL
   obtain rfl : f' = r := Option.some.inj hL
   have i0 : ((i : Int) < (l.length : Int)) = False := eq_false (by omega)
   have i1 : decide ((i : Int) < (l.length : Int)) = false := decide_eq_false (by omega)
   obtain ⟨r0, r1, r2, r3, r4, r5, r6, r7, r8, rf⟩ := blk9 HS.out.blk
   have HRB2 : Hid (wr.heap[w.heap.size]? = some (.cells #[.int .i64 0, .int .i64 0] 27 (0, 0))) := Lib.hid (HS.out.only.blk HRB.out (Nat.ne_of_lt (Nat.lt_succ_self _)))
   have u0 := blk_cell HRB2.out 0
   have u1 := blk_cell HRB2.out 1
   have uf := fun j => blk_frozen HRB2.out j
   have ul := blk_lt HRB2.out
   clear hd hi hge HR hL
   have hbw := Ck.old HS.out HB.out (Nat.le_succ _)
   go_wp2_with (fail)
   refine bodyPost_ret (results_cell_row rfl _ _ w.heap.size 27 #[.int .i64 f'.1, .int .i64 f'.2] (0, 0) _ rfl (blk_set (blk_set HRB2.out 0 (.int .i64 f'.1)) 1 (.int .i64 f'.2)) Tryd.underlying27 rfl (by kernel_rfl)) rfl ?_
   exact ⟨rfl, (hbw.setCell (Nat.le_refl _) _).setCell (Nat.le_refl _) _⟩
end Go.Proofs.YtjafllnbgfcchaaDoor.Cl
end
