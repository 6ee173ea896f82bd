/- Joined of: CtN, CtC. -/
import Derived.Test.YtjafllnbgfcchaaDoorZCGCtU
import Derived.Laws.Rows
section
/- The checker of types: node, walked. -/
namespace Go.Proofs.YtjafllnbgfcchaaDoor.Ct
set_option linter.unusedVariables false
set_option linter.unusedSimpArgs false
open Go Go.RowKit Go.Proofs.YtjafllnbgfcchaaDoorW.PrintWords Go.Proofs.YtjafllnbgfcchaaDoorW.PrintLast Go.Proofs.YtjafllnbgfcchaaDoorW.PrintMore Go.Proofs.YtjafllnbgfcchaaDoor.Lx Go.Proofs.YtjafllnbgfcchaaDoor.XK Go.Proofs.YtjafllnbgfcchaaDoor.Px Go.Proofs.YtjafllnbgfcchaaDoor.Ck
attribute [local go_sem ↓] Go.wp_at_zero Go.wp_at_succ
theorem gives_walk {x : Ctx} (hx : x.Ok) {of : Of} (hof : OfIs x of) : GivesIs x of := by
  intro q A0 c0 A7 c7 f r w hq h hr
  by_cases hn : q.f2.f0 = 13
  · exact gives_call hx hof q A0 c0 A7 c7 f r w hq h hr hn
  · exact gives_one hx hof q A0 c0 A7 c7 f r w hq h hr hn
abbrev Ctx.put (x : Ctx) (n : N) (B2 : Option Addr) (b2 : Nat) (B3 : Option Addr) (b3 : Nat) (B4 : Option Addr) (b4 : Nat) (B5 : Option Addr) (b5 : Nat) : Ctx := ⟨x.w0, x.c, x.A, x.cap, x.l, n, B2, b2, B3, b3, B4, b4, B5, b5⟩
theorem Ctx.Ok.put {x : Ctx} (hx : x.Ok) {n : N} {B2 : Option Addr} {b2 : Nat} {B3 : Option Addr} {b3 : Nat} {B4 : Option Addr} {b4 : Nat} {B5 : Option Addr} {b5 : Nat} (h : NdAt x.w0 n B2 b2 B3 b3 B4 b4 B5 b5) (hf : ¬ 1000000 < n.f2.length + n.f3.length + n.f4.length) : (x.put n B2 b2 B3 b3 B4 b4 B5 b5).Ok :=
  ⟨hx.hc, hx.hl, hx.hlc, h.h2, h.m2, h.h3, h.m3, h.h4, h.m4, h.h5, h.m5, by show n.f2.length + n.f3.length + n.f4.length ≤ 1000000; omega⟩
theorem at_put {x : Ctx} {n : N} {B2 : Option Addr} {b2 : Nat} {B3 : Option Addr} {b3 : Nat} {B4 : Option Addr} {b4 : Nat} {B5 : Option Addr} {b5 : Nat} {w W : World} {f : F} {l : List (Nat × Obj)} (k : Ck x.c w W ((x.put n B2 b2 B3 b3 B4 b4 B5 b5).obj f) l) (hb : Below x.w0.heap.size x.w0 w) (hx : x.Ok) : At (x.put n B2 b2 B3 b3 B4 b4 B5 b5) W f :=
  ⟨k.blk, Ck.old k hb hx.hc⟩
theorem left_at {w0 : World} {A : Option Addr} {l : List S47} (h : Kd.C k47 w0 A l.length l) (i : Nat) (d : S47) (hk : l[i]? = some d) : ∃ ad, A = some ad ∧ w0.cell? (ad.add (i * 2)) = some (.string d.f0) ∧
    w0.cell? ⟨(ad.add (i * 2)).block, (ad.add (i * 2)).off + 1, none⟩ = some (.int .i64 d.f1) := by
  have hlt := (List.getElem?_eq_some_iff.1 hk).1
  obtain ⟨ad, e1, hx0, hx1⟩ := at_T47 h (i : Int) (by omega) (by omega)
  have hr : rd_T47 l (i : Int) = d := by
    unfold rd_T47
    simp [hk]
  rw [hr] at hx0 hx1
  simp only [Int.toNat_natCast] at hx0 hx1
  exact ⟨ad, e1, hx0, hx1⟩
theorem tyCells_get : ∀ (l : List (Bool × Bool)) (j : Nat) (t : Bool × Bool), l[j]? = some t → (tyCells l)[2 * j]? = some (.bool t.1) ∧ (tyCells l)[2 * j + 1]? = some (.bool t.2)
  | [], j, t, h => by simp at h
  | a :: l, 0, t, h => by
    obtain rfl : a = t := by simpa using h
    exact ⟨rfl, rfl⟩
  | a :: l, j + 1, t, h => by
    have h2 := tyCells_get l j t (by simpa using h)
    have e : tyCells (a :: l) = .bool a.1 :: .bool a.2 :: tyCells l := rfl
    rw [e, show 2 * (j + 1) = 2 * j + 1 + 1 from by omega, show 2 * j + 1 + 1 + 1 = (2 * j + 1) + 1 + 1 from rfl]
    simpa using h2
theorem ty_at {W : World} {base n : Nat} {A : Option Addr} {c : Nat} {l : List (Bool × Bool)} (h : W.ownsRow base 37 2 (.slice A n c) n (tyCells l)) (j : Nat) (t : Bool × Bool) (hk : l[j]? = some t) (hn : n = l.length) :
    ∃ ad, A = some ad ∧ base ≤ ad.block ∧ W.cell? (ad.add (j * 2)) = some (.bool t.1) ∧ W.cell? ⟨(ad.add (j * 2)).block, (ad.add (j * 2)).off + 1, none⟩ = some (.bool t.2) := by
  have hlt := (List.getElem?_eq_some_iff.1 hk).1
  obtain ⟨hl, h | ⟨g, cap, cur, hv, hb, hg, h1, h2, h3, h4⟩⟩ := h
  · omega
  · injection hv with e1 e2 e3
    subst e1
    have cell : ∀ q u, q < n * 2 → (tyCells l)[q]? = some u → W.cell? ⟨g, q, none⟩ = some u := by
      intro q u hq hu
      rw [← h4, List.getElem?_take, if_pos hq, Array.getElem?_toList] at hu
      exact (blk_cell hg q).trans hu
    have hx := tyCells_get l j t hk
    refine ⟨_, rfl, hb, ?_, ?_⟩
    · have h9 := cell (2 * j) _ (by omega) hx.1
      rw [show (Addr.add ⟨g, 0, none⟩ (j * 2)) = ⟨g, 2 * j, none⟩ from by rw [Nat.mul_comm]; simp [Go.Addr.add]; exact fun h => h.symm]
      exact h9
    · have h9 := cell (2 * j + 1) _ (by omega) hx.2
      rw [show (Addr.add ⟨g, 0, none⟩ (j * 2)) = ⟨g, 2 * j, none⟩ from by rw [Nat.mul_comm]; simp [Go.Addr.add]; exact fun h => h.symm]
      exact h9
theorem eq_at {w0 : World} {A : Option Addr} {l : List Q} (h : Kd.C k45 w0 A l.length l) (i : Nat) (q : Q) (hk : l[i]? = some q) : ∃ ad A0 c0 A7 c7, A = some ad ∧ w0.cell? (ad.add (i * 8)) = some (.slice A0 q.f0.length c0) ∧
    w0.cell? ⟨(ad.add (i * 8)).block, (ad.add (i * 8)).off + 1, none⟩ = some (.bool q.f1) ∧ w0.cell? ⟨(ad.add (i * 8)).block, (ad.add (i * 8)).off + 2, none⟩ = some (.int .i64 q.f2.f0) ∧
    w0.cell? ⟨(ad.add (i * 8)).block, (ad.add (i * 8)).off + 3, none⟩ = some (.int .i64 q.f2.f1) ∧ w0.cell? ⟨(ad.add (i * 8)).block, (ad.add (i * 8)).off + 4, none⟩ = some (.int .i64 q.f2.f2) ∧
    w0.cell? ⟨(ad.add (i * 8)).block, (ad.add (i * 8)).off + 5, none⟩ = some (.string q.f2.f3) ∧ w0.cell? ⟨(ad.add (i * 8)).block, (ad.add (i * 8)).off + 6, none⟩ = some (.bool q.f2.f4) ∧
    w0.cell? ⟨(ad.add (i * 8)).block, (ad.add (i * 8)).off + 7, none⟩ = some (.slice A7 q.f2.f5.length c7) ∧ QAt w0 q A0 c0 A7 c7 := by
  have hlt := (List.getElem?_eq_some_iff.1 hk).1
  obtain ⟨ad, A0, c0, A7, c7, e1, hx0, hx1, hx2, hx3, hx4, hx5, hx6, hx7, l0, g0, l7, g7⟩ := at_T45 h (i : Int) (by omega) (by omega)
  have hr : rd_T45 l (i : Int) = q := by
    unfold rd_T45
    simp [hk]
  rw [hr] at hx0 hx1 hx2 hx3 hx4 hx5 hx6 hx7 l0 g0 l7 g7
  simp only [Int.toNat_natCast] at hx0 hx1 hx2 hx3 hx4 hx5 hx6 hx7
  exact ⟨ad, A0, c0, A7, c7, e1, hx0, hx1, hx2, hx3, hx4, hx5, hx6, hx7, ⟨g0, l0, ⟨g7, l7⟩⟩⟩
def insF (b : Bool) (l : List D) (f : F) : F := if b then insB l f else f
theorem insF_nil (b : Bool) (f : F) : insF b [] f = f := by cases b <;> rfl
theorem insF_cons (b : Bool) (d : D) (l : List D) (f : F) : insF b (d :: l) f = insF b l (if b && d.f2.f1 then bad d.f1 7 f else f) := by cases b <;> cases h : d.f2.f1 <;> simp [insF, insB, h]
set_option maxHeartbeats 4000000 in
set_option maxRecDepth 100000 in
theorem node_walk {x : Ctx} (hx : x.Ok) (k : Nat) (n : N) (B2 : Option Addr) (b2 : Nat) (B3 : Option Addr) (b3 : Nat) (B4 : Option Addr) (b4 : Nat) (B5 : Option Addr) (b5 : Nat) (first : Bool) (f r : F) (w : World) (hN : NdAt x.w0 n B2 b2 B3 b3 B4 b4 B5 b5) (h : At x w f) (hr : node k x.l n first f = some r) :
    Calls Tryd.prog 55 #[.pointer (some ⟨x.c, 0, none⟩), .agg #[.string n.f0, .int .i64 n.f1, .slice B2 n.f2.length b2, .slice B3 n.f3.length b3, .slice B4 n.f4.length b4, .slice B5 n.f5.length b5], .bool first] w fun e' w' => e' = .returned (.tuple #[]) ∧ Only x.c w w' ∧ w'.heap[x.c]? = some ((x.put n B2 b2 B3 b3 B4 b4 B5 b5).obj r) := by
  unfold node at hr
  split at hr
  case isTrue => cases hr
  rename_i hfew
  have hy := hx.put hN hfew
  obtain ⟨f1, h1⟩ : ∃ f1, insF first n.f2 f = f1 := ⟨_, rfl⟩
  obtain ⟨f2, h2⟩ : ∃ f2, insB n.f3 f1 = f2 := ⟨_, rfl⟩
  obtain ⟨f3, h3⟩ : ∃ f3, varsB n n.f4 f2 = f3 := ⟨_, rfl⟩
  have hr : eqsB (Ct.of k x.l n) x.l n n.f5 f3 = some r := by
    rw [← h3, ← h2, ← h1]
    exact hr
  have H := Lib.hid h
  have HM := Lib.hid hN
  have HR := Lib.hid hr
  have H1 := Lib.hid h1
  have H2 := Lib.hid h2
  have H3 := Lib.hid h3
  obtain ⟨r0, r1, r2, r3, r4, r5, r6, r7, r8, rf⟩ := blk9 h.blk
  have rl := blk_lt h.blk
  have rn : ¬ (x.c = w.heap.size) := Nat.ne_of_lt rl
  clear h hN hr h1 h2 h3 hfew
  go_enter Tryd.func55, Tryd.ntmps55
  go_wp2_with (fail)
  have HS : Hid (Ck x.c w _ ((x.put n B2 b2 B3 b3 B4 b4 B5 b5).obj f) [(w.heap.size, ndO n B2 b2 B3 b3 B4 b4 B5 b5)]) := Lib.hid (Ck.newg (g := w.heap.size) (q := ndO n B2 b2 B3 b3 B4 b4 B5 b5) (by simp [World.setCell]) ((((((H.out.ck.put 1 (.string n.f0)).put 2 (.int .i64 n.f1)).put 3 (.slice B2 n.f2.length b2)).put 4 (.slice B3 n.f3.length b3)).put 5 (.slice B4 n.f4.length b4)).put 6 (.slice B5 n.f5.length b5)))
  generalize hW : World.alloc _ _ = W
  rw [hW] at HS
  clear hW r0 r1 r2 r3 r4 r5 r6 r7 r8 rf rn
  obtain ⟨m0, m1, m2, m3, m4, m5, mf⟩ := blk6 HS.out.l0
  have ml := blk_lt HS.out.l0
  have HQ := H1
  go_wp2_with (fail)
  go_loopg [27] (n.f2.length + 1) (fun m9 u wr => ∃ (i : Nat) (f' : F), u = .int .i64 (i : Int) ∧ i ≤ n.f2.length ∧ m9 = n.f2.length + 1 - i ∧ Hid (Ck x.c w wr ((x.put n B2 b2 B3 b3 B4 b4 B5 b5).obj f') [(w.heap.size, ndO n B2 b2 B3 b3 B4 b4 B5 b5)]) ∧ Hid (insF first (n.f2.drop i) f' = f1))
  case atStart => exact ⟨0, _, rfl, by omega, by simp, HS, HQ⟩
  case round =>
    obtain ⟨i, f', rfl, hi, rfl, HS', HL⟩ := hrel
    clear HS
    have HS := HS'
    clear HS'
    obtain ⟨m0, m1, m2, m3, m4, m5, mf⟩ := blk6 HS.out.l0
    have ml := blk_lt HS.out.l0
    rcases Nat.lt_or_ge i n.f2.length with hlt | hge
    · obtain ⟨d, hdk, hdd⟩ := drop_at hlt
      obtain ⟨ad2, hA2, y0, y1, y2, y3, y4, y5⟩ := dec_at HM.out.h2 i d hdk
      have hb := Ck.old HS.out H.out.bel hx.hc
      replace y0 := pw_cell_below hb y0
      replace y1 := pw_cell_below hb y1
      replace y2 := pw_cell_below hb y2
      replace y3 := pw_cell_below hb y3
      replace y4 := pw_cell_below hb y4
      replace y5 := pw_cell_below hb y5
      have xl := World.block_lt_of_cell? _ _ y0
      have xn : ¬ ((ad2.add (i * 6)).block = wr.heap.size) := Nat.ne_of_lt xl
      have i0 : ((i : Int) < (n.f2.length : Int)) = True := eq_true (by omega)
      have i1 : decide ((i : Int) < (n.f2.length : Int)) = true := decide_eq_true (by omega)
      have i2 : (0 ≤ (i : Int)) = True := eq_true (by omega)
      have hw9 : wrap64 ((i : Int) + 1) = ((i + 1 : Nat) : Int) := by have h9 := HM.out.h2.2.1; unfold maxLen at h9; unfold wrap64; omega
      have hL := HL.out
      rw [hdd] at hL
      clear hb hdk hdd HL
      obtain ⟨d0, d1, ⟨d2, d3⟩, d4, d5⟩ := d
      rw [insF_cons] at hL
      subst hA2
      cases first with
      | false =>
        have HL2 := Lib.hid (show insF false _ f' = f1 from hL)
        clear hL
        have HT := Lib.hid (HS.out.new (q := dcO ⟨d0, d1, ⟨d2, d3⟩, d4, d5⟩))
        have HS2 := Lib.hid HT.out.drop1
        go_wp2_with (fail)
        go_roundg (n.f2.length + 1 - (i + 1))
        case measure => exact ms9 hlt
        case rel => exact ⟨i + 1, _, (by first | rw [hw9] | rfl), hlt, rfl, HS2, HL2⟩
      | true =>
        cases d3 with
        | false =>
          have HL2 := Lib.hid (show insF true _ f' = f1 from hL)
          clear hL
          have HT := Lib.hid (HS.out.new (q := dcO ⟨d0, d1, ⟨d2, false⟩, d4, d5⟩))
          have HS2 := Lib.hid HT.out.drop1
          go_wp2_with (fail)
          go_roundg (n.f2.length + 1 - (i + 1))
          case measure => exact ms9 hlt
          case rel => exact ⟨i + 1, _, (by first | rw [hw9] | rfl), hlt, rfl, HS2, HL2⟩
        | true =>
          have HL2 := Lib.hid (show insF true _ (bad d1 7 f') = f1 from hL)
          clear hL
          go_wp2_with (fail)
          have HT := Lib.hid (HS.out.new (q := dcO ⟨d0, d1, ⟨d2, true⟩, d4, d5⟩))
          refine (bad_walk hy d1 7 f' _ (at_put HT.out H.out.bel hx)).mono ?_
          rintro e' w9 ⟨rfl, hD⟩
          have HT' := Lib.hid (Ck.call HT.out hD.only hD.blk)
          clear hD
          have HS2 := Lib.hid HT'.out.drop1
          go_wp2_with (fail)
          go_roundg (n.f2.length + 1 - (i + 1))
          case measure => exact ms9 hlt
          case rel => exact ⟨i + 1, _, (by first | rw [hw9] | rfl), hlt, rfl, HS2, HL2⟩
    · have hd : n.f2.drop i = [] := List.drop_eq_nil_of_le hge
      have hL := HL.out
      rw [hd] at hL
      have i0 : ((i : Int) < (n.f2.length : Int)) = False := eq_false (by omega)
      have i1 : decide ((i : Int) < (n.f2.length : Int)) = false := decide_eq_false (by omega)
      clear hd hi hge HL
      obtain rfl : f' = f1 := by rw [insF_nil] at hL; exact hL
      clear hL
      have HQ := H2
      go_wp2_with (fail)
      go_loopg [45] (n.f3.length + 1) (fun m9 u wr => ∃ (i : Nat) (f' : F), u = .int .i64 (i : Int) ∧ i ≤ n.f3.length ∧ m9 = n.f3.length + 1 - i ∧ Hid (Ck x.c w wr ((x.put n B2 b2 B3 b3 B4 b4 B5 b5).obj f') [(w.heap.size, ndO n B2 b2 B3 b3 B4 b4 B5 b5)]) ∧ Hid (insB (n.f3.drop i) f' = f2))
      case atStart => exact ⟨0, _, rfl, by omega, by simp, HS, HQ⟩
      case round =>
        obtain ⟨i, f', rfl, hi, rfl, HS', HL⟩ := hrel
        clear HS
        have HS := HS'
        clear HS'
        obtain ⟨m0, m1, m2, m3, m4, m5, mf⟩ := blk6 HS.out.l0
        have ml := blk_lt HS.out.l0
        rcases Nat.lt_or_ge i n.f3.length with hlt | hge
        · obtain ⟨d, hdk, hdd⟩ := drop_at hlt
          obtain ⟨ad2, hA2, y0, y1, y2, y3, y4, y5⟩ := dec_at HM.out.h3 i d hdk
          have hb := Ck.old HS.out H.out.bel hx.hc
          replace y0 := pw_cell_below hb y0
          replace y1 := pw_cell_below hb y1
          replace y2 := pw_cell_below hb y2
          replace y3 := pw_cell_below hb y3
          replace y4 := pw_cell_below hb y4
          replace y5 := pw_cell_below hb y5
          have xl := World.block_lt_of_cell? _ _ y0
          have xn : ¬ ((ad2.add (i * 6)).block = wr.heap.size) := Nat.ne_of_lt xl
          have i0 : ((i : Int) < (n.f3.length : Int)) = True := eq_true (by omega)
          have i1 : decide ((i : Int) < (n.f3.length : Int)) = true := decide_eq_true (by omega)
          have i2 : (0 ≤ (i : Int)) = True := eq_true (by omega)
          have hw9 : wrap64 ((i : Int) + 1) = ((i + 1 : Nat) : Int) := by have h9 := HM.out.h3.2.1; unfold maxLen at h9; unfold wrap64; omega
          have hL := HL.out
          rw [hdd] at hL
          clear hb hdk hdd HL
          obtain ⟨d0, d1, ⟨d2, d3⟩, d4, d5⟩ := d
          subst hA2
          cases d3 with
          | false =>
            have HL2 := Lib.hid (show insB _ f' = f2 from hL)
            clear hL
            have HT := Lib.hid (HS.out.new (q := dcO ⟨d0, d1, ⟨d2, false⟩, d4, d5⟩))
            have HS2 := Lib.hid HT.out.drop1
            go_wp2_with (fail)
            go_roundg (n.f3.length + 1 - (i + 1))
            case measure => exact ms9 hlt
            case rel => exact ⟨i + 1, _, (by first | rw [hw9] | rfl), hlt, rfl, HS2, HL2⟩
          | true =>
            have HL2 := Lib.hid (show insB _ (bad d1 7 f') = f2 from hL)
            clear hL
            go_wp2_with (fail)
            have HT := Lib.hid (HS.out.new (q := dcO ⟨d0, d1, ⟨d2, true⟩, d4, d5⟩))
            refine (bad_walk hy d1 7 f' _ (at_put HT.out H.out.bel hx)).mono ?_
            rintro e' w9 ⟨rfl, hD⟩
            have HT' := Lib.hid (Ck.call HT.out hD.only hD.blk)
            clear hD
            have HS2 := Lib.hid HT'.out.drop1
            go_wp2_with (fail)
            go_roundg (n.f3.length + 1 - (i + 1))
            case measure => exact ms9 hlt
            case rel => exact ⟨i + 1, _, (by first | rw [hw9] | rfl), hlt, rfl, HS2, HL2⟩
        · have hd : n.f3.drop i = [] := List.drop_eq_nil_of_le hge
          have hL := HL.out
          rw [hd] at hL
          have i0 : ((i : Int) < (n.f3.length : Int)) = False := eq_false (by omega)
          have i1 : decide ((i : Int) < (n.f3.length : Int)) = false := decide_eq_false (by omega)
          clear hd hi hge HL
          obtain rfl : f' = f2 := hL
          have HQ := H3
          go_wp2_with (fail)
          go_loopg [60] (n.f4.length + 1) (fun m9 u wr => ∃ (i : Nat) (f' : F), u = .int .i64 (i : Int) ∧ i ≤ n.f4.length ∧ m9 = n.f4.length + 1 - i ∧ Hid (Ck x.c w wr ((x.put n B2 b2 B3 b3 B4 b4 B5 b5).obj f') [(w.heap.size, ndO n B2 b2 B3 b3 B4 b4 B5 b5)]) ∧ Hid (varsB n (n.f4.drop i) f' = f3))
          case atStart => exact ⟨0, _, rfl, by omega, by simp, HS, HQ⟩
          case round =>
            obtain ⟨i, f', rfl, hi, rfl, HS', HL⟩ := hrel
            clear HS
            have HS := HS'
            clear HS'
            obtain ⟨m0, m1, m2, m3, m4, m5, mf⟩ := blk6 HS.out.l0
            have ml := blk_lt HS.out.l0
            rcases Nat.lt_or_ge i n.f4.length with hlt | hge
            · obtain ⟨d, hdk, hdd⟩ := drop_at hlt
              obtain ⟨ad2, hA2, y0, y1, y2, y3, y4, y5⟩ := dec_at HM.out.h4 i d hdk
              have hb := Ck.old HS.out H.out.bel hx.hc
              replace y0 := pw_cell_below hb y0
              replace y1 := pw_cell_below hb y1
              replace y2 := pw_cell_below hb y2
              replace y3 := pw_cell_below hb y3
              replace y4 := pw_cell_below hb y4
              replace y5 := pw_cell_below hb y5
              have xl := World.block_lt_of_cell? _ _ y0
              have xn : ¬ ((ad2.add (i * 6)).block = wr.heap.size) := Nat.ne_of_lt xl
              have i0 : ((i : Int) < (n.f4.length : Int)) = True := eq_true (by omega)
              have i1 : decide ((i : Int) < (n.f4.length : Int)) = true := decide_eq_true (by omega)
              have i2 : (0 ≤ (i : Int)) = True := eq_true (by omega)
              have hw9 : wrap64 ((i : Int) + 1) = ((i + 1 : Nat) : Int) := by have h9 := HM.out.h4.2.1; unfold maxLen at h9; unfold wrap64; omega
              have hL := HL.out
              rw [hdd] at hL
              clear hb hdk hdd HL
              obtain ⟨d0, d1, ⟨d2, d3⟩, d4, d5⟩ := d
              subst hA2
              have HT := Lib.hid (HS.out.new (q := dcO ⟨d0, d1, ⟨d2, d3⟩, d4, d5⟩))
              have mn : ¬ (w.heap.size = wr.heap.size) := Nat.ne_of_lt ml
              by_cases hz : d4.toList = []
              · have HL2 := Lib.hid (show varsB n _ f' = f3 from (by rw [varsB, if_pos (by rw [← Fnd.toList_data, hz]; rfl)] at hL; exact hL))
                clear hL
                have HS2 := Lib.hid HT.out.drop1
                go_wp2_with (fail)
                go_roundg (n.f4.length + 1 - (i + 1))
                case measure => exact ms9 hlt
                case rel => exact ⟨i + 1, _, (by first | rw [hw9] | rfl), hlt, rfl, HS2, HL2⟩
              · obtain ⟨y, hy2⟩ : ∃ y, namedD n d4 = y := ⟨_, rfl⟩
                have HY := Lib.hid hy2
                have hL9 : varsB n (n.f4.drop (i + 1)) (if d3 || !(y.f2.f0 && !y.f2.f1) then bad d1 7 f' else f') = f3 := by
                  rw [← hy2]
                  rw [varsB, if_neg (by rw [← Fnd.toList_data]; simpa using hz)] at hL
                  exact hL
                clear hL hy2
                have z1 : (d4.toList == []) = false := beq_eq_false_iff_ne.2 hz
                have z2 : d4.toList.isEmpty = false := by cases h9 : d4.toList with
                  | nil => exact absurd h9 hz
                  | cons _ _ => rfl
                have z3 : (d4.toList = []) = False := eq_false hz
                go_wp2_with (fail)
                refine (named_walk hy d4 _ (Ck.old HT.out H.out.bel hx.hc)).mono ?_
                rintro e' w7 ⟨rfl, hb⟩
                have hY : namedD (x.put n B2 b2 B3 b3 (some ad2) b4 B5 b5).n d4 = y := HY.out
                rw [hY]
                have HU := Lib.hid ((HT.out.below hb).new (q := dcO y))
                clear hb hY HY
                obtain ⟨uu0, uu1, uu2, uu3, uu4, uu5, uuf⟩ := blk6 HU.out.l0
                have uul := blk_lt HU.out.l0
                obtain ⟨vv0, vv1, vv2, vv3, vv4, vv5, vvf⟩ := blk6 HU.out.l1
                have vvl := blk_lt HU.out.l1
                obtain ⟨yy0, yy1, ⟨g2, g3⟩, yy4, yy5⟩ := y
                cases d3 with
                | true =>
                  have HL2 := Lib.hid (show varsB n _ (bad d1 7 f') = f3 from hL9)
                  clear hL9
                  go_wp2_with (fail)
                  refine (bad_walk hy d1 7 f' _ (at_put HU.out H.out.bel hx)).mono ?_
                  rintro e' w8 ⟨rfl, hD⟩
                  have HV := Lib.hid (Ck.call HU.out hD.only hD.blk)
                  clear hD
                  have HS2 := Lib.hid HV.out.drop1.drop1
                  go_wp2_with (fail)
                  go_roundg (n.f4.length + 1 - (i + 1))
                  case measure => exact ms9 hlt
                  case rel => exact ⟨i + 1, _, (by first | rw [hw9] | rfl), hlt, rfl, HS2, HL2⟩
                | false =>
                  cases g2 with
                  | false =>
                    have HL2 := Lib.hid (show varsB n _ (bad d1 7 f') = f3 from hL9)
                    clear hL9
                    go_wp2_with (fail)
                    refine (bad_walk hy d1 7 f' _ (at_put HU.out H.out.bel hx)).mono ?_
                    rintro e' w8 ⟨rfl, hD⟩
                    have HV := Lib.hid (Ck.call HU.out hD.only hD.blk)
                    clear hD
                    have HS2 := Lib.hid HV.out.drop1.drop1
                    go_wp2_with (fail)
                    go_roundg (n.f4.length + 1 - (i + 1))
                    case measure => exact ms9 hlt
                    case rel => exact ⟨i + 1, _, (by first | rw [hw9] | rfl), hlt, rfl, HS2, HL2⟩
                  | true =>
                    cases g3 with
                    | true =>
                      have HL2 := Lib.hid (show varsB n _ (bad d1 7 f') = f3 from hL9)
                      clear hL9
                      go_wp2_with (fail)
                      refine (bad_walk hy d1 7 f' _ (at_put HU.out H.out.bel hx)).mono ?_
                      rintro e' w8 ⟨rfl, hD⟩
                      have HV := Lib.hid (Ck.call HU.out hD.only hD.blk)
                      clear hD
                      have HS2 := Lib.hid HV.out.drop1.drop1
                      go_wp2_with (fail)
                      go_roundg (n.f4.length + 1 - (i + 1))
                      case measure => exact ms9 hlt
                      case rel => exact ⟨i + 1, _, (by first | rw [hw9] | rfl), hlt, rfl, HS2, HL2⟩
                    | false =>
                      have HL2 := Lib.hid (show varsB n _ f' = f3 from hL9)
                      clear hL9
                      have HS2 := Lib.hid HU.out.drop1.drop1
                      go_wp2_with (fail)
                      go_roundg (n.f4.length + 1 - (i + 1))
                      case measure => exact ms9 hlt
                      case rel => exact ⟨i + 1, _, (by first | rw [hw9] | rfl), hlt, rfl, HS2, HL2⟩
            · have hd : n.f4.drop i = [] := List.drop_eq_nil_of_le hge
              have hL := HL.out
              rw [hd] at hL
              have i0 : ((i : Int) < (n.f4.length : Int)) = False := eq_false (by omega)
              have i1 : decide ((i : Int) < (n.f4.length : Int)) = false := decide_eq_false (by omega)
              clear hd hi hge HL
              obtain rfl : f' = f3 := hL
              have HQ := HR
              go_wp2_with (fail)
              go_loopg [91] (n.f5.length + 1) (fun m9 u wr => ∃ (i : Nat) (f' : F), u = .int .i64 (i : Int) ∧ i ≤ n.f5.length ∧ m9 = n.f5.length + 1 - i ∧ Hid (Ck x.c w wr ((x.put n B2 b2 B3 b3 B4 b4 B5 b5).obj f') [(w.heap.size, ndO n B2 b2 B3 b3 B4 b4 B5 b5)]) ∧ Hid (eqsB (Ct.of k x.l n) x.l n (n.f5.drop i) f' = some r))
              case atStart => exact ⟨0, _, rfl, by omega, by simp, HS, HQ⟩
              case round =>
                obtain ⟨i, f', rfl, hi, rfl, HS', HL⟩ := hrel
                clear HS
                have HS := HS'
                clear HS'
                obtain ⟨m0, m1, m2, m3, m4, m5, mf⟩ := blk6 HS.out.l0
                have ml := blk_lt HS.out.l0
                rcases Nat.lt_or_ge i n.f5.length with hlt | hge
                · obtain ⟨q, hdk, hdd⟩ := drop_at hlt
                  obtain ⟨ad2, A0, c0, A7, c7, hA2, y0, y1, y2, y3, y4, y5, y6, y7, hq⟩ := eq_at HM.out.h5 i q hdk
                  have hb := Ck.old HS.out H.out.bel hx.hc
                  replace y0 := pw_cell_below hb y0
                  replace y1 := pw_cell_below hb y1
                  replace y2 := pw_cell_below hb y2
                  replace y3 := pw_cell_below hb y3
                  replace y4 := pw_cell_below hb y4
                  replace y5 := pw_cell_below hb y5
                  replace y6 := pw_cell_below hb y6
                  replace y7 := pw_cell_below hb y7
                  have xl := World.block_lt_of_cell? _ _ y0
                  have xn : ¬ ((ad2.add (i * 8)).block = wr.heap.size) := Nat.ne_of_lt xl
                  have i0 : ((i : Int) < (n.f5.length : Int)) = True := eq_true (by omega)
                  have i1 : decide ((i : Int) < (n.f5.length : Int)) = true := decide_eq_true (by omega)
                  have i2 : (0 ≤ (i : Int)) = True := eq_true (by omega)
                  have hw9 : wrap64 ((i : Int) + 1) = ((i + 1 : Nat) : Int) := by have h9 := HM.out.h5.2.1; unfold maxLen at h9; unfold wrap64; omega
                  have hL := HL.out
                  rw [hdd] at hL
                  obtain ⟨g, hg, hL⟩ := Option.bind_eq_some_iff.1 hL
                  obtain ⟨f4, hl4, hL⟩ := Option.bind_eq_some_iff.1 hL
                  have HG := Lib.hid (And.intro hg (And.intro hl4 hL))
                  have HE := Lib.hid hq
                  clear hb hdk hdd HL hg hl4 hL hq
                  subst hA2
                  have HT := Lib.hid (HS.out.new (q := eqO q A0 c0 A7 c7))
                  go_wp2_with (fail)
                  refine (gives_walk hy (of_is hy k) q A0 c0 A7 c7 f' g _ HE.out (at_put HT.out H.out.bel hx) HG.out.1).mono ?_
                  rintro e' w7 ⟨v, rfl, hv, hD⟩
                  have HU := Lib.hid (Ck.call HT.out hD.only hD.blk)
                  have HV := Lib.hid (own_weaken hv HT.out.sz)
                  clear hD hv
                  generalize hgq : wr.heap.size = gq at HU ⊢
                  obtain ⟨gt, gf⟩ := g
                  obtain ⟨Av, cv, hv⟩ := own_slice HV.out
                  subst hv
                  obtain ⟨q0, q1, q2, q3, q4, q5, q6, q7, qf⟩ := blk8 HU.out.l0
                  have ql := blk_lt HU.out.l0
                  obtain ⟨mm0, mm1, mm2, mm3, mm4, mm5, mmf⟩ := blk6 HU.out.l1
                  have mml := blk_lt HU.out.l1
                  go_wp2_with (fail)
                  go_loopg [99] (gt.length + 1) (fun m9 u wr2 => ∃ (j : Nat) (f5 : F), u = .int .i64 (j : Int) ∧ j ≤ gt.length ∧ m9 = gt.length + 1 - j ∧ Hid (Ck x.c w wr2 ((x.put n B2 b2 B3 b3 B4 b4 (some ad2) b5).obj f5) [(gq, eqO q A0 c0 A7 c7), (w.heap.size, ndO n B2 b2 B3 b3 B4 b4 (some ad2) b5)]) ∧ Hid (wr2.ownsRow w.heap.size 37 2 (.slice Av gt.length cv) gt.length (tyCells gt)) ∧ Hid (leftB n (gt.drop j) (q.f0.drop j) f5 = some f4))
                  case atStart => exact ⟨0, _, rfl, by omega, by simp, HU, HV, Lib.hid HG.out.2.1⟩
                  case round =>
                    obtain ⟨j, f5, rfl, hj, rfl, HS', HV', HL'⟩ := hrel
                    clear HU HV HT HS
                    have HS := HS'
                    have HV := HV'
                    have HL := HL'
                    clear HS' HV' HL'
                    obtain ⟨q0, q1, q2, q3, q4, q5, q6, q7, qf⟩ := blk8 HS.out.l0
                    have ql := blk_lt HS.out.l0
                    obtain ⟨mm0, mm1, mm2, mm3, mm4, mm5, mmf⟩ := blk6 HS.out.l1
                    have mml := blk_lt HS.out.l1
                    rcases Nat.lt_or_ge j gt.length with hjl | hjg
                    · have j0 : ((j : Int) < (gt.length : Int)) = True := eq_true (by omega)
                      have j1 : decide ((j : Int) < (gt.length : Int)) = true := decide_eq_true (by omega)
                      have j2 : (0 ≤ (j : Int)) = True := eq_true (by omega)
                      obtain ⟨ty, htk, htd⟩ := drop_at hjl
                      have hL := HL.out
                      rw [htd] at hL
                      have hql : j < q.f0.length := by
                        rcases Nat.lt_or_ge j q.f0.length with h9 | h9
                        · exact h9
                        · rw [List.drop_eq_nil_of_le h9] at hL
                          cases hL
                      obtain ⟨lf, hlk, hld⟩ := drop_at hql
                      rw [hld] at hL
                      have HL3 : Hid (leftB n (gt.drop (j + 1)) (q.f0.drop (j + 1)) (if (namedD n lf.f0).f2.f0 == ty.1 && (namedD n lf.f0).f2.f1 == ty.2 then f5 else bad lf.f1 7 f5) = some f4) := Lib.hid hL
                      obtain ⟨at1, hAv, hbb, z0, z1⟩ := ty_at HV.out j ty htk rfl
                      obtain ⟨al, hA0, l0, l1⟩ := left_at HE.out.left j lf hlk
                      subst hAv
                      subst hA0
                      have hb := Ck.old HS.out H.out.bel hx.hc
                      have HLF := Lib.hid (And.intro l0 l1)
                      replace l0 := pw_cell_below hb l0
                      replace l1 := pw_cell_below hb l1
                      have zl := World.block_lt_of_cell? _ _ z0
                      have ll := World.block_lt_of_cell? _ _ l0
                      have zn : ¬ ((at1.add (j * 2)).block = wr.heap.size) := Nat.ne_of_lt zl
                      have j3 : ((j : Int) < (q.f0.length : Int)) = True := eq_true (by omega)
                      clear hb htk htd hlk hld hL HL
                      go_wp2_with (fail)
                      obtain ⟨y, hy2⟩ : ∃ y, namedD (x.put n B2 b2 B3 b3 B4 b4 (some ad2) b5).n lf.f0 = y := ⟨_, rfl⟩
                      obtain ⟨B, hB⟩ : ∃ B, (named (x.put n B2 b2 B3 b3 B4 b4 (some ad2) b5).n lf.f0).isSome = B := ⟨_, rfl⟩
                      have HD2 := Lib.hid (And.intro hy2 hB)
                      obtain ⟨cur, hcur⟩ := own_typed HV.out at1.block rfl
                      have HC := Lib.hid hcur
                      have HT := Lib.hid ((Ck.cons hbb hcur HS.out).new (q := .cells #[.bool ty.1, .bool ty.2] 37 (0, 0)))
                      clear hcur
                      generalize hgt : wr.heap.size = gty at HT ⊢
                      generalize hV : wr.alloc _ = V2 at HT ⊢
                      clear hy2 hB
                      have pfS : ∀ {V : World}, Ck x.c w V ((x.put n B2 b2 B3 b3 B4 b4 (some ad2) b5).obj f5) [(gty, .cells #[.bool ty.1, .bool ty.2] 37 (0, 0)), (at1.block, .cells cur 37 (0, 0)), (gq, eqO q (some al) c0 A7 c7), (w.heap.size, ndO n B2 b2 B3 b3 B4 b4 (some ad2) b5)] → V.cell? ⟨w.heap.size, 0, none⟩ = some (.string n.f0) ∧ V.cell? ⟨w.heap.size, 1, none⟩ = some (.int .i64 n.f1) ∧ V.cell? ⟨w.heap.size, 2, none⟩ = some (.slice B2 n.f2.length b2) ∧ V.cell? ⟨w.heap.size, 3, none⟩ = some (.slice B3 n.f3.length b3) ∧ V.cell? ⟨w.heap.size, 4, none⟩ = some (.slice B4 n.f4.length b4) ∧ V.cell? ⟨w.heap.size, 5, none⟩ = some (.slice (some ad2) n.f5.length b5) ∧ V.cell? ⟨gq, 0, none⟩ = some (.slice (some al) q.f0.length c0) ∧ V.cell? (al.add (j * 2)) = some (.string lf.f0) := fun {V} h => ⟨blk_cell h.l3 0, blk_cell h.l3 1, blk_cell h.l3 2, blk_cell h.l3 3, blk_cell h.l3 4, blk_cell h.l3 5, blk_cell h.l2 0, pw_cell_below (Ck.old h H.out.bel hx.hc) HLF.out.1⟩
                      have hS0 : (V2.drew).cell? ⟨w.heap.size, 0, none⟩ = some (.string n.f0) ∧ (V2.drew).cell? ⟨w.heap.size, 1, none⟩ = some (.int .i64 n.f1) ∧ (V2.drew).cell? ⟨w.heap.size, 2, none⟩ = some (.slice B2 n.f2.length b2) ∧ (V2.drew).cell? ⟨w.heap.size, 3, none⟩ = some (.slice B3 n.f3.length b3) ∧ (V2.drew).cell? ⟨w.heap.size, 4, none⟩ = some (.slice B4 n.f4.length b4) ∧ (V2.drew).cell? ⟨w.heap.size, 5, none⟩ = some (.slice (some ad2) n.f5.length b5) ∧ (V2.drew).cell? ⟨gq, 0, none⟩ = some (.slice (some al) q.f0.length c0) ∧ (V2.drew).cell? (al.add (j * 2)) = some (.string lf.f0) := pfS HT.out.drew
                      have hSa : ∀ o, ((V2.drew).alloc o).cell? ⟨w.heap.size, 0, none⟩ = some (.string n.f0) ∧ ((V2.drew).alloc o).cell? ⟨w.heap.size, 1, none⟩ = some (.int .i64 n.f1) ∧ ((V2.drew).alloc o).cell? ⟨w.heap.size, 2, none⟩ = some (.slice B2 n.f2.length b2) ∧ ((V2.drew).alloc o).cell? ⟨w.heap.size, 3, none⟩ = some (.slice B3 n.f3.length b3) ∧ ((V2.drew).alloc o).cell? ⟨w.heap.size, 4, none⟩ = some (.slice B4 n.f4.length b4) ∧ ((V2.drew).alloc o).cell? ⟨w.heap.size, 5, none⟩ = some (.slice (some ad2) n.f5.length b5) ∧ ((V2.drew).alloc o).cell? ⟨gq, 0, none⟩ = some (.slice (some al) q.f0.length c0) ∧ ((V2.drew).alloc o).cell? (al.add (j * 2)) = some (.string lf.f0) := fun o => pfS (Ck.alloc HT.out.drew)
                      have hSb : ∀ o, ((V2.alloc o).drew).cell? ⟨w.heap.size, 0, none⟩ = some (.string n.f0) ∧ ((V2.alloc o).drew).cell? ⟨w.heap.size, 1, none⟩ = some (.int .i64 n.f1) ∧ ((V2.alloc o).drew).cell? ⟨w.heap.size, 2, none⟩ = some (.slice B2 n.f2.length b2) ∧ ((V2.alloc o).drew).cell? ⟨w.heap.size, 3, none⟩ = some (.slice B3 n.f3.length b3) ∧ ((V2.alloc o).drew).cell? ⟨w.heap.size, 4, none⟩ = some (.slice B4 n.f4.length b4) ∧ ((V2.alloc o).drew).cell? ⟨w.heap.size, 5, none⟩ = some (.slice (some ad2) n.f5.length b5) ∧ ((V2.alloc o).drew).cell? ⟨gq, 0, none⟩ = some (.slice (some al) q.f0.length c0) ∧ ((V2.alloc o).drew).cell? (al.add (j * 2)) = some (.string lf.f0) := fun o => pfS (Ck.drew (Ck.alloc HT.out))
                      have ge9 : w.heap.size ≤ V2.heap.size := HT.out.sz
                      have nb9 : ∀ y ∈ ([(gty, .cells #[.bool ty.1, .bool ty.2] 37 (0, 0)), (at1.block, .cells cur 37 (0, 0)), (gq, eqO q (some al) c0 A7 c7), (w.heap.size, ndO n B2 b2 B3 b3 B4 b4 (some ad2) b5)] : List (Nat × Obj)), y.1 ≠ V2.heap.size := fun y hy => Nat.ne_of_lt (blk_lt (HT.out.loc y hy).2)
                      go_cut [18, 19] (fun u v9 wc => ∃ gx, u = .pointer (some ⟨gx, 0, none⟩) ∧ v9 = .bool B ∧ Hid (Ck x.c w wc ((x.put n B2 b2 B3 b3 B4 b4 (some ad2) b5).obj f5) ((gx, dcO y) :: [(gty, .cells #[.bool ty.1, .bool ty.2] 37 (0, 0)), (at1.block, .cells cur 37 (0, 0)), (gq, eqO q (some al) c0 A7 c7), (w.heap.size, ndO n B2 b2 B3 b3 B4 b4 (some ad2) b5)])))
                      case first =>
                        go_region_held2 (fun w' => w'.cell? ⟨w.heap.size, 0, none⟩ = some (.string n.f0) ∧ w'.cell? ⟨w.heap.size, 1, none⟩ = some (.int .i64 n.f1) ∧ w'.cell? ⟨w.heap.size, 2, none⟩ = some (.slice B2 n.f2.length b2) ∧ w'.cell? ⟨w.heap.size, 3, none⟩ = some (.slice B3 n.f3.length b3) ∧ w'.cell? ⟨w.heap.size, 4, none⟩ = some (.slice B4 n.f4.length b4) ∧ w'.cell? ⟨w.heap.size, 5, none⟩ = some (.slice (some ad2) n.f5.length b5) ∧ w'.cell? ⟨gq, 0, none⟩ = some (.slice (some al) q.f0.length c0) ∧ w'.cell? (al.add (j * 2)) = some (.string lf.f0)) (first | with_reducible exact hS0 | with_reducible exact hSa _ | with_reducible exact hSb _ | with_reducible exact hS1 | with_reducible exact hS2 _ | with_reducible exact hS5 _ _ _ _ _ _) (first | (go_at_call 93; (first | ((with_reducible refine (named_walk hy lf.f0 _ (Ck.old (HT.out.drew) H.out.bel hx.hc)).mono ?_); go_must (rintro e' w8 ⟨rfl, hb⟩; (try rw [HD2.out.1, HD2.out.2]); have HTC := Lib.hid (Ck.below (HT.out.drew) hb); have mkX : True := trivial; have hS1 : w8.cell? ⟨w.heap.size, 0, none⟩ = some (.string n.f0) ∧ w8.cell? ⟨w.heap.size, 1, none⟩ = some (.int .i64 n.f1) ∧ w8.cell? ⟨w.heap.size, 2, none⟩ = some (.slice B2 n.f2.length b2) ∧ w8.cell? ⟨w.heap.size, 3, none⟩ = some (.slice B3 n.f3.length b3) ∧ w8.cell? ⟨w.heap.size, 4, none⟩ = some (.slice B4 n.f4.length b4) ∧ w8.cell? ⟨w.heap.size, 5, none⟩ = some (.slice (some ad2) n.f5.length b5) ∧ w8.cell? ⟨gq, 0, none⟩ = some (.slice (some al) q.f0.length c0) ∧ w8.cell? (al.add (j * 2)) = some (.string lf.f0) := pfS HTC.out; have hS2 : ∀ o, (w8.alloc o).cell? ⟨w.heap.size, 0, none⟩ = some (.string n.f0) ∧ (w8.alloc o).cell? ⟨w.heap.size, 1, none⟩ = some (.int .i64 n.f1) ∧ (w8.alloc o).cell? ⟨w.heap.size, 2, none⟩ = some (.slice B2 n.f2.length b2) ∧ (w8.alloc o).cell? ⟨w.heap.size, 3, none⟩ = some (.slice B3 n.f3.length b3) ∧ (w8.alloc o).cell? ⟨w.heap.size, 4, none⟩ = some (.slice B4 n.f4.length b4) ∧ (w8.alloc o).cell? ⟨w.heap.size, 5, none⟩ = some (.slice (some ad2) n.f5.length b5) ∧ (w8.alloc o).cell? ⟨gq, 0, none⟩ = some (.slice (some al) q.f0.length c0) ∧ (w8.alloc o).cell? (al.add (j * 2)) = some (.string lf.f0) := fun o => pfS (Ck.alloc HTC.out); clear hb)) | ((with_reducible refine (named_walk hy lf.f0 _ (Ck.old (Ck.drew (Ck.new (q := Obj.cells #[.string ⟨#[]⟩, .int .i64 0, .bool false, .bool false, .string ⟨#[]⟩, .bool false] 39) HT.out)) H.out.bel hx.hc)).mono ?_); go_must (rintro e' w8 ⟨rfl, hb⟩; (try rw [HD2.out.1, HD2.out.2]); have HTC := Lib.hid (Ck.below (HT.out.new.drew) hb); have mkX : True ∧ True := ⟨trivial, trivial⟩; have hS1 : w8.cell? ⟨w.heap.size, 0, none⟩ = some (.string n.f0) ∧ w8.cell? ⟨w.heap.size, 1, none⟩ = some (.int .i64 n.f1) ∧ w8.cell? ⟨w.heap.size, 2, none⟩ = some (.slice B2 n.f2.length b2) ∧ w8.cell? ⟨w.heap.size, 3, none⟩ = some (.slice B3 n.f3.length b3) ∧ w8.cell? ⟨w.heap.size, 4, none⟩ = some (.slice B4 n.f4.length b4) ∧ w8.cell? ⟨w.heap.size, 5, none⟩ = some (.slice (some ad2) n.f5.length b5) ∧ w8.cell? ⟨gq, 0, none⟩ = some (.slice (some al) q.f0.length c0) ∧ w8.cell? (al.add (j * 2)) = some (.string lf.f0) := pfS (Ck.drop1 HTC.out); have hS2 : ∀ o, (w8.alloc o).cell? ⟨w.heap.size, 0, none⟩ = some (.string n.f0) ∧ (w8.alloc o).cell? ⟨w.heap.size, 1, none⟩ = some (.int .i64 n.f1) ∧ (w8.alloc o).cell? ⟨w.heap.size, 2, none⟩ = some (.slice B2 n.f2.length b2) ∧ (w8.alloc o).cell? ⟨w.heap.size, 3, none⟩ = some (.slice B3 n.f3.length b3) ∧ (w8.alloc o).cell? ⟨w.heap.size, 4, none⟩ = some (.slice B4 n.f4.length b4) ∧ (w8.alloc o).cell? ⟨w.heap.size, 5, none⟩ = some (.slice (some ad2) n.f5.length b5) ∧ (w8.alloc o).cell? ⟨gq, 0, none⟩ = some (.slice (some al) q.f0.length c0) ∧ (w8.alloc o).cell? (al.add (j * 2)) = some (.string lf.f0) := fun o => pfS (Ck.alloc (Ck.drop1 HTC.out)); have hS5 : ∀ v0 v1 v2 v3 v4 v5 : Value, ((((((w8.setCell ⟨V2.heap.size, 0, none⟩ v0).setCell ⟨V2.heap.size, 1, none⟩ v1).setCell ⟨V2.heap.size, 2, none⟩ v2).setCell ⟨V2.heap.size, 3, none⟩ v3).setCell ⟨V2.heap.size, 4, none⟩ v4).setCell ⟨V2.heap.size, 5, none⟩ v5).cell? ⟨w.heap.size, 0, none⟩ = some (.string n.f0) ∧ ((((((w8.setCell ⟨V2.heap.size, 0, none⟩ v0).setCell ⟨V2.heap.size, 1, none⟩ v1).setCell ⟨V2.heap.size, 2, none⟩ v2).setCell ⟨V2.heap.size, 3, none⟩ v3).setCell ⟨V2.heap.size, 4, none⟩ v4).setCell ⟨V2.heap.size, 5, none⟩ v5).cell? ⟨w.heap.size, 1, none⟩ = some (.int .i64 n.f1) ∧ ((((((w8.setCell ⟨V2.heap.size, 0, none⟩ v0).setCell ⟨V2.heap.size, 1, none⟩ v1).setCell ⟨V2.heap.size, 2, none⟩ v2).setCell ⟨V2.heap.size, 3, none⟩ v3).setCell ⟨V2.heap.size, 4, none⟩ v4).setCell ⟨V2.heap.size, 5, none⟩ v5).cell? ⟨w.heap.size, 2, none⟩ = some (.slice B2 n.f2.length b2) ∧ ((((((w8.setCell ⟨V2.heap.size, 0, none⟩ v0).setCell ⟨V2.heap.size, 1, none⟩ v1).setCell ⟨V2.heap.size, 2, none⟩ v2).setCell ⟨V2.heap.size, 3, none⟩ v3).setCell ⟨V2.heap.size, 4, none⟩ v4).setCell ⟨V2.heap.size, 5, none⟩ v5).cell? ⟨w.heap.size, 3, none⟩ = some (.slice B3 n.f3.length b3) ∧ ((((((w8.setCell ⟨V2.heap.size, 0, none⟩ v0).setCell ⟨V2.heap.size, 1, none⟩ v1).setCell ⟨V2.heap.size, 2, none⟩ v2).setCell ⟨V2.heap.size, 3, none⟩ v3).setCell ⟨V2.heap.size, 4, none⟩ v4).setCell ⟨V2.heap.size, 5, none⟩ v5).cell? ⟨w.heap.size, 4, none⟩ = some (.slice B4 n.f4.length b4) ∧ ((((((w8.setCell ⟨V2.heap.size, 0, none⟩ v0).setCell ⟨V2.heap.size, 1, none⟩ v1).setCell ⟨V2.heap.size, 2, none⟩ v2).setCell ⟨V2.heap.size, 3, none⟩ v3).setCell ⟨V2.heap.size, 4, none⟩ v4).setCell ⟨V2.heap.size, 5, none⟩ v5).cell? ⟨w.heap.size, 5, none⟩ = some (.slice (some ad2) n.f5.length b5) ∧ ((((((w8.setCell ⟨V2.heap.size, 0, none⟩ v0).setCell ⟨V2.heap.size, 1, none⟩ v1).setCell ⟨V2.heap.size, 2, none⟩ v2).setCell ⟨V2.heap.size, 3, none⟩ v3).setCell ⟨V2.heap.size, 4, none⟩ v4).setCell ⟨V2.heap.size, 5, none⟩ v5).cell? ⟨gq, 0, none⟩ = some (.slice (some al) q.f0.length c0) ∧ ((((((w8.setCell ⟨V2.heap.size, 0, none⟩ v0).setCell ⟨V2.heap.size, 1, none⟩ v1).setCell ⟨V2.heap.size, 2, none⟩ v2).setCell ⟨V2.heap.size, 3, none⟩ v3).setCell ⟨V2.heap.size, 4, none⟩ v4).setCell ⟨V2.heap.size, 5, none⟩ v5).cell? (al.add (j * 2)) = some (.string lf.f0) := fun v0 v1 v2 v3 v4 v5 => pfS (Ck.st6 nb9 ge9 (Ck.drop1 HTC.out) v0 v1 v2 v3 v4 v5); obtain ⟨z0, z1, z2, z3, z4, z5, zf⟩ := blk6 HTC.out.l0; have zl := blk_lt HTC.out.l0; clear hb)) | ((with_reducible refine (named_walk hy lf.f0 _ (Ck.old (Ck.newg (g := V2.heap.size) (q := Obj.cells #[.string ⟨#[]⟩, .int .i64 0, .bool false, .bool false, .string ⟨#[]⟩, .bool false] 39) rfl (Ck.drew HT.out)) H.out.bel hx.hc)).mono ?_); go_must (rintro e' w8 ⟨rfl, hb⟩; (try rw [HD2.out.1, HD2.out.2]); have HTC := Lib.hid (Ck.below (Ck.newg (g := V2.heap.size) rfl (Ck.drew HT.out)) hb); have mkX : True ∧ True := ⟨trivial, trivial⟩; have hS1 : w8.cell? ⟨w.heap.size, 0, none⟩ = some (.string n.f0) ∧ w8.cell? ⟨w.heap.size, 1, none⟩ = some (.int .i64 n.f1) ∧ w8.cell? ⟨w.heap.size, 2, none⟩ = some (.slice B2 n.f2.length b2) ∧ w8.cell? ⟨w.heap.size, 3, none⟩ = some (.slice B3 n.f3.length b3) ∧ w8.cell? ⟨w.heap.size, 4, none⟩ = some (.slice B4 n.f4.length b4) ∧ w8.cell? ⟨w.heap.size, 5, none⟩ = some (.slice (some ad2) n.f5.length b5) ∧ w8.cell? ⟨gq, 0, none⟩ = some (.slice (some al) q.f0.length c0) ∧ w8.cell? (al.add (j * 2)) = some (.string lf.f0) := pfS (Ck.drop1 HTC.out); have hS2 : ∀ o, (w8.alloc o).cell? ⟨w.heap.size, 0, none⟩ = some (.string n.f0) ∧ (w8.alloc o).cell? ⟨w.heap.size, 1, none⟩ = some (.int .i64 n.f1) ∧ (w8.alloc o).cell? ⟨w.heap.size, 2, none⟩ = some (.slice B2 n.f2.length b2) ∧ (w8.alloc o).cell? ⟨w.heap.size, 3, none⟩ = some (.slice B3 n.f3.length b3) ∧ (w8.alloc o).cell? ⟨w.heap.size, 4, none⟩ = some (.slice B4 n.f4.length b4) ∧ (w8.alloc o).cell? ⟨w.heap.size, 5, none⟩ = some (.slice (some ad2) n.f5.length b5) ∧ (w8.alloc o).cell? ⟨gq, 0, none⟩ = some (.slice (some al) q.f0.length c0) ∧ (w8.alloc o).cell? (al.add (j * 2)) = some (.string lf.f0) := fun o => pfS (Ck.alloc (Ck.drop1 HTC.out)); have hS5 : ∀ v0 v1 v2 v3 v4 v5 : Value, ((((((w8.setCell ⟨V2.heap.size, 0, none⟩ v0).setCell ⟨V2.heap.size, 1, none⟩ v1).setCell ⟨V2.heap.size, 2, none⟩ v2).setCell ⟨V2.heap.size, 3, none⟩ v3).setCell ⟨V2.heap.size, 4, none⟩ v4).setCell ⟨V2.heap.size, 5, none⟩ v5).cell? ⟨w.heap.size, 0, none⟩ = some (.string n.f0) ∧ ((((((w8.setCell ⟨V2.heap.size, 0, none⟩ v0).setCell ⟨V2.heap.size, 1, none⟩ v1).setCell ⟨V2.heap.size, 2, none⟩ v2).setCell ⟨V2.heap.size, 3, none⟩ v3).setCell ⟨V2.heap.size, 4, none⟩ v4).setCell ⟨V2.heap.size, 5, none⟩ v5).cell? ⟨w.heap.size, 1, none⟩ = some (.int .i64 n.f1) ∧ ((((((w8.setCell ⟨V2.heap.size, 0, none⟩ v0).setCell ⟨V2.heap.size, 1, none⟩ v1).setCell ⟨V2.heap.size, 2, none⟩ v2).setCell ⟨V2.heap.size, 3, none⟩ v3).setCell ⟨V2.heap.size, 4, none⟩ v4).setCell ⟨V2.heap.size, 5, none⟩ v5).cell? ⟨w.heap.size, 2, none⟩ = some (.slice B2 n.f2.length b2) ∧ ((((((w8.setCell ⟨V2.heap.size, 0, none⟩ v0).setCell ⟨V2.heap.size, 1, none⟩ v1).setCell ⟨V2.heap.size, 2, none⟩ v2).setCell ⟨V2.heap.size, 3, none⟩ v3).setCell ⟨V2.heap.size, 4, none⟩ v4).setCell ⟨V2.heap.size, 5, none⟩ v5).cell? ⟨w.heap.size, 3, none⟩ = some (.slice B3 n.f3.length b3) ∧ ((((((w8.setCell ⟨V2.heap.size, 0, none⟩ v0).setCell ⟨V2.heap.size, 1, none⟩ v1).setCell ⟨V2.heap.size, 2, none⟩ v2).setCell ⟨V2.heap.size, 3, none⟩ v3).setCell ⟨V2.heap.size, 4, none⟩ v4).setCell ⟨V2.heap.size, 5, none⟩ v5).cell? ⟨w.heap.size, 4, none⟩ = some (.slice B4 n.f4.length b4) ∧ ((((((w8.setCell ⟨V2.heap.size, 0, none⟩ v0).setCell ⟨V2.heap.size, 1, none⟩ v1).setCell ⟨V2.heap.size, 2, none⟩ v2).setCell ⟨V2.heap.size, 3, none⟩ v3).setCell ⟨V2.heap.size, 4, none⟩ v4).setCell ⟨V2.heap.size, 5, none⟩ v5).cell? ⟨w.heap.size, 5, none⟩ = some (.slice (some ad2) n.f5.length b5) ∧ ((((((w8.setCell ⟨V2.heap.size, 0, none⟩ v0).setCell ⟨V2.heap.size, 1, none⟩ v1).setCell ⟨V2.heap.size, 2, none⟩ v2).setCell ⟨V2.heap.size, 3, none⟩ v3).setCell ⟨V2.heap.size, 4, none⟩ v4).setCell ⟨V2.heap.size, 5, none⟩ v5).cell? ⟨gq, 0, none⟩ = some (.slice (some al) q.f0.length c0) ∧ ((((((w8.setCell ⟨V2.heap.size, 0, none⟩ v0).setCell ⟨V2.heap.size, 1, none⟩ v1).setCell ⟨V2.heap.size, 2, none⟩ v2).setCell ⟨V2.heap.size, 3, none⟩ v3).setCell ⟨V2.heap.size, 4, none⟩ v4).setCell ⟨V2.heap.size, 5, none⟩ v5).cell? (al.add (j * 2)) = some (.string lf.f0) := fun v0 v1 v2 v3 v4 v5 => pfS (Ck.st6 nb9 ge9 (Ck.drop1 HTC.out) v0 v1 v2 v3 v4 v5); obtain ⟨z0, z1, z2, z3, z4, z5, zf⟩ := blk6 HTC.out.l0; have zl := blk_lt HTC.out.l0; clear hb)))))
                        all_goals
                          go_wp2_with (fail)
                          go_meet
                          case rel =>
                            first
                            | (have _tk : True ∧ True := mkX
                               refine ⟨V2.heap.size, rfl, rfl, Lib.hid ?_⟩
                               exact (Ck.set6 HTC.out nb9 _ _ _ _ _ _))
                            | (have _tk : True := mkX
                               refine ⟨w8.heap.size, rfl, rfl, Lib.hid ?_⟩
                               exact (Ck.new HTC.out))
                      case rest =>
                        obtain ⟨gx, rfl, rfl, HS'⟩ := hcut
                        clear HT hS0 hSa hSb pfS ge9 nb9
                        have HT := HS'
                        clear HS'
                        obtain ⟨yy0, yy1, ⟨g2, g3⟩, yy4, yy5⟩ := y
                        obtain ⟨t0, t1⟩ := ty
                        have hV9 : wc.ownsRow w.heap.size 37 2 (.slice (some at1) gt.length cv) gt.length (tyCells gt) := own_move HV.out (fun k hk => by
                          obtain rfl : at1.block = k := Option.some.inj hk
                          exact (HT.out.loc (at1.block, _) (by simp)).2.trans HC.out.symm)
                        have HV9 := Lib.hid hV9
                        have hw8 : wrap64 ((j : Int) + 1) = ((j + 1 : Nat) : Int) := by have h9 := HE.out.left.2.1; unfold maxLen at h9; unfold wrap64; omega
                        have hD9 : namedD n lf.f0 = _ := HD2.out.1
                        have hL9 := HL3.out
                        rw [hD9] at hL9
                        clear hV9 hD9 HL3
                        obtain ⟨uu0, uu1, uu2, uu3, uu4, uu5, uuf⟩ := blk6 HT.out.l0
                        have uul := blk_lt HT.out.l0
                        have ww0 : wc.cell? ⟨gty, 0, none⟩ = some (.bool t0) := blk_cell HT.out.l1 0
                        have ww1 : wc.cell? ⟨gty, 1, none⟩ = some (.bool t1) := blk_cell HT.out.l1 1
                        obtain ⟨qq0, qq1, qq2, qq3, qq4, qq5, qq6, qq7, qqf⟩ := blk8 HT.out.l3
                        have qql := blk_lt HT.out.l3
                        have l0 := pw_cell_below (Ck.old HT.out H.out.bel hx.hc) HLF.out.1
                        have l1 := pw_cell_below (Ck.old HT.out H.out.bel hx.hc) HLF.out.2
                        cases g2 with
                        | false =>
                          cases g3 with
                          | false =>
                            cases t0 with
                            | false =>
                              cases t1 with
                              | false =>
                                have HL4 := Lib.hid (show leftB n (gt.drop (j + 1)) (q.f0.drop (j + 1)) f5 = some f4 from hL9)
                                have HS2 := Lib.hid HT.out.drop1.drop1.drop1
                                have HV2 := HV9
                                clear hL9
                                go_wp2_with (fail)
                                go_roundg (gt.length + 1 - (j + 1))
                                case measure => exact ms9 hjl
                                case rel => exact ⟨j + 1, _, (by first | rw [hw8] | rfl), hjl, rfl, HS2, HV2, HL4⟩
                              | true =>
                                have HL4 := Lib.hid (show leftB n (gt.drop (j + 1)) (q.f0.drop (j + 1)) (bad lf.f1 7 f5) = some f4 from hL9)
                                clear hL9
                                go_wp2_with (fail)
                                refine (bad_walk hy lf.f1 7 f5 _ (at_put HT.out H.out.bel hx)).mono ?_
                                rintro e' w6 ⟨rfl, hD⟩
                                have HS2 := Lib.hid (Ck.call HT.out hD.only hD.blk).drop1.drop1.drop1
                                have HV2 := Lib.hid (own_only hD.only HV9.out HT.out.lc)
                                clear hD
                                go_wp2_with (fail)
                                go_roundg (gt.length + 1 - (j + 1))
                                case measure => exact ms9 hjl
                                case rel => exact ⟨j + 1, _, (by first | rw [hw8] | rfl), hjl, rfl, HS2, HV2, HL4⟩
                            | true =>
                              cases t1 with
                              | false =>
                                have HL4 := Lib.hid (show leftB n (gt.drop (j + 1)) (q.f0.drop (j + 1)) (bad lf.f1 7 f5) = some f4 from hL9)
                                clear hL9
                                go_wp2_with (fail)
                                refine (bad_walk hy lf.f1 7 f5 _ (at_put HT.out H.out.bel hx)).mono ?_
                                rintro e' w6 ⟨rfl, hD⟩
                                have HS2 := Lib.hid (Ck.call HT.out hD.only hD.blk).drop1.drop1.drop1
                                have HV2 := Lib.hid (own_only hD.only HV9.out HT.out.lc)
                                clear hD
                                go_wp2_with (fail)
                                go_roundg (gt.length + 1 - (j + 1))
                                case measure => exact ms9 hjl
                                case rel => exact ⟨j + 1, _, (by first | rw [hw8] | rfl), hjl, rfl, HS2, HV2, HL4⟩
                              | true =>
                                have HL4 := Lib.hid (show leftB n (gt.drop (j + 1)) (q.f0.drop (j + 1)) (bad lf.f1 7 f5) = some f4 from hL9)
                                clear hL9
                                go_wp2_with (fail)
                                refine (bad_walk hy lf.f1 7 f5 _ (at_put HT.out H.out.bel hx)).mono ?_
                                rintro e' w6 ⟨rfl, hD⟩
                                have HS2 := Lib.hid (Ck.call HT.out hD.only hD.blk).drop1.drop1.drop1
                                have HV2 := Lib.hid (own_only hD.only HV9.out HT.out.lc)
                                clear hD
                                go_wp2_with (fail)
                                go_roundg (gt.length + 1 - (j + 1))
                                case measure => exact ms9 hjl
                                case rel => exact ⟨j + 1, _, (by first | rw [hw8] | rfl), hjl, rfl, HS2, HV2, HL4⟩
                          | true =>
                            cases t0 with
                            | false =>
                              cases t1 with
                              | false =>
                                have HL4 := Lib.hid (show leftB n (gt.drop (j + 1)) (q.f0.drop (j + 1)) (bad lf.f1 7 f5) = some f4 from hL9)
                                clear hL9
                                go_wp2_with (fail)
                                refine (bad_walk hy lf.f1 7 f5 _ (at_put HT.out H.out.bel hx)).mono ?_
                                rintro e' w6 ⟨rfl, hD⟩
                                have HS2 := Lib.hid (Ck.call HT.out hD.only hD.blk).drop1.drop1.drop1
                                have HV2 := Lib.hid (own_only hD.only HV9.out HT.out.lc)
                                clear hD
                                go_wp2_with (fail)
                                go_roundg (gt.length + 1 - (j + 1))
                                case measure => exact ms9 hjl
                                case rel => exact ⟨j + 1, _, (by first | rw [hw8] | rfl), hjl, rfl, HS2, HV2, HL4⟩
                              | true =>
                                have HL4 := Lib.hid (show leftB n (gt.drop (j + 1)) (q.f0.drop (j + 1)) f5 = some f4 from hL9)
                                have HS2 := Lib.hid HT.out.drop1.drop1.drop1
                                have HV2 := HV9
                                clear hL9
                                go_wp2_with (fail)
                                go_roundg (gt.length + 1 - (j + 1))
                                case measure => exact ms9 hjl
                                case rel => exact ⟨j + 1, _, (by first | rw [hw8] | rfl), hjl, rfl, HS2, HV2, HL4⟩
                            | true =>
                              cases t1 with
                              | false =>
                                have HL4 := Lib.hid (show leftB n (gt.drop (j + 1)) (q.f0.drop (j + 1)) (bad lf.f1 7 f5) = some f4 from hL9)
                                clear hL9
                                go_wp2_with (fail)
                                refine (bad_walk hy lf.f1 7 f5 _ (at_put HT.out H.out.bel hx)).mono ?_
                                rintro e' w6 ⟨rfl, hD⟩
                                have HS2 := Lib.hid (Ck.call HT.out hD.only hD.blk).drop1.drop1.drop1
                                have HV2 := Lib.hid (own_only hD.only HV9.out HT.out.lc)
                                clear hD
                                go_wp2_with (fail)
                                go_roundg (gt.length + 1 - (j + 1))
                                case measure => exact ms9 hjl
                                case rel => exact ⟨j + 1, _, (by first | rw [hw8] | rfl), hjl, rfl, HS2, HV2, HL4⟩
                              | true =>
                                have HL4 := Lib.hid (show leftB n (gt.drop (j + 1)) (q.f0.drop (j + 1)) (bad lf.f1 7 f5) = some f4 from hL9)
                                clear hL9
                                go_wp2_with (fail)
                                refine (bad_walk hy lf.f1 7 f5 _ (at_put HT.out H.out.bel hx)).mono ?_
                                rintro e' w6 ⟨rfl, hD⟩
                                have HS2 := Lib.hid (Ck.call HT.out hD.only hD.blk).drop1.drop1.drop1
                                have HV2 := Lib.hid (own_only hD.only HV9.out HT.out.lc)
                                clear hD
                                go_wp2_with (fail)
                                go_roundg (gt.length + 1 - (j + 1))
                                case measure => exact ms9 hjl
                                case rel => exact ⟨j + 1, _, (by first | rw [hw8] | rfl), hjl, rfl, HS2, HV2, HL4⟩
                        | true =>
                          cases g3 with
                          | false =>
                            cases t0 with
                            | false =>
                              cases t1 with
                              | false =>
                                have HL4 := Lib.hid (show leftB n (gt.drop (j + 1)) (q.f0.drop (j + 1)) (bad lf.f1 7 f5) = some f4 from hL9)
                                clear hL9
                                go_wp2_with (fail)
                                refine (bad_walk hy lf.f1 7 f5 _ (at_put HT.out H.out.bel hx)).mono ?_
                                rintro e' w6 ⟨rfl, hD⟩
                                have HS2 := Lib.hid (Ck.call HT.out hD.only hD.blk).drop1.drop1.drop1
                                have HV2 := Lib.hid (own_only hD.only HV9.out HT.out.lc)
                                clear hD
                                go_wp2_with (fail)
                                go_roundg (gt.length + 1 - (j + 1))
                                case measure => exact ms9 hjl
                                case rel => exact ⟨j + 1, _, (by first | rw [hw8] | rfl), hjl, rfl, HS2, HV2, HL4⟩
                              | true =>
                                have HL4 := Lib.hid (show leftB n (gt.drop (j + 1)) (q.f0.drop (j + 1)) (bad lf.f1 7 f5) = some f4 from hL9)
                                clear hL9
                                go_wp2_with (fail)
                                refine (bad_walk hy lf.f1 7 f5 _ (at_put HT.out H.out.bel hx)).mono ?_
                                rintro e' w6 ⟨rfl, hD⟩
                                have HS2 := Lib.hid (Ck.call HT.out hD.only hD.blk).drop1.drop1.drop1
                                have HV2 := Lib.hid (own_only hD.only HV9.out HT.out.lc)
                                clear hD
                                go_wp2_with (fail)
                                go_roundg (gt.length + 1 - (j + 1))
                                case measure => exact ms9 hjl
                                case rel => exact ⟨j + 1, _, (by first | rw [hw8] | rfl), hjl, rfl, HS2, HV2, HL4⟩
                            | true =>
                              cases t1 with
                              | false =>
                                have HL4 := Lib.hid (show leftB n (gt.drop (j + 1)) (q.f0.drop (j + 1)) f5 = some f4 from hL9)
                                have HS2 := Lib.hid HT.out.drop1.drop1.drop1
                                have HV2 := HV9
                                clear hL9
                                go_wp2_with (fail)
                                go_roundg (gt.length + 1 - (j + 1))
                                case measure => exact ms9 hjl
                                case rel => exact ⟨j + 1, _, (by first | rw [hw8] | rfl), hjl, rfl, HS2, HV2, HL4⟩
                              | true =>
                                have HL4 := Lib.hid (show leftB n (gt.drop (j + 1)) (q.f0.drop (j + 1)) (bad lf.f1 7 f5) = some f4 from hL9)
                                clear hL9
                                go_wp2_with (fail)
                                refine (bad_walk hy lf.f1 7 f5 _ (at_put HT.out H.out.bel hx)).mono ?_
                                rintro e' w6 ⟨rfl, hD⟩
                                have HS2 := Lib.hid (Ck.call HT.out hD.only hD.blk).drop1.drop1.drop1
                                have HV2 := Lib.hid (own_only hD.only HV9.out HT.out.lc)
                                clear hD
                                go_wp2_with (fail)
                                go_roundg (gt.length + 1 - (j + 1))
                                case measure => exact ms9 hjl
                                case rel => exact ⟨j + 1, _, (by first | rw [hw8] | rfl), hjl, rfl, HS2, HV2, HL4⟩
                          | true =>
                            cases t0 with
                            | false =>
                              cases t1 with
                              | false =>
                                have HL4 := Lib.hid (show leftB n (gt.drop (j + 1)) (q.f0.drop (j + 1)) (bad lf.f1 7 f5) = some f4 from hL9)
                                clear hL9
                                go_wp2_with (fail)
                                refine (bad_walk hy lf.f1 7 f5 _ (at_put HT.out H.out.bel hx)).mono ?_
                                rintro e' w6 ⟨rfl, hD⟩
                                have HS2 := Lib.hid (Ck.call HT.out hD.only hD.blk).drop1.drop1.drop1
                                have HV2 := Lib.hid (own_only hD.only HV9.out HT.out.lc)
                                clear hD
                                go_wp2_with (fail)
                                go_roundg (gt.length + 1 - (j + 1))
                                case measure => exact ms9 hjl
                                case rel => exact ⟨j + 1, _, (by first | rw [hw8] | rfl), hjl, rfl, HS2, HV2, HL4⟩
                              | true =>
                                have HL4 := Lib.hid (show leftB n (gt.drop (j + 1)) (q.f0.drop (j + 1)) (bad lf.f1 7 f5) = some f4 from hL9)
                                clear hL9
                                go_wp2_with (fail)
                                refine (bad_walk hy lf.f1 7 f5 _ (at_put HT.out H.out.bel hx)).mono ?_
                                rintro e' w6 ⟨rfl, hD⟩
                                have HS2 := Lib.hid (Ck.call HT.out hD.only hD.blk).drop1.drop1.drop1
                                have HV2 := Lib.hid (own_only hD.only HV9.out HT.out.lc)
                                clear hD
                                go_wp2_with (fail)
                                go_roundg (gt.length + 1 - (j + 1))
                                case measure => exact ms9 hjl
                                case rel => exact ⟨j + 1, _, (by first | rw [hw8] | rfl), hjl, rfl, HS2, HV2, HL4⟩
                            | true =>
                              cases t1 with
                              | false =>
                                have HL4 := Lib.hid (show leftB n (gt.drop (j + 1)) (q.f0.drop (j + 1)) (bad lf.f1 7 f5) = some f4 from hL9)
                                clear hL9
                                go_wp2_with (fail)
                                refine (bad_walk hy lf.f1 7 f5 _ (at_put HT.out H.out.bel hx)).mono ?_
                                rintro e' w6 ⟨rfl, hD⟩
                                have HS2 := Lib.hid (Ck.call HT.out hD.only hD.blk).drop1.drop1.drop1
                                have HV2 := Lib.hid (own_only hD.only HV9.out HT.out.lc)
                                clear hD
                                go_wp2_with (fail)
                                go_roundg (gt.length + 1 - (j + 1))
                                case measure => exact ms9 hjl
                                case rel => exact ⟨j + 1, _, (by first | rw [hw8] | rfl), hjl, rfl, HS2, HV2, HL4⟩
                              | true =>
                                have HL4 := Lib.hid (show leftB n (gt.drop (j + 1)) (q.f0.drop (j + 1)) f5 = some f4 from hL9)
                                have HS2 := Lib.hid HT.out.drop1.drop1.drop1
                                have HV2 := HV9
                                clear hL9
                                go_wp2_with (fail)
                                go_roundg (gt.length + 1 - (j + 1))
                                case measure => exact ms9 hjl
                                case rel => exact ⟨j + 1, _, (by first | rw [hw8] | rfl), hjl, rfl, HS2, HV2, HL4⟩
                    · have j0 : ((j : Int) < (gt.length : Int)) = False := eq_false (by omega)
                      have j1 : decide ((j : Int) < (gt.length : Int)) = false := decide_eq_false (by omega)
                      have hL := HL.out
                      rw [List.drop_eq_nil_of_le hjg] at hL
                      obtain rfl : f5 = f4 := Option.some.inj hL
                      have HL2 := Lib.hid HG.out.2.2
                      clear HL HG hL
                      have HS2 := Lib.hid HS.out.drop1
                      go_wp2_with (fail)
                      go_roundg (n.f5.length + 1 - (i + 1))
                      case measure => exact ms9 hlt
                      case rel => exact ⟨i + 1, _, (by first | rw [hw9] | rfl), hlt, rfl, HS2, HL2⟩
                · have hd : n.f5.drop i = [] := List.drop_eq_nil_of_le hge
                  have hL := HL.out
                  rw [hd] at hL
                  obtain rfl : f' = r := Option.some.inj hL
                  have i0 : ((i : Int) < (n.f5.length : Int)) = False := eq_false (by omega)
                  have i1 : decide ((i : Int) < (n.f5.length : Int)) = false := decide_eq_false (by omega)
                  clear hd hi hge HL hL
                  go_wp2_with (fail)
                  go_end0
                  exact ⟨rfl, HS.out.only, HS.out.blk⟩
end Go.Proofs.YtjafllnbgfcchaaDoor.Ct
end
section
/- The checker of types: Check, walked. -/
namespace Go.Proofs.YtjafllnbgfcchaaDoor.Ct
set_option linter.unusedVariables false
set_option linter.unusedSimpArgs false
open Go Go.RowKit Go.Proofs.YtjafllnbgfcchaaDoorW.PrintWords Go.Proofs.YtjafllnbgfcchaaDoorW.PrintLast Go.Proofs.YtjafllnbgfcchaaDoorW.PrintMore Go.Proofs.YtjafllnbgfcchaaDoor.Lx Go.Proofs.YtjafllnbgfcchaaDoor.XK Go.Proofs.YtjafllnbgfcchaaDoor.Px Go.Proofs.YtjafllnbgfcchaaDoor.Ck
attribute [local go_sem ↓] Go.wp_at_zero Go.wp_at_succ
theorem node_at {w0 : World} {A : Option Addr} {l : List N} (h : Kd.C k34 w0 A l.length l) (i : Nat) (q : N) (hk : l[i]? = some q) : ∃ ad B2 b2 B3 b3 B4 b4 B5 b5, A = some ad ∧ w0.cell? (ad.add (i * 6)) = some (.string q.f0) ∧
  w0.cell? ⟨(ad.add (i * 6)).block, (ad.add (i * 6)).off + 1, none⟩ = some (.int .i64 q.f1) ∧ w0.cell? ⟨(ad.add (i * 6)).block, (ad.add (i * 6)).off + 2, none⟩ = some (.slice B2 q.f2.length b2) ∧
  w0.cell? ⟨(ad.add (i * 6)).block, (ad.add (i * 6)).off + 3, none⟩ = some (.slice B3 q.f3.length b3) ∧ w0.cell? ⟨(ad.add (i * 6)).block, (ad.add (i * 6)).off + 4, none⟩ = some (.slice B4 q.f4.length b4) ∧
  w0.cell? ⟨(ad.add (i * 6)).block, (ad.add (i * 6)).off + 5, none⟩ = some (.slice B5 q.f5.length b5) ∧ NdAt w0 q B2 b2 B3 b3 B4 b4 B5 b5 := by
 have hlt := (List.getElem?_eq_some_iff.1 hk).1
 obtain ⟨ad, B2, b2, B3, b3, B4, b4, B5, b5, e1, hx0, hx1, hx2, hx3, hx4, hx5, l2, g2, l3, g3, l4, g4, l5, g5⟩ := at_T34 h (i : Int) (by omega) (by omega)
 have hr : rd_T34 l (i : Int) = q := by
  unfold rd_T34
  simp [hk]
 rw [hr] at hx0 hx1 hx2 hx3 hx4 hx5 l2 g2 l3 g3 l4 g4 l5 g5
 simp only [Int.toNat_natCast] at hx0 hx1 hx2 hx3 hx4 hx5
 exact ⟨ad, B2, b2, B3, b3, B4, b4, B5, b5, e1, hx0, hx1, hx2, hx3, hx4, hx5, ⟨g2, l2, g3, l3, g4, l4, g5, l5⟩⟩
abbrev ctx0 (w : World) (A : Option Addr) (cap : Nat) (l : List N) (n : N) (B2 : Option Addr) (b2 : Nat) (B3 : Option Addr) (b3 : Nat) (B4 : Option Addr) (b4 : Nat) (B5 : Option Addr) (b5 : Nat) : Ctx := ⟨w, w.heap.size + 1, A, cap, l, n, B2, b2, B3, b3, B4, b4, B5, b5⟩
set_option maxHeartbeats 4000000 in
set_option maxRecDepth 100000 in
theorem check_walk (k : Nat) (l : List N) (A : Option Addr) (cap : Nat) (r : F) (w : World) (hl : Kd.C k34 w A l.length l) (hlc : l.length ≤ cap) (hr : check k l = some r) :
  Calls Tryd.prog 32 #[.slice A l.length cap] w fun e w' => e = .returned (.agg #[.int .i64 r.1, .int .i64 r.2]) ∧ Below w.heap.size w w' := by
 have hr : nodesB k l l true (0, 0) = some r := hr
 obtain ⟨W1, hW1⟩ : ∃ W, W = ((w.alloc (.cells #[.int .i64 0, .int .i64 0] 27 (0, 0))).alloc ((ctx0 w A cap l z34 none 0 none 0 none 0 none 0).obj (0, 0))) := ⟨_, rfl⟩
 have HW := Lib.hid hW1
 have HM := Lib.hid hl
 have HR := Lib.hid hr
 have HX : Hid ((ctx0 w A cap l z34 none 0 none 0 none 0 none 0).Ok) := Lib.hid ⟨Nat.le_succ _, hl, hlc, Kd.C_nil _ _, Nat.le_refl _, Kd.C_nil _ _, Nat.le_refl _, Kd.C_nil _ _, Nat.le_refl _, Kd.C_nil _ _, Nat.le_refl _, Nat.zero_le _⟩
 clear hl hlc hr
 go_enter Tryd.func32, Tryd.ntmps32
 go_wp2_with (fail)
 have HB : Hid (Below w.heap.size w W1) := Lib.hid (by rw [HW.out]; exact below_alloc (below_alloc (Below.refl _ _) _) _)
 have HS : Hid (Ck (w.heap.size + 1) W1 W1 ((ctx0 w A cap l z34 none 0 none 0 none 0 none 0).obj (0, 0)) []) := Lib.hid (Ck.start (by
  have h9 := blk_new (w.alloc (.cells #[.int .i64 0, .int .i64 0] 27 (0, 0))) ((ctx0 w A cap l z34 none 0 none 0 none 0 none 0).obj (0, 0))
  rw [World.size_alloc] at h9
  rw [HW.out]
  exact h9))
 have HRB : Hid (W1.heap[w.heap.size]? = some (.cells #[.int .i64 0, .int .i64 0] 27 (0, 0))) := Lib.hid (by
  rw [HW.out]
  exact blk_below (blk_new w _) (below_alloc (Below.refl _ _) _))
 have hW := HW.out
 change Code.wp _ _ _ _ ((w.alloc _).alloc ((ctx0 w A cap l z34 none 0 none 0 none 0 none 0).obj (0, 0)))
 rw [← hW]
 clear hW HW
 go_loopg [11] (l.length + 1) (fun m9 u wr => ∃ (i : Nat) (f' : F) (n : N) (B2 : Option Addr) (b2 : Nat) (B3 : Option Addr) (b3 : Nat) (B4 : Option Addr) (b4 : Nat) (B5 : Option Addr) (b5 : Nat), u = .int .i64 (i : Int) ∧ i ≤ l.length ∧ m9 = l.length + 1 - i ∧ Hid ((ctx0 w A cap l n B2 b2 B3 b3 B4 b4 B5 b5).Ok) ∧ Hid (Ck (w.heap.size + 1) W1 wr ((ctx0 w A cap l n B2 b2 B3 b3 B4 b4 B5 b5).obj f') []) ∧ Hid (nodesB k l (l.drop i) (i == 0) f' = some r))
 case atStart => exact ⟨0, (0, 0), z34, none, 0, none, 0, none, 0, none, 0, rfl, Nat.zero_le _, by simp, HX, HS, HR⟩
 case round =>
  obtain ⟨i, f', n, B2, b2, B3, b3, B4, b4, B5, b5, rfl, hi, rfl, HX', HS', HR'⟩ := hrel
  clear HX HS HR
  have HX := HX'
  have HS := HS'
  have HR := HR'
  clear HX' HS' HR'
  rcases Nat.lt_or_ge i l.length with hlt | hge
  ·obtain ⟨q, hdk, hdd⟩ := drop_at hlt
   obtain ⟨ad2, C2, c2, C3, c3, C4, c4, C5, c5, hA2, y0, y1, y2, y3, y4, y5, hq⟩ := node_at HM.out i q hdk
   have hb := Ck.old HS.out HB.out (Nat.le_succ _)
   replace y0 := pw_cell_below hb y0
   replace y1 := pw_cell_below hb y1
   replace y2 := pw_cell_below hb y2
   replace y3 := pw_cell_below hb y3
   replace y4 := pw_cell_below hb y4
   replace y5 := pw_cell_below hb y5
   have xl := World.block_lt_of_cell? _ _ y0
   have xn : ¬ ((ad2.add (i * 6)).block = wr.heap.size) := Nat.ne_of_lt xl
   have i0 : ((i : Int) < (l.length : Int)) = True := eq_true (by omega)
   have i1 : decide ((i : Int) < (l.length : Int)) = true := decide_eq_true (by omega)
   have i2 : (0 ≤ (i : Int)) = True := eq_true (by omega)
   have hw9 : wrap64 ((i : Int) + 1) = ((i + 1 : Nat) : Int) := by have h9 := HM.out.2.1; unfold maxLen at h9; unfold wrap64; omega
   have hL := HR.out
   rw [hdd] at hL
   obtain ⟨f1, hf1, hL⟩ := Option.bind_eq_some_iff.1 hL
   have HL := Lib.hid hL
   have HE := Lib.hid (And.intro hf1 hq)
   clear hb hdk hdd hL hf1 hq HR
   subst hA2
   have HT := Lib.hid (HS.out.new (q := ndO q C2 c2 C3 c3 C4 c4 C5 c5))
   have e9 : ((i : Int) == 0) = (i == 0) := by cases i <;> rfl
   go_wp2_with (fail)
   refine (node_walk HX.out k q C2 c2 C3 c3 C4 c4 C5 c5 (i == 0) f' f1 _ HE.out.2 ⟨HT.out.blk, Ck.old HT.out HB.out (Nat.le_succ _)⟩ HE.out.1).mono ?_
   rintro e' w7 ⟨rfl, hO, hk9⟩
   have hfew : ¬ 1000000 < q.f2.length + q.f3.length + q.f4.length := fun h9 => by
    have h8 := HE.out.1
    unfold node at h8
    rw [if_pos h9] at h8
    cases h8
   have HX2 := Lib.hid (HX.out.put HE.out.2 hfew)
   have HS2 := Lib.hid (Ck.call HT.out hO hk9).drop1
   clear hO hk9 hfew
   go_wp2_with (fail)
   go_roundg (l.length + 1 - (i + 1))
   case measure => exact ms9 hlt
   case rel => exact ⟨i + 1, f1, q, C2, c2, C3, c3, C4, c4, C5, c5, (by first | rw [hw9] | rfl), hlt, rfl, HX2, HS2, HL⟩
  ·have hd : l.drop i = [] := List.drop_eq_nil_of_le hge
   have hL := HR.out
   rw [hd] at hL
   obtain rfl : f' = r := Option.some.inj hL
   have i0 : ((i : Int) < (l.length : Int)) = False := eq_false (by omega)
   have i1 : decide ((i : Int) < (l.length : Int)) = false := decide_eq_false (by omega)
   obtain ⟨r0, r1, r2, r3, r4, r5, r6, r7, r8, rf⟩ := blk9 HS.out.blk
   have HRB2 : Hid (wr.heap[w.heap.size]? = some (.cells #[.int .i64 0, .int .i64 0] 27 (0, 0))) := Lib.hid (HS.out.only.blk HRB.out (Nat.ne_of_lt (Nat.lt_succ_self _)))
   have u0 := blk_cell HRB2.out 0
   have u1 := blk_cell HRB2.out 1
   have uf := fun j => blk_frozen HRB2.out j
   have ul := blk_lt HRB2.out
   clear hd hi hge HR hL
   have hbw := Ck.old HS.out HB.out (Nat.le_succ _)
   go_wp2_with (fail)
   refine bodyPost_ret (results_cell_row rfl _ _ w.heap.size 27 #[.int .i64 f'.1, .int .i64 f'.2] (0, 0) _ rfl (blk_set (blk_set HRB2.out 0 (.int .i64 f'.1)) 1 (.int .i64 f'.2)) Tryd.underlying27 rfl (by kernel_rfl)) rfl ?_
   exact ⟨rfl, (hbw.setCell (Nat.le_refl _) _).setCell (Nat.le_refl _) _⟩
end Go.Proofs.YtjafllnbgfcchaaDoor.Ct
end
