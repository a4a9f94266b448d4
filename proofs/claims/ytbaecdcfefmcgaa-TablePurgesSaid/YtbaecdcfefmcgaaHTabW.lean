import Derived.Test.YtbaecdcfefmcgaaPTbex0
import Derived.Test.YtbaecdcfefmcgaaHCopy
namespace Go.Proofs.Ytbaecdcfefmcgaa.HTabU
open Go.Lib Go.RowKit Go.Proofs.YtbaecdcfefmcgaaW.PrintWords Go.Proofs.YtbaecdcfefmcgaaW.PrintLast Go.Proofs.YtbaecdcfefmcgaaW.PrintMore Go.Proofs.Ytbaecdcfefmcgaa.PTbe Go.Proofs.Ytbaecdcfefmcgaa.HCopy Go.Proofs
set_option linter.unusedSimpArgs false
set_option linter.unusedVariables false
abbrev Ch := S99
def Typed (w : World) (cs : List Value) : Prop := ∀ A n c, cs[1]? = some (.slice A n c) → 0 < n → ∃ b o cur, A = some ⟨b, o, none⟩ ∧ w.heap[b]? = some (.cells cur 72 (0, 0)) ∧ o + n * 3 ≤ cur.size
theorem Typed.of_R {w : World} {base : Nat} {ok : Nat → Prop} {v : Value} {l : List S72} {s : Value} (h : k72.R 72 w base ok v l) : Typed w [s, v] := by
 intro A n c e hn
 injection e with e
 subst e
 obtain ⟨hl, _, _⟩ := Kd.R_reads' h
 obtain ⟨_, inner, ⟨hlen, hcase⟩, hr⟩ := h
 rcases hcase with ⟨h0, _⟩ | ⟨g', cap', cur, he, hbg, hg, hnc', hcm, hsz, ht⟩
 ·injection h0 with _ h0 _
  omega
 ·injection he with ha hn2 hc
  subst ha; subst hc
  have hs2 : cur.size = c * 3 := hsz
  exact ⟨g', 0, cur, rfl, hg, by omega⟩
theorem Typed.below {w w1 : World} {cs : List Value} (hb : Below w.heap.size w w1) (h : Typed w cs) : Typed w1 cs := by
 intro A n c e hn
 obtain ⟨b, o, cur, ea, hc, ho⟩ := h A n c e hn
 exact ⟨b, o, cur, ea, (hb.block b (Array.getElem?_eq_some_iff.1 hc).1).trans hc, ho⟩
def kU : Kd Ch where
 sz := 2
 E := k99.E
 K := fun w x cs => k99.K w x cs ∧ Typed w cs
 M := k99.M
 K_len := fun h => k99.K_len h.1
 K_one := fun h => k99.K_one h.1
 K_below := fun hb h => ⟨k99.K_below hb h.1, h.2.below hb⟩
 K_of_M := fun h => ⟨k99.K_of_M h, by
  obtain ⟨v, rfl, hR⟩ := k99_openM h
  exact Typed.of_R hR⟩
 M_mono := k99.M_mono
 M_bound := k99.M_bound
 M_move := k99.M_move
 M_lower := k99.M_lower
section
variable {w W : World} {base e : Nat} {ok : Nat → Prop} {v : Value} {xs : List Ch} {x : Ch} {c : List Value} {A : Option Addr} {n : Nat}
theorem S_U (h : Kd.S k99 e w base ok v xs) : Kd.S kU e w base ok v xs := h
theorem FK_of (h : Kd.FK kU W ok x c) : Kd.FK k99 W ok x c := fun W' hW => (h W' hW).1
theorem C_of (h : Kd.C kU w A n xs) : Kd.C k99 w A n xs := ReadsRow.imp_ h (Below.refl _ _) (fun _ _ hp => hp.1)
theorem N_of (h : Kd.N kU e w base ok v xs) : Kd.N k99 e w base ok v xs := by
 obtain ⟨h0, rows, hl, hR, hf⟩ := h
 exact ⟨h0, rows, hl, hR, fun j x c hx hc => FK_of (hf j x c hx hc)⟩
theorem v_away {α : Type} {d : Kd α} {e base n cc g : Nat} {ok : Nat → Prop} {W : World} {ad : Addr} {ys : List α} (h : Kd.V d e W base ok (.slice (some ad) n cc) ys) (hn : 0 < ys.length) (hs : 0 < d.sz) (hok : ∀ k, ok k → k ≠ g) : ad.block ≠ g := by
 obtain ⟨A, c, ev, hc, hF⟩ := h
 injection ev with ea
 subst ea
 obtain ⟨ad', _, ead, _, _, _, h2⟩ := Kd.F_get hF ys[0] 0 (by omega) (by omega)
 injection ead with ead
 subst ead
 exact hok _ (h2 hs)
theorem mkF (W : World) (ok : Nat → Prop) (x : Ch) {A1 : Option Addr} {c1 base : Nat} (h : k72.R 72 W base ok (.slice A1 x.f1.length c1) x.f1) : Kd.FK kU W ok x [.string x.f0, .slice A1 x.f1.length c1] := Kd.FK_of_M (d := kU) (base := base) (k99_mkM W base ok x h)
end
def Blk (W : World) (b : Nat) (t : TypeId) (m : Nat) : Prop := ∃ cur, W.heap[b]? = some (.cells cur t (0, 0)) ∧ m ≤ cur.size
theorem Blk.set {W : World} {b b' o : Nat} {t t0 : TypeId} {m m0 : Nat} (h : Blk W b t m) (h0 : Blk W b' t0 m0) (vs : List Value) (hv : o + vs.length ≤ m0) : Blk (W.setCells b' o vs) b t m := by
 obtain ⟨cur, hc, hm⟩ := h
 obtain ⟨cur0, hc0, hm0⟩ := h0
 by_cases e : b = b'
 ·subst e
  rw [hc] at hc0
  obtain ⟨cur', h3, h4, _⟩ := setCells_row vs o W cur hc (by injection hc0 with hc0; injection hc0 with e1 _ _; rw [e1]; omega)
  exact ⟨cur', h3, by omega⟩
 ·exact ⟨cur, (setCells_far vs o b e).trans hc, hm⟩
theorem Blk.cell {W : World} {b : Nat} {t : TypeId} {m : Nat} (h : Blk W b t m) (q : Nat) (hq : q < m) : (∃ v, W.cell? ⟨b, q, none⟩ = some v) ∧ W.frozen? ⟨b, q, none⟩ = false := by
 obtain ⟨cur, hc, hm⟩ := h
 refine ⟨⟨cur[q], ?_⟩, blk_frozen hc q⟩
 rw [blk_cell hc q, Array.getElem?_eq_getElem (by omega)]
theorem Blk.ne {W : World} {b b' : Nat} {t t' : TypeId} {m m' : Nat} (h : Blk W b t m) (h' : Blk W b' t' m') (ht : t ≠ t') : b ≠ b' := by
 rintro rfl
 obtain ⟨c, hc, _⟩ := h
 obtain ⟨c', hc', _⟩ := h'
 rw [hc] at hc'
 injection hc' with hc'
 injection hc' with _ e _
 exact ht e
structure Sp (w0 w W : World) (P : Nat → Prop) (g n i : Nat) : Prop where
 below : Below w0.heap.size w0 W
 kept : Kept w W P
 own : P g
 row : Blk W g 99 (n * 2)
 each : ∀ j, i ≤ j → j < n → ∃ s A m c, W.cell? ⟨g, j * 2, none⟩ = some (.string s) ∧ W.cell? ⟨g, j * 2 + 1, none⟩ = some (.slice A m c) ∧ m ≤ c ∧ m ≤ 9223372036854775807 ∧ (0 < m → ∃ b o, A = some ⟨b, o, none⟩ ∧ P b ∧ Blk W b 72 (o + m * 3))
section
variable {w0 w W : World} {P : Nat → Prop} {g n i : Nat} (hP : ∀ k, P k → w0.heap.size ≤ k)
include hP
theorem Sp.inner (h : Sp w0 w W P g n i) {b o m k : Nat} (hb : P b) (hB : Blk W b 72 (o + m * 3)) (hk : k < m) (vs : List Value) (hv : vs.length = 3) :
  Sp w0 w (W.setCells b (o + k * 3) vs) P g n i ∧ (∀ q, (W.setCells b (o + k * 3) vs).cell? ⟨g, q, none⟩ = W.cell? ⟨g, q, none⟩) := by
 have hlen : o + k * 3 + vs.length ≤ o + m * 3 := by omega
 have hgb : g ≠ b := h.row.ne hB (by decide)
 have hcell : ∀ q, (W.setCells b (o + k * 3) vs).cell? ⟨g, q, none⟩ = W.cell? ⟨g, q, none⟩ := fun q => World.cell?_setCells_out b vs _ W _ (fun e => absurd e hgb)
 refine ⟨⟨?_, ?_, h.own, h.row.set hB vs hlen, fun j h1 h2 => ?_⟩, hcell⟩
 ·obtain ⟨s1, s2, s3, s4⟩ := setCells_same b vs (o + k * 3) W
  exact h.below.trans ⟨s1, s2, s3, by rw [s4]; exact Nat.le_refl _, fun q hq => setCells_far vs _ q (by have := hP b hb; omega)⟩
 ·obtain ⟨s1, s2, s3, s4⟩ := setCells_same b vs (o + k * 3) W
  refine h.kept.then_ (S2 := fun k => k = b) ⟨by rw [s4]; exact Nat.le_refl _, fun q hq hn => setCells_far vs _ q hn⟩ (fun q hq => .inl (by rw [hq]; exact hb))
 ·obtain ⟨s, A, q, c, e1, e2, e3, e4, e5⟩ := h.each j h1 h2
  refine ⟨s, A, q, c, (hcell _).trans e1, (hcell _).trans e2, e3, e4, fun hq => ?_⟩
  obtain ⟨b', o', ea, hb', hB'⟩ := e5 hq
  exact ⟨b', o', ea, hb', hB'.set hB vs hlen⟩
theorem Sp.outer (h : Sp w0 w W P g n i) (hi : i < n) (vs : List Value) (hv : vs.length = 2) : Sp w0 w (W.setCells g (i * 2) vs) P g n (i + 1) := by
 have hlen : i * 2 + vs.length ≤ n * 2 := by omega
 have hcell : ∀ q, (i + 1) * 2 ≤ q → (W.setCells g (i * 2) vs).cell? ⟨g, q, none⟩ = W.cell? ⟨g, q, none⟩ := fun q hq => World.cell?_setCells_out g vs _ W _ (fun _ _ => .inr (by show i * 2 + vs.length ≤ q; omega))
 refine ⟨?_, ?_, h.own, h.row.set h.row vs hlen, fun j h1 h2 => ?_⟩
 ·obtain ⟨s1, s2, s3, s4⟩ := setCells_same g vs (i * 2) W
  exact h.below.trans ⟨s1, s2, s3, by rw [s4]; exact Nat.le_refl _, fun q hq => setCells_far vs _ q (by have := hP g h.own; omega)⟩
 ·obtain ⟨s1, s2, s3, s4⟩ := setCells_same g vs (i * 2) W
  refine h.kept.then_ (S2 := fun k => k = g) ⟨by rw [s4]; exact Nat.le_refl _, fun q hq hn => setCells_far vs _ q hn⟩ (fun q hq => .inl (by rw [hq]; exact h.own))
 ·obtain ⟨s, A, q, c, e1, e2, e3, e4, e5⟩ := h.each j (by omega) h2
  refine ⟨s, A, q, c, (hcell _ (by omega)).trans e1, (hcell _ (by omega)).trans e2, e3, e4, fun hq => ?_⟩
  obtain ⟨b', o', ea, hb', hB'⟩ := e5 hq
  exact ⟨b', o', ea, hb', hB'.set h.row vs hlen⟩
end
theorem Sp.start {w0 w : World} {P : Nat → Prop} {u : Value} {l : List Ch} (hB : Below w0.heap.size w0 w) (h : Kd.N kU 99 w w0.heap.size P u l) (hn : 0 < l.length) : ∃ g c, u = .slice (some ⟨g, 0, none⟩) l.length c ∧ l.length ≤ c ∧ c ≤ 9223372036854775807 ∧ Sp w0 w w P g l.length 0 := by
 obtain ⟨h0, rows, hlen, ⟨hok, inner, ⟨hil, hcase⟩, hr⟩, hf⟩ := h
 rcases hcase with ⟨rfl, he⟩ | ⟨g, cap, cur, rfl, hbg, hg, hnc, hcm, hsz, ht⟩
 ·exact absurd he (by omega)
 have hsz2 : cur.size = cap * 2 := hsz
 have ht2 : cur.toList.take (rows.length * 2) = inner := ht
 have hil2 : inner.length = rows.length * 2 := hil
 refine ⟨g, cap, by rw [hlen], by omega, by unfold maxLen at hcm; omega, hB, Kept.refl _ _, h0 g (by simp [Value.ownBlock]), ⟨cur, hg, by omega⟩, fun j _ hj => ?_⟩
 have hjr : j < rows.length := by omega
 have hfk := hf j l[j] rows[j] (List.getElem?_eq_getElem hj) (List.getElem?_eq_getElem hjr)
 have hrow := hr.2 j rows[j] (List.getElem?_eq_getElem hjr)
 obtain ⟨hc1, hc2, hc3⟩ := hrow
 obtain ⟨A1, c1, ec, hl1, hC1⟩ := k99_open (Kd.FK_now hfk).1
 have hT := (Kd.FK_now hfk).2
 obtain ⟨A2, c2, ec2, hl2, hF⟩ := k99_openF (FK_of hfk)
 rw [ec] at ec2
 injection ec2 with _ ec2
 injection ec2 with ec2
 injection ec2 with ec2 _ ec3
 subst ec2; subst ec3
 have hlm := hC1.2.1
 have hcell : ∀ q v, q < 2 → rows[j][q]? = some v → w.cell? ⟨g, j * 2 + q, none⟩ = some v := fun q v hq hv => by
  rw [blk_cell hg, ← hv, ← Array.getElem?_toList]
  have e1 : (inner.drop (j * 2)).take 2 = rows[j] := hc1
  rw [← e1, List.getElem?_take_of_lt hq, List.getElem?_drop, ← ht2, List.getElem?_take_of_lt (by omega)]
 refine ⟨_, A1, _, c1, hcell 0 _ (by omega) (by rw [ec]; rfl), hcell 1 _ (by omega) (by rw [ec]; rfl), hl1, by omega, fun hm => ?_⟩
 obtain ⟨b, o, cur', ea, hb, hs⟩ := hT A1 _ c1 (by rw [ec]; rfl) hm
 subst ea
 obtain ⟨ad, _, ead, _, _, _, hok2⟩ := Kd.F_get hF z72 0 (by omega) (by omega)
 injection ead with ead
 subst ead
 exact ⟨b, o, rfl, (hok2 (by decide)).1, cur', hb, hs⟩
theorem Sp.on {w0 w W W2 : World} {P : Nat → Prop} {g n i : Nat} (h : Sp w0 w W P g n i) (hb : Below W.heap.size W W2) : Sp w0 w W2 P g n i := by
 have mv : ∀ {b t m}, Blk W b t m → Blk W2 b t m := fun ⟨cur, hc, hm⟩ => ⟨cur, (hb.block _ (Array.getElem?_eq_some_iff.1 hc).1).trans hc, hm⟩
 refine ⟨h.below.trans (hb.mono h.below.size), h.kept.below hb, h.own, mv h.row, fun j h1 h2 => ?_⟩
 obtain ⟨s, A, q, c, e1, e2, e3, e4, e5⟩ := h.each j h1 h2
 refine ⟨s, A, q, c, (hb.cell (World.block_lt_of_cell? _ _ e1)).trans e1, (hb.cell (World.block_lt_of_cell? _ _ e2)).trans e2, e3, e4, fun hq => ?_⟩
 obtain ⟨b', o', ea, hb', hB'⟩ := e5 hq
 exact ⟨b', o', ea, hb', mv hB'⟩
theorem box_set {W : World} {gb b o : Nat} {cs : Array Value} (h : W.heap[gb]? = some (.cells cs 47 (0, 0))) {t m} (hB : Blk W b t m) (ht : t ≠ 47) (vs : List Value) : (W.setCells b o vs).heap[gb]? = some (.cells cs 47 (0, 0)) :=
 (setCells_far vs o gb (fun e => by
  subst e
  obtain ⟨cur, hc, _⟩ := hB
  rw [hc] at h
  injection h with h
  injection h with _ e _
  exact ht e)).trans h
set_option maxHeartbeats 4000000 in
set_option maxRecDepth 100000 in
theorem spoil_calls (P : Nat → Prop) (u : Value) (l : List Ch) (w0 w : World) (hB : Below w0.heap.size w0 w) (hP : ∀ k, P k → w0.heap.size ≤ k) (ho : Kd.N kU 99 w w0.heap.size P u l) :
  Calls Try.prog 87 #[.agg #[u]] w fun e w' => e = .returned (.tuple #[]) ∧ Below w0.heap.size w0 w' ∧ Kept w w' P := by
 have hu := Try.underlying47
 rcases Nat.eq_zero_or_pos l.length with h0 | hn
 ·obtain ⟨A, c, rfl⟩ := Kd.N_slice ho
  rw [h0]
  have HB := Aside0.mk hB
  clear ho h0 hB
  go_enter Try.func87, Try.ntmps87
  go_wp2_with (first | ((with_reducible refine gate_dst (N := 1) rfl ?_); refine bx_ (N := 1) (cs := #[.slice A 0 c]) (t := 47) (h := ?_); intro gb hg w5 hbox hb; have HB5 := Aside0.mk hb; have HX5 := mk0 hbox; clear hb hbox hg))
  go_loopg [2] 0 (fun kq v2 w' => v2 = .int .i64 0 ∧ Aside0 (Below w.heap.size w w') ∧ Fc (w'.heap[gb]? = some (.cells #[.slice A 0 c] 47 (0, 0))))
  case atStart => exact ⟨rfl, HB5, HX5⟩
  case round =>
   clear HB5 HX5
   obtain ⟨rfl, HB5, HX5⟩ := hrel
   obtain ⟨hc0, hf0⟩ := c1_ HX5
   go_wp2
   first | go_end0 | ((try simp only [Exit.inBlock, Exit.then]); refine bodyPost_ret (results_none rfl _ _ _) rfl ?_)
   exact ⟨rfl, HB.out.trans (HB5.out.mono HB.out.size), Kept.of_below HB5.out _⟩
 ·obtain ⟨g, c, rfl, hnc, hcm, hS⟩ := Sp.start hB ho hn
  clear ho hB
  generalize l.length = n at *
  have HP := Aside0.mk hP
  have HS := Aside0.mk hS
  clear hP hS
  go_enter Try.func87, Try.ntmps87
  go_wp2_with (first | ((with_reducible refine gate_dst (N := 1) rfl ?_); refine bx_ (N := 1) (cs := #[.slice (some ⟨g, 0, none⟩) n c]) (t := 47) (h := ?_); intro gb hg w5 hbox hb; have HS5 := Aside0.mk (HS.out.on hb); have HX5 := mk0 hbox; clear hb hbox hg HS))
  go_loopg [2] n (fun kq v2 w' => ∃ i : Nat, v2 = .int .i64 i ∧ Aside0 (kq + i = n) ∧ Aside0 (Sp w0 w w' P g n i) ∧ Fc (w'.heap[gb]? = some (.cells #[.slice (some ⟨g, 0, none⟩) n c] 47 (0, 0))))
  case atStart => exact ⟨0, rfl, ⟨by omega⟩, HS5, HX5⟩
  case round =>
   clear HS5 HX5
   obtain ⟨i, rfl, HK, HS, HX⟩ := hrel
   obtain ⟨gq, hgq⟩ : ∃ gq, gq = gk - 1 := ⟨_, rfl⟩
   have HGQ := Aside0.mk hgq
   clear hgq
   by_cases hi : i < n
   ·have p1 : (0 : Int) ≤ (i : Int) := by omega
    have q1 : (i : Int) < (n : Int) := by omega
    obtain ⟨s, A, m, c2, e1, e2, hmc, hm, _⟩ := HS.out.each i (Nat.le_refl _) hi
    have E2 := Aside0.mk e2
    obtain ⟨hc0, hf0⟩ := c1_ HX
    go_wp2
    go_loopg [3] m (fun kq3 v3 w' => ∃ k : Nat, v3 = .int .i64 k ∧ Aside0 (kq3 + k = m) ∧ Aside0 (Sp w0 w w' P g n i) ∧ Fc (w'.heap[gb]? = some (.cells #[.slice (some ⟨g, 0, none⟩) n c] 47 (0, 0))) ∧ Aside0 (w'.cell? ⟨g, i * 2 + 1, none⟩ = some (.slice A m c2)))
    case atStart => exact ⟨0, rfl, ⟨by omega⟩, HS, HX, E2⟩
    case round =>
     clear e1 e2 E2 HS HX hc0 hf0
     obtain ⟨k, rfl, HK3, HS, HX, E2⟩ := hrel
     obtain ⟨hc0, hf0⟩ := c1_ HX
     have e2 := E2.out
     by_cases hk : k < m
     ·have p3 : (0 : Int) ≤ (k : Int) := by omega
      have q3 : (k : Int) < (m : Int) := by omega
      obtain ⟨_, A', m', c', _, e2', _, _, hb⟩ := HS.out.each i (Nat.le_refl _) hi
      rw [e2] at e2'
      injection e2' with e2'
      injection e2' with ea em ec
      subst ea; subst em; subst ec
      obtain ⟨b, o, rfl, hPb, hBb⟩ := hb (by omega)
      obtain ⟨⟨v0, g0⟩, f0⟩ := hBb.cell (o + k * 3) (by omega)
      obtain ⟨⟨v1, g1⟩, f1⟩ := hBb.cell (o + k * 3 + 1) (by omega)
      obtain ⟨⟨v2, g2⟩, f2⟩ := hBb.cell (o + k * 3 + 2) (by omega)
      have hin := HS.out.inner HP.out hPb hBb hk [.int .i64 (-9), .string ⟨#[]⟩, .bool false] rfl
      have HIN := Aside0.mk hin
      have HBX := Aside0.mk (box_set (o := o + k * 3) HX.out hBb (by decide) [.int .i64 (-9), .string ⟨#[]⟩, .bool false])
      clear hin hPb hBb hb
      go_wp2
      go_roundg (gk - 1)
      case measure => have := HK3.out; omega
      case rel => exact ⟨k + 1, by go_num, ⟨by have := HK3.out; omega⟩, ⟨HIN.out.1⟩, ⟨HBX.out⟩, ⟨(HIN.out.2 _).trans E2.out⟩⟩
     ·have q3 : ¬ ((k : Int) < (m : Int)) := by omega
      obtain ⟨⟨v0, g0⟩, f0⟩ := HS.out.row.cell (i * 2) (by omega)
      obtain ⟨⟨v1, g1⟩, f1⟩ := HS.out.row.cell (i * 2 + 1) (by omega)
      have HIN := Aside0.mk (HS.out.outer HP.out hi [.string ⟨#[115, 112, 111, 105, 108, 116]⟩, .slice none 0 0] rfl)
      have HBX := Aside0.mk (box_set (o := i * 2) HX.out HS.out.row (by decide) [.string ⟨#[115, 112, 111, 105, 108, 116]⟩, .slice none 0 0])
      go_wp2
      go_roundg gq
      case measure => have := HK.out; have := HGQ.out; omega
      case rel => exact ⟨i + 1, by go_num, ⟨by have := HK.out; have := HGQ.out; omega⟩, ⟨HIN.out⟩, ⟨HBX.out⟩⟩
   ·have q1 : ¬ ((i : Int) < (n : Int)) := by omega
    obtain ⟨hc0, hf0⟩ := c1_ HX
    go_wp2
    first | go_end0 | ((try simp only [Exit.inBlock, Exit.then]); refine bodyPost_ret (results_none rfl _ _ _) rfl ?_)
    exact ⟨rfl, HS.out.below, HS.out.kept⟩
end Go.Proofs.Ytbaecdcfefmcgaa.HTabU
namespace Go.Proofs.Ytbaecdcfefmcgaa.HTabU
open Go.Lib Go.RowKit Go.Proofs.YtbaecdcfefmcgaaW.PrintWords Go.Proofs.YtbaecdcfefmcgaaW.PrintLast Go.Proofs.YtbaecdcfefmcgaaW.PrintMore Go.Proofs.Ytbaecdcfefmcgaa.PTbe Go.Proofs
set_option linter.unusedSimpArgs false
set_option linter.unusedVariables false
section
variable {w W W1 V : World} {B : Nat → Prop} {ux ui uw v : Value} {xs xi xw : List Ch}
def Born (w W : World) (B : Nat → Prop) (ux : Value) (xs : List Ch) (ui : Value) (xi : List Ch) : Prop :=
 ∃ h1 h2, w.heap.size ≤ h1 ∧ (h1 ≤ h2 ∧ h2 ≤ W.heap.size) ∧ (∀ k, B k → k < h1) ∧ Kd.N kU 99 W w.heap.size (fun k => h1 ≤ k ∧ k < h2) ux xs ∧ Kd.N k99 99 W w.heap.size (fun k => k < h1 ∧ ¬ B k) ui xi
def Apart (w W : World) (B : Nat → Prop) (ux : Value) (xs : List Ch) (ui : Value) (xi : List Ch) (uw : Value) (xw : List Ch) : Prop :=
 ∃ h1 h2, w.heap.size ≤ h1 ∧ h1 ≤ W.heap.size ∧ (∀ k, B k → k < h1) ∧ Kd.N kU 99 W w.heap.size (fun k => h1 ≤ k ∧ k < h2) ux xs ∧ Kd.N k99 99 W w.heap.size (fun k => k < h1 ∧ ¬ B k) ui xi ∧ Kd.N k99 99 W w.heap.size (fun k => (k < h1 ∨ h2 ≤ k) ∧ ¬ B k) uw xw
theorem Born.make {okx : Nat → Prop} (hx : Kd.N kU 99 W1 W.heap.size okx v xs) (hok : ∀ k, okx k → W.heap.size ≤ k) (hb : Below W.heap.size W W1) (hle : w.heap.size ≤ W.heap.size) (hbox : ∀ k, B k → k < W.heap.size) {okI : Nat → Prop} (hin : Kd.N k99 99 W w.heap.size okI ui xi) (hno : ∀ k, okI k → ¬ B k) : Born w W1 B v xs ui xi :=
 ⟨W.heap.size, W1.heap.size, hle, ⟨hb.size, Nat.le_refl _⟩, hbox, Kd.N_lower (Kd.N_mono (Kd.N_bound hx) (fun k hk => ⟨hok k hk.1, hk.2⟩)) hle, Kd.N_mono (Kd.N_old hin hb) (fun k hk => ⟨hk.2, hno k hk.1⟩)⟩
theorem Born.make_S (ho : Kd.S k99 99 W1 W.heap.size (fun _ => True) v xs) (hb : Below W.heap.size W W1) (hle : w.heap.size ≤ W.heap.size) (hbox : ∀ k, B k → k < W.heap.size) {okI : Nat → Prop} (hin : Kd.N k99 99 W w.heap.size okI ui xi) (hno : ∀ k, okI k → ¬ B k) : Born w W1 B v xs ui xi :=
 Born.make (Kd.S_N (S_U (Kd.S_bound ho))) (fun k hk => hk.2.1) hb hle hbox hin hno
theorem Born.make_N (ho : Kd.N kU 99 W1 W.heap.size (fun k => W.heap.size ≤ k) v xs) (hb : Below W.heap.size W W1) (hle : w.heap.size ≤ W.heap.size) (hbox : ∀ k, B k → k < W.heap.size) {okI : Nat → Prop} (hin : Kd.N k99 99 W w.heap.size okI ui xi) (hno : ∀ k, okI k → ¬ B k) : Born w W1 B v xs ui xi :=
 Born.make ho (fun k hk => hk) hb hle hbox hin hno
theorem Born.below (h : Born w W B ux xs ui xi) (hb : Below W.heap.size W W1) : Born w W1 B ux xs ui xi := by
 obtain ⟨h1, h2, a, b, c, d, e⟩ := h
 exact ⟨h1, h2, a, ⟨b.1, Nat.le_trans b.2 hb.size⟩, c, Kd.N_below d hb, Kd.N_below e hb⟩
theorem Born.set (h : Born w W B ux xs ui xi) {p : Addr} (hp : B p.block) (u : Value) : Born w (W.setCell p u) B ux xs ui xi := by
 obtain ⟨h1, h2, a, b, c, d, e⟩ := h
 exact ⟨h1, h2, a, ⟨b.1, by simpa [World.setCell] using b.2⟩, c, Kd.N_far d (fun k hk => by have := c _ hp; omega) u, Kd.N_far e (fun k hk e => hk.2 (e ▸ hp)) u⟩
theorem born_ (h : Fc (Born w W B ux xs ui xi)) [k : At_ W V] : Born w V B ux xs ui xi := h.out.below k.out
theorem bset_ {p : Addr} {u : Value} [s : St_ V W p u] (h : Born w W B ux xs ui xi) (hp : B p.block) : Born w V B ux xs ui xi := (h.set hp u).below s.out
theorem Apart.of_S (h : Born w W B ux xs ui xi) (ho : Kd.S k99 99 W1 W.heap.size (fun _ => True) v xw) (hb : Below W.heap.size W W1) : Apart w W1 B ux xs ui xi v xw := by
 obtain ⟨h1, h2, a, b, c, d, e⟩ := h
 exact ⟨h1, h2, a, by have := hb.size; omega, c, Kd.N_below d hb, Kd.N_below e hb, Kd.N_lower (Kd.N_mono (Kd.S_N (Kd.S_bound ho)) (fun k hk => ⟨.inr (Nat.le_trans b.2 hk.2.1), fun hB => by have := c k hB; have := hk.2.1; omega⟩)) (by omega)⟩
theorem Apart.of_N (h : Born w W B ux xs ui xi) (hB : ∀ k, B k → w.heap.size ≤ k) {P : Nat → Prop} (ho : Kd.N k99 99 W1 W.heap.size (fun k => (P k ∧ k < w.heap.size) ∨ W.heap.size ≤ k) v xw) (hb : Below W.heap.size W W1) : Apart w W1 B ux xs ui xi v xw := by
 obtain ⟨h1, h2, a, b, c, d, e⟩ := h
 refine ⟨h1, h2, a, by have := hb.size; omega, c, Kd.N_below d hb, Kd.N_below e hb, Kd.N_lower (Kd.N_mono ho (fun k hk => ?_)) (by omega)⟩
 rcases hk with hk | hk
 ·exact ⟨.inl (by omega), fun h => by have := hB k h; omega⟩
 ·exact ⟨.inr (by omega), fun h => by have := c k h; omega⟩
theorem Apart.nil (h : Born w W B ux xs ui xi) : Apart w W B ux xs ui xi (.slice none 0 0) [] := by
 obtain ⟨h1, h2, a, b, c, d, e⟩ := h
 exact ⟨h1, h2, a, by omega, c, d, e, Kd.N_nil _ _ _ _ _⟩
theorem Apart.below (h : Apart w W B ux xs ui xi uw xw) (hb : Below W.heap.size W W1) : Apart w W1 B ux xs ui xi uw xw := by
 obtain ⟨h1, h2, a, b, c, d, e, f⟩ := h
 exact ⟨h1, h2, a, by have := hb.size; omega, c, Kd.N_below d hb, Kd.N_below e hb, Kd.N_below f hb⟩
theorem Apart.set (h : Apart w W B ux xs ui xi uw xw) {p : Addr} (hp : B p.block) (u : Value) : Apart w (W.setCell p u) B ux xs ui xi uw xw := by
 obtain ⟨h1, h2, a, b, c, d, e, f⟩ := h
 exact ⟨h1, h2, a, by simpa [World.setCell] using b, c, Kd.N_far d (fun k hk => by have := c _ hp; omega) u, Kd.N_far e (fun k hk e => hk.2 (e ▸ hp)) u, Kd.N_far f (fun k hk e => hk.2 (e ▸ hp)) u⟩
theorem ap_ (h : Fc (Apart w W B ux xs ui xi uw xw)) [k : At_ W V] : Apart w V B ux xs ui xi uw xw := h.out.below k.out
theorem aset_ {p : Addr} {u : Value} [s : St_ V W p u] (h : Apart w W B ux xs ui xi uw xw) (hp : B p.block) : Apart w V B ux xs ui xi uw xw := (h.set hp u).below s.out
theorem box6 {a b c d e f n : Nat} (h1 : a < n) (h2 : b < n) (h3 : c < n) (h4 : d < n) (h5 : e < n) (h6 : f < n) : ∀ k, (k = a ∨ k = b ∨ k = c ∨ k = d ∨ k = e ∨ k = f) → k < n := fun k hk => by omega
theorem box6g {a b c d e f n : Nat} (h1 : n ≤ a) (h2 : n ≤ b) (h3 : n ≤ c) (h4 : n ≤ d) (h5 : n ≤ e) (h6 : n ≤ f) : ∀ k, (k = a ∨ k = b ∨ k = c ∨ k = d ∨ k = e ∨ k = f) → n ≤ k := fun k hk => by omega
theorem spoil_apart (h : Apart w W B ux xs ui xi uw xw) (hB : Below w.heap.size w W) :
  Calls Try.prog 87 #[.agg #[ux]] W fun e w' => e = .returned (.tuple #[]) ∧ Below w.heap.size w w' ∧ (∀ g, B g → g < W.heap.size → w'.heap[g]? = W.heap[g]?) ∧ Kd.N k99 99 w' w.heap.size (fun k => ¬ B k) ui xi ∧ Kd.N k99 99 w' w.heap.size (fun k => ¬ B k) uw xw := by
 obtain ⟨h1, h2, a, b, c, d, e, f⟩ := h
 refine (spoil_calls (fun k => h1 ≤ k ∧ k < h2) ux xs w W hB (fun k hk => by omega) d).mono ?_
 rintro r w' ⟨rfl, hb, hk⟩
 exact ⟨rfl, hb, fun g hg hlt => hk.2 g hlt (fun hS => by have := c g hg; omega), Kd.N_mono (Kd.N_kept e hk (fun k hk hS => by omega)) (fun k hk => hk.2), Kd.N_mono (Kd.N_kept f hk (fun k hk hS => by omega)) (fun k hk => hk.2)⟩
theorem keepBox {g : Nat} {t : TypeId} {cs : Array Value} (hk : ∀ g, B g → g < W.heap.size → W1.heap[g]? = W.heap[g]?) (h : W.heap[g]? = some (.cells cs t (0, 0))) (hg : B g) : W1.heap[g]? = some (.cells cs t (0, 0)) := (hk g hg (blk_lt h)).trans h
end
end Go.Proofs.Ytbaecdcfefmcgaa.HTabU
