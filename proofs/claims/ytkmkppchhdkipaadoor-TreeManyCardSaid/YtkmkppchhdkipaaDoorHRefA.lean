/- quorumref6: leaf (printed for a function of the same operations, turned onto the real one by mkref.py). -/
import Derived.Test.YtkmkppchhdkipaaDoorPTrx33
import Derived.Test.YtkmkppchhdkipaaDoorHTr0
import Derived.Test.YtkmkppchhdkipaaDoorShelf
namespace Go.Proofs.YtkmkppchhdkipaaDoor.HRef
open Go.Lib Go.RowKit Go.Proofs.YtkmkppchhdkipaaDoorW.PrintWords Go.Proofs.YtkmkppchhdkipaaDoorW.PrintLast Go.Proofs.YtkmkppchhdkipaaDoorW.PrintMore Go.Proofs.YtkmkppchhdkipaaDoor.PTr Go.Proofs
set_option linter.unusedSimpArgs false
set_option linter.unusedVariables false
/-- All that is neither the walk's box nor a row of bools nor one of rows stands. -/
structure Fr (W W' : World) (gb : Nat) : Prop where
  size : W.heap.size ≤ W'.heap.size
  keep : ∀ (g : Nat) (t : TypeId) (cs : Array Value), g ≠ gb → t ≠ 4 → t ≠ 41 → W.heap[g]? = some (.cells cs t (0, 0)) → W'.heap[g]? = some (.cells cs t (0, 0))
theorem Fr.refl (W : World) (gb : Nat) : Fr W W gb := ⟨Nat.le_refl _, fun _ _ _ _ _ _ h => h⟩
theorem Fr.trans {W W1 W2 : World} {gb : Nat} (h : Fr W W1 gb) (k : Fr W1 W2 gb) : Fr W W2 gb := ⟨Nat.le_trans h.size k.size, fun g t cs a b c e => k.keep g t cs a b c (h.keep g t cs a b c e)⟩
theorem fb_ {W W1 W2 : World} {gb : Nat} (h : Fr W W1 gb) (k : Below W1.heap.size W1 W2) : Fr W W2 gb := ⟨Nat.le_trans h.size k.size, fun g t cs a b c e => blk_below (h.keep g t cs a b c e) k⟩
theorem fh_ {W W1 W2 : World} {gb : Nat} (h : Fc (Fr W W1 gb)) [k : At_ W1 W2] : Fr W W2 gb := fb_ h.out k.out
theorem fu_ {W W1 W2 W3 : World} {gb : Nat} (h : Fc (Fr W W1 gb)) (hb : Below W2.heap.size W2 W3) [k : At_ W1 W2] : Fr W W3 gb := fb_ (fb_ h.out k.out) hb
theorem fd_ {W W1 : World} {gb : Nat} (h : Fr W W1 gb) : Fr W W1.drew gb := fb_ h (below_drew (Below.refl _ _))
theorem fat_ {W W1 W2 : World} {gb m : Nat} (hq : W1.drewN m = W2) (h : Fr W W1 gb) : Fr W W2 gb := by subst hq; exact fb_ h (pw_below_drewN (Below.refl _ _) m)
theorem fz_ {W W1 W2 : World} {gb g : Nat} (h : Fc (Fr W W1 gb)) (e : g = W2.heap.size) [k : At_ W1 W2] : W.heap.size ≤ g := by rw [e]; exact Nat.le_trans h.out.size k.out.size
theorem sz_set (w : World) (p : Addr) (u : Value) : (w.setCell p u).heap.size = w.heap.size := by simp [World.setCell]
theorem ff_ {W w1 W2 : World} {gb i : Nat} {u : Value} [s : St_ W2 w1 ⟨gb, i, none⟩ u] (h : Fr W w1 gb) : Fr W W2 gb := ⟨Nat.le_trans h.size (by have := s.out.size; rwa [sz_set] at this), fun g t cs a b c e => fa_ (h.keep g t cs a b c e) a⟩
theorem fg_ {W W1 W2 : World} {gb : Nat} {v : Value} {e : Nat} (h : Fr W W1 gb) (hg : W1.grownBy W2 v.ownBlock) (ht : ∀ k, v.ownBlock = some k → ∃ cells, W1.heap[k]? = some (.cells cells e (0, 0))) (he : e = 4 ∨ e = 41) : Fr W W2 gb := ⟨Nat.le_trans h.size hg.size, fun g t cs a b c hh =>
  blk_grown (h.keep g t cs a b c hh) hg (fun hk => by
    obtain ⟨cells, hc⟩ := ht g hk.symm
    rw [h.keep g t cs a b c hh] at hc
    simp only [Option.some.injEq, Obj.cells.injEq] at hc
    rcases he with rfl | rfl
    · exact b hc.2.1
    · exact c hc.2.1)⟩
theorem fs_ {W w1 W2 : World} {gb g i : Nat} {u : Value} [s : St_ W2 w1 ⟨g, i, none⟩ u] (h : Fr W w1 gb) (hg : W.heap.size ≤ g) : Fr W W2 gb := ⟨Nat.le_trans h.size (by have := s.out.size; rwa [sz_set] at this), fun g2 t cs a b c hh =>
  fa_ (h.keep g2 t cs a b c hh) (by have := (Array.getElem?_eq_some_iff.1 hh).1; show g2 ≠ g; omega)⟩
theorem info41 : (Tryd.prog.info? 41).map (fun i => (i.zero, i.size, i.bytes)) = some (some (.agg #[(.string ⟨#[]⟩), (.string ⟨#[]⟩)]), 2, 32) := by kernel_rfl
/-! ### strconv_Itoa_85: function 85 (by hand) -/
def strconv_Itoa_85.f (a0 : Int) : Option (ByteArray) := if 0 ≤ a0 ∧ a0 < 100 then some (⟨(Lib.decDigits a0.toNat).toArray⟩ : ByteArray) else none
theorem strconv_Itoa_85.calls (a0 : Int) (r : ByteArray) (w : World) (h : strconv_Itoa_85.f a0 = some r) : Calls Tryd.prog 85 #[.int .i64 a0] w fun e w' => e = .returned (.string r) ∧ Below w.heap.size w w' := by
  unfold strconv_Itoa_85.f at h
  split at h
  · rename_i hb
    obtain rfl := Option.some.inj h
    have hc := Go.Proofs.Any.strconv_Itoa_small Tryd.itoa a0.toNat (by omega) w
    change Calls Tryd.prog 85 _ _ _ at hc
    rw [show ((a0.toNat : Nat) : Int) = a0 from Int.toNat_of_nonneg hb.1] at hc
    refine hc.mono ?_
    rintro e w' ⟨rfl, rfl⟩
    exact ⟨rfl, Below.refl _ _⟩
  · cases h


/-! ### quorumref6_walk_leaf: function 81 -/
mutual
noncomputable def quorumref6_walk_leaf.j0 : Nat → Int → List (S85) → Int → List Int → List Bool → Int → List (S41) → Bool → List ByteArray → List Int → List Int → Bool → Option (Int × List (S41) × Bool)
 | 0, _, _, _, _, _, _, _, _, _, _, _, _ => none
 | k + 1, x2, x110000, x110001, x110002, x110003, x110004, x110005, x110006, x117000, x117001, x117002, x117003 => if x110004 = x2 then (if (x117002.length : Int) > 0 then (quorumref6_walk_leaf.j1 k true x110000 x110001 x110002 x110003 x110004 x110005 x110006 x117000 x117001 x117002 x117003) else (quorumref6_walk_leaf.j1 k ((x117001.length : Int) != (x117000.length : Int)) x110000 x110001 x110002 x110003 x110004 x110005 x110006 x117000 x117001 x117002 x117003)) else (quorumref6_walk_leaf.j1 k true x110000 x110001 x110002 x110003 x110004 x110005 x110006 x117000 x117001 x117002 x117003)
noncomputable def quorumref6_walk_leaf.j1 : Nat → Bool → List (S85) → Int → List Int → List Bool → Int → List (S41) → Bool → List ByteArray → List Int → List Int → Bool → Option (Int × List (S41) × Bool)
 | 0, _, _, _, _, _, _, _, _, _, _, _, _ => none
 | k + 1, x36, x110000, x110001, x110002, x110003, x110004, x110005, x110006, x117000, x117001, x117002, x117003 => if x36 = true then (some (x110004, x110005, true)) else (quorumref6_walk_leaf.l0 k 0 x110000 x110001 x110002 x110003 x110004 x110005 x110006 x117000 x117001 x117002 x117003)
noncomputable def quorumref6_walk_leaf.l0 : Nat → Int → List (S85) → Int → List Int → List Bool → Int → List (S41) → Bool → List ByteArray → List Int → List Int → Bool → Option (Int × List (S41) × Bool)
 | 0, _, _, _, _, _, _, _, _, _, _, _, _ => none
 | k + 1, x6, x110000, x110001, x110002, x110003, x110004, x110005, x110006, x117000, x117001, x117002, x117003 => if x6 < (x117000.length : Int) then (if 0 ≤ x6 then ((quorumref1_Key.f (rdOf ByteArray.empty x117000 x6)).bind fun t118 => (if t118 = true then (if x6 < (x117001.length : Int) then ((quorumref0_Num.f (rd x117001 x6) 1073741824).bind fun t120 => (quorumref6_walk_leaf.j3 k x6 (!t120) x110000 x110001 x110002 x110003 x110004 x110005 x110006 x117000 x117001 x117002 x117003)) else (none)) else (quorumref6_walk_leaf.j3 k x6 true x110000 x110001 x110002 x110003 x110004 x110005 x110006 x117000 x117001 x117002 x117003))) else (none)) else (some (x110004, x110005, x110006))
noncomputable def quorumref6_walk_leaf.j3 : Nat → Int → Bool → List (S85) → Int → List Int → List Bool → Int → List (S41) → Bool → List ByteArray → List Int → List Int → Bool → Option (Int × List (S41) × Bool)
 | 0, _, _, _, _, _, _, _, _, _, _, _, _, _ => none
 | k + 1, x6, x62, x110000, x110001, x110002, x110003, x110004, x110005, x110006, x117000, x117001, x117002, x117003 => if x62 = true then (some (x110004, x110005, true)) else (if 0 ≤ x6 then (if x6 < (x117000.length : Int) then (if x6 < (x117001.length : Int) then ((strconv_Itoa_85.f (rd x117001 x6)).bind fun t123 => (if x110005.length < 4398046511104 then (quorumref6_walk_leaf.l0 k (wrap64 (x6 + 1)) x110000 x110001 x110002 x110003 x110004 (x110005 ++ [(⟨rdOf ByteArray.empty x117000 x6, t123⟩ : S41)]) x110006 x117000 x117001 x117002 x117003) else (none))) else (none)) else (none)) else (none))
end
noncomputable def quorumref6_walk_leaf.f (k : Nat) (l0_0 : List (S85)) (a0_1 : Int) (l0_2 : List Int) (S : List Bool) (a0_4 : Int) (R : List (S41)) (a0_6 : Bool) (l1_0 : List ByteArray) (l1_1 l1_2 : List Int) (a1_3 : Bool) (a2 : Int) : Option (Int × List (S41) × Bool) := if a0_4 = 0 then (quorumref6_walk_leaf.j0 k a2 l0_0 a0_1 l0_2 S a2 R a0_6 l1_0 l1_1 l1_2 a1_3) else (quorumref6_walk_leaf.j0 k a2 l0_0 a0_1 l0_2 S a0_4 R a0_6 l1_0 l1_1 l1_2 a1_3)
noncomputable def quorumref6_walk_leaf.T10 : Bool × List (List Nat × List Nat) := (true, [([], []), ([], []), ([1], [1]), ([2], [2]), ([3], [3]), ([], []), ([5], [5]), ([], []), ([6, 7], [6, 7]), ([8], [8]), ([], []), ([10], [10]), ([], []), ([11, 12], [11, 12]), ([13], [13]), ([14], [14]), ([9, 15], [9, 15]), ([16], [16]), ([4, 17, 15], [4, 17]), ([0, 0, 1, 2, 3, 4, 5, 6, 7, 8, 9, 10, 11, 12, 13, 14, 15, 16, 17, 18], [0]), ([19, 0, 1, 2, 3, 4, 5, 6, 7, 8, 9, 10, 11, 12, 13, 14, 15, 16, 17, 18], [19]), ([20, 18, 18, 0, 1, 2, 3, 4, 5, 6, 7, 8, 9, 10, 11, 12, 13, 14, 15, 16, 17, 18], [18, 20])])
noncomputable def quorumref6_walk_leaf.B10 : List Nat := [0, 0, 2, 6, 14, 0, 32, 0, 224, 480, 0, 1024, 0, 7168, 15360, 31744, 65504, 131040, 262142, 524287, 1048575, 2097151]
theorem quorumref6_walk_leaf.tab10 : rtab .any (opsOf Tryd.f81 10) = quorumref6_walk_leaf.T10 := by kernel_rfl
theorem quorumref6_walk_leaf.bits10 : waitsOk quorumref6_walk_leaf.T10.2 quorumref6_walk_leaf.B10 = true := by kernel_rfl
set_option maxHeartbeats 8000000 in
set_option maxRecDepth 100000 in
theorem quorumref6_walk_leaf.calls (k : Nat) (w W : World) (gb109 : Nat) (A0_0 : Option Addr) (c0_0 : Nat) (l0_0 : List (S85)) (a0_1 : Int) (A0_2 : Option Addr) (c0_2 : Nat) (l0_2 : List Int) (Ao15 : Option Addr) (co15 : Nat) (y113 : List Bool) (a0_4 : Int) (Ao10 : Option Addr) (co10 : Nat) (t110 : List (S41)) (a0_6 : Bool) (A1_0 : Option Addr) (c1_0 : Nat) (l1_0 : List ByteArray) (A1_1 : Option Addr) (c1_1 : Nat) (l1_1 : List Int) (A1_2 : Option Addr) (c1_2 : Nat) (l1_2 : List Int) (a1_3 : Bool) (a2 : Int) (r1 : Int) (r2 : List (S41)) (r3 : Bool)
 (hr1_0 : Kd.C Kd.string w A1_0 l1_0.length l1_0) (hc1_0 : l1_0.length ≤ c1_0) (hr1_1 : Kd.C (Kd.int .i64) w A1_1 l1_1.length l1_1) (hc1_1 : l1_1.length ≤ c1_1) (hr1_2 : Kd.C (Kd.int .i64) w A1_2 l1_2.length l1_2) (hc1_2 : l1_2.length ≤ c1_2)
 (HO115 : Fc (Kd.R Kd.bool 4 W w.heap.size (fun _ => True) (.slice Ao15 y113.length co15) y113)) (HO112 : Fc (Kd.R k41 41 W w.heap.size (fun _ => True) (.slice Ao10 t110.length co10) t110))
 (BK109 : Fc (W.heap[gb109]? = some (.cells #[.slice A0_0 l0_0.length c0_0, .int .i64 a0_1, .slice A0_2 l0_2.length c0_2, .slice Ao15 y113.length co15, .int .i64 a0_4, .slice Ao10 t110.length co10, .bool a0_6] 100 (0, 0)))) (GE109 : Fc (w.heap.size ≤ gb109)) (HB : Fc (Below w.heap.size w W))
 (h : quorumref6_walk_leaf.f k l0_0 a0_1 l0_2 y113 a0_4 t110 a0_6 l1_0 l1_1 l1_2 a1_3 a2 = some (r1, r2, r3)) :
  Calls Tryd.prog 81 #[.pointer (some ⟨gb109, 0, none⟩), .agg #[.slice A1_0 l1_0.length c1_0, .slice A1_1 l1_1.length c1_1, .slice A1_2 l1_2.length c1_2, .bool a1_3], .int .i64 a2] W fun e w' => e = .returned (.tuple #[]) ∧ Kd.R Kd.bool 4 w' w.heap.size (fun _ => True) (.slice Ao15 y113.length co15) y113 ∧ ∃ v5_ : Value, Kd.R k41 41 w' w.heap.size (fun _ => True) v5_ r2 ∧
    w'.heap[gb109]? = some (.cells #[.slice A0_0 l0_0.length c0_0, .int .i64 a0_1, .slice A0_2 l0_2.length c0_2, .slice Ao15 y113.length co15, .int .i64 r1, v5_, .bool r3] 100 (0, 0)) ∧ Fr W w' gb109 ∧ Below w.heap.size w w' := by
 have hu25 := Tryd.underlying25
 have hu100 := Tryd.underlying100
 have hu85 := Tryd.underlying85
 have hu41 := Tryd.underlying41
 have HR1_0 := mk0 hr1_0
 have HC1_0 := mk0 hc1_0
 clear hr1_0 hc1_0
 have HR1_1 := mk0 hr1_1
 have HC1_1 := mk0 hc1_1
 clear hr1_1 hc1_1
 have HR1_2 := mk0 hr1_2
 have HC1_2 := mk0 hc1_2
 clear hr1_2 hc1_2
 have GW109 := GE109
 have BK108 := mk0 (Fr.refl W gb109)
 unfold quorumref6_walk_leaf.f at h
 have HC6 := mk0 h
 clear h
 all_goals
  go_enter Tryd.func81, Tryd.ntmps81
  go_upto_if 11 with (first | ((with_reducible refine gate_dst (N := 4) rfl ?_); (try (refine gate_guard (by rfl) ?_; dsimp only)); refine bx_ (N := 4) (cs := #[.slice A1_0 l1_0.length c1_0, .slice A1_1 l1_1.length c1_1, .slice A1_2 l1_2.length c1_2, .bool a1_3]) (t := 85) (h := ?_); intro gb116 hg w17 hbox hb; have n6_ := mk0 (gz_ HB hg); have n7_ := mk0 (ne1_ BK109 hg); have n8_ := mk0 (ne2_ BK109 hg); replace HO112 := mk0 (Kd.R_below (r_ HO112) hb); replace HO115 := mk0 (Kd.R_below (r_ HO115) hb); replace BK108 := mk0 (fu_ BK108 hb); replace BK109 := mk0 (u_ BK109 hb); replace HB := mk0 (bt_ (b_ HB) hb); have BK116 := mk0 (hbox); have GW116 := n6_; have GE116 := n6_; have NB109_116 := n7_; have NB116_109 := n8_; clear n6_ n7_ n8_; clear hb hbox hg; obtain ⟨hcz19_0, hcz19_1, hcz19_2, hcz19_3, hcz19_4, hcz19_5, hcz19_6, hfz19_0, hfz19_1, hfz19_2, hfz19_3, hfz19_4, hfz19_5, hfz19_6⟩ := c7_ BK109))
  (try simp only [Act.put, List.setIfInBounds_toArray, List.set_cons_zero, List.set_cons_succ])
  go_cut [] (fun wc => ∃ (kq : Nat) (x110004_5 : Int), Fc (quorumref6_walk_leaf.j0 kq a2 l0_0 a0_1 l0_2 y113 x110004_5 t110 a0_6 l1_0 l1_1 l1_2 a1_3 = some (r1, r2, r3)) ∧ Fc (kq ≤ k) ∧ Fc (Kd.R Kd.bool 4 wc w.heap.size (fun _ => True) (.slice Ao15 y113.length co15) y113) ∧ Fc (Kd.R k41 41 wc w.heap.size (fun _ => True) (.slice Ao10 t110.length co10) t110) ∧ Fc (Fr W wc gb109) ∧ Fc (wc.heap[gb109]? = some (.cells #[(.slice A0_0 l0_0.length c0_0), .int .i64 a0_1, (.slice A0_2 l0_2.length c0_2), (.slice Ao15 y113.length co15), .int .i64 x110004_5, (.slice Ao10 t110.length co10), .bool a0_6] 100 (0, 0))) ∧ Fc (wc.heap[gb116]? = some (.cells #[(.slice A1_0 l1_0.length c1_0), (.slice A1_1 l1_1.length c1_1), (.slice A1_2 l1_2.length c1_2), .bool a1_3] 85 (0, 0))) ∧ Fc (Below w.heap.size w wc))
  case first =>
   have H := HC6.out
   clear HC6
   by_cases c20 : a0_4 = 0
   ·rw [if_pos c20] at H
    have c20b0 : (a0_4 == 0) = true := beq_iff_eq.mpr c20
    have c20b1 : (a0_4 != 0) = false := bne_eq_false_iff_eq.mpr c20
    clear c20
    (first | rw [c20b0] | (simp only [i64_w, i32_w]; rw [c20b0]) | skip)
    have H' := mk0 H
    clear H
    have hnb22 := NB109_116.out
    have hnc22 := NB116_109.out
    obtain ⟨hcz23_0, hcz23_1, hcz23_2, hcz23_3, hcz23_4, hcz23_5, hcz23_6, hfz23_0, hfz23_1, hfz23_2, hfz23_3, hfz23_4, hfz23_5, hfz23_6⟩ := c7_ BK109
    go_wp2
    go_meet
    case rel => exact ⟨_, (a2), H', ⟨by first | omega | exact Nat.le_refl _⟩, ⟨by (with_reducible repeat (first | apply Ra_ | apply Rn_ | apply Rd_)); exact Kd.R_mono (Kd.R_far (p := ⟨gb109, 4, none⟩) (Kd.R_types HO115.out BK109.out (by decide)) (fun _ hk => hk.2) (.int .i64 a2)) (fun _ hk => trivial)⟩, ⟨by (with_reducible repeat (first | apply Ra_ | apply Rn_ | apply Rd_)); exact Kd.R_mono (Kd.R_far (p := ⟨gb109, 4, none⟩) (Kd.R_types HO112.out BK109.out (by decide)) (fun _ hk => hk.2) (.int .i64 a2)) (fun _ hk => trivial)⟩, ⟨(ff_ (fh_ BK108))⟩, ⟨(pu_ (cs := #[.slice A0_0 l0_0.length c0_0, .int .i64 a0_1, .slice A0_2 l0_2.length c0_2, .slice Ao15 y113.length co15, .int .i64 a0_4, .slice Ao10 t110.length co10, .bool a0_6]) (h_ BK109))⟩, ⟨(fa_ (h_ BK116) NB116_109.out)⟩, ⟨b_ HB⟩⟩
   ·rw [if_neg c20] at H
    have c20b0 : (a0_4 == 0) = false := beq_eq_false_iff_ne.mpr c20
    have c20b1 : (a0_4 != 0) = true := bne_iff_ne.mpr c20
    (first | rw [c20b0] | (simp only [i64_w, i32_w]; rw [c20b0]) | skip)
    have H' := mk0 H
    clear H
    go_wp2
    go_meet
    case rel => exact ⟨_, (a0_4), H', ⟨by first | omega | exact Nat.le_refl _⟩, ⟨by (with_reducible repeat (first | apply Ra_ | apply Rn_ | apply Rd_)); exact HO115.out⟩, ⟨by (with_reducible repeat (first | apply Ra_ | apply Rn_ | apply Rd_)); exact HO112.out⟩, ⟨fh_ BK108⟩, ⟨h_ BK109⟩, ⟨h_ BK116⟩, ⟨b_ HB⟩⟩
  case rest =>
   clear HC6
   try clear c5
   try clear c5b0
   try clear c5b1
   try clear c20
   try clear c20b0
   try clear c20b1
   try clear hcz12_0
   try clear hcz12_1
   try clear hcz12_2
   try clear hcz12_3
   try clear hcz12_4
   try clear hcz12_5
   try clear hcz12_6
   try clear hcz16_0
   try clear hcz16_1
   try clear hcz16_2
   try clear hcz16_3
   try clear hcz16_4
   try clear hcz16_5
   try clear hcz16_6
   try clear hcz19_0
   try clear hcz19_1
   try clear hcz19_2
   try clear hcz19_3
   try clear hcz19_4
   try clear hcz19_5
   try clear hcz19_6
   try clear hcz23_0
   try clear hcz23_1
   try clear hcz23_2
   try clear hcz23_3
   try clear hcz23_4
   try clear hcz23_5
   try clear hcz23_6
   try clear hfz12_0
   try clear hfz12_1
   try clear hfz12_2
   try clear hfz12_3
   try clear hfz12_4
   try clear hfz12_5
   try clear hfz12_6
   try clear hfz16_0
   try clear hfz16_1
   try clear hfz16_2
   try clear hfz16_3
   try clear hfz16_4
   try clear hfz16_5
   try clear hfz16_6
   try clear hfz19_0
   try clear hfz19_1
   try clear hfz19_2
   try clear hfz19_3
   try clear hfz19_4
   try clear hfz19_5
   try clear hfz19_6
   try clear hfz23_0
   try clear hfz23_1
   try clear hfz23_2
   try clear hfz23_3
   try clear hfz23_4
   try clear hfz23_5
   try clear hfz23_6
   obtain ⟨kq, x110004_5, HA, HJ5, HO_110003, HO_110005, BK108, BK109, BK116, HB⟩ := hcut
   cases kq with
   | zero => exact absurd HA.out (by simp [quorumref6_walk_leaf.j0])
   | succ kj5 =>
    have H := HA.out
    clear HA
    simp only [quorumref6_walk_leaf.j0] at H
    as_aux_lemma =>
     have HC24 := mk0 H
     clear H
     go_upto_region 3 with (fail)
     go_cut [36] (fun v36 wc => ∃ (kq : Nat) (x36_23 : Bool), v36 = .bool x36_23 ∧ Fc (quorumref6_walk_leaf.j1 kq x36_23 l0_0 a0_1 l0_2 y113 x110004_5 t110 a0_6 l1_0 l1_1 l1_2 a1_3 = some (r1, r2, r3)) ∧ Fc (kq ≤ kj5) ∧ Fc (Kd.R Kd.bool 4 wc w.heap.size (fun _ => True) (.slice Ao15 y113.length co15) y113) ∧ Fc (Kd.R k41 41 wc w.heap.size (fun _ => True) (.slice Ao10 t110.length co10) t110) ∧ Fc (Fr W wc gb109) ∧ Fc (wc.heap[gb109]? = some (.cells #[(.slice A0_0 l0_0.length c0_0), .int .i64 a0_1, (.slice A0_2 l0_2.length c0_2), (.slice Ao15 y113.length co15), .int .i64 x110004_5, (.slice Ao10 t110.length co10), .bool a0_6] 100 (0, 0))) ∧ Fc (wc.heap[gb116]? = some (.cells #[(.slice A1_0 l1_0.length c1_0), (.slice A1_1 l1_1.length c1_1), (.slice A1_2 l1_2.length c1_2), .bool a1_3] 85 (0, 0))) ∧ Fc (Below w.heap.size w wc))
     case first =>
      have H := HC24.out
      clear HC24
      by_cases c25 : x110004_5 = a2
      ·rw [if_pos c25] at H
       have c25b0 : (x110004_5 == a2) = true := beq_iff_eq.mpr c25
       have c25b1 : (x110004_5 != a2) = false := bne_eq_false_iff_eq.mpr c25
       clear c25
       (first | rw [c25b0] | (simp only [i64_w, i32_w]; rw [c25b0]) | skip)
       by_cases c26 : (l1_2.length : Int) > 0
       ·rw [if_pos c26] at H
        have c26b0 : decide (0 < (l1_2.length : Int)) = true := decide_eq_true c26
        have c26b1 : decide (0 < l1_2.length) = true := decide_eq_true (by omega)
        clear c26
        have H' := mk0 H
        clear H
        have hnb28 := NB109_116.out
        have hnc28 := NB116_109.out
        obtain ⟨hcz29_0, hcz29_1, hcz29_2, hcz29_3, hcz29_4, hcz29_5, hcz29_6, hfz29_0, hfz29_1, hfz29_2, hfz29_3, hfz29_4, hfz29_5, hfz29_6⟩ := c7_ BK109
        obtain ⟨hcz31_0, hcz31_1, hcz31_2, hcz31_3, hfz31_0, hfz31_1, hfz31_2, hfz31_3⟩ := c4_ BK116
        go_wp2
        go_meet
        case rel => exact ⟨_, (true), (by first | rfl | (simp; done) | (simp [*]; done)), H', ⟨by have := HJ5.out; first | omega | exact Nat.le_refl _⟩, ⟨by (with_reducible repeat (first | apply Ra_ | apply Rn_ | apply Rd_)); exact HO_110003.out⟩, ⟨by (with_reducible repeat (first | apply Ra_ | apply Rn_ | apply Rd_)); exact HO_110005.out⟩, ⟨fh_ BK108⟩, ⟨h_ BK109⟩, ⟨h_ BK116⟩, ⟨b_ HB⟩⟩
       ·rw [if_neg c26] at H
        have c26b0 : decide (0 < (l1_2.length : Int)) = false := decide_eq_false c26
        have c26b1 : decide (0 < l1_2.length) = false := decide_eq_false (by omega)
        clear c26
        have H' := mk0 H
        clear H
        have hnb33 := NB109_116.out
        have hnc33 := NB116_109.out
        obtain ⟨hcz34_0, hcz34_1, hcz34_2, hcz34_3, hcz34_4, hcz34_5, hcz34_6, hfz34_0, hfz34_1, hfz34_2, hfz34_3, hfz34_4, hfz34_5, hfz34_6⟩ := c7_ BK109
        obtain ⟨hcz36_0, hcz36_1, hcz36_2, hcz36_3, hfz36_0, hfz36_1, hfz36_2, hfz36_3⟩ := c4_ BK116
        go_wp2
        go_meet
        case rel => exact ⟨_, (((l1_1.length : Int) != (l1_0.length : Int))), (by first | rfl | (simp; done) | (simp [*]; done)), H', ⟨by have := HJ5.out; first | omega | exact Nat.le_refl _⟩, ⟨by (with_reducible repeat (first | apply Ra_ | apply Rn_ | apply Rd_)); exact HO_110003.out⟩, ⟨by (with_reducible repeat (first | apply Ra_ | apply Rn_ | apply Rd_)); exact HO_110005.out⟩, ⟨fh_ BK108⟩, ⟨h_ BK109⟩, ⟨h_ BK116⟩, ⟨b_ HB⟩⟩
      ·rw [if_neg c25] at H
       have c25b0 : (x110004_5 == a2) = false := beq_eq_false_iff_ne.mpr c25
       have c25b1 : (x110004_5 != a2) = true := bne_iff_ne.mpr c25
       (first | rw [c25b0] | (simp only [i64_w, i32_w]; rw [c25b0]) | skip)
       have H' := mk0 H
       clear H
       have hnb38 := NB109_116.out
       have hnc38 := NB116_109.out
       obtain ⟨hcz39_0, hcz39_1, hcz39_2, hcz39_3, hcz39_4, hcz39_5, hcz39_6, hfz39_0, hfz39_1, hfz39_2, hfz39_3, hfz39_4, hfz39_5, hfz39_6⟩ := c7_ BK109
       go_wp2
       go_meet
       case rel => exact ⟨_, (true), (by first | rfl | (simp; done) | (simp [*]; done)), H', ⟨by have := HJ5.out; first | omega | exact Nat.le_refl _⟩, ⟨by (with_reducible repeat (first | apply Ra_ | apply Rn_ | apply Rd_)); exact HO_110003.out⟩, ⟨by (with_reducible repeat (first | apply Ra_ | apply Rn_ | apply Rd_)); exact HO_110005.out⟩, ⟨fh_ BK108⟩, ⟨h_ BK109⟩, ⟨h_ BK116⟩, ⟨b_ HB⟩⟩
     case rest =>
      clear HC24
      try clear c5
      try clear c5b0
      try clear c5b1
      try clear c20
      try clear c20b0
      try clear c20b1
      try clear c25
      try clear c25b0
      try clear c25b1
      try clear c26
      try clear c26b0
      try clear c26b1
      try clear hcz12_0
      try clear hcz12_1
      try clear hcz12_2
      try clear hcz12_3
      try clear hcz12_4
      try clear hcz12_5
      try clear hcz12_6
      try clear hcz16_0
      try clear hcz16_1
      try clear hcz16_2
      try clear hcz16_3
      try clear hcz16_4
      try clear hcz16_5
      try clear hcz16_6
      try clear hcz19_0
      try clear hcz19_1
      try clear hcz19_2
      try clear hcz19_3
      try clear hcz19_4
      try clear hcz19_5
      try clear hcz19_6
      try clear hcz23_0
      try clear hcz23_1
      try clear hcz23_2
      try clear hcz23_3
      try clear hcz23_4
      try clear hcz23_5
      try clear hcz23_6
      try clear hcz29_0
      try clear hcz29_1
      try clear hcz29_2
      try clear hcz29_3
      try clear hcz29_4
      try clear hcz29_5
      try clear hcz29_6
      try clear hcz31_0
      try clear hcz31_1
      try clear hcz31_2
      try clear hcz31_3
      try clear hcz34_0
      try clear hcz34_1
      try clear hcz34_2
      try clear hcz34_3
      try clear hcz34_4
      try clear hcz34_5
      try clear hcz34_6
      try clear hcz36_0
      try clear hcz36_1
      try clear hcz36_2
      try clear hcz36_3
      try clear hcz39_0
      try clear hcz39_1
      try clear hcz39_2
      try clear hcz39_3
      try clear hcz39_4
      try clear hcz39_5
      try clear hcz39_6
      try clear hfz12_0
      try clear hfz12_1
      try clear hfz12_2
      try clear hfz12_3
      try clear hfz12_4
      try clear hfz12_5
      try clear hfz12_6
      try clear hfz16_0
      try clear hfz16_1
      try clear hfz16_2
      try clear hfz16_3
      try clear hfz16_4
      try clear hfz16_5
      try clear hfz16_6
      try clear hfz19_0
      try clear hfz19_1
      try clear hfz19_2
      try clear hfz19_3
      try clear hfz19_4
      try clear hfz19_5
      try clear hfz19_6
      try clear hfz23_0
      try clear hfz23_1
      try clear hfz23_2
      try clear hfz23_3
      try clear hfz23_4
      try clear hfz23_5
      try clear hfz23_6
      try clear hfz29_0
      try clear hfz29_1
      try clear hfz29_2
      try clear hfz29_3
      try clear hfz29_4
      try clear hfz29_5
      try clear hfz29_6
      try clear hfz31_0
      try clear hfz31_1
      try clear hfz31_2
      try clear hfz31_3
      try clear hfz34_0
      try clear hfz34_1
      try clear hfz34_2
      try clear hfz34_3
      try clear hfz34_4
      try clear hfz34_5
      try clear hfz34_6
      try clear hfz36_0
      try clear hfz36_1
      try clear hfz36_2
      try clear hfz36_3
      try clear hfz39_0
      try clear hfz39_1
      try clear hfz39_2
      try clear hfz39_3
      try clear hfz39_4
      try clear hfz39_5
      try clear hfz39_6
      obtain ⟨kq, x36_23, rfl, HA, HJ23, HO_110003, HO_110005, BK108, BK109, BK116, HB⟩ := hcut
      cases kq with
      | zero => exact absurd HA.out (by simp [quorumref6_walk_leaf.j1])
      | succ kj23 =>
       have H := HA.out
       clear HA
       simp only [quorumref6_walk_leaf.j1] at H
       as_aux_lemma =>
        by_cases c40 : x36_23 = true
        ·subst c40
         rw [if_pos rfl] at H
         have hnb42 := NB109_116.out
         have hnc42 := NB116_109.out
         obtain ⟨hcz43_0, hcz43_1, hcz43_2, hcz43_3, hcz43_4, hcz43_5, hcz43_6, hfz43_0, hfz43_1, hfz43_2, hfz43_3, hfz43_4, hfz43_5, hfz43_6⟩ := c7_ BK109
         simp only [Option.some.injEq, Prod.mk.injEq] at H
         obtain ⟨rfl, rfl, rfl⟩ := H
         go_wp2
         first | go_end0 | ((try simp only [Exit.inBlock, Exit.then]); refine bodyPost_ret (results_none rfl _ _ _) rfl ?_)
         exact ⟨rfl, by (with_reducible repeat (first | apply Ra_ | apply Rn_ | apply Rd_)); exact Kd.R_mono (Kd.R_far (p := ⟨gb109, 6, none⟩) (Kd.R_types HO_110003.out BK109.out (by decide)) (fun _ hk => hk.2) (.bool true)) (fun _ _ => trivial), .slice Ao10 t110.length co10, by (with_reducible repeat (first | apply Ra_ | apply Rn_ | apply Rd_)); exact Kd.R_mono (Kd.R_far (p := ⟨gb109, 6, none⟩) (Kd.R_types HO_110005.out BK109.out (by decide)) (fun _ hk => hk.2) (.bool true)) (fun _ _ => trivial), pu_ (cs := #[.slice A0_0 l0_0.length c0_0, .int .i64 a0_1, .slice A0_2 l0_2.length c0_2, .slice Ao15 y113.length co15, .int .i64 x110004_5, .slice Ao10 t110.length co10, .bool a0_6]) (h_ BK109), ff_ (fh_ BK108), b_ HB⟩
        ·replace c40 := Bool.eq_false_iff.mpr c40
         subst c40
         rw [if_neg (show ¬ (false = true) by decide)] at H
         have H' := mk0 H
         clear H
         go_wp2
         go_loopg [6] kj23 (fun kq v6 w' => ∃ (x6_3 : Int) (x110005_3 : List (S41)) (x110006_3 : Bool) (u110005 : Value), v6 = .int .i64 x6_3 ∧ Fc (quorumref6_walk_leaf.l0 kq x6_3 l0_0 a0_1 l0_2 y113 x110004_5 x110005_3 x110006_3 l1_0 l1_1 l1_2 a1_3 = some (r1, r2, r3)) ∧ Fc (kq ≤ kj23) ∧ Fc (Kd.R Kd.bool 4 w' w.heap.size (fun _ => True) (.slice Ao15 y113.length co15) y113) ∧ Fc (Kd.R k41 41 w' w.heap.size (fun _ => True) u110005 x110005_3) ∧ Fc (Fr W w' gb109) ∧ Fc (w'.heap[gb109]? = some (.cells #[(.slice A0_0 l0_0.length c0_0), .int .i64 a0_1, (.slice A0_2 l0_2.length c0_2), (.slice Ao15 y113.length co15), .int .i64 x110004_5, u110005, .bool x110006_3] 100 (0, 0))) ∧ Fc (w'.heap[gb116]? = some (.cells #[(.slice A1_0 l1_0.length c1_0), (.slice A1_1 l1_1.length c1_1), (.slice A1_2 l1_2.length c1_2), .bool a1_3] 85 (0, 0))) ∧ Fc (Below w.heap.size w w'))
         case atStart => exact ⟨(0), (t110), (a0_6), (.slice Ao10 t110.length co10), (by first | rfl | (simp; done) | (simp [*]; done)), H', ⟨Nat.le_refl _⟩, ⟨by (with_reducible repeat (first | apply Ra_ | apply Rn_ | apply Rd_)); exact HO_110003.out⟩, ⟨by (with_reducible repeat (first | apply Ra_ | apply Rn_ | apply Rd_)); exact HO_110005.out⟩, ⟨fh_ BK108⟩, ⟨h_ BK109⟩, ⟨h_ BK116⟩, ⟨b_ HB⟩⟩
         case round =>
          clear H'
          try clear c5
          try clear c5b0
          try clear c5b1
          try clear c20
          try clear c20b0
          try clear c20b1
          try clear c25
          try clear c25b0
          try clear c25b1
          try clear c26
          try clear c26b0
          try clear c26b1
          try clear c40
          try clear hcz12_0
          try clear hcz12_1
          try clear hcz12_2
          try clear hcz12_3
          try clear hcz12_4
          try clear hcz12_5
          try clear hcz12_6
          try clear hcz16_0
          try clear hcz16_1
          try clear hcz16_2
          try clear hcz16_3
          try clear hcz16_4
          try clear hcz16_5
          try clear hcz16_6
          try clear hcz19_0
          try clear hcz19_1
          try clear hcz19_2
          try clear hcz19_3
          try clear hcz19_4
          try clear hcz19_5
          try clear hcz19_6
          try clear hcz23_0
          try clear hcz23_1
          try clear hcz23_2
          try clear hcz23_3
          try clear hcz23_4
          try clear hcz23_5
          try clear hcz23_6
          try clear hcz29_0
          try clear hcz29_1
          try clear hcz29_2
          try clear hcz29_3
          try clear hcz29_4
          try clear hcz29_5
          try clear hcz29_6
          try clear hcz31_0
          try clear hcz31_1
          try clear hcz31_2
          try clear hcz31_3
          try clear hcz34_0
          try clear hcz34_1
          try clear hcz34_2
          try clear hcz34_3
          try clear hcz34_4
          try clear hcz34_5
          try clear hcz34_6
          try clear hcz36_0
          try clear hcz36_1
          try clear hcz36_2
          try clear hcz36_3
          try clear hcz39_0
          try clear hcz39_1
          try clear hcz39_2
          try clear hcz39_3
          try clear hcz39_4
          try clear hcz39_5
          try clear hcz39_6
          try clear hcz43_0
          try clear hcz43_1
          try clear hcz43_2
          try clear hcz43_3
          try clear hcz43_4
          try clear hcz43_5
          try clear hcz43_6
          try clear hfz12_0
          try clear hfz12_1
          try clear hfz12_2
          try clear hfz12_3
          try clear hfz12_4
          try clear hfz12_5
          try clear hfz12_6
          try clear hfz16_0
          try clear hfz16_1
          try clear hfz16_2
          try clear hfz16_3
          try clear hfz16_4
          try clear hfz16_5
          try clear hfz16_6
          try clear hfz19_0
          try clear hfz19_1
          try clear hfz19_2
          try clear hfz19_3
          try clear hfz19_4
          try clear hfz19_5
          try clear hfz19_6
          try clear hfz23_0
          try clear hfz23_1
          try clear hfz23_2
          try clear hfz23_3
          try clear hfz23_4
          try clear hfz23_5
          try clear hfz23_6
          try clear hfz29_0
          try clear hfz29_1
          try clear hfz29_2
          try clear hfz29_3
          try clear hfz29_4
          try clear hfz29_5
          try clear hfz29_6
          try clear hfz31_0
          try clear hfz31_1
          try clear hfz31_2
          try clear hfz31_3
          try clear hfz34_0
          try clear hfz34_1
          try clear hfz34_2
          try clear hfz34_3
          try clear hfz34_4
          try clear hfz34_5
          try clear hfz34_6
          try clear hfz36_0
          try clear hfz36_1
          try clear hfz36_2
          try clear hfz36_3
          try clear hfz39_0
          try clear hfz39_1
          try clear hfz39_2
          try clear hfz39_3
          try clear hfz39_4
          try clear hfz39_5
          try clear hfz39_6
          try clear hfz43_0
          try clear hfz43_1
          try clear hfz43_2
          try clear hfz43_3
          try clear hfz43_4
          try clear hfz43_5
          try clear hfz43_6
          obtain ⟨x6_3, x110005_3, x110006_3, u110005, rfl, HA, HK3, HO_110003, HO_110005, BK108, BK109, BK116, HB⟩ := hrel
          cases gk with
          | zero => exact absurd HA.out (by simp [quorumref6_walk_leaf.l0])
          | succ k3 =>
           have H := HA.out
           clear HA
           simp only [quorumref6_walk_leaf.l0] at H
           as_aux_lemma =>
            by_cases c44 : x6_3 < (l1_0.length : Int)
            ·rw [if_pos c44] at H
             have c44b0 : decide (x6_3 < (l1_0.length : Int)) = true := decide_eq_true c44
             clear c44
             have HC45 := mk0 H
             clear H
             have hnb47 := NB116_109.out
             have hnc47 := NB109_116.out
             obtain ⟨hcz48_0, hcz48_1, hcz48_2, hcz48_3, hfz48_0, hfz48_1, hfz48_2, hfz48_3⟩ := c4_ BK116
             go_upto_region 8 with (fail)
             go_cut [62] (fun v62 wc => ∃ (kq : Nat) (x62_44 : Bool), v62 = .bool x62_44 ∧ Fc (quorumref6_walk_leaf.j3 kq x6_3 x62_44 l0_0 a0_1 l0_2 y113 x110004_5 x110005_3 x110006_3 l1_0 l1_1 l1_2 a1_3 = some (r1, r2, r3)) ∧ Fc (kq ≤ k3) ∧ Fc (Kd.R Kd.bool 4 wc w.heap.size (fun _ => True) (.slice Ao15 y113.length co15) y113) ∧ Fc (Kd.R k41 41 wc w.heap.size (fun _ => True) u110005 x110005_3) ∧ Fc (Fr W wc gb109) ∧ Fc (wc.heap[gb109]? = some (.cells #[(.slice A0_0 l0_0.length c0_0), .int .i64 a0_1, (.slice A0_2 l0_2.length c0_2), (.slice Ao15 y113.length co15), .int .i64 x110004_5, u110005, .bool x110006_3] 100 (0, 0))) ∧ Fc (wc.heap[gb116]? = some (.cells #[(.slice A1_0 l1_0.length c1_0), (.slice A1_1 l1_1.length c1_1), (.slice A1_2 l1_2.length c1_2), .bool a1_3] 85 (0, 0))) ∧ Fc (Below w.heap.size w wc))
             case first =>
              have H := HC45.out
              clear HC45
              by_cases c49 : 0 ≤ x6_3
              ·rw [if_pos c49] at H
               have c49b0 : decide (0 ≤ x6_3) = true := decide_eq_true c49
               clear c49
               (first | rw [c49b0] | (simp only [i64_w, i32_w]; rw [c49b0]) | skip)
               replace H := Option.bind_eq_some_iff.mp H
               obtain ⟨t118, A500, H⟩ := H
               try dsimp only at H
               have A50 := mk0 A500
               clear A500
               by_cases c51 : t118 = true
               ·subst c51
                rw [if_pos rfl] at H
                by_cases c52 : x6_3 < (l1_1.length : Int)
                ·rw [if_pos c52] at H
                 have c52b0 : decide (x6_3 < (l1_1.length : Int)) = true := decide_eq_true c52
                 clear c52
                 replace H := Option.bind_eq_some_iff.mp H
                 obtain ⟨t120, A530, H⟩ := H
                 try dsimp only at H
                 have A53 := mk0 A530
                 clear A530
                 have H' := mk0 H
                 clear H
                 have hnb55 := NB116_109.out
                 have hnc55 := NB109_116.out
                 obtain ⟨hcz56_0, hcz56_1, hcz56_2, hcz56_3, hfz56_0, hfz56_1, hfz56_2, hfz56_3⟩ := c4_ BK116
                 have p117 : 0 ≤ (x6_3 : Int) := of_decide_eq_true (by first | (with_reducible assumption) | assumption)
                 have q117 : x6_3 < (l1_0.length : Int) := of_decide_eq_true (by first | (with_reducible assumption) | assumption)
                 obtain ⟨ad117, e117, hx117_0⟩ := Kd.at_string HR1_0.out x6_3 p117 q117
                 cases e117
                 replace hx117_0 := (bc_ HB hx117_0 :)
                 replace p117 := eq_true p117
                 replace q117 := eq_true q117
                 go_wp2_with (first | ((with_reducible refine gate_callee (f := 39) rfl ?_); refine gL_ (some 52) Tryd.func39 #[.string (rdOf ByteArray.empty l1_0 x6_3)] (h := ?_); (with_reducible refine (quorumref1_Key.calls (rdOf ByteArray.empty l1_0 x6_3) true _ A50.out).mono ?_); rintro e w' ⟨rfl, ⟨nd, rfl⟩⟩; refine ⟨_, rfl, ?_⟩; have p119 : 0 ≤ (x6_3 : Int) := of_decide_eq_true (by first | (with_reducible assumption) | assumption); have q119 : x6_3 < (l1_1.length : Int) := of_decide_eq_true (by first | (with_reducible assumption) | assumption); obtain ⟨ad119, e119, hx119_0⟩ := Kd.at_int HR1_1.out x6_3 p119 q119; cases e119; replace hx119_0 := (bc_ HB hx119_0 :); replace p119 := eq_true p119; replace q119 := eq_true q119) | (go_at_call 33; (with_reducible refine (quorumref0_Num.calls (rd l1_1 x6_3) 1073741824 t120 _ A53.out).mono ?_); rintro e w' ⟨rfl, ⟨nd, rfl⟩⟩))
                 go_meet
                 case rel => exact ⟨_, (!t120), (by first | rfl | (simp; done) | (simp [*]; done)), H', ⟨by have := HJ5.out; have := HJ23.out; have := HK3.out; first | omega | exact Nat.le_refl _⟩, ⟨by (with_reducible repeat (first | apply Ra_ | apply Rn_ | apply Rd_)); exact HO_110003.out⟩, ⟨by (with_reducible repeat (first | apply Ra_ | apply Rn_ | apply Rd_)); exact HO_110005.out⟩, ⟨fh_ BK108⟩, ⟨h_ BK109⟩, ⟨h_ BK116⟩, ⟨b_ HB⟩⟩
                ·rw [if_neg c52] at H
                 exact absurd H (by simp)
               ·replace c51 := Bool.eq_false_iff.mpr c51
                subst c51
                rw [if_neg (show ¬ (false = true) by decide)] at H
                have H' := mk0 H
                clear H
                have hnb58 := NB116_109.out
                have hnc58 := NB109_116.out
                obtain ⟨hcz59_0, hcz59_1, hcz59_2, hcz59_3, hfz59_0, hfz59_1, hfz59_2, hfz59_3⟩ := c4_ BK116
                have p117 : 0 ≤ (x6_3 : Int) := of_decide_eq_true (by first | (with_reducible assumption) | assumption)
                have q117 : x6_3 < (l1_0.length : Int) := of_decide_eq_true (by first | (with_reducible assumption) | assumption)
                obtain ⟨ad117, e117, hx117_0⟩ := Kd.at_string HR1_0.out x6_3 p117 q117
                cases e117
                replace hx117_0 := (bc_ HB hx117_0 :)
                replace p117 := eq_true p117
                replace q117 := eq_true q117
                go_wp2_with (first | ((with_reducible refine gate_callee (f := 39) rfl ?_); refine gL_ (some 52) Tryd.func39 #[.string (rdOf ByteArray.empty l1_0 x6_3)] (h := ?_); (with_reducible refine (quorumref1_Key.calls (rdOf ByteArray.empty l1_0 x6_3) false _ A50.out).mono ?_); rintro e w' ⟨rfl, ⟨nd, rfl⟩⟩; refine ⟨_, rfl, ?_⟩))
                go_meet
                case rel => exact ⟨_, (true), (by first | rfl | (simp; done) | (simp [*]; done)), H', ⟨by have := HJ5.out; have := HJ23.out; have := HK3.out; first | omega | exact Nat.le_refl _⟩, ⟨by (with_reducible repeat (first | apply Ra_ | apply Rn_ | apply Rd_)); exact HO_110003.out⟩, ⟨by (with_reducible repeat (first | apply Ra_ | apply Rn_ | apply Rd_)); exact HO_110005.out⟩, ⟨fh_ BK108⟩, ⟨h_ BK109⟩, ⟨h_ BK116⟩, ⟨b_ HB⟩⟩
              ·rw [if_neg c49] at H
               exact absurd H (by simp)
             case rest =>
              clear HC45
              try clear c5
              try clear c5b0
              try clear c5b1
              try clear c20
              try clear c20b0
              try clear c20b1
              try clear c25
              try clear c25b0
              try clear c25b1
              try clear c26
              try clear c26b0
              try clear c26b1
              try clear c40
              try clear c44
              try clear c44b0
              try clear c49
              try clear c49b0
              try clear c51
              try clear c52
              try clear c52b0
              try clear hcz12_0
              try clear hcz12_1
              try clear hcz12_2
              try clear hcz12_3
              try clear hcz12_4
              try clear hcz12_5
              try clear hcz12_6
              try clear hcz16_0
              try clear hcz16_1
              try clear hcz16_2
              try clear hcz16_3
              try clear hcz16_4
              try clear hcz16_5
              try clear hcz16_6
              try clear hcz19_0
              try clear hcz19_1
              try clear hcz19_2
              try clear hcz19_3
              try clear hcz19_4
              try clear hcz19_5
              try clear hcz19_6
              try clear hcz23_0
              try clear hcz23_1
              try clear hcz23_2
              try clear hcz23_3
              try clear hcz23_4
              try clear hcz23_5
              try clear hcz23_6
              try clear hcz29_0
              try clear hcz29_1
              try clear hcz29_2
              try clear hcz29_3
              try clear hcz29_4
              try clear hcz29_5
              try clear hcz29_6
              try clear hcz31_0
              try clear hcz31_1
              try clear hcz31_2
              try clear hcz31_3
              try clear hcz34_0
              try clear hcz34_1
              try clear hcz34_2
              try clear hcz34_3
              try clear hcz34_4
              try clear hcz34_5
              try clear hcz34_6
              try clear hcz36_0
              try clear hcz36_1
              try clear hcz36_2
              try clear hcz36_3
              try clear hcz39_0
              try clear hcz39_1
              try clear hcz39_2
              try clear hcz39_3
              try clear hcz39_4
              try clear hcz39_5
              try clear hcz39_6
              try clear hcz43_0
              try clear hcz43_1
              try clear hcz43_2
              try clear hcz43_3
              try clear hcz43_4
              try clear hcz43_5
              try clear hcz43_6
              try clear hcz48_0
              try clear hcz48_1
              try clear hcz48_2
              try clear hcz48_3
              try clear hcz56_0
              try clear hcz56_1
              try clear hcz56_2
              try clear hcz56_3
              try clear hcz59_0
              try clear hcz59_1
              try clear hcz59_2
              try clear hcz59_3
              try clear hfz12_0
              try clear hfz12_1
              try clear hfz12_2
              try clear hfz12_3
              try clear hfz12_4
              try clear hfz12_5
              try clear hfz12_6
              try clear hfz16_0
              try clear hfz16_1
              try clear hfz16_2
              try clear hfz16_3
              try clear hfz16_4
              try clear hfz16_5
              try clear hfz16_6
              try clear hfz19_0
              try clear hfz19_1
              try clear hfz19_2
              try clear hfz19_3
              try clear hfz19_4
              try clear hfz19_5
              try clear hfz19_6
              try clear hfz23_0
              try clear hfz23_1
              try clear hfz23_2
              try clear hfz23_3
              try clear hfz23_4
              try clear hfz23_5
              try clear hfz23_6
              try clear hfz29_0
              try clear hfz29_1
              try clear hfz29_2
              try clear hfz29_3
              try clear hfz29_4
              try clear hfz29_5
              try clear hfz29_6
              try clear hfz31_0
              try clear hfz31_1
              try clear hfz31_2
              try clear hfz31_3
              try clear hfz34_0
              try clear hfz34_1
              try clear hfz34_2
              try clear hfz34_3
              try clear hfz34_4
              try clear hfz34_5
              try clear hfz34_6
              try clear hfz36_0
              try clear hfz36_1
              try clear hfz36_2
              try clear hfz36_3
              try clear hfz39_0
              try clear hfz39_1
              try clear hfz39_2
              try clear hfz39_3
              try clear hfz39_4
              try clear hfz39_5
              try clear hfz39_6
              try clear hfz43_0
              try clear hfz43_1
              try clear hfz43_2
              try clear hfz43_3
              try clear hfz43_4
              try clear hfz43_5
              try clear hfz43_6
              try clear hfz48_0
              try clear hfz48_1
              try clear hfz48_2
              try clear hfz48_3
              try clear hfz56_0
              try clear hfz56_1
              try clear hfz56_2
              try clear hfz56_3
              try clear hfz59_0
              try clear hfz59_1
              try clear hfz59_2
              try clear hfz59_3
              try clear hx117_0
              try clear hx119_0
              try clear p117
              try clear p119
              try clear q117
              try clear q119
              obtain ⟨kq, x62_44, rfl, HA, HJ44, HO_110003, HO_110005, BK108, BK109, BK116, HB⟩ := hcut
              cases kq with
              | zero => exact absurd HA.out (by simp [quorumref6_walk_leaf.j3])
              | succ kj44 =>
               have H := HA.out
               clear HA
               simp only [quorumref6_walk_leaf.j3] at H
               as_aux_lemma =>
                by_cases c60 : x62_44 = true
                ·subst c60
                 rw [if_pos rfl] at H
                 have hnb62 := NB109_116.out
                 have hnc62 := NB116_109.out
                 obtain ⟨hcz63_0, hcz63_1, hcz63_2, hcz63_3, hcz63_4, hcz63_5, hcz63_6, hfz63_0, hfz63_1, hfz63_2, hfz63_3, hfz63_4, hfz63_5, hfz63_6⟩ := c7_ BK109
                 simp only [Option.some.injEq, Prod.mk.injEq] at H
                 obtain ⟨rfl, rfl, rfl⟩ := H
                 go_wp2
                 first | go_end0 | ((try simp only [Exit.inBlock, Exit.then]); refine bodyPost_ret (results_none rfl _ _ _) rfl ?_)
                 exact ⟨rfl, by (with_reducible repeat (first | apply Ra_ | apply Rn_ | apply Rd_)); exact Kd.R_mono (Kd.R_far (p := ⟨gb109, 6, none⟩) (Kd.R_types HO_110003.out BK109.out (by decide)) (fun _ hk => hk.2) (.bool true)) (fun _ _ => trivial), u110005, by (with_reducible repeat (first | apply Ra_ | apply Rn_ | apply Rd_)); exact Kd.R_mono (Kd.R_far (p := ⟨gb109, 6, none⟩) (Kd.R_types HO_110005.out BK109.out (by decide)) (fun _ hk => hk.2) (.bool true)) (fun _ _ => trivial), pu_ (cs := #[.slice A0_0 l0_0.length c0_0, .int .i64 a0_1, .slice A0_2 l0_2.length c0_2, .slice Ao15 y113.length co15, .int .i64 x110004_5, u110005, .bool x110006_3]) (h_ BK109), ff_ (fh_ BK108), b_ HB⟩
                ·replace c60 := Bool.eq_false_iff.mpr c60
                 subst c60
                 rw [if_neg (show ¬ (false = true) by decide)] at H
                 by_cases c64 : 0 ≤ x6_3
                 ·rw [if_pos c64] at H
                  have c64b0 : decide (0 ≤ x6_3) = true := decide_eq_true c64
                  clear c64
                  by_cases c65 : x6_3 < (l1_0.length : Int)
                  ·rw [if_pos c65] at H
                   have c65b0 : decide (x6_3 < (l1_0.length : Int)) = true := decide_eq_true c65
                   clear c65
                   by_cases c66 : x6_3 < (l1_1.length : Int)
                   ·rw [if_pos c66] at H
                    have c66b0 : decide (x6_3 < (l1_1.length : Int)) = true := decide_eq_true c66
                    clear c66
                    replace H := Option.bind_eq_some_iff.mp H
                    obtain ⟨t123, A670, H⟩ := H
                    try dsimp only at H
                    have A67 := mk0 A670
                    clear A670
                    by_cases c68 : x110005_3.length < 4398046511104
                    ·rw [if_pos c68] at H
                     have LMc68 := mk0 c68
                     clear c68
                     obtain ⟨y124, hy124⟩ : ∃ y_ : List (S41), y_ = (x110005_3 ++ [(⟨rdOf ByteArray.empty l1_0 x6_3, t123⟩ : S41)]) := ⟨_, rfl⟩
                     replace H : (quorumref6_walk_leaf.l0 kj44 (wrap64 (x6_3 + 1)) l0_0 a0_1 l0_2 y113 x110004_5 y124 x110006_3 l1_0 l1_1 l1_2 a1_3) = some (r1, r2, r3) := by first | (rw [hy124]; with_reducible exact H) | (have H2_ := (Option.bind_some _ _).symm.trans H; rw [hy124]; with_reducible exact H2_) | (have H2_ := (Option.bind_some _ _).symm.trans H; with_reducible exact H2_) | with_reducible exact H | (rw [hy124]; exact H) | exact H
                     have Ny124 := mk0 hy124
                     clear hy124
                     have H' := mk0 H
                     clear H
                     try go_wp2
                     replace HO_110003 := mk0 (Rd_ HO_110003.out)
                     replace HO_110005 := mk0 (Rd_ HO_110005.out)
                     replace BK108 := mk0 (fd_ BK108.out)
                     replace BK109 := mk0 (bD_ BK109.out)
                     replace BK116 := mk0 (bD_ BK116.out)
                     replace HB := mk0 (b1_ HB.out)
                     have p121 : 0 ≤ (x6_3 : Int) := of_decide_eq_true (by first | (with_reducible assumption) | assumption)
                     have q121 : x6_3 < (l1_0.length : Int) := of_decide_eq_true (by first | (with_reducible assumption) | assumption)
                     obtain ⟨ad121, e121, hx121_0⟩ := Kd.at_string HR1_0.out x6_3 p121 q121
                     have hw121_0 := hx121_0
                     cases e121
                     replace hx121_0 := (bc_ HB hx121_0 :)
                     replace p121 := eq_true p121
                     replace q121 := eq_true q121
                     have p122 : 0 ≤ (x6_3 : Int) := of_decide_eq_true (by first | (with_reducible assumption) | assumption)
                     have q122 : x6_3 < (l1_1.length : Int) := of_decide_eq_true (by first | (with_reducible assumption) | assumption)
                     obtain ⟨ad122, e122, hx122_0⟩ := Kd.at_int HR1_1.out x6_3 p122 q122
                     have hw122_0 := hx122_0
                     cases e122
                     replace hx122_0 := (bc_ HB hx122_0 :)
                     replace p122 := eq_true p122
                     replace q122 := eq_true q122
                     refine start_ (n := 22) (S := fun w' => w'.cell? ⟨gb109, 0, none⟩ = some (.slice A0_0 l0_0.length c0_0) ∧ w'.cell? ⟨gb109, 1, none⟩ = some (.int .i64 a0_1) ∧ w'.cell? ⟨gb109, 2, none⟩ = some (.slice A0_2 l0_2.length c0_2) ∧ w'.cell? ⟨gb109, 3, none⟩ = some (.slice Ao15 y113.length co15) ∧ w'.cell? ⟨gb109, 4, none⟩ = some (.int .i64 x110004_5) ∧ w'.cell? ⟨gb109, 5, none⟩ = some (u110005) ∧ w'.cell? ⟨gb109, 6, none⟩ = some (.bool x110006_3) ∧ w'.cell? ⟨gb116, 0, none⟩ = some (.slice (some ad121) l1_0.length c1_0) ∧ w'.cell? ⟨gb116, 1, none⟩ = some (.slice (some ad122) l1_1.length c1_1) ∧ w'.cell? ⟨gb116, 2, none⟩ = some (.slice A1_2 l1_2.length c1_2) ∧ w'.cell? ⟨gb116, 3, none⟩ = some (.bool a1_3) ∧ w'.cell? (ad121.add (x6_3).toNat) = some (.string (rdOf ByteArray.empty l1_0 x6_3)) ∧ w'.cell? (ad122.add (x6_3).toNat) = some (.int .i64 (rd l1_1 x6_3))) (ds := [21]) (bt 22 0) (by kernel_rfl) rfl rfl ⟨bk_ BK109 0, bk_ BK109 1, bk_ BK109 2, bk_ BK109 3, bk_ BK109 4, bk_ BK109 5, bk_ BK109 6, bk_ BK116 0, bk_ BK116 1, bk_ BK116 2, bk_ BK116 3, ((bc_ HB hw121_0 :)), ((bc_ HB hw122_0 :))⟩ (fun hHeld => ?_); refine with_tabW quorumref6_walk_leaf.tab10 quorumref6_walk_leaf.bits10 (fun HT_ HW_ => ?_)
                     generalize wc.drew = w69 at HO_110003 HO_110005 BK108 BK109 BK116 HB hx121_0 hx122_0 hHeld ⊢
                     refine pq_ HT_.out 0 66 (bt 22 1) (h := ?_)
                     refine pq_ HT_.out 1 67 (bt 22 3) (h := ?_)
                     refine pq_ HT_.out 2 68 (bt 22 7) (h := ?_)
                     refine pq_ HT_.out 3 69 (bt 22 15) (h := ?_)
                     refine pq_ HT_.out 5 71 (bt 22 47) (h := ?_)
                     refine pq_ HT_.out 7 73 (bt 22 175) (h := ?_)
                     refine pq_ HT_.out 10 76 (bt 22 1199) (h := ?_)
                     refine pq_ HT_.out 12 78 (bt 22 5295) (h := ?_)
                     refine tq13_ HT_.out HW_.out 4 70 (bt 22 5311) hHeld (h := ?_)
                     refine tq13_ HT_.out HW_.out 6 72 (bt 22 5375) hHeld (h := ?_)
                     refine pq_ HT_.out 8 74 (bt 22 5631) (h := ?_)
                     refine tq13_ HT_.out HW_.out 9 75 (bt 22 6143) hHeld (h := ?_)
                     refine tq13_ HT_.out HW_.out 11 77 (bt 22 8191) hHeld (h := ?_)
                     refine pq_ HT_.out 13 79 (bt 22 16383) (h := ?_)
                     refine tq13_ HT_.out HW_.out 14 80 (bt 22 32767) hHeld (h := ?_)
                     refine one_ (i := 15) (N := some 81) (bt 22 65535) rfl rfl (one_of HT_.out (by kernel_rfl)) (by decide) (fun K hK => ?_)
                     refine goes_ Tryd.func85 (by kernel_rfl) rfl #[.int .i64 (rd l1_1 x6_3)] (by rfl) rfl rfl (by (try simp only [List.map_toArray, List.map_cons, List.map_nil]); first | done | rfl | (simp only [List.length_drop, List.length_take]; rfl)) ?_
                     with_reducible refine (strconv_Itoa_85.calls (rd l1_1 x6_3) t123 _ A67.out).mono ?_
                     rintro e w70 ⟨rfl, hb⟩
                     refine ⟨_, rfl, ?_⟩
                     replace HO_110003 := mk0 (Kd.R_below (r_ HO_110003) hb)
                     replace HO_110005 := mk0 (Kd.R_below (r_ HO_110005) hb)
                     replace BK108 := mk0 (fu_ BK108 hb)
                     replace BK109 := mk0 (u_ BK109 hb)
                     replace BK116 := mk0 (u_ BK116 hb)
                     replace HB := mk0 (bt_ (b_ HB) hb)
                     (try clear hb)
                     (try clear hb2)
                     (try clear hk)
                     (try clear hi)
                     refine hK.out _ _ ⟨bk_ BK109 0, bk_ BK109 1, bk_ BK109 2, bk_ BK109 3, bk_ BK109 4, bk_ BK109 5, bk_ BK109 6, bk_ BK116 0, bk_ BK116 1, bk_ BK116 2, bk_ BK116 3, ((bc_ HB hw121_0 :)), ((bc_ HB hw122_0 :))⟩ (fun hHeld => ?_)
                     clear hK K
                     refine norm_ (a' := ?_) ?_ ?_
                     rotate_left
                     ·show Act.put _ (some 81) _ = _
                      simp only [z_]
                      rfl
                     refine pq_ HT_.out 16 82 (bt 22 131071) (h := ?_)
                     refine one_ (i := 17) (N := some 83) (bt 22 262143) rfl rfl (one_of HT_.out (by kernel_rfl)) (by decide) (fun K hK => ?_)
                     refine value_ (w1 := ?_) (v := ?_) (by rfl) rfl ?_ ?_
                     rotate_left 2
                     ·go_simp
                      constructor
                      ·rfl
                      ·rfl
                     refine hK.out _ _ ⟨(blk_cell (bA_ BK109.out _) 0).trans rfl, (blk_cell (bA_ BK109.out _) 1).trans rfl, (blk_cell (bA_ BK109.out _) 2).trans rfl, (blk_cell (bA_ BK109.out _) 3).trans rfl, (blk_cell (bA_ BK109.out _) 4).trans rfl, (blk_cell (bA_ BK109.out _) 5).trans rfl, (blk_cell (bA_ BK109.out _) 6).trans rfl, (blk_cell (bA_ BK116.out _) 0).trans rfl, (blk_cell (bA_ BK116.out _) 1).trans rfl, (blk_cell (bA_ BK116.out _) 2).trans rfl, (blk_cell (bA_ BK116.out _) 3).trans rfl, (World.cell?_alloc_lt _ _ _ (World.block_lt_of_cell? _ _ (((bc_ HB hw121_0 :))))).trans (((bc_ HB hw121_0 :))), (World.cell?_alloc_lt _ _ _ (World.block_lt_of_cell? _ _ (((bc_ HB hw122_0 :))))).trans (((bc_ HB hw122_0 :)))⟩ (fun hHeld => ?_)
                     clear hK K
                     refine norm_ (a' := ?_) ?_ ?_
                     rotate_left
                     ·show Act.put _ (some 83) _ = _
                      simp only [z_]
                      rfl
                     refine one_ (i := 18) (N := some 84) (bt 22 524287) rfl rfl (one_of HT_.out (by kernel_rfl)) (by decide) (fun K hK => ?_)
                     refine Kd.R_append_step k41 (w0 := w) w.heap.size (by rfl) (.tmp 70) (.tmp 83) 33 41 (.agg #[(.string ⟨#[]⟩), (.string ⟨#[]⟩)]) 32 rfl Tryd.underlying33 info41 rfl (by decide) (by omega) u110005 x110005_3 (⟨rdOf ByteArray.empty l1_0 x6_3, t123⟩ : S41) [.string (rdOf ByteArray.empty l1_0 x6_3), .string t123] (fun _ => True) (fun _ => False) rfl rfl ?aP (fun _ hk => hk.elim) ?aF ?aO ?aB ?aS ?aL ?_
                     (case aP => exact k41_mkM _ _ _ (⟨rdOf ByteArray.empty l1_0 x6_3, t123⟩ : S41))
                     (case aB => exact (b_ HB))
                     (case aF => exact (fun _ _ => trivial))
                     (case aO => exact (r_ HO_110005))
                     (case aS => exact (bz_ (b_ HB)))
                     (case aL => have := LMc68.out; omega)
                     intro v125 w71 ho hb hg hat
                     rw [← Ny124.out] at ho
                     replace HO_110003 := mk0 (Kd.R_over' (r_ HO_110003) (Kd.R_typed (r_ HO_110005)) (by decide) hg)
                     replace BK108 := mk0 (fg_ (fh_ BK108) hg (Kd.R_typed HO_110005.out) (.inr rfl))
                     replace BK109 := mk0 (blk_grown (g := gb109) (o := .cells #[.slice A0_0 l0_0.length c0_0, .int .i64 a0_1, .slice A0_2 l0_2.length c0_2, .slice Ao15 y113.length co15, .int .i64 x110004_5, u110005, .bool x110006_3] 100 (0, 0)) (h_ BK109) hg (Kd.R_ne HO_110005.out BK109.out (by decide)))
                     replace BK116 := mk0 (blk_grown (g := gb116) (o := .cells #[.slice (some ad121) l1_0.length c1_0, .slice (some ad122) l1_1.length c1_1, .slice A1_2 l1_2.length c1_2, .bool a1_3] 85 (0, 0)) (h_ BK116) hg (Kd.R_ne HO_110005.out BK116.out (by decide)))
                     replace HB := mk0 (hb)
                     have HO126 := mk0 (ho)
                     clear HO_110005
                     clear ho hb hg hat
                     obtain ⟨Ao72, co72, eo72⟩ := Kd.R_slice HO126.out
                     (first | subst eo72 | (injection eo72 with f1_ f2_ f3_; have f4_ := f1_.symm; have f5_ := f3_.symm; clear f1_ f2_ f3_; subst f4_; subst f5_))
                     refine hK.out _ _ ⟨bk_ BK109 0, bk_ BK109 1, bk_ BK109 2, bk_ BK109 3, bk_ BK109 4, bk_ BK109 5, bk_ BK109 6, bk_ BK116 0, bk_ BK116 1, bk_ BK116 2, bk_ BK116 3, ((bc_ HB hw121_0 :)), ((bc_ HB hw122_0 :))⟩ (fun hHeld => ?_)
                     clear hK K
                     refine norm_ (a' := ?_) ?_ ?_
                     rotate_left
                     ·show Act.put _ (some 84) _ = _
                      simp only [z_]
                      rfl
                     refine pq_ HT_.out 19 85 (bt 22 1048575) (h := ?_)
                     refine pq_ HT_.out 20 86 (bt 22 2097151) (h := ?_)
                     refine last_ (i := 21) (N := none) (bt 22 4194303) rfl rfl (one_of HT_.out (by kernel_rfl)) (by decide) (fun K hK => ?_)
                     have hs73 : w71.cell? ⟨gb109, 5, none⟩ = some (u110005) := bk_ BK109 5
                     have hfs73 := blk_frozen BK109.out 5
                     have hns73_2 := NB116_109.out
                     have hms73_2 := NB109_116.out
                     refine skip_ (w1 := ?_) (by rfl) rfl ?_ ?_
                     rotate_left
                     ·go_simp
                      rfl
                     refine hK.out _ _ ?_
                     clear hK K
                     refine done_ (done_of HT_.out (by kernel_rfl)) ?_
                     try go_wp2
                     go_roundg kj44
                     case measure => have := HJ5.out; have := HJ23.out; have := HK3.out; have := HJ44.out; omega
                     case rel => exact ⟨(wrap64 (x6_3 + 1)), (y124), (x110006_3), (.slice Ao72 y124.length co72), (by first | rfl | (simp; done) | (simp [*]; done)), H', ⟨by have := HJ5.out; have := HJ23.out; have := HK3.out; have := HJ44.out; omega⟩, ⟨by (with_reducible repeat (first | apply Ra_ | apply Rn_ | apply Rd_)); exact Kd.R_mono (Kd.R_far (p := ⟨gb109, 5, none⟩) (Kd.R_types HO_110003.out BK109.out (by decide)) (fun _ hk => hk.2) (.slice Ao72 y124.length co72)) (fun _ hk => trivial)⟩, ⟨by (with_reducible repeat (first | apply Ra_ | apply Rn_ | apply Rd_)); exact Kd.R_mono (Kd.R_far (p := ⟨gb109, 5, none⟩) (Kd.R_types HO126.out BK109.out (by decide)) (fun _ hk => hk.2) (.slice Ao72 y124.length co72)) (fun _ hk => trivial)⟩, ⟨(ff_ (fh_ BK108))⟩, ⟨(pu_ (cs := #[.slice A0_0 l0_0.length c0_0, .int .i64 a0_1, .slice A0_2 l0_2.length c0_2, .slice Ao15 y113.length co15, .int .i64 x110004_5, u110005, .bool x110006_3]) (h_ BK109))⟩, ⟨(fa_ (h_ BK116) NB116_109.out)⟩, ⟨b_ HB⟩⟩
                    ·rw [if_neg c68] at H
                     exact absurd H (by simp)
                   ·rw [if_neg c66] at H
                    exact absurd H (by simp)
                  ·rw [if_neg c65] at H
                   exact absurd H (by simp)
                 ·rw [if_neg c64] at H
                  exact absurd H (by simp)
            ·rw [if_neg c44] at H
             have c44b0 : decide (x6_3 < (l1_0.length : Int)) = false := decide_eq_false c44
             clear c44
             have hnb75 := NB116_109.out
             have hnc75 := NB109_116.out
             obtain ⟨hcz76_0, hcz76_1, hcz76_2, hcz76_3, hfz76_0, hfz76_1, hfz76_2, hfz76_3⟩ := c4_ BK116
             simp only [Option.some.injEq, Prod.mk.injEq] at H
             obtain ⟨rfl, rfl, rfl⟩ := H
             go_wp2
             first | go_end0 | ((try simp only [Exit.inBlock, Exit.then]); refine bodyPost_ret (results_none rfl _ _ _) rfl ?_)
             exact ⟨rfl, by (with_reducible repeat (first | apply Ra_ | apply Rn_ | apply Rd_)); exact HO_110003.out, u110005, by (with_reducible repeat (first | apply Ra_ | apply Rn_ | apply Rd_)); exact HO_110005.out, h_ BK109, fh_ BK108, b_ HB⟩


end Go.Proofs.YtkmkppchhdkipaaDoor.HRef
