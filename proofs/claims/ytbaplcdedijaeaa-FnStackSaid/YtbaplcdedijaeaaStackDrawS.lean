/-
  Contract of l93Stack: some short list of short rows, in memory of their own.
-/
import Derived.Test.YtbaplcdedijaeaaStackDraw
import Derived.Test.YtbaplcdedijaeaaRowsAll
namespace Go.Proofs.Ytbaplcdedijaeaa
open Go.RowKit

theorem info_rowD : (Try.prog.info? 29).map (fun i => (i.zero, i.size, i.bytes)) = some (some (.slice none 0 0), 1, 24) := by kernel_rfl
theorem cell_newD (w : World) (t : TypeId) (u : Value) : (w.alloc (.cells #[u] t)).cell? ⟨w.heap.size, 0, none⟩ = some u := by
  have hb : Blk (w.alloc (.cells #[u] t)) w.heap.size t #[u] := heap_alloc_new w _
  rw [hb.cell]
  rfl
theorem OwnI.drew {w : World} {base : Nat} {t : TypeId} {v : Value} {n : Nat} {l : List Int} (h : OwnI w base t v n l) : OwnI w.drew base t v n l := h.of_same fun _ _ _ => rfl
def StkPost (B g : Nat) (w : World) (e : Ending) (w' : World) : Prop :=
  ∃ A n c rs, e = .returned (.slice A n c) ∧ n ≤ 4 ∧ n ≤ c ∧ OwnR w' w.heap.size 29 (.slice A n c) n rs ∧ OwnAll w' w.heap.size rs ∧ (∀ r ∈ rs, r.n ≤ 8) ∧ (∃ p, p ≤ 150 ∧ Rdr w' B g p) ∧ w.grownBy w' (some g)
def StkRel (B g m : Nat) (w : World) (s0 : Value) (n1 : Nat) (l1 : List Int) (o i : Value) (wr : World) : Prop :=
  ∃ (k p : Nat) (rs : List RV), k ≤ m ∧ i = .int .i64 k ∧ OwnR wr w.heap.size 29 o k rs ∧ OwnAll wr w.heap.size rs ∧ (∀ r ∈ rs, r.n ≤ 7) ∧ Differ rs ∧ OwnI wr w.heap.size 3 s0 n1 l1 ∧ p ≤ 60 + 8 * k ∧ Rdr wr B g p ∧ w.grownBy wr (some g)
def RowInRel (B g m p : Nat) (W0 : World) (o i : Value) (wr : World) : Prop :=
  ∃ (q : Nat) (l : List Int), q ≤ m ∧ i = .int .i64 q ∧ OwnI wr W0.heap.size 3 o q l ∧ Rdr wr B g (p + q) ∧ W0.grownBy wr (some g)
theorem le_snoc {rs : List RV} {r : RV} {N : Nat} (h : ∀ r ∈ rs, r.n ≤ N) (hr : r.n ≤ N) : ∀ x ∈ rs ++ [r], x.n ≤ N := fun x hx => by
  rcases List.mem_append.1 hx with hx | hx
  · exact h x hx
  · obtain rfl : x = r := by simpa using hx
    exact hr
theorem cell_grown {W w' : World} {g b o : Nat} {u : Value} (hg : W.grownBy w' (some g)) (h : W.cell? ⟨b, o, none⟩ = some u) (hne : b ≠ g) (hb : b < W.heap.size) : w'.cell? ⟨b, o, none⟩ = some u :=
  (World.cell?_of_block (w := W) (a := ⟨b, o, none⟩) (hg.block b hb (by simp; omega))).trans h
/-- what is left behind a region that draws: the row has one number more -/
def InEnd (B g q p base : Nat) (W0 : World) (v : Value) (w' : World) : Prop := ∃ l, OwnI w' base 3 v (q + 1) l ∧ Rdr w' B g (p + q + 1) ∧ W0.grownBy w' (some g)

theorem cell_ltD {b o : Nat} {W : World} {v : Value} (h : W.cell? ⟨b, o, none⟩ = some v) : b < W.heap.size := World.block_lt_of_cell? W _ h
theorem cell_keepD {B b o : Nat} {W W' : World} {v : Value} (hb : Below B W W') (h : W.cell? ⟨b, o, none⟩ = some v) (hlt : b < B) : W'.cell? ⟨b, o, none⟩ = some v := (hb.cell (p := ⟨b, o, none⟩) hlt).trans h
theorem absD {F : World → Prop} {S : World → Prop} {W : World} (h : ∀ W', S W' → F W') (hS : S W) : F W := h W hS
theorem own_slv {w : World} {B n : Nat} {v : Value} {l : List Int} (h : OwnI w B 3 v n l) : ∃ A c, v = slv (RV.mk A n c l) := by
  obtain ⟨A, c, e, _⟩ := h.form
  exact ⟨A, c, e⟩
theorem way_cutD {B : Value → World → Prop} {F : Value → World → Prop} {G : Prop} (use : (∀ v W, B v W → F v W) → G) (rest : ∀ v W, B v W → F v W) : G := use rest
theorem un_drewD {a w : World} {row : Option Nat} (h : a.drew.grownBy w row) : a.grownBy w row := ⟨h.os, h.tape, h.output, h.size, h.block⟩
theorem Rdr.drew {w : World} {B g p : Nat} (h : Rdr w B g p) : Rdr w.drew B g p := h.of_same fun _ _ => rfl
theorem past_alloc {w3 w5 : World} {o : Obj} {row : Option Nat} (hG : (w3.alloc o).grownBy w5 row) {g : Nat} (hg : g < w3.heap.size) (hne : row ≠ some g) : w5.heap[g]? = w3.heap[g]? :=
  (hG.block g (by simp; omega) (Ne.symm hne)).trans (Below.heap_alloc w3 o g hg)
theorem own_cell0 {w : World} {base g n c j : Nat} {t : TypeId} {xs : List Value} (h : w.ownsRow base t 1 (.slice (some ⟨g, 0, none⟩) n c) n xs) (hj : j < n) : (∃ u, w.cell? ⟨g, j, none⟩ = some u) ∧ w.frozen? ⟨g, j, none⟩ = false := by
  rcases h.2 with ⟨h2, _⟩ | ⟨g', cap, cur, hv, _, hh, hn, _, hs, _⟩
  · cases h2
  · injection hv with hv1 hv2 hv3
    injection hv1 with hv1
    injection hv1 with hv1
    subst hv1 hv3
    have hb : Blk w g t cur := hh
    exact ⟨⟨cur[j]'(by omega), by rw [hb.cell, Array.getElem?_eq_getElem]⟩, hb.frozen _⟩
/-- the first row of a list has been appended to, and is put anew -/
theorem first_anew {w3 w5 : World} {o : Obj} {base gb n c n5 c5 : Nat} {A5 : Option Addr} {l5 : List Int} {rs : List RV} {r0 : RV}
    (hO : OwnR w3 base 29 (.slice (some ⟨gb, 0, none⟩) n c) n rs) (hA : OwnAll w3 base rs) (hD : Differ rs) (hE : rs = r0 :: rs.tail)
    (hG : (w3.alloc o).grownBy w5 (slv r0).ownBlock) (h5 : OwnI w5 base 3 (.slice A5 n5 c5) n5 l5) :
    ((∃ u, w5.cell? ⟨gb, 0, none⟩ = some u) ∧ w5.frozen? ⟨gb, 0, none⟩ = false) ∧
    OwnR (w5.setCell ⟨gb, 0, none⟩ (.slice A5 n5 c5)) base 29 (.slice (some ⟨gb, 0, none⟩) n c) n (rs.set 0 (RV.mk A5 n5 c5 l5)) ∧
    OwnAll (w5.setCell ⟨gb, 0, none⟩ (.slice A5 n5 c5)) base (rs.set 0 (RV.mk A5 n5 c5 l5)) := by
  have hm0 : r0 ∈ rs := by rw [hE]; simp
  have hL : w5.ownsRow base 29 1 (.slice (some ⟨gb, 0, none⟩) n c) n (slvs rs) := own_keep hO.own fun g hg => past_alloc hG (own_lt hO.own hg) (own_apart types_ne.symm hO.own (hA r0 hm0).own hg)
  have hall : OwnAll (w5.setCell ⟨gb, 0, none⟩ (.slice A5 n5 c5)) base (rs.set 0 (RV.mk A5 n5 c5 l5)) := by
    intro r hr
    rw [hE, List.set_cons_zero] at hr
    have hgo : ∀ {v : Value} {m : Nat} {xs : List Int}, OwnI w5 base 3 v m xs → OwnI (w5.setCell ⟨gb, 0, none⟩ (.slice A5 n5 c5)) base 3 v m xs := fun h => h.keep fun g hg => Below.heap_setCell _ _ _ _ (by
      have := own_apart types_ne h.own hL hg
      simp only [Value.ownBlock] at this
      simpa using fun e => this (by simp [e]))
    rcases List.mem_cons.1 hr with rfl | hr
    · exact hgo h5
    · refine hgo ((hA r (by rw [hE]; exact List.mem_cons_of_mem _ hr)).keep fun g hg => past_alloc hG (own_lt (hA r (by rw [hE]; exact List.mem_cons_of_mem _ hr)).own hg) ?_)
      unfold Differ at hD
      rw [hE] at hD
      exact fun h0 => (List.pairwise_cons.1 hD).1 r hr g h0 hg
  have hn : 0 < n := by have := hO.len; rw [hE] at this; simp at this; omega
  exact ⟨own_cell0 hL hn, OwnR.put hL hO.len 0 (RV.mk A5 n5 c5 l5) rfl hall.rd, hall⟩
theorem le_set {rs : List RV} {r : RV} {N : Nat} {j : Nat} (h : ∀ r ∈ rs, r.n ≤ N) (hr : r.n ≤ N + 1) : ∀ x ∈ rs.set j r, x.n ≤ N + 1 := fun x hx => by
  rcases List.mem_or_eq_of_mem_set hx with hx | rfl
  · exact Nat.le_succ_of_le (h x hx)
  · exact hr
set_option maxHeartbeats 4000000 in
theorem c_l93Stack (B g p : Nat) (w : World) (hp : p ≤ 10) (h : Rdr w B g p) :
    Calls Try.prog 38 #[.pointer (some ⟨g, 0, none⟩)] w (StkPost B g w) := by
  have HR := Lib.hid h
  have hlt := h.lt
  have hge := h.ge
  clear h
  obtain ⟨i0, hi, hz0, hz1, hz2⟩ := info_parts info_rowD
  have HI := Lib.hid hi
  have HZ0 := Lib.hid hz0
  have HZ1 := Lib.hid hz1
  have HZ2 := Lib.hid hz2
  obtain ⟨j0, hj, hy0, hy1, hy2⟩ := info_parts info_int
  have HJ := Lib.hid hj
  have HY0 := Lib.hid hy0
  have HY1 := Lib.hid hy1
  have HY2 := Lib.hid hy2
  clear hi hz0 hz1 hz2 hj hy0 hy1 hy2
  go_enter Try.func38, Try.ntmps38
  go_wp2_with fail
  refine (c_l91Row B g p _ (by omega) (HR.out.below ((Below.refl _ _).alloc (Nat.le_refl _) _))).mono ?_
  rintro e w1 ⟨A1, n1, c1, l1, rfl, hn1, hc1, hsm1, hO1, ⟨p1, hp1, hr1⟩, hg1⟩
  have HR1 := Lib.hid hr1
  have HG1 := Lib.hid (only_same (only_alloc (World.grownBy.refl w (some g)) _) hg1)
  have HOO1 := Lib.hid ((OwnR.empty w 29 (Nat.le_refl _)).grownA OwnAll.nil (B := w.heap.size) hg1 hlt hlt)
  have HS1 := Lib.hid (hO1.down (base' := w.heap.size) (by simp))
  have HSM := Lib.hid hsm1
  clear hr1 hg1 hO1 hsm1
  go_wp2_with fail
  refine (c_pick B g p1 _ _ (by omega) HR1.out).mono ?_
  rintro e w2 ⟨x, rfl, hx0, hx1, hr2, hg2, hs2⟩
  have HR2 := Lib.hid hr2
  have HG2 := Lib.hid (only_same HG1.out hg2)
  have HOO2 := Lib.hid (HOO1.out.grownA OwnAll.nil (B := w.heap.size) hg2 hlt hlt)
  have HS2 := Lib.hid (HS1.out.grown hg2 hlt)
  clear hr2 hg2 hs2 HR1 HG1 HOO1 HS1
  obtain ⟨m, rfl⟩ : ∃ m : Nat, x = (m : Int) := ⟨x.toNat, by omega⟩
  have hm : m ≤ 3 := by omega
  clear hx0 hx1
  go_wp2_with fail
  go_loopw [3, 6] (fun o i wr => StkRel B g (1 + m) w (.slice A1 n1 c1) n1 l1 o i wr) (fun _ i _ => 1 + m - (intOf i).toNat)
  case atStart => exact ⟨0, p1 + 1, [], Nat.zero_le _, rfl, HOO2.out, OwnAll.nil, (fun r hr => by cases hr), List.Pairwise.nil, HS2.out, by omega, HR2.out, HG2.out⟩
  case round =>
    obtain ⟨k, p2, rs, hk, rfl, hO, hA, hle, hdf, hS, hp2, hR, hG⟩ := hrel
    have HO := Lib.hid hO
    have HA := Lib.hid hA
    have HLE := Lib.hid hle
    have HDF := Lib.hid hdf
    have HS := Lib.hid hS
    have HR3 := Lib.hid hR
    have HG := Lib.hid hG
    have hsz : w.heap.size ≤ wr.heap.size := HG.out.size
    clear hO hA hle hdf hS hR hG
    by_cases hlt2 : k < 1 + m
    · have hlt3 : decide ((k : Int) < 1 + (m : Int)) = true := by simp; omega
      obtain ⟨W0, hW0⟩ : ∃ W0, W0 = wr := ⟨_, rfl⟩
      subst hW0
      go_wp2_with fail
      go_loopw [7, 8] (fun o i wr => RowInRel B g n1 p2 W0 o i wr) (fun _ i _ => n1 - (intOf i).toNat)
      case atStart => exact ⟨0, [], Nat.zero_le _, rfl, OwnI.empty W0 3 (Nat.le_refl _), HR3.out.below ((Below.refl _ _).alloc (Nat.le_refl _) _), only_alloc (World.grownBy.refl W0 _) _⟩
      case round =>
        obtain ⟨q, l, hq, rfl, hO, hR, hG⟩ := hrel
        have HNX := Lib.hid hO
        have HRI := Lib.hid hR
        have HGI := Lib.hid hG
        have hszi : W0.heap.size ≤ wr.heap.size := HGI.out.size
        clear hO hR hG
        have hgW : g < W0.heap.size := by omega
        by_cases hltq : q < n1
        · have HSI := Lib.hid (HS.out.grown HGI.out hlt)
          obtain ⟨A', c', hv', _, _, hrd, hrow⟩ := HSI.out.form
          injection hv' with hv1 hv2 hv3
          subst hv1 hv3
          obtain ⟨gr, e1, hgr, _⟩ := hrow (by omega)
          obtain ⟨b, off, e2, hb, hc⟩ := hrd.at_ (by omega)
          rw [e1] at e2
          injection e2 with e2
          injection e2 with e3 e4
          subst e3 e4
          have hcq := hc q hltq
          have hbx := HSM.out q (by rw [hrd.len]; exact hltq)
          have hgg : gr ≠ g := by omega
          clear hc hrow hrd
          rw [Nat.zero_add] at hcq
          have hq0 : (0 : Int) ≤ (q : Int) := by omega
          have hq1 : (q : Int) < (n1 : Int) := by omega
          obtain ⟨hb0, hb1⟩ := hbx
          obtain ⟨x, hx⟩ : ∃ x, ix l1 q = x := ⟨_, rfl⟩
          rw [hx] at hcq hb0 hb1
          clear hx
          have hgW0 : gr < W0.heap.size := own_lt HS.out.own (by rw [e1]; rfl)
          rw [e1]
          go_wp2_with fail
          go_region_held3 (fun W => W.cell? ⟨gr, q, none⟩ = some (.int .i64 x)) (first | exact hcq | exact hS5 | exact hS6 | exact cell_keepD ((Below.refl _ _).alloc (Nat.le_refl _) _) hS5 hbB5) (first | (go_at_call 39; (with_reducible refine (c_pick B g _ _ _ (by omega) HRI.out.drew).mono ?_); rintro e w5 ⟨y, rfl, y0, y1, hr5, hg5, hs5⟩; have hS5 := cell_grown (un_drewD hg5) hcq hgg hb; have hbB5 := cell_ltD hS5; have HR5 := Lib.hid hr5; have HG5 := Lib.hid (only_same HGI.out (un_drewD hg5)); have HN5 := Lib.hid (HNX.out.grown (un_drewD hg5) hgW); clear hr5 hg5 hs5) | (rw [if_pos (by rfl)]; refine wp_appendI _ _ 29 rfl W0.heap.size 3 j0 (.int .i64 0) Try.underlying29 HJ.out HY0.out HY1.out HY2.out rfl _ q l rfl (HN5.out.alloc _) ⟨w5.heap.size, 0, none⟩ _ rfl (cell_1 _ _ _) (by omega) (by have := HG5.out.size; simp; omega) ?_; intro v' w6 hO6 hB6; have hS6 := cell_keepD (W := w5.alloc _) hB6 (cell_keepD ((Below.refl _ _).alloc (Nat.le_refl _) _) hS5 hbB5) (by omega)))
          have hO7 := hO6
          have hR7 := (HR5.out.below ((Below.refl _ _).alloc (Nat.le_refl _) _)).belowAt hB6 hgW
          have hG7 := only_belowAt (only_alloc HG5.out _) hB6 (Nat.le_refl _)
          go_wp2_with fail
          go_roundw
          case rel => exact ⟨q + 1, _, by omega, by go_num, hO7, by rw [show p2 + (q + 1) = p2 + q + 1 by omega]; exact hR7, hG7⟩
          case measure => simp [intOf]; omega
        · obtain rfl : q = n1 := by omega
          have HSI := Lib.hid (HS.out.grown HGI.out hlt)
          have HOI := Lib.hid (HO.out.grownA HA.out HGI.out hlt hlt)
          have HAI := Lib.hid (HA.out.grown HGI.out hlt)
          have HGA := Lib.hid (only_same HG.out HGI.out)
          obtain ⟨An, cn, rfl, hcn, _⟩ := HNX.out.form
          have HDI := Lib.hid (Differ.snoc (r := RV.mk An q cn l) HDF.out HA.out (Nat.le_refl _) HNX.out)
          have HNW := Lib.hid (show OwnI wr w.heap.size 3 (slv (RV.mk An q cn l)) q l from HNX.out.down hsz)
          have hszw : w.heap.size ≤ wr.heap.size := HGA.out.size
          clear HNX HGI HS HO HA HG HDF
          go_wp2_with (at_builtin; refine wpList_appendO (by rfl) _ _ 22 rfl w.heap.size i0 (.slice none 0 0) Try.underlying22 HI.out HZ0.out HZ1.out HZ2.out rfl _ k rs rfl (HOI.out.alloc _) w.heap.size (HAI.out.alloc _) wr.heap.size (RV.mk An q cn l) rfl (cell_newD wr _ _) (HNW.out.alloc _) (by omega) (by simp; omega) ?_; intro v' w5 hO5 hA5 hB5 hG5)
          have HO5 := Lib.hid hO5
          have HA5 := Lib.hid hA5
          have HS5 := Lib.hid ((HSI.out.alloc _).past (HOI.out.alloc _) hG5)
          have HR5 := Lib.hid ((HRI.out.below ((Below.refl _ _).alloc (Nat.le_refl _) _)).belowAt hB5 hlt)
          have HG5 := Lib.hid (only_belowAt (only_alloc HGA.out _) hB5 (Nat.le_refl _))
          have HLE5 := Lib.hid (le_snoc (r := RV.mk An q cn l) HLE.out hn1)
          clear hO5 hA5 hB5 hG5
          go_roundw
          case rel => exact ⟨k + 1, p2 + q, _, by omega, by go_num, HO5.out, HA5.out, HLE5.out, HDI.out, HS5.out, by omega, HR5.out, HG5.out⟩
          case measure => simp [intOf]; omega
    · obtain rfl : k = 1 + m := by omega
      have hlt3 : decide (((1 + m : Nat) : Int) < 1 + (m : Int)) = false := by simp
      obtain ⟨A, c, rfl, hc, hc2, hrr, hrow⟩ := HO.out.form
      obtain ⟨gb, rfl, hgb⟩ := hrow (by omega)
      clear hrow HS
      go_wp2_with fail
      refine (c_pick B g _ _ _ (by omega) HR3.out).mono ?_
      rintro e w3 ⟨x, rfl, hx0, hx1, hr2, hg2, hs2⟩
      have HR4 := Lib.hid hr2
      have HG4 := Lib.hid (only_same HG.out hg2)
      have HO4 := Lib.hid (HO.out.grownA HA.out hg2 hlt hlt)
      have HA4 := Lib.hid (HA.out.grown hg2 hlt)
      have hsz2 : w.heap.size ≤ w3.heap.size := HG4.out.size
      clear hr2 hg2 hs2 HO HR3 HG HA hrr
      by_cases h0 : x = 0
      · subst h0
        obtain ⟨_, _, hv, _, _, hrr, _⟩ := HO4.out.form
        injection hv with hv1 hv2 hv3
        subst hv1 hv3
        obtain ⟨b, off, e2, hb, hcl⟩ := hrr.at_ (by omega)
        injection e2 with e2
        injection e2 with e3 e4
        subst e3 e4
        have hc0 := hcl 0 (by omega)
        clear hcl
        have hl0 : 0 < rs.length := by have := hrr.len; omega
        have HM := Lib.hid (rv_mem hl0)
        have HW0 := Lib.hid (HA4.out _ (rv_mem hl0))
        have hr0 := HLE.out _ (rv_mem hl0)
        have HE := Lib.hid (show rs = rv rs 0 :: rs.tail by
          obtain ⟨r, t, rfl⟩ : ∃ r t, rs = r :: t := by
            cases rs with
            | nil => simp at hl0
            | cons r t => exact ⟨r, t, rfl⟩
          simp [rv])
        generalize rv rs 0 = r0 at *
        obtain ⟨A0, n0, c0, l0⟩ := r0
        go_wp2_with (at_builtin; refine wpList_appendIG (by rfl) _ _ 29 rfl w.heap.size 3 j0 (.int .i64 0) Try.underlying29 HJ.out HY0.out HY1.out HY2.out rfl _ n0 l0 rfl (HW0.out.alloc _) ⟨w3.heap.size, 0, none⟩ 1 rfl (cell_1 _ _ _) (by omega) (by simp; omega) ?_; intro v' w5 hO5 hB5 hG5; obtain ⟨A5, c5, rfl, _⟩ := hO5.form; obtain ⟨⟨⟨u5, hu5⟩, hf5⟩, hOF, hAF⟩ := first_anew (r0 := RV.mk A0 n0 c0 l0) HO4.out HA4.out HDF.out HE.out hG5 hO5; have HOF := Lib.hid hOF; have HAF := Lib.hid hAF; have HB5 := Lib.hid hB5; clear hO5 hB5 hG5 hOF hAF)
        go_ret
        exact ⟨_, _, _, _, rfl, by omega, hc, HOF.out, HAF.out, le_set HLE.out (Nat.succ_le_succ hr0), ⟨_, by omega, ((HR4.out.below ((Below.refl _ _).alloc (Nat.le_refl _) _)).belowAt HB5.out hlt).of_same fun j hj => Below.heap_setCell _ _ _ _ (by simp; omega)⟩, only_setCell (only_belowAt (only_alloc HG4.out _) HB5.out (Nat.le_refl _)) (.inr hgb) _⟩
      · have h0' : (x == 0) = false := by simpa using h0
        by_cases h1 : x = 1
        · subst h1
          go_wp2
          go_ret
          exact ⟨_, 0, _, [], rfl, by omega, Nat.le_refl _, OwnR.empty _ _ hsz2, OwnAll.nil, (fun r hr => by cases hr), ⟨_, by omega, HR4.out.below ((Below.refl _ _).alloc (Nat.le_refl _) _)⟩, only_alloc HG4.out _⟩
        · have h1' : (x == 1) = false := by simpa using h1
          go_wp2
          go_ret
          exact ⟨_, _, _, rs, rfl, by omega, hc, HO4.out, HA4.out, fun r hr => Nat.le_succ_of_le (HLE.out r hr), ⟨_, by omega, HR4.out⟩, HG4.out⟩
end Go.Proofs.Ytbaplcdedijaeaa
