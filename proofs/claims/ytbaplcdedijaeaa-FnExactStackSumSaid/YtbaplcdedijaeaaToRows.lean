/-
  Contract of toIntSS: a copy of a list of rows, each row in memory of its own.
-/
import Derived.Test.YtbaplcdedijaeaaExactInts
namespace Go.Proofs.Ytbaplcdedijaeaa
open Go.RowKit

def nilRV : RV := ⟨none, 0, 0, []⟩
/-- each row lies in a block of its own behind B, and is just that block -/
def Home (B : Nat) (w : World) (rs : List RV) : Prop := ∀ r ∈ rs, ∃ h, r.A = some ⟨h, 0, none⟩ ∧ B < h ∧ RowE w h 3 r.l ∧ r.l.length = r.n ∧ r.n ≤ r.c ∧ r.n ≤ 2000000
theorem Home.same {B : Nat} {w w' : World} {rs : List RV} (h : Home B w rs) (hs : ∀ k, B < k → k < w.heap.size → w'.heap[k]? = w.heap[k]?) : Home B w' rs := fun r hr => by
  obtain ⟨g, e, hg, hR, hl⟩ := h r hr
  exact ⟨g, e, hg, (hs g hg (Blk.lt hR)).trans hR, hl⟩
theorem Home.below {B : Nat} {w w' : World} {rs : List RV} (h : Home B w rs) (hb : Below w.heap.size w w') : Home B w' rs := h.same fun k _ hk => hb.block k hk
theorem Home.rd {B : Nat} {w : World} {rs : List RV} (h : Home B w rs) : RdAll w rs := fun r hr => by
  obtain ⟨g, e, hg, hR, hl, hc, _⟩ := h r hr
  refine ⟨⟨hl, fun _ => ⟨g, 0, e, Blk.lt hR, fun i hi => ?_⟩⟩, hc⟩
  rw [Nat.zero_add]
  exact (hR.cell (by omega)).1
theorem Home.snoc {B : Nat} {w : World} {rs : List RV} {r : RV} (h : Home B w rs) (hr : Home B w [r]) : Home B w (rs ++ [r]) := fun x hx => by
  rcases List.mem_append.1 hx with hx | hx
  · exact h x hx
  · exact hr x hx
theorem slvs_put {rs : List RV} {n : Nat} (hk : rs.length < n) (r : RV) : (slvs (rs ++ List.replicate (n - rs.length) nilRV)).toArray.setIfInBounds rs.length (slv r) = (slvs ((rs ++ [r]) ++ List.replicate (n - (rs.length + 1)) nilRV)).toArray := by
  obtain ⟨d, hd⟩ : ∃ d, n - rs.length = d + 1 := ⟨n - rs.length - 1, by omega⟩
  have hd2 : n - (rs.length + 1) = d := by omega
  rw [hd, hd2, List.replicate_succ]
  apply Array.ext'
  simp [slvs]
theorem info_row : (Try.prog.info? 29).map (fun i => (i.zero, i.size, i.bytes)) = some (some (.slice none 0 0), 1, 24) := by kernel_rfl
theorem nil_made {w : World} {base g n : Nat} {t : TypeId} (h : w.ownsRow base t 1 (.slice (some ⟨g, 0, none⟩) n n) n (madeCells #[Value.slice none 0 0] n).toList) : Blk w g t (slvs (List.replicate n nilRV)).toArray := by
  obtain ⟨cs, hb, hs, _, ht⟩ := Blk.of_own h
  have e : (madeCells #[Value.slice none 0 0] n).toList = List.replicate n (.slice none 0 0) := toList_madeCells_one _ _
  rw [e, Nat.mul_one, List.take_of_length_le (by simp; omega)] at ht
  have e2 : cs = (slvs (List.replicate n nilRV)).toArray := by
    apply Array.ext'
    rw [ht]
    simp [slvs, slv, nilRV]
  rw [e2] at hb
  exact hb
def ToRel (n : Nat) (rs : List RV) (w : World) (i : Value) (wr : World) : Prop :=
  ∃ rs' : List RV, rs'.length ≤ n ∧ i = .int .i64 rs'.length ∧ vals rs' = (vals rs).take rs'.length ∧ Home w.heap.size wr rs' ∧ Blk wr w.heap.size 29 (slvs (rs' ++ List.replicate (n - rs'.length) nilRV)).toArray ∧ Below w.heap.size w wr
def ToR (n : Nat) (rs : List RV) (w : World) (e : Ending) (w' : World) : Prop :=
  ∃ rs' : List RV, e = .returned (.slice (some ⟨w.heap.size, 0, none⟩) n n) ∧ RdR w' (some ⟨w.heap.size, 0, none⟩) n rs' ∧ vals rs' = vals rs ∧ Short rs' ∧ Home w.heap.size w' rs' ∧ Below w.heap.size w w'
theorem to_step {n : Nat} {rs rs' : List RV} {w wr w2 : World} {k : Nat} {l : List Int} {m : Nat} {i : Value} (hk : k < n) (hkl : rs'.length = k) (hi : i = .int .i64 ((k + 1 : Nat) : Int)) (hv : vals rs' = (vals rs).take k) (hH : Home w.heap.size wr rs') (hK : Blk wr w.heap.size 29 (slvs (rs' ++ List.replicate (n - k) nilRV)).toArray) (hB : Below w.heap.size w wr)
    (hR : RowE w2 wr.heap.size 3 l) (hB2 : Below wr.heap.size wr w2) (hl : l.length = m) (hm : m ≤ 2000000) (hvk : (vals rs).take (k + 1) = (vals rs).take k ++ [l]) : ToRel n rs w i (w2.setCell ⟨w.heap.size, k, none⟩ (.slice (some ⟨wr.heap.size, 0, none⟩) m m)) := by
  have hsz : w.heap.size < wr.heap.size := Blk.lt hK
  have hO : ∀ g, w.heap.size < g → (w2.setCell ⟨w.heap.size, k, none⟩ (.slice (some ⟨wr.heap.size, 0, none⟩) m m)).heap[g]? = w2.heap[g]? := fun g hg => Below.heap_setCell _ _ _ _ (by simp; omega)
  subst hkl
  refine ⟨rs' ++ [⟨some ⟨wr.heap.size, 0, none⟩, m, m, l⟩], by simp; omega, by simpa using hi, ?_, ?_, ?_, (hB.trans (hB2.mono hB.size)).setCell (Nat.le_refl _) _⟩
  · rw [List.length_append, List.length_singleton, hvk, ← hv]
    simp [vals]
  · refine Home.snoc ((hH.below hB2).same fun g hg _ => hO g hg) fun r hr => ?_
    obtain rfl : r = ⟨some ⟨wr.heap.size, 0, none⟩, m, m, l⟩ := by simpa using hr
    exact ⟨wr.heap.size, rfl, hsz, (hO _ hsz).trans hR, hl, Nat.le_refl _, hm⟩
  · have h1 := (Blk.below hK hB2 hsz).put rs'.length (slv ⟨some ⟨wr.heap.size, 0, none⟩, m, m, l⟩)
    rw [slvs_put (by omega)] at h1
    rw [List.length_append, List.length_singleton]
    exact h1
theorem to_end {n : Nat} {rs rs' : List RV} {w wr : World} (hn : rs'.length = n) (hl : (vals rs).length = n) (hv : vals rs' = (vals rs).take n) (hH : Home w.heap.size wr rs') (hK : Blk wr w.heap.size 29 (slvs (rs' ++ List.replicate (n - n) nilRV)).toArray) (hB : Below w.heap.size w wr) : ToR n rs w (.returned (.slice (some ⟨w.heap.size, 0, none⟩) n n)) wr := by
  rw [Nat.sub_self, List.replicate_zero, List.append_nil] at hK
  refine ⟨rs', rfl, ⟨hn, fun _ => ⟨w.heap.size, 0, rfl, Blk.lt hK, fun i hi => ?_⟩, hH.rd⟩, by rw [hv, List.take_of_length_le (by omega)], fun i hi => ?_, hH, hB⟩
  · rw [Nat.zero_add, Blk.cell hK]
    simpa using slvs_at (l := rs') (k := i) (by omega)
  · obtain ⟨_, _, _, _, _, _, h⟩ := hH _ (rv_mem hi)
    exact h

set_option maxHeartbeats 1000000 in
theorem c_toIntSS (A : Option Addr) (n c : Nat) (rs : List RV) (w : World) (hn : n ≤ 2000000) (h : RdR w A n rs) (hs : Short rs) :
    Calls Try.prog 13 #[.slice A n c] w (ToR n rs w) := by
  have HR := Lib.hid h
  have HS := Lib.hid hs
  have HL := Lib.hid (show (vals rs).length = n by rw [vals_len]; exact h.len)
  clear h hs
  obtain ⟨i0, hi, hz0, hz1, hz2⟩ := info_parts info_row
  have HI := Lib.hid hi
  have HZ := Lib.hid hz2
  clear hi hz2
  go_enter Try.func13, Try.ntmps13
  go_wp2_with (at_make; refine wpList_make_full _ rfl _ _ 22 rfl w.heap.size 29 i0 (.slice none 0 0) 1 Try.underlying22 HI.out hz0 hz1 _ _ _ _ n rfl rfl rfl rfl ?b1 ?b2 ?b3 ?_)
  case b1 => rw [HZ.out]; omega
  case b2 => unfold maxLen; omega
  case b3 => exact Nat.le_refl _
  intro w1 hown hgrow
  have R1 := Lib.hid (nil_made hown)
  have hB1 : Below w.heap.size w w1 := (Below.refl _ _).grown hgrow (Nat.le_refl _) (fun k hk => by cases hk)
  clear hown hgrow HI HZ hz0 hz1
  go_wp2
  go_loopw [4] (fun i wr => ToRel n rs w i wr) (fun i _ => n - (intOf i).toNat)
  case atStart => exact ⟨[], Nat.zero_le _, rfl, rfl, (fun r hr => by cases hr), by simpa using R1.out, hB1⟩
  case round =>
    obtain ⟨rs', hk, hi, hv, hH, hK, hB⟩ := hrel
    obtain ⟨k, hkl⟩ : ∃ k, rs'.length = k := ⟨_, rfl⟩
    rw [hkl] at hk hi hv hK
    subst hi
    have HKL := Lib.hid hkl
    have HV := Lib.hid hv
    have HH := Lib.hid hH
    have HK := Lib.hid hK
    have hKlt := Blk.lt hK
    clear hkl hv hH hK
    by_cases hlt : k < n
    · obtain ⟨b, off, rfl, hb, hc⟩ := HR.out.at_ (by omega)
      have hck := hc k hlt
      rw [← hB.cell (p := ⟨b, off + k, none⟩) hb] at hck
      have hkr : k < rs.length := by have := HR.out.len; omega
      have hsk := HS.out k hkr
      have HRK := Lib.hid ((HR.out.row hlt).1.below hB)
      have HNK := Lib.hid (HR.out.row hlt).1.len
      have HT := Lib.hid (show (vals rs).take (k + 1) = (vals rs).take k ++ [(rv rs k).l] by
        rw [List.take_succ_eq_append_getElem (by rw [vals_len]; exact hkr), vals_at hkr])
      clear hc
      go_wp2_with fail
      refine (c_toIntS _ _ _ (rv rs k).l _ hsk HRK.out).mono ?_
      rintro e w2 ⟨rfl, hR2, hb2⟩
      have R2 := Lib.hid hR2
      have HB2 := Lib.hid hb2
      have hblk := Blk.below HK.out hb2 hKlt
      have hcell := hblk.cell k
      have hfz := hblk.frozen k
      obtain ⟨v0, hv0⟩ : ∃ v, w2.cell? ⟨w.heap.size, k, none⟩ = some v := by
        rw [hcell]
        refine ⟨_, Array.getElem?_eq_getElem ?_⟩
        have := HKL.out
        simp [slvs]
        omega
      clear hR2 hb2 hblk hcell
      go_wp2
      go_roundw
      case rel => exact to_step hlt HKL.out (by go_num) HV.out HH.out HK.out hB R2.out HB2.out HNK.out hsk HT.out
      case measure => simp [intOf]; omega
    · obtain rfl : k = n := by omega
      go_wp2
      go_ret
      exact to_end HKL.out HL.out HV.out HH.out HK.out hB
end Go.Proofs.Ytbaplcdedijaeaa
