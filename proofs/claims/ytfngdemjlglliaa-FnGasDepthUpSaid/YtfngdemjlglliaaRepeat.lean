/-
  Contracts of math/bits.Mul at 1, and of slices.Repeat of one integer.
-/
import Derived.Test.YtfngdemjlglliaaGasIntsA
import Derived.Lib.Mul64
import Derived.Laws.Bits64b
import Derived.Laws.CopyOwn
import Derived.Deep.RegionHeld3
import Derived.IntWalk
namespace Go.Proofs.Ytfngdemjlglliaa
open Go.RowKit

theorem mask_nat (a : Nat) (ha : a < 4294967296) : bits .and .u64 (a : Int) 4294967295 = (a : Int) := by
  have h := bits_and_u64_nat a 4294967295 (by omega) (by omega)
  have e : a &&& 4294967295 = a % 4294967296 := Nat.and_two_pow_sub_one_eq_mod a 32
  rw [e, Nat.mod_eq_of_lt ha] at h
  exact h
set_option maxHeartbeats 1000000 in
theorem c_Mul64 (y : Nat) (hy : y ≤ 2000000) (w : World) :
    Calls Try.prog 67 #[.int .u64 1, .int .u64 y] w fun e w' => e = .returned (.tuple #[.int .u64 0, .int .u64 y]) ∧ w = w' := by
  have m1 : bits .and .u64 1 4294967295 = 1 := mask_nat 1 (by omega)
  have m2 := mask_nat y (by omega)
  have d2 : (y : Int) / 4294967296 = 0 := by omega
  have m0 : bits .and .u64 0 4294967295 = 0 := mask_nat 0 (by omega)
  go_enter Try.func67, Try.ntmps67
  go_wp2
  go_ret2
  exact ⟨rfl, rfl⟩
set_option maxHeartbeats 1000000 in
theorem c_Mul (y : Nat) (hy : y ≤ 2000000) (w : World) :
    Calls Try.prog 58 #[.int .u64 1, .int .u64 y] w fun e w' => e = .returned (.tuple #[.int .u64 0, .int .u64 y]) ∧ w = w' := by
  go_enter Try.func58, Try.ntmps58
  go_wp2_with fail
  refine (c_Mul64 y hy _).mono ?_
  rintro e w' ⟨rfl, rfl⟩
  go_wp2
  go_ret2
  exact ⟨rfl, rfl⟩

/-- m times x, then zeros: n numbers -/
def fil (n m : Nat) (x : Int) : List Int := List.replicate m x ++ List.replicate (n - m) 0
theorem fil_zero (n : Nat) (x : Int) : fil n 0 x = List.replicate n 0 := by simp [fil]
theorem fil_full (n : Nat) (x : Int) : fil n n x = List.replicate n x := by simp [fil]
theorem fil_len {n m : Nat} {x : Int} (h : m ≤ n) : (fil n m x).length = n := by simp [fil]; omega
theorem fil_splice {n m j : Nat} {x : Int} (h : m + j ≤ n) : splice (ints (fil n m x)) m (ints (List.replicate j x)) = ints (fil n (m + j) x) := by
  have e1 : (ints (fil n m x)).take m = ints (List.replicate m x) := by
    rw [fil, ints_app]
    exact List.take_left' (by simp [ints])
  have e2 : (ints (fil n m x)).drop (m + j) = ints (List.replicate (n - (m + j)) 0) := by
    rw [fil, ints_app, List.drop_append]
    simp only [ints, List.length_replicate, List.map_replicate, List.drop_replicate]
    rw [show m - (m + j) = 0 by omega, show n - m - (m + j - m) = n - (m + j) by omega]
    rfl
  unfold splice
  rw [e1, ints_len, List.length_replicate, e2, ← ints_app, ← ints_app, ← List.append_assoc, List.replicate_append_replicate]
  rfl
theorem fil_ix {n m i : Nat} {x : Int} (h : i < m) (hm : m ≤ n) : ix (fil n m x) i = x := by
  rw [ix_eq (by rw [fil_len hm]; omega)]
  simp [fil, List.getElem_append_left, h]
theorem rep_cells {w : World} {g n m j : Nat} {t : TypeId} {x : Int} (h : RowE w g t (fil n m x)) (hj : j ≤ m) (hm : m ≤ n) : ∀ i v, (ints (List.replicate j x))[i]? = some v → w.cell? ((⟨g, 0, none⟩ : Addr).add i) = some v := by
  intro i v hv
  have hi : i < j := by
    have := (List.getElem?_eq_some_iff.1 hv).1
    simpa [ints] using this
  rw [add_none, Nat.zero_add, (h.cell (by rw [fil_len hm]; omega)).1, fil_ix (by omega) hm]
  simpa [ints, hi] using hv
def RepRel (n : Nat) (x : Int) (w : World) (i : Value) (wr : World) : Prop :=
  ∃ m : Nat, (m = 0 → n = 0) ∧ m ≤ n ∧ i = .int .i64 m ∧ RowE wr w.heap.size 3 (fil n m x) ∧ Below w.heap.size w wr
def RepPost (n : Nat) (x : Int) (w : World) (e : Ending) (w' : World) : Prop :=
  e = .returned (.slice (some ⟨w.heap.size, 0, none⟩) n n) ∧ RowE w' w.heap.size 3 (List.replicate n x) ∧ Below w.heap.size w w'

set_option maxHeartbeats 1000000 in
theorem c_Repeat (b off cx : Nat) (x : Int) (n : Nat) (w : World) (hn : n ≤ 2000000) (h : w.cell? ⟨b, off, none⟩ = some (.int .i64 x)) :
    Calls Try.prog 46 #[.slice (some ⟨b, off, none⟩) 1 cx, .int .i64 n] w (RepPost n x w) := by
  obtain ⟨i0, hi, hz0, hz1, hz2⟩ := info_parts info_int
  have HI := Lib.hid hi
  have HZ0 := Lib.hid hz0
  have HZ1 := Lib.hid hz1
  have HZ2 := Lib.hid hz2
  have HSZ := Lib.hid (show (Try.prog.info? 3).map (·.size) = some 1 by rw [hi]; simp [hz1])
  have HC := Lib.hid h
  have hblt := World.block_lt_of_cell? w _ h
  clear hi hz0 hz1 hz2 h
  go_enter Try.func46, Try.ntmps46
  go_wp2_with fail
  refine (c_Mul n hn _).mono ?_
  rintro e w' ⟨rfl, rfl⟩
  go_wp2_with (at_make; refine wpList_make_full _ rfl _ _ 46 rfl w.heap.size 3 i0 (.int .i64 0) 1 Try.underlying46 HI.out HZ0.out HZ1.out _ _ _ _ n rfl rfl rfl rfl ?b1 ?b2 ?b3 ?_)
  case b1 => rw [HZ2.out]; omega
  case b2 => unfold maxLen; omega
  case b3 => exact Nat.le_refl _
  intro w1 hown hgrow
  have R1 := Lib.hid (RowE.made hown)
  have hB1 : Below w.heap.size w w1 := (Below.refl _ _).grown hgrow (Nat.le_refl _) (fun k hk => by cases hk)
  have HC1 := Lib.hid (show w1.cell? ⟨b, off, none⟩ = some (.int .i64 x) by rw [hB1.cell (p := ⟨b, off, none⟩) hblt]; exact HC.out)
  clear hown hgrow HI HZ0 HZ1 HZ2
  obtain ⟨m0, hm0⟩ : ∃ m0, m0 = Nat.min 1 n := ⟨_, rfl⟩
  have HM0 := Lib.hid (show m0 = 1 ∧ 1 ≤ n ∨ m0 = 0 ∧ n = 0 by
    rcases Nat.eq_zero_or_pos n with h | h
    · exact .inr ⟨by rw [hm0, h]; rfl, h⟩
    · exact .inl ⟨by rw [hm0]; exact Nat.min_eq_left h, h⟩)
  have HN0 := Lib.hid (show (ints (List.replicate m0 x)).length = Nat.min 1 n by rw [ints_len, List.length_replicate, hm0])
  have HP0 := Lib.hid (show ∀ j v, (ints (List.replicate m0 x))[j]? = some v → w1.cell? ((⟨b, off, none⟩ : Addr).add j) = some v from fun j v hv => by
    have hj : j < m0 := by
      have := (List.getElem?_eq_some_iff.1 hv).1
      simpa [ints] using this
    obtain rfl : j = 0 := by have := HM0.out; omega
    rw [add_none, Nat.add_zero, HC1.out]
    simpa [ints, hj] using hv)
  have HF0 := Lib.hid (show 0 + (ints (List.replicate m0 x)).length ≤ (ints (List.replicate n 0)).length by rw [ints_len, ints_len, List.length_replicate, List.length_replicate]; have := HM0.out; omega)
  have HE0 := Lib.hid (show splice (ints (List.replicate n 0)) 0 (ints (List.replicate m0 x)) = ints (fil n m0 x) by
    have := fil_splice (n := n) (m := 0) (j := m0) (x := x) (by have := HM0.out; omega)
    rwa [fil_zero, Nat.zero_add] at this)
  have HL0 := Lib.hid (show ((ints (List.replicate m0 x)).length : Int) = (m0 : Int) by rw [ints_len, List.length_replicate])
  clear hm0
  go_wp2_with (refine wpList_copy_splice (o := ⟨some 33, _, _, _, _, _⟩) rfl (.tmp 31) (.tmp 32) 46 46 rfl 3 Try.underlying46 HSZ.out _ _ _ _ _ _ rfl rfl w.heap.size 0 (ints (List.replicate n 0)) 3 R1.out (ints (List.replicate m0 x)) HN0.out (fun _ => ⟨rfl, _, rfl, HP0.out⟩) HF0.out (ints_one _) w.heap.size w hB1 (Nat.le_refl _) ?_; intro w2 HG2 hB2)
  have HR2 := Lib.hid (show RowE w2 w.heap.size 3 (fil n m0 x) by have := HG2.out; rwa [HE0.out] at this)
  clear HG2 HE0 R1 HP0 HC1 HC
  go_loopw [8] (fun i wr => RepRel n x w i wr) (fun i _ => n - (intOf i).toNat)
  case atStart => exact ⟨m0, by have := HM0.out; omega, by have := HM0.out; omega, by simp [HL0.out], HR2.out, hB2⟩
  case round =>
    obtain ⟨m, hz, hm, rfl, hR, hB⟩ := hrel
    have HR := Lib.hid hR
    have HZ := Lib.hid hz
    clear hR hz
    by_cases hlt : m < n
    · have hm1 : 1 ≤ m := by have := HZ.out; omega
      have hnm : ¬ n = m := by omega
      have hm0i : (0 : Int) ≤ (m : Int) := by omega
      have hm1i : (m : Int) ≤ (n : Int) := by omega
      obtain ⟨j, hj⟩ : ∃ j, j = Nat.min m (n - m) := ⟨_, rfl⟩
      have HJ := Lib.hid (show 1 ≤ j ∧ j ≤ m ∧ m + j ≤ n by
        rcases Nat.le_total m (n - m) with h | h
        · have : j = m := by rw [hj]; exact Nat.min_eq_left h
          omega
        · have : j = n - m := by rw [hj]; exact Nat.min_eq_right h
          omega)
      have HN := Lib.hid (show (ints (List.replicate j x)).length = Nat.min m (n - m) by rw [ints_len, List.length_replicate, hj])
      have HP := Lib.hid (rep_cells (w := wr.drew) (j := j) (n := n) (m := m) (x := x) (g := w.heap.size) (t := 3) HR.out HJ.out.2.1 hm)
      have HFI := Lib.hid (show m + (ints (List.replicate j x)).length ≤ (ints (fil n m x)).length by rw [ints_len, ints_len, List.length_replicate, fil_len hm]; exact HJ.out.2.2)
      have HE := Lib.hid (fil_splice (n := n) (m := m) (j := j) (x := x) HJ.out.2.2)
      have HL := Lib.hid (show ((ints (List.replicate j x)).length : Int) = (j : Int) by rw [ints_len, List.length_replicate])
      have HBD := Lib.hid hB.drew
      clear hj
      go_wp2_with fail
      go_region_held3 (fun _ => True) (first | exact trivial) (first | (refine step_copy_splice rfl (.tmp 41) (.tmp 44) 46 46 rfl 3 Try.underlying46 HSZ.out (some ⟨w.heap.size, m, none⟩) (some ⟨w.heap.size, 0, none⟩) (n - m) (n - m) m n (by simp [Act.eval]) (by simp [Act.eval]) w.heap.size m (ints (fil n m x)) 3 HR.out (ints (List.replicate j x)) HN.out (fun _ => ⟨rfl, _, rfl, HP.out⟩) HFI.out (ints_one _) w.heap.size w HBD.out (Nat.le_refl _) ?_; intro w4 HG4 hB4))
      all_goals
        have HR4 := Lib.hid (show RowE w4 w.heap.size 3 (fil n (m + j) x) by have := HG4.out; rwa [HE.out] at this)
        clear HG4
        have HJ2 := Lib.hid HJ.out.2.2
        have HW := Lib.hid (show IntKind.i64.wrap ((m : Int) + (j : Int)) = (m : Int) + (j : Int) from IntWalk.i64_in _ ⟨by omega, by have := HJ.out; omega⟩)
        go_wp2
        go_roundw
        case rel => exact ⟨m + j, by omega, HJ2.out, by simp [HL.out, HW.out], HR4.out, hB4⟩
        case measure => have := HJ.out; simp [intOf, HL.out, HW.out]; omega
    · obtain rfl : m = n := by omega
      have HRF := Lib.hid (show RowE wr w.heap.size 3 (List.replicate m x) by rw [← fil_full]; exact HR.out)
      go_wp2
      go_ret
      exact ⟨rfl, HRF.out, hB⟩
end Go.Proofs.Ytfngdemjlglliaa
