/-
  Shares of two waters in a mixture as fractions, with no program in sight.
-/
import Derived.Test.YtbbipieadjggkaaIsoLaws
namespace Go.Proofs.Ytbbipieadjggkaa

def shX (aA bA bH rn rd : Int) : Int := (rn * bA - bH * rd) * aA
def shY (aA aH bA bH rd : Int) : Int := rd * (aH * bA - bH * aA)
def inS (aA aH bA bH rn rd : Int) : Bool := decide (0 ≤ nF (shX aA bA bH rn rd) (shY aA aH bA bH rd) ∧ nF (shX aA bA bH rn rd) (shY aA aH bA bH rd) ≤ dF (shX aA bA bH rn rd) (shY aA aH bA bH rd))
def wv3 (aA aH bA bH rn rd : Int) : Bool := vW aA aH && vW bA bH && vF rn rd
/-- WaterShare: whether there is an answer, and the answer -/
def vS (aA aH bA bH rn rd : Int) : Bool := wv3 aA aH bA bH rn rd && okF (shX aA bA bH rn rd) (shY aA aH bA bH rd) && inS aA aH bA bH rn rd
def sN (aA aH bA bH rn rd : Int) : Int := if vS aA aH bA bH rn rd then nF (shX aA bA bH rn rd) (shY aA aH bA bH rd) else 0
def sD (aA aH bA bH rn rd : Int) : Int := if vS aA aH bA bH rn rd then dF (shX aA bA bH rn rd) (shY aA aH bA bH rd) else 0

section
variable {aA aH bA bH rn rd : Int}
theorem wv3_yes (h : wv3 aA aH bA bH rn rd = true) : vW aA aH = true ∧ vW bA bH = true ∧ vF rn rd = true := by
  simp only [wv3, Bool.and_eq_true] at h
  exact ⟨h.1.1, h.1.2, h.2⟩
theorem vS_yes (h : vS aA aH bA bH rn rd = true) : wv3 aA aH bA bH rn rd = true ∧ okF (shX aA bA bH rn rd) (shY aA aH bA bH rd) = true ∧ 0 ≤ nF (shX aA bA bH rn rd) (shY aA aH bA bH rd) ∧ nF (shX aA bA bH rn rd) (shY aA aH bA bH rd) ≤ dF (shX aA bA bH rn rd) (shY aA aH bA bH rd) := by
  simp only [vS, Bool.and_eq_true, inS, decide_eq_true_eq] at h
  exact ⟨h.1.1, h.1.2, h.2⟩
theorem vS_mk (h : wv3 aA aH bA bH rn rd = true) (ho : okF (shX aA bA bH rn rd) (shY aA aH bA bH rd) = true) (h0 : 0 ≤ nF (shX aA bA bH rn rd) (shY aA aH bA bH rd)) (h1 : nF (shX aA bA bH rn rd) (shY aA aH bA bH rd) ≤ dF (shX aA bA bH rn rd) (shY aA aH bA bH rd)) : vS aA aH bA bH rn rd = true := by
  simp only [vS, Bool.and_eq_true, inS, decide_eq_true_eq]
  exact ⟨⟨h, ho⟩, h0, h1⟩
/-- a product of a small number and a large one -/
theorem sm {a b A B : Int} (h1 : -A ≤ a) (h2 : a ≤ A) (h3 : -B ≤ b) (h4 : b ≤ B) : -(A * B) ≤ a * b ∧ a * b ≤ A * B := by
  have h := Int.natAbs_mul a b
  have hA : 0 ≤ A := by omega
  have hB : 0 ≤ B := by omega
  have hle : a.natAbs * b.natAbs ≤ A.natAbs * B.natAbs := Nat.mul_le_mul (by omega) (by omega)
  have e : (A.natAbs : Int) * (B.natAbs : Int) = A * B := by rw [Int.natAbs_of_nonneg hA, Int.natAbs_of_nonneg hB]
  have : ((a * b).natAbs : Int) ≤ A * B := by rw [h]; push_cast; rw [← e]; exact_mod_cast hle
  omega
/-- the bounds of all that is computed on the way -/
theorem sh_bd (h : wv3 aA aH bA bH rn rd = true) : (-1000000000000 ≤ rn * bA ∧ rn * bA ≤ 1000000000000) ∧ (0 ≤ bH * rd ∧ bH * rd ≤ 1000000000000) ∧ (-2000000000000000 ≤ (rn * bA - bH * rd) * aA ∧ (rn * bA - bH * rd) * aA ≤ 2000000000000000) ∧ (0 ≤ aH * bA ∧ aH * bA ≤ 1000000) ∧ (0 ≤ bH * aA ∧ bH * aA ≤ 1000000) ∧ (-1000000000000000 ≤ rd * (aH * bA - bH * aA) ∧ rd * (aH * bA - bH * aA) ≤ 1000000000000000) := by
  obtain ⟨ha, hb, hr⟩ := wv3_yes h
  obtain ⟨a1, a2, a3, a4⟩ := vW_yes ha
  obtain ⟨b1, b2, b3, b4⟩ := vW_yes hb
  obtain ⟨r1, r2, r3, r4, _⟩ := vF_yes hr
  have q1 := sm (a := rn) (b := bA) (A := 1000000000) (B := 1000) (by omega) (by omega) (by omega) (by omega)
  have q2 := sm (a := bH) (b := rd) (A := 1000) (B := 1000000000) (by omega) (by omega) (by omega) (by omega)
  have q2' : 0 ≤ bH * rd := Int.mul_nonneg (by omega) (by omega)
  have q3 := sm (a := rn * bA - bH * rd) (b := aA) (A := 2000000000000) (B := 1000) (by omega) (by omega) (by omega) (by omega)
  have q4 := sm (a := aH) (b := bA) (A := 1000) (B := 1000) (by omega) (by omega) (by omega) (by omega)
  have q4' : 0 ≤ aH * bA := Int.mul_nonneg (by omega) (by omega)
  have q5 := sm (a := bH) (b := aA) (A := 1000) (B := 1000) (by omega) (by omega) (by omega) (by omega)
  have q5' : 0 ≤ bH * aA := Int.mul_nonneg (by omega) (by omega)
  have q6 := sm (a := rd) (b := aH * bA - bH * aA) (A := 1000000000) (B := 1000000) (by omega) (by omega) (by omega) (by omega)
  omega
theorem shX_lim (h : wv3 aA aH bA bH rn rd = true) : lim (shX aA bA bH rn rd) = true := by
  have := sh_bd h
  exact lim_mk (by unfold shX; omega) (by unfold shX; omega)
theorem shY_lim (h : wv3 aA aH bA bH rn rd = true) : lim (shY aA aH bA bH rd) = true := by
  have := sh_bd h
  exact lim_mk (by unfold shY; omega) (by unfold shY; omega)
/-- a number times a positive one, against 0 and against another -/
theorem pos_iff {x y k : Int} (hk : 0 < k) : (0 ≤ x * k ↔ 0 ≤ x) ∧ (x * k ≤ y * k ↔ x ≤ y) :=
  ⟨⟨fun h => by
    rcases Int.lt_or_le x 0 with hx | hx
    · have := Int.mul_neg_of_neg_of_pos hx hk; omega
    · exact hx, fun h => Int.mul_nonneg h (by omega)⟩, Int.mul_le_mul_right hk⟩

/-- the reference's way: x, y the ratios of both waters; low, high those in order -/
theorem share_spec (h : wv3 aA aH bA bH rn rd = true) :
    (nF aH aA = nF bH bA ∧ dF aH aA = dF bH bA ↔ aH * bA - bH * aA = 0) ∧
    lessF (nF bH bA) (dF bH bA) (nF aH aA) (dF aH aA) = decide (0 < aH * bA - bH * aA) ∧
    (aH * bA - bH * aA ≠ 0 →
      okF ((rn * dF bH bA - nF bH bA * rd) * dF aH aA) (rd * (nF aH aA * dF bH bA - nF bH bA * dF aH aA)) = okF (shX aA bA bH rn rd) (shY aA aH bA bH rd) ∧
      nF ((rn * dF bH bA - nF bH bA * rd) * dF aH aA) (rd * (nF aH aA * dF bH bA - nF bH bA * dF aH aA)) = nF (shX aA bA bH rn rd) (shY aA aH bA bH rd) ∧
      dF ((rn * dF bH bA - nF bH bA * rd) * dF aH aA) (rd * (nF aH aA * dF bH bA - nF bH bA * dF aH aA)) = dF (shX aA bA bH rn rd) (shY aA aH bA bH rd)) ∧
    (0 < aH * bA - bH * aA → okF (shX aA bA bH rn rd) (shY aA aH bA bH rd) = true → inS aA aH bA bH rn rd = (!lessF rn rd (nF bH bA) (dF bH bA) && !lessF (nF aH aA) (dF aH aA) rn rd)) ∧
    (aH * bA - bH * aA < 0 → okF (shX aA bA bH rn rd) (shY aA aH bA bH rd) = true → inS aA aH bA bH rn rd = (!lessF rn rd (nF aH aA) (dF aH aA) && !lessF (nF bH bA) (dF bH bA) rn rd)) := by
  obtain ⟨ha, hb, hr⟩ := wv3_yes h
  obtain ⟨a1, a2, a3, a4⟩ := vW_yes ha
  obtain ⟨b1, b2, b3, b4⟩ := vW_yes hb
  obtain ⟨r1, r2, r3, r4, _⟩ := vF_yes hr
  obtain ⟨fa, va, xa1, xa2, xa3, xa4⟩ := ratio_val ha
  obtain ⟨fb, vb, xb1, xb2, xb3, xb4⟩ := ratio_val hb
  have fr := vF_self hr
  have ea := fa.val
  have eb := fb.val
  have hle := shX_lim h
  have hly := shY_lim h
  refine ⟨?_, ?_, ?_, ?_, ?_⟩
  · have he := eq_of fa fb (by omega) (by omega)
    constructor
    · rintro ⟨e1, e2⟩
      have := he.1 (by rw [e1, e2])
      omega
    · intro e
      exact vF_unique va vb (he.2 (by omega))
  · rw [less_val fb fa vb va (by omega) (by omega), decide_eq_decide]
    omega
  · intro hne
    generalize nF aH aA = xn at *
    generalize dF aH aA = xd at *
    generalize nF bH bA = yn at *
    generalize dF bH bA = yd at *
    have hp : (xn * yd - yn * xd) * (aA * bA) = (aH * bA - bH * aA) * (xd * yd) := by grind
    have hpp : xn * yd - yn * xd ≠ 0 := by
      intro e0
      rw [e0, Int.zero_mul] at hp
      rcases Int.mul_eq_zero.1 hp.symm with h0 | h0
      · exact hne h0
      · have := Int.mul_pos (show 0 < xd by omega) (show 0 < yd by omega); omega
    have q1 := sm (a := rn) (b := yd) (A := 1000000000) (B := 1000) (by omega) (by omega) (by omega) (by omega)
    have q2 := sm (a := yn) (b := rd) (A := 1000) (B := 1000000000) (by omega) (by omega) (by omega) (by omega)
    have q3 := sm (a := rn * yd - yn * rd) (b := xd) (A := 2000000000000) (B := 1000) (by omega) (by omega) (by omega) (by omega)
    have q4 := sm (a := xn) (b := yd) (A := 1000) (B := 1000) (by omega) (by omega) (by omega) (by omega)
    have q5 := sm (a := yn) (b := xd) (A := 1000) (B := 1000) (by omega) (by omega) (by omega) (by omega)
    have q6 := sm (a := rd) (b := xn * yd - yn * xd) (A := 1000000000) (B := 2000000) (by omega) (by omega) (by omega) (by omega)
    refine ofF_congr (fun e0 => ?_) (fun e0 => ?_) (lim_mk (by omega) (by omega)) (lim_mk (by omega) (by omega)) hle hly ?_
    · rcases Int.mul_eq_zero.1 e0 with h0 | h0
      · omega
      · exact hpp h0
    · rcases Int.mul_eq_zero.1 e0 with h0 | h0
      · omega
      · exact hne h0
    · unfold shX shY
      grind
  · intro hlt ho
    obtain ⟨hf, _⟩ := okF_val ho
    have hYp : 0 < shY aA aH bA bH rd := Int.mul_pos (by omega) hlt
    have hD := hf.pos
    have e := hf.val
    rw [less_val fr fb hr vb (by omega) (by omega), less_val fa fr va hr (by omega) (by omega)]
    have i1 : 0 ≤ nF (shX aA bA bH rn rd) (shY aA aH bA bH rd) ↔ bH * rd ≤ rn * bA := by
      have k1 := (pos_iff (x := nF (shX aA bA bH rn rd) (shY aA aH bA bH rd)) (y := 0) hYp).1
      have k2 := (pos_iff (x := shX aA bA bH rn rd) (y := 0) hD).1
      have k3 := (pos_iff (x := rn * bA - bH * rd) (y := 0) (show 0 < aA by omega)).1
      rw [e] at k1
      unfold shX at k2 k1
      unfold shX
      omega
    have i2 : nF (shX aA bA bH rn rd) (shY aA aH bA bH rd) ≤ dF (shX aA bA bH rn rd) (shY aA aH bA bH rd) ↔ rn * aA ≤ aH * rd := by
      have k1 := (pos_iff (x := nF (shX aA bA bH rn rd) (shY aA aH bA bH rd)) (y := dF (shX aA bA bH rn rd) (shY aA aH bA bH rd)) hYp).2
      have k2 := (pos_iff (x := shX aA bA bH rn rd) (y := shY aA aH bA bH rd) hD).2
      have k3 := (pos_iff (x := rn * aA) (y := aH * rd) (show 0 < bA by omega)).2
      rw [e, Int.mul_comm (dF (shX aA bA bH rn rd) (shY aA aH bA bH rd))] at k1
      have k4 : shX aA bA bH rn rd ≤ shY aA aH bA bH rd ↔ rn * aA * bA ≤ aH * rd * bA := by
        have : shY aA aH bA bH rd - shX aA bA bH rn rd = aH * rd * bA - rn * aA * bA := by unfold shX shY; grind
        omega
      omega
    unfold inS
    rw [Bool.eq_iff_iff]
    simp only [decide_eq_true_eq, Bool.and_eq_true, Bool.not_eq_true', decide_eq_false_iff_not]
    rw [i1, i2]
    omega
  · intro hlt ho
    obtain ⟨hf, _⟩ := okF_val ho
    have hYn : 0 < -shY aA aH bA bH rd := by
      have := Int.mul_pos (show 0 < rd by omega) (show 0 < -(aH * bA - bH * aA) by omega)
      rw [Int.mul_neg] at this
      unfold shY
      exact this
    have hD := hf.pos
    have e := hf.val
    rw [less_val fr fa hr va (by omega) (by omega), less_val fb fr vb hr (by omega) (by omega)]
    have i1 : 0 ≤ nF (shX aA bA bH rn rd) (shY aA aH bA bH rd) ↔ rn * bA ≤ bH * rd := by
      have k1 := (pos_iff (x := nF (shX aA bA bH rn rd) (shY aA aH bA bH rd)) (y := 0) hYn).1
      have k2 := (pos_iff (x := -shX aA bA bH rn rd) (y := 0) hD).1
      have k3 := (pos_iff (x := -(rn * bA - bH * rd)) (y := 0) (show 0 < aA by omega)).1
      rw [Int.mul_neg, e] at k1
      have k4 : -(rn * bA - bH * rd) * aA = -shX aA bA bH rn rd := by unfold shX; grind
      rw [k4] at k3
      rw [Int.neg_mul] at k2
      omega
    have i2 : nF (shX aA bA bH rn rd) (shY aA aH bA bH rd) ≤ dF (shX aA bA bH rn rd) (shY aA aH bA bH rd) ↔ aH * rd ≤ rn * aA := by
      have k1 := (pos_iff (x := nF (shX aA bA bH rn rd) (shY aA aH bA bH rd)) (y := dF (shX aA bA bH rn rd) (shY aA aH bA bH rd)) hYn).2
      have k2 := (pos_iff (x := shY aA aH bA bH rd) (y := shX aA bA bH rn rd) hD).2
      have k3 := (pos_iff (x := aH * rd) (y := rn * aA) (show 0 < bA by omega)).2
      rw [Int.mul_neg, Int.mul_neg, e, Int.mul_comm (dF (shX aA bA bH rn rd) (shY aA aH bA bH rd))] at k1
      have k4 : shY aA aH bA bH rd ≤ shX aA bA bH rn rd ↔ aH * rd * bA ≤ rn * aA * bA := by
        have : shY aA aH bA bH rd - shX aA bA bH rn rd = aH * rd * bA - rn * aA * bA := by unfold shX shY; grind
        omega
      omega
    unfold inS
    rw [Bool.eq_iff_iff]
    simp only [decide_eq_true_eq, Bool.and_eq_true, Bool.not_eq_true', decide_eq_false_iff_not]
    rw [i1, i2]
    omega

theorem shY_ne (ho : okF (shX aA bA bH rn rd) (shY aA aH bA bH rd) = true) : aH * bA - bH * aA ≠ 0 ∧ shY aA aH bA bH rd ≠ 0 := by
  have h := (okF_yes ho).1
  refine ⟨fun e => h ?_, h⟩
  unfold shY
  rw [e, Int.mul_zero]
/-- a share that is N / D, by any numbers -/
theorem share_is {N D : Int} (h : wv3 aA aH bA bH rn rd = true) (hne : shY aA aH bA bH rd ≠ 0) (hv : vF N D = true) (h0 : 0 ≤ N) (h1 : N ≤ D) (e : N * shY aA aH bA bH rd = shX aA bA bH rn rd * D) : vS aA aH bA bH rn rd = true ∧ sN aA aH bA bH rn rd = N ∧ sD aA aH bA bH rn rd = D := by
  obtain ⟨o1, o2, o3⟩ := ofF_is hne (shX_lim h) (shY_lim h) hv e
  have hS := vS_mk h o1 (by rw [o2]; exact h0) (by rw [o2, o3]; exact h1)
  unfold sN sD
  rw [if_pos hS, if_pos hS]
  exact ⟨hS, o2, o3⟩
theorem vS_val (h : vS aA aH bA bH rn rd = true) : ∃ N D : Int, sN aA aH bA bH rn rd = N ∧ sD aA aH bA bH rn rd = D ∧ vF N D = true ∧ 0 ≤ N ∧ N ≤ D ∧ N * shY aA aH bA bH rd = shX aA bA bH rn rd * D ∧ shY aA aH bA bH rd ≠ 0 := by
  obtain ⟨_, h2, h3, h4⟩ := vS_yes h
  obtain ⟨hf, hv⟩ := okF_val h2
  refine ⟨_, _, rfl, rfl, ?_⟩
  unfold sN sD
  rw [if_pos h, if_pos h]
  exact ⟨hv, h3, h4, hf.val, (shY_ne h2).2⟩
end
section
variable {aA aH bA bH rn rd N D : Int}
theorem gcd_sub (N D : Int) : Int.gcd (D - N) D = Int.gcd N D := by
  have h1 : D - N = -N + D * 1 := by omega
  rw [h1, Int.gcd_comm, Int.gcd_add_mul_left_right, Int.gcd_neg, Int.gcd_comm]
/-- the other water's share -/
theorem share_other (h : wv3 aA aH bA bH rn rd = true) (hne : shY aA aH bA bH rd ≠ 0) (hv : vF N D = true) (h0 : 0 ≤ N) (h1 : N ≤ D) (e : N * shY aA aH bA bH rd = shX aA bA bH rn rd * D) :
    vS bA bH aA aH rn rd = true ∧ sN bA bH aA aH rn rd = D - N ∧ sD bA bH aA aH rn rd = D ∧ vF (D - N) D = true := by
  obtain ⟨ha, hb, hr⟩ := wv3_yes h
  have h' : wv3 bA bH aA aH rn rd = true := by simp [wv3, ha, hb, hr]
  obtain ⟨v1, v2, v3, v4, v5⟩ := vF_yes hv
  have hv' : vF (D - N) D = true := vF_mk v1 v2 (by omega) (by omega) (by rw [gcd_sub]; exact v5)
  have hY : shY bA bH aA aH rd = -shY aA aH bA bH rd := by unfold shY; grind
  have hX : shX bA aA aH rn rd = shX aA bA bH rn rd - shY aA aH bA bH rd := by unfold shX shY; grind
  obtain ⟨a, b, c⟩ := share_is h' (by rw [hY]; omega) hv' (by omega) (by omega) (by rw [hY, hX]; grind)
  exact ⟨a, b, c, hv'⟩
/-- both shares make the whole -/
theorem share_whole (hv : vF N D = true) : okF (N * D + (D - N) * D) (D * D) = true ∧ nF (N * D + (D - N) * D) (D * D) = 1 ∧ dF (N * D + (D - N) * D) (D * D) = 1 := by
  obtain ⟨v1, v2, v3, v4, v5⟩ := vF_yes hv
  have hp : 0 < D * D := Int.mul_pos (by omega) (by omega)
  have hq := sm (a := D) (b := D) (A := 1000000000) (B := 1000000000) (by omega) (by omega) (by omega) (by omega)
  have e : N * D + (D - N) * D = D * D := by grind
  rw [e]
  exact ofF_is (by omega) (lim_mk (by omega) (by omega)) (lim_mk (by omega) (by omega)) (by decide) (by omega)
/-- a water alone -/
theorem share_ends (h : wv3 aA aH bA bH rn rd = true) (hne : shY aA aH bA bH rd ≠ 0) :
    (vS aA aH bA bH (nF aH aA) (dF aH aA) = true ∧ sN aA aH bA bH (nF aH aA) (dF aH aA) = 1 ∧ sD aA aH bA bH (nF aH aA) (dF aH aA) = 1) ∧
    (vS aA aH bA bH (nF bH bA) (dF bH bA) = true ∧ sN aA aH bA bH (nF bH bA) (dF bH bA) = 0 ∧ sD aA aH bA bH (nF bH bA) (dF bH bA) = 1) := by
  obtain ⟨ha, hb, hr⟩ := wv3_yes h
  obtain ⟨fa, va, xa1, xa2, xa3, xa4⟩ := ratio_val ha
  obtain ⟨fb, vb, xb1, xb2, xb3, xb4⟩ := ratio_val hb
  have ea := fa.val
  have eb := fb.val
  have hbt : aH * bA - bH * aA ≠ 0 := fun e0 => hne (by unfold shY; rw [e0, Int.mul_zero])
  have ne : ∀ d : Int, 1 ≤ d → shY aA aH bA bH d ≠ 0 := fun d hd e0 => by
    rcases Int.mul_eq_zero.1 e0 with h0 | h0
    · omega
    · exact hbt h0
  constructor
  · refine share_is (by simp [wv3, ha, hb, va]) (ne _ xa3) (by decide) (by omega) (by omega) ?_
    generalize nF aH aA = xn at *
    generalize dF aH aA = xd at *
    unfold shX shY
    grind
  · refine share_is (by simp [wv3, ha, hb, vb]) (ne _ xb3) (by decide) (by omega) (by omega) ?_
    generalize nF bH bA = yn at *
    generalize dF bH bA = yd at *
    unfold shX shY
    grind
/-- a mixture has the share of its amount -/
theorem share_mix (h : wv3 aA aH bA bH rn rd = true) (hne : shY aA aH bA bH rd ≠ 0) (hm : vW (aA + bA) (aH + bH) = true) :
    (okF aA (aA + bA) = true) ∧ vS aA aH bA bH (nF (aH + bH) (aA + bA)) (dF (aH + bH) (aA + bA)) = true ∧ sN aA aH bA bH (nF (aH + bH) (aA + bA)) (dF (aH + bH) (aA + bA)) = nF aA (aA + bA) ∧ sD aA aH bA bH (nF (aH + bH) (aA + bA)) (dF (aH + bH) (aA + bA)) = dF aA (aA + bA) := by
  obtain ⟨ha, hb, hr⟩ := wv3_yes h
  obtain ⟨a1, a2, a3, a4⟩ := vW_yes ha
  obtain ⟨b1, b2, b3, b4⟩ := vW_yes hb
  obtain ⟨m1, m2, m3, m4⟩ := vW_yes hm
  obtain ⟨fm, vm, xm1, xm2, xm3, xm4⟩ := ratio_val hm
  have em := fm.val
  have hbt : aH * bA - bH * aA ≠ 0 := fun e0 => hne (by unfold shY; rw [e0, Int.mul_zero])
  have ho : okF aA (aA + bA) = true := okF_small (by omega) (by omega) (by omega) (by omega)
  obtain ⟨hf, hvf⟩ := okF_val ho
  have hs := sign_of hf (by omega)
  have hle : nF aA (aA + bA) ≤ dF aA (aA + bA) := by
    have := less_of (vF_self (show vF 1 1 = true by decide)) hf (by omega) (by omega)
    omega
  refine ⟨ho, share_is (by simp [wv3, ha, hb, vm]) (fun e0 => ?_) hvf (by omega) hle ?_⟩
  · rcases Int.mul_eq_zero.1 e0 with h0 | h0
    · omega
    · exact hbt h0
  · have eN := hf.val
    generalize nF aA (aA + bA) = N at *
    generalize dF aA (aA + bA) = D at *
    generalize nF (aH + bH) (aA + bA) = n at *
    generalize dF (aH + bH) (aA + bA) = d at *
    have k : (N * shY aA aH bA bH d) * (aA + bA) = (shX aA bA bH n d * D) * (aA + bA) := by
      unfold shX shY
      grind
    exact Int.eq_of_mul_eq_mul_right (by omega) k
/-- shares do not depend on amounts -/
theorem share_twice (h : wv3 aA aH bA bH rn rd = true) (h2 : 2 * aA ≤ 1000) (hne : shY aA aH bA bH rd ≠ 0) (hv : vF N D = true) (h0 : 0 ≤ N) (h1 : N ≤ D) (e : N * shY aA aH bA bH rd = shX aA bA bH rn rd * D) :
    vS (2 * aA) (2 * aH) bA bH rn rd = true ∧ sN (2 * aA) (2 * aH) bA bH rn rd = N ∧ sD (2 * aA) (2 * aH) bA bH rn rd = D := by
  obtain ⟨ha, hb, hr⟩ := wv3_yes h
  obtain ⟨a1, a2, a3, a4⟩ := vW_yes ha
  have hY : shY (2 * aA) (2 * aH) bA bH rd = 2 * shY aA aH bA bH rd := by unfold shY; grind
  have hX : shX (2 * aA) bA bH rn rd = 2 * shX aA bA bH rn rd := by unfold shX; grind
  have hw : vW (2 * aA) (2 * aH) = true := by simp [vW, inB_of (show 1 ≤ 2 * aA by omega) h2, inB_of (show 0 ≤ 2 * aH by omega) (show 2 * aH ≤ 2 * aA by omega)]
  exact share_is (by simp [wv3, hw, hb, hr]) (by rw [hY]; omega) hv h0 h1 (by rw [hY, hX]; grind)
end
end Go.Proofs.Ytbbipieadjggkaa
