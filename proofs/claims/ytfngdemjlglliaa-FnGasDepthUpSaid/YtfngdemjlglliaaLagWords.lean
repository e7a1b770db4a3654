/-
  What the values of curves, lags and depths of gas are. No function of the program in sight.
-/
import Derived.Test.YtfngdemjlglliaaAtWords
import Derived.Test.YtfngdemjlglliaaGasEven
namespace Go.Proofs.Ytfngdemjlglliaa
open Go.RowKit

def FrPost (n d : Int) (b : Bool) (w : World) (e : Ending) (w' : World) : Prop :=
  e = .returned (.tuple #[.agg #[.int .i64 n, .int .i64 d], .bool b]) ∧ Below w.heap.size w w'
theorem fr_mk {n d n' d' : Int} {b b' : Bool} {w W : World} (hn : n = n') (hd : d = d') (hb : b = b') (hB : Below w.heap.size w W) : FrPost n d b w (.returned (.tuple #[.agg #[.int .i64 n', .int .i64 d'], .bool b'])) W :=
  ⟨by rw [hn, hd, hb], hB⟩
theorem fr_of {n d n' d' : Int} {b b' : Bool} {w W : World} (h : b = b' ∧ n = n' ∧ d = d') (hB : Below w.heap.size w W) : FrPost n d b w (.returned (.tuple #[.agg #[.int .i64 n', .int .i64 d'], .bool b'])) W := fr_mk h.2.1 h.2.2 h.1 hB
theorem FrPost.val {n d n' d' : Int} {b b' : Bool} {w w' : World} {e : Ending} (h : b = b' ∧ n = n' ∧ d = d') (hp : FrPost n d b w e w') : e = .returned (.tuple #[.agg #[.int .i64 n', .int .i64 d'], .bool b']) ∧ Below w.heap.size w w' := by
  obtain ⟨rfl, rfl, rfl⟩ := h
  exact hp
theorem OpPost.fr {v : Bool} {x y : Int} {w w' : World} {e : Ending} (h : OpPost v x y w e w') : FrPost (nO v x y) (dO v x y) (okO v x y) w e w' := h
/-- CurveAt -/
def okC (l : List (Int × Int)) (x : Int) : Bool := vC l && okA l x 1
def nC (l : List (Int × Int)) (x : Int) : Int := if vC l then nA l x 1 else 0
def dC (l : List (Int × Int)) (x : Int) : Int := if vC l then dA l x 1 else 0
theorem c_off {l : List (Int × Int)} {x : Int} (h : vC l = false) : okC l x = false ∧ nC l x = 0 ∧ dC l x = 0 := by simp [okC, nC, dC, h]
theorem c_on {l : List (Int × Int)} {x : Int} (h : vC l = true) : okC l x = okA l x 1 ∧ nC l x = nA l x 1 ∧ dC l x = dA l x 1 := by simp [okC, nC, dC, h]
theorem c_no {l : List (Int × Int)} {x : Int} (h : okC l x = false) : okC l x = false ∧ nC l x = 0 ∧ dC l x = 0 := by
  rcases Bool.eq_false_or_eq_true (vC l) with hv | hv
  · obtain ⟨a, b, c⟩ := c_on (x := x) hv
    rw [a] at h
    rw [a, b, c]
    exact ⟨h, nA_no h⟩
  · exact c_off hv
theorem c_yes {l : List (Int × Int)} {x : Int} (h : okC l x = true) : vC l = true ∧ okA l x 1 = true ∧ nC l x = nA l x 1 ∧ dC l x = dA l x 1 := by
  simp only [okC, Bool.and_eq_true] at h
  exact ⟨h.1, h.2, (c_on h.1).2⟩
theorem c_val {l : List (Int × Int)} {x : Int} (h : okC l x = true) : 0 ≤ nC l x ∧ nC l x ≤ 30000 * dC l x ∧ 1 ≤ dC l x ∧ dC l x ≤ 30000 ∧ vF (nC l x) (dC l x) = true := by
  obtain ⟨hv, ho, e1, e2⟩ := c_yes h
  obtain ⟨k, hs, _⟩ := at_val ho hv (by omega)
  rw [e1, e2]
  exact (at_whole hs hv).2
theorem c_nam {l : List (Int × Int)} {x : Int} (h : okC l x = true) : ∃ n d : Int, nC l x = n ∧ dC l x = d ∧ 0 ≤ n ∧ n ≤ 30000 * d ∧ 1 ≤ d ∧ d ≤ 30000 ∧ vF n d = true := ⟨_, _, rfl, rfl, c_val h⟩
/-- CurveThen -/
def okT (a b : List (Int × Int)) (x : Int) : Bool := okC a x && vC b && okA b (nC a x) (dC a x)
def nT (a b : List (Int × Int)) (x : Int) : Int := if okC a x && vC b then nA b (nC a x) (dC a x) else 0
def dT (a b : List (Int × Int)) (x : Int) : Int := if okC a x && vC b then dA b (nC a x) (dC a x) else 0
theorem t_no1 {a b : List (Int × Int)} {x : Int} (h : okC a x = false) : okT a b x = false ∧ nT a b x = 0 ∧ dT a b x = 0 := by simp [okT, nT, dT, h]
theorem t_no2 {a b : List (Int × Int)} {x : Int} (h : vC b = false) : okT a b x = false ∧ nT a b x = 0 ∧ dT a b x = 0 := by simp [okT, nT, dT, h]
theorem t_on {a b : List (Int × Int)} {x n d : Int} (h : okC a x = true) (hb : vC b = true) (hn : nC a x = n) (hd : dC a x = d) : okT a b x = okA b n d ∧ nT a b x = nA b n d ∧ dT a b x = dA b n d := by simp [okT, nT, dT, h, hb, hn, hd]
theorem t_out {a b : List (Int × Int)} {x n d : Int} (h : okC a x = true) (hb : vC b = true) (hn : nC a x = n) (hd : dC a x = d) (hi : inC b n d = false) : okT a b x = false ∧ nT a b x = 0 ∧ dT a b x = 0 := by
  obtain ⟨e1, e2, e3⟩ := t_on h hb hn hd
  rw [e1, e2, e3]
  exact at_out hi
/-- GasLag -/
def okL (a b : List (Int × Int)) (x : Int) : Bool := okC a x && okC b x && okF (nC a x * dC b x - nC b x * dC a x) (dC a x * dC b x)
def nL (a b : List (Int × Int)) (x : Int) : Int := if okC a x && okC b x then nF (nC a x * dC b x - nC b x * dC a x) (dC a x * dC b x) else 0
def dL (a b : List (Int × Int)) (x : Int) : Int := if okC a x && okC b x then dF (nC a x * dC b x - nC b x * dC a x) (dC a x * dC b x) else 0
theorem l_no1 {a b : List (Int × Int)} {x : Int} (h : okC a x = false) : okL a b x = false ∧ nL a b x = 0 ∧ dL a b x = 0 := by simp [okL, nL, dL, h]
theorem l_no2 {a b : List (Int × Int)} {x : Int} (h : okC b x = false) : okL a b x = false ∧ nL a b x = 0 ∧ dL a b x = 0 := by simp [okL, nL, dL, h]
theorem l_on {a b : List (Int × Int)} {x n d n' d' : Int} (h : okC a x = true) (h' : okC b x = true) (hn : nC a x = n) (hd : dC a x = d) (hn' : nC b x = n') (hd' : dC b x = d') :
    okL a b x = okF (n * d' - n' * d) (d * d') ∧ nL a b x = nF (n * d' - n' * d) (d * d') ∧ dL a b x = dF (n * d' - n' * d) (d * d') := by simp [okL, nL, dL, h, h', hn, hd, hn', hd']
theorem l_fr {a b : List (Int × Int)} {x n d n' d' : Int} {w w' : World} {e : Ending} (h : okC a x = true) (h' : okC b x = true) (hn : nC a x = n) (hd : dC a x = d) (hn' : nC b x = n') (hd' : dC b x = d') (hv : vF n d = true) (hv' : vF n' d' = true)
    (hp : OpPost (two n d n' d') (n * d' - n' * d) (d * d') w e w') : FrPost (nL a b x) (dL a b x) (okL a b x) w e w' := by
  obtain ⟨e1, e2, e3⟩ := l_on h h' hn hd hn' hd'
  have ht : two n d n' d' = true := by simp [two, hv, hv']
  rw [e1, e2, e3]
  rw [ht] at hp
  exact hp
/-- CurveTurn -/
def turn (l : List (Int × Int)) : List (Int × Int) := l.map fun p => (p.2, p.1)
theorem turn_len (l : List (Int × Int)) : (turn l).length = l.length := by simp [turn]
theorem turn_px (l : List (Int × Int)) (k : Nat) : px (turn l) k = py l k := by
  unfold px py turn
  by_cases h : k < l.length
  · simp [List.getD, h]
  · simp [List.getD, show l.length ≤ k by omega]
theorem turn_py (l : List (Int × Int)) (k : Nat) : py (turn l) k = px l k := by
  unfold px py turn
  by_cases h : k < l.length
  · simp [List.getD, h]
  · simp [List.getD, show l.length ≤ k by omega]
theorem turn_valid (l : List (Int × Int)) : vC (turn l) = vC l := by
  have key : ∀ m, vC m = true → vC (turn m) = true := fun m h => by
    obtain ⟨a, b, c, d⟩ := vC_yes h
    refine vC_mk (fun k hk => ?_) (fun k h0 hk => ?_) (by rw [turn_len]; exact c) (by rw [turn_len]; exact d)
    · rw [turn_len] at hk
      rw [turn_px, turn_py]
      have := a k hk
      omega
    · rw [turn_len] at hk
      rw [turn_px, turn_py, turn_px, turn_py]
      have := b k h0 hk
      omega
  have back : turn (turn l) = l := by simp [turn, Function.comp_def]
  rcases Bool.eq_false_or_eq_true (vC l) with h | h
  · rw [key l h, h]
  · rw [h]
    rcases Bool.eq_false_or_eq_true (vC (turn l)) with h' | h'
    · have := key _ h'
      rw [back, h] at this
      cases this
    · exact h'
theorem turn_take {l : List (Int × Int)} {k : Nat} (h : k < l.length) : (turn l).take (k + 1) = (turn l).take k ++ [(py l k, px l k)] := by
  rw [List.take_succ_eq_append_getElem (by rw [turn_len]; exact h), px_eq h, py_eq h]
  simp [turn]
theorem turn_all {l : List (Int × Int)} {n : Nat} (h : l.length = n) : (turn l).take n = turn l := List.take_of_length_le (by rw [turn_len]; omega)
theorem cell_knot1 (W : World) (o : Obj) (t : TypeId) (x y : Value) : ∀ j u, [x, y][j]? = some u → ((W.alloc o).alloc (.cells #[x, y] t)).cell? ((⟨W.heap.size + 1, 0, none⟩ : Addr).add j) = some u := by
  have h := cell_knot (W.alloc o) t x y
  have e : (W.alloc o).heap.size = W.heap.size + 1 := by simp
  rwa [e] at h
theorem cell_knotD (W : World) (t : TypeId) (x y : Value) : ∀ j u, [x, y][j]? = some u → ((W.alloc (.cells #[x, y] t)).drew).cell? ((⟨W.heap.size, 0, none⟩ : Addr).add j) = some u := fun j u hu => cell_knot W t x y j u hu
theorem OwnP.drewT {w : World} {base : Nat} {t : TypeId} {v : Value} {n : Nat} {l : List (Int × Int)} (h : OwnP w base t v n l) : OwnP w.drew base t v n l := h.of_same fun _ _ _ => rfl
theorem cell_on2 {w w' : World} {o : Obj} {b k B : Nat} {v : Value} (hb : Below B ((w.alloc o).drew) w') (hlt : b < B) (h : w.cell? ⟨b, k, none⟩ = some v) : w'.cell? ⟨b, k, none⟩ = some v :=
  (hb.cell (p := ⟨b, k, none⟩) hlt).trans ((World.cell?_alloc_lt w _ _ (World.block_lt_of_cell? w _ h)).trans h)
/-- one pair is appended to a row of the call's own, in a region that draws -/
theorem wp_appendP {P : Program} {w : World} {o : Oper} {a : Act} {K : Act → World → Prop} {Q : Exit → Act → World → Prop} (s x : Operand) (t : TypeId)
    (ho : o.op = .call { callee := .builtin .append, args := #[s, x], argTypes := #[t, t] })
    (base : Nat) (e : TypeId) (i : TypeInfo) (z : Value) (ht : P.underlying t = some (.slice e)) (hi : P.info? e = some i) (hz : i.zero = some z)
    (hsize : i.size = 2) (hby : i.bytes = 16) (hzs : z.cells.size = 2)
    (v : Value) (n : Nat) (l : List (Int × Int)) (hs : a.eval s = v) (hO : OwnP w base e v n l)
    (ad : Addr) (x1 x2 : Int) (hx : a.eval x = .slice (some ad) 1 1) (hnews : ∀ j u, [Value.int .i64 x1, Value.int .i64 x2][j]? = some u → w.cell? (ad.add j) = some u)
    (hn : n ≤ 1000000) (hbase : base ≤ w.heap.size)
    (h : ∀ v' w', OwnP w' base e v' (n + 1) (l ++ [(x1, x2)]) → Below base w w' → K (a.put o.dst v') w') : o.wp P a w K Q :=
  wp_append_own w s x t ho base e i z 2 16 ht hi hz hsize hby hzs (by decide) v n (flat l) hs hO.own ad 1 1 _ hx rfl hnews (one_two _ _) (by unfold maxLen; omega) (by omega) hbase
    fun v' w' h2 h3 _ => h v' w' (hO.push h2) (below_of_grown h3 hbase fun _ hk => hO.block hk)
def TurnPost (l : List (Int × Int)) (w : World) (e : Ending) (w' : World) : Prop :=
  ∃ A n c, e = .returned (.tuple #[.slice A n c, .bool (vC l)]) ∧ (vC l = true → n ≤ 12 ∧ RdP w' A n (turn l)) ∧ Below w.heap.size w w'
theorem turn_no {l : List (Int × Int)} {w W : World} {A : Option Addr} {n c : Nat} (h : vC l = false) (hB : Below w.heap.size w W) : TurnPost l w (.returned (.tuple #[.slice A n c, .bool false])) W :=
  ⟨A, n, c, by rw [h], fun h' => by (rw [h] at h'; cases h'), hB⟩
theorem turn_yes {l : List (Int × Int)} {w W : World} {A : Option Addr} {n c : Nat} (h : vC l = true) (hn : l.length = n) (hO : OwnP W w.heap.size 31 (.slice A n c) n (turn l)) (hB : Below w.heap.size w W) : TurnPost l w (.returned (.tuple #[.slice A n c, .bool true])) W :=
  ⟨A, n, c, by rw [h], fun _ => ⟨by have := (vC_yes h).2.2.2; omega, by
    obtain ⟨_, _, hv, _, _, hrd, _⟩ := hO.form
    injection hv with hv1 hv2
    subst hv1
    exact hrd⟩, hB⟩
def TurnRel (l : List (Int × Int)) (w : World) (o i : Value) (wr : World) : Prop :=
  ∃ k : Nat, k ≤ l.length ∧ i = .int .i64 k ∧ OwnP wr w.heap.size 31 o k ((turn l).take k) ∧ Below w.heap.size w wr
/-- GasDepth -/
def okP (a b : List (Int × Int)) (x : Int) : Bool := vC a && okT b (turn a) x
def nP (a b : List (Int × Int)) (x : Int) : Int := if vC a then nT b (turn a) x else 0
def dP (a b : List (Int × Int)) (x : Int) : Int := if vC a then dT b (turn a) x else 0
theorem p_no {a b : List (Int × Int)} {x : Int} (h : vC a = false) : okP a b x = false ∧ nP a b x = 0 ∧ dP a b x = 0 := by simp [okP, nP, dP, h]
theorem p_on {a b : List (Int × Int)} {x : Int} (h : vC a = true) : okP a b x = okT b (turn a) x ∧ nP a b x = nT b (turn a) x ∧ dP a b x = dT b (turn a) x := by simp [okP, nP, dP, h]
end Go.Proofs.Ytfngdemjlglliaa
