/-
  The walk of the law FnStack: it returns true and writes nothing that was there.
-/
import Derived.Test.YtbaplcdedijaeaaStackOps
import Derived.Test.YtbaplcdedijaeaaStackRows
import Derived.Test.YtbaplcdedijaeaaStackDraws
import Derived.Deep.RegionHeld3
namespace Go.Proofs.Ytbaplcdedijaeaa
open Go.RowKit

set_option maxHeartbeats 2000000 in
set_option maxRecDepth 4000 in
theorem walk_FnStack (A : Option Addr) (n c : Nat) (A' : Option Addr) (n' c' : Nat) (w : World) (h : RdB w A n) (hn : n ≤ maxLen) (hc : n ≤ c) (_h' : RdB w A' n') (hn' : n' ≤ maxLen) (_hc' : n' ≤ c') :
    Calls Try.prog 4 #[.slice A n c, .slice A' n' c'] w fun e w' => e = .returned (.bool true) ∧ Below w.heap.size w w' := by
  unfold maxLen at hn hn'
  have HB := Lib.hid h
  clear h
  obtain ⟨i0, hi, hz0, hz1, hz2⟩ := info_parts info_rowD
  have HI := Lib.hid hi
  have HZ0 := Lib.hid hz0
  have HZ1 := Lib.hid hz1
  have HZ2 := Lib.hid hz2
  obtain ⟨j0, hj, hy0, hy1, hy2⟩ := info_parts info_int
  have HJ := Lib.hid hj
  have HY0 := Lib.hid hy0
  have HY1 := Lib.hid hy1
  have HY2 := Lib.hid hy2
  clear hi hz0 hz1 hz2 hj hy0 hy1 hy2
  by_cases hbig : 1048576 < n
  · go_enter Try.func4, Try.ntmps4
    go_wp2
    go_ret
    exact ⟨rfl, Below.refl _ _⟩
  · have hd1 : decide ((1048576 : Int) < (n : Int)) = false := by simp; omega
    by_cases hbig' : 1048576 < n'
    · go_enter Try.func4, Try.ntmps4
      go_wp2
      go_ret
      exact ⟨rfl, Below.refl _ _⟩
    · have hd2 : decide ((1048576 : Int) < (n' : Int)) = false := by simp; omega
      go_enter Try.func4, Try.ntmps4
      go_wp2_with fail
      refine (c_DrawStackValid _ _ _ _ HB.out (by omega) hc).mono ?_
      rintro e w1 ⟨A1, n1, c1, rs, rfl, ⟨hn1, hc1, hr1, hh1, hl1⟩, hB1⟩
      have HR1 := Lib.hid hr1
      have HH1 := Lib.hid hh1
      have HS1 := Lib.hid (short8 hl1)
      have HE1 := Lib.hid hl1
      have HL1 := Lib.hid (show (vals rs).length = n1 by rw [vals_len]; exact hr1.len)
      clear hr1 hh1 hl1
      rcases Bool.eq_false_or_eq_true (vStack (vals rs)) with hv | hv
      · have HV := Lib.hid hv
        clear hv
        go_wp2_with fail
        refine (c_implStackValid _ _ _ rs _ (by omega) HR1.out HS1.out).mono ?_
        rintro e w2 ⟨he, rfl⟩
        rw [HV.out] at he
        subst he
        go_wp2_with fail
        refine (c_specStackValid _ _ _ rs _ (by omega) HR1.out HS1.out).mono ?_
        rintro e w3 ⟨he, hB13⟩
        rw [HV.out] at he
        subst he
        have hB3 := hB1.trans (hB13.mono hB1.size)
        obtain ⟨hv1, hv2, hv3⟩ := vStack_yes HV.out
        have hn6 : 1 ≤ n1 ∧ n1 ≤ 6 := by have := HL1.out; omega
        have hrl : 0 < rs.length := by have := HR1.out.len; omega
        have hrw := vRow_yes (hv1 0 (by omega)).1
        rw [rw_vals hrl] at hrw
        have HR0 := Lib.hid (rdI_of_rows HR1.out.rows hrl)
        have hr8 := HE1.out _ (rv_mem hrl)
        have hr9 : 1 ≤ (rv rs 0).n := by have := HR0.out.len; omega
        have HMORE := Lib.hid (show vStack (vals rs ++ [(rv rs 0).l ++ [0]]) = false by rw [← rw_vals hrl]; exact vStack_more HV.out)
        clear hv1 hv2 hv3 hrw
        obtain ⟨b, off, rfl, hb0, hcl⟩ := HR1.out.at_ (by omega)
        have g0 := hcl 0 (by omega)
        rw [Nat.add_zero] at g0
        have HCELL := Lib.hid hcl
        clear hcl
        generalize rv rs 0 = r0 at *
        obtain ⟨A0, n0, c0, l0⟩ := r0
        dsimp only at HR0 hr8 hr9 HMORE g0
        obtain ⟨k, hk, hk1, hk2⟩ : ∃ k : Nat, 1 + (n' : Int) % (n1 : Int) = (k : Int) ∧ 1 ≤ k ∧ k ≤ n1 := ⟨1 + n' % n1, by push_cast; rfl, by omega, by have := Nat.mod_lt n' (show 0 < n1 by omega); omega⟩
        have HKK := Lib.hid hk
        clear hk
        have hn1z : ((n1 : Int) == 0) = false := by simp; omega
        have hi0 : (0 : Int) < (n1 : Int) := by omega
        have hi1 : 0 < n1 := by omega
        go_wp2_with fail
        rw [HKK.out, show wrap64 (k : Int) = (k : Int) by unfold wrap64; omega]
        apply way_cutO (B := fun v11 A9 c9 W => OwnR W w3.heap.size 29 v11 (n1 + 1) (rs ++ [RV.mk A9 (n0 + 1) c9 (l0 ++ [0])]) ∧ n0 + 1 ≤ c9 ∧ Mid w w1 w3.heap.size W)
        · intro REST
          have HC := Lib.hid REST
          clear REST
          have ST := Mid.start hB3 hB13
          refine wp_region_noPanic ?_
          refine wp_region_held_drew (S := fun W => W.cell? ⟨b, off, none⟩ = some (.slice A0 n0 c0)) (by kernel_rfl) (ST.cell g0 hb0) (fun hH0 => ?_)
          refine wpAnyH_take (i := 1) (oi := { dst := some 41, op := Go.Op.move (Go.Operand.tmp 5), type := 22, pos := "laws.go:4835", after := #[], guard := none }) (v := ?_) rfl (by kernel_rfl) (by kernel_rfl) (by kernel_rfl) (fun _ _ _ h => h) (Or.inl ⟨by rfl, ?_⟩) (by assumption) ?_
          rotate_left
          · (intro w hSw; (try dsimp only at hSw); go_simp; try with_reducible rfl)
          try simp only [Act.put, List.setIfInBounds_toArray, List.set_cons_zero, List.set_cons_succ]
          refine wpAnyH_take (i := 4) (oi := { dst := some 44, op := Go.Op.move (Go.Operand.tmp 5), type := 22, pos := "laws.go:4835", after := #[], guard := none }) (v := ?_) rfl (by kernel_rfl) (by kernel_rfl) (by kernel_rfl) (fun _ _ _ h => h) (Or.inl ⟨by rfl, ?_⟩) (by assumption) ?_
          rotate_left
          · (intro w hSw; (try dsimp only at hSw); go_simp; try with_reducible rfl)
          try simp only [Act.put, List.setIfInBounds_toArray, List.set_cons_zero, List.set_cons_succ]
          refine wpAnyH_take (i := 5) (oi := { dst := some 45, op := Go.Op.indexAddr 22 (Go.Operand.tmp 44) (Go.Operand.const (Go.Value.int Go.IntKind.i64 0)), type := 0, pos := "laws.go:4835", after := #[{ on := 4, ground := Go.Ground.data }], guard := none }) (v := ?_) rfl (by kernel_rfl) (by kernel_rfl) (by kernel_rfl) (fun _ _ _ h => h) (Or.inl ⟨by rfl, ?_⟩) (by assumption) ?_
          rotate_left
          · (intro w hSw; (try dsimp only at hSw); go_simp; try with_reducible rfl)
          try simp only [Act.put, List.setIfInBounds_toArray, List.set_cons_zero, List.set_cons_succ]
          refine wpAnyH_take (i := 6) (oi := { dst := some 46, op := Go.Op.load 29 (Go.Operand.tmp 45), type := 29, pos := "laws.go:4835", after := #[{ on := 5, ground := Go.Ground.data }], guard := none }) (v := ?_) rfl (by kernel_rfl) (by kernel_rfl) (by kernel_rfl) (fun _ _ _ h => h) (Or.inl ⟨by rfl, ?_⟩) (by assumption) ?_
          rotate_left
          · (intro w hSw; (try dsimp only at hSw); go_simp; try with_reducible rfl)
          try simp only [Act.put, List.setIfInBounds_toArray, List.set_cons_zero, List.set_cons_succ]
          refine wpAnyH_ready (rs := [0, 3, 8]) (by kernel_rfl) (by simp) ?_
          refine (AllReadyH.cons (o := { dst := some 40, op := Go.Op.buildSlice 22 0 #[], type := 22, pos := "laws.go:4835", after := #[], guard := none }) rfl (fun K hK => ?_) (AllReadyH.cons (o := { dst := some 43, op := Go.Op.buildSlice 29 0 #[], type := 29, pos := "laws.go:4835", after := #[], guard := none }) rfl (fun K hK => ?_) (AllReadyH.cons (o := { dst := some 48, op := Go.Op.buildSlice 29 1 #[(0, Go.Operand.const (Go.Value.int Go.IntKind.i64 0))], type := 29, pos := "laws.go:4835", after := #[], guard := none }) rfl (fun K hK => ?_) AllReadyH.nil)))
          · rw [if_pos (by rfl)]
            refine wp_buildR0 22 rfl i0 Try.underlying22 HI.out w3.heap.size ST.sz ?_
            intro v0 W FL hb
            have ST := ST.new hb
            refine hK.out _ _ (ST.cell g0 hb0) (fun hH5 => ?_)
            clear hK K hH0
            try simp only [Act.put, List.setIfInBounds_toArray, List.set_cons_zero, List.set_cons_succ]
            refine wpAnyH_ready (rs := [2, 3, 8]) (by kernel_rfl) (by simp) ?_
            refine (AllReadyH.cons (o := { dst := some 42, op := Go.Op.call { callee := Go.Callee.builtin Go.Builtin.append, args := #[Go.Operand.tmp 40, Go.Operand.tmp 41], argTypes := #[22, 22] }, type := 22, pos := "laws.go:4835", after := #[{ on := 0, ground := Go.Ground.data }, { on := 1, ground := Go.Ground.data }], guard := none }) rfl (fun K hK => ?_) (AllReadyH.cons (o := { dst := some 43, op := Go.Op.buildSlice 29 0 #[], type := 29, pos := "laws.go:4835", after := #[], guard := none }) rfl (fun K hK => ?_) (AllReadyH.cons (o := { dst := some 48, op := Go.Op.buildSlice 29 1 #[(0, Go.Operand.const (Go.Value.int Go.IntKind.i64 0))], type := 29, pos := "laws.go:4835", after := #[], guard := none }) rfl (fun K hK => ?_) AllReadyH.nil)))
            · rw [if_pos (by rfl)]
              refine wp_appendRR _ _ 22 rfl w3.heap.size 29 i0 (.slice none 0 0) Try.underlying22 HI.out HZ0.out HZ1.out HZ2.out rfl v0 0 [] rfl FL b off n1 c1 rs rfl HR1.out.len (fun i hi => ST.cell (HCELL.out i hi) hb0) (HR1.out.below ST.b1).rows (apart_old FL HR1.out.rows HH1.out ST.s1) (by omega) ST.sz ?_
              intro v2 W FL2 hb hg
              have FL := own_copyR FL2
              have ST := ST.step hb
              refine hK.out _ _ (ST.cell g0 hb0) (fun hH6 => ?_)
              clear hK K hH5
              try simp only [Act.put, List.setIfInBounds_toArray, List.set_cons_zero, List.set_cons_succ]
              refine wpAnyH_ready (rs := [3, 8]) (by kernel_rfl) (by simp) ?_
              refine (AllReadyH.cons (o := { dst := some 43, op := Go.Op.buildSlice 29 0 #[], type := 29, pos := "laws.go:4835", after := #[], guard := none }) rfl (fun K hK => ?_) (AllReadyH.cons (o := { dst := some 48, op := Go.Op.buildSlice 29 1 #[(0, Go.Operand.const (Go.Value.int Go.IntKind.i64 0))], type := 29, pos := "laws.go:4835", after := #[], guard := none }) rfl (fun K hK => ?_) AllReadyH.nil))
              · rw [if_pos (by rfl)]
                refine wp_buildI0 29 rfl j0 Try.underlying29 HJ.out w3.heap.size ST.sz ?_
                intro v3 W g3 hv3 hg3 FI hb
                clear hv3 hg3
                have FL := FL.below hb
                have ST := ST.new hb
                refine hK.out _ _ (ST.cell g0 hb0) (fun hH7 => ?_)
                clear hK K hH6
                try simp only [Act.put, List.setIfInBounds_toArray, List.set_cons_zero, List.set_cons_succ]
                refine wpAnyH_ready (rs := [7, 8]) (by kernel_rfl) (by simp) ?_
                refine (AllReadyH.cons (o := { dst := some 47, op := Go.Op.call { callee := Go.Callee.builtin Go.Builtin.append, args := #[Go.Operand.tmp 43, Go.Operand.tmp 46], argTypes := #[29, 29] }, type := 29, pos := "laws.go:4835", after := #[{ on := 3, ground := Go.Ground.data }, { on := 6, ground := Go.Ground.data }, { on := 2, ground := Go.Ground.chain }], guard := none }) rfl (fun K hK => ?_) (AllReadyH.cons (o := { dst := some 48, op := Go.Op.buildSlice 29 1 #[(0, Go.Operand.const (Go.Value.int Go.IntKind.i64 0))], type := 29, pos := "laws.go:4835", after := #[], guard := none }) rfl (fun K hK => ?_) AllReadyH.nil))
                · rw [if_pos (by rfl)]
                  refine wp_appendJ _ _ 29 rfl w3.heap.size 3 j0 (.int .i64 0) Try.underlying29 HJ.out HY0.out HY1.out HY2.out rfl v3 0 [] rfl FI A0 n0 c0 l0 rfl (HR0.out.below ST.b1) (by omega) (by omega) ST.sz ?_
                  intro v7 W FI2 hb hg
                  have ST := ST.step hb
                  have FL := FL.past FI hg (HR1.out.below ST.b1).rows
                  have FI := own_copyI FI2
                  refine hK.out _ _ (ST.cell g0 hb0) (fun hH8 => ?_)
                  clear hK K hH7
                  try simp only [Act.put, List.setIfInBounds_toArray, List.set_cons_zero, List.set_cons_succ]
                  refine wpAnyH_ready (rs := [8]) (by kernel_rfl) (by simp) ?_
                  refine (AllReadyH.cons (o := { dst := some 48, op := Go.Op.buildSlice 29 1 #[(0, Go.Operand.const (Go.Value.int Go.IntKind.i64 0))], type := 29, pos := "laws.go:4835", after := #[], guard := none }) rfl (fun K hK => ?_) AllReadyH.nil)
                  rw [if_pos (by rfl)]
                  refine wp_buildI1 29 _ rfl j0 (.int .i64 0) Try.underlying29 HJ.out HY0.out HY1.out w3.heap.size ST.sz 0 rfl ?_
                  intro g8 W hg8 F8 hb
                  clear hg8
                  have FL := FL.below hb
                  have FI := FI.below hb
                  have ST := ST.new hb
                  refine hK.out _ _ (ST.cell g0 hb0) (fun hH9 => ?_)
                  clear hK K hH8
                  try simp only [Act.put, List.setIfInBounds_toArray, List.set_cons_zero, List.set_cons_succ]
                  refine wpAnyH_ready (rs := [9]) (by kernel_rfl) (by simp) ?_
                  refine (AllReadyH.cons (o := { dst := some 49, op := Go.Op.call { callee := Go.Callee.builtin Go.Builtin.append, args := #[Go.Operand.tmp 47, Go.Operand.tmp 48], argTypes := #[29, 29] }, type := 29, pos := "laws.go:4835", after := #[{ on := 7, ground := Go.Ground.data }, { on := 8, ground := Go.Ground.data }, { on := 7, ground := Go.Ground.chain }], guard := none }) rfl (fun K hK => ?_) AllReadyH.nil)
                  rw [if_pos (by rfl)]
                  refine wp_appendJ _ _ 29 rfl w3.heap.size 3 j0 (.int .i64 0) Try.underlying29 HJ.out HY0.out HY1.out HY2.out rfl v7 n0 l0 rfl FI (some ⟨g8, 0, none⟩) 1 1 [0] rfl F8.rd (by omega) (by omega) ST.sz ?_
                  intro v9 W FI2 hb hg
                  have ST := ST.step hb
                  have FL := FL.past FI hg (HR1.out.below ST.b1).rows
                  obtain ⟨A9, c9, rfl, hc9, _⟩ := FI2.form
                  have FI := FI2
                  refine hK.out _ _ (ST.cell g0 hb0) (fun hH10 => ?_)
                  clear hK K hH9
                  try simp only [Act.put, List.setIfInBounds_toArray, List.set_cons_zero, List.set_cons_succ]
                  refine wpAnyH_ready (rs := [10]) (by kernel_rfl) (by simp) ?_
                  refine (AllReadyH.cons (o := { dst := some 50, op := Go.Op.buildSlice 22 1 #[(0, Go.Operand.tmp 49)], type := 22, pos := "laws.go:4835", after := #[{ on := 9, ground := Go.Ground.data }], guard := none }) rfl (fun K hK => ?_) AllReadyH.nil)
                  rw [if_pos (by rfl)]
                  refine wp_buildR1 22 _ rfl i0 (.slice none 0 0) Try.underlying22 HI.out HZ0.out HZ1.out A9 (n0 + 1) c9 rfl ?_
                  intro g10 W F10 hb
                  have FL := FL.below hb
                  have FI := FI.below hb
                  have ST := ST.new hb
                  refine hK.out _ _ (ST.cell g0 hb0) (fun hH11 => ?_)
                  clear hK K hH10
                  try simp only [Act.put, List.setIfInBounds_toArray, List.set_cons_zero, List.set_cons_succ]
                  refine wpAnyH_ready (rs := [11]) (by kernel_rfl) (by simp) ?_
                  refine (AllReadyH.cons (o := { dst := some 51, op := Go.Op.call { callee := Go.Callee.builtin Go.Builtin.append, args := #[Go.Operand.tmp 42, Go.Operand.tmp 50], argTypes := #[22, 22] }, type := 22, pos := "laws.go:4835", after := #[{ on := 2, ground := Go.Ground.data }, { on := 10, ground := Go.Ground.data }, { on := 9, ground := Go.Ground.chain }], guard := none }) rfl (fun K hK => ?_) AllReadyH.nil)
                  rw [if_pos (by rfl)]
                  refine wp_appendR1 _ _ 22 rfl w3.heap.size i0 (.slice none 0 0) Try.underlying22 HI.out HZ0.out HZ1.out HZ2.out rfl v2 n1 rs rfl FL (apart_old FL HR1.out.rows HH1.out ST.s1) g10 (RV.mk A9 (n0 + 1) c9 (l0 ++ [0])) rfl F10 w3.heap.size FI (by omega) ST.sz ?_
                  intro v11 W FL hb
                  have ST := ST.step hb
                  clear F10
                  refine hK.out _ _ (ST.cell g0 hb0) (fun hH12 => ?_)
                  clear hK K hH11
                  try simp only [Act.put, List.setIfInBounds_toArray, List.set_cons_zero, List.set_cons_succ]
                  refine wpAnyH_ready (rs := [12]) (by kernel_rfl) (by simp) ?_
                  refine (AllReadyH.cons (o := { dst := some 9, op := Go.Op.assign (Go.Operand.tmp 51), type := 22, pos := "laws.go:4835", after := #[{ on := 11, ground := Go.Ground.data }, { on := 11, ground := Go.Ground.chain }, { on := 0, ground := Go.Ground.phase }, { on := 1, ground := Go.Ground.phase }, { on := 2, ground := Go.Ground.phase }, { on := 3, ground := Go.Ground.phase }, { on := 4, ground := Go.Ground.phase }, { on := 5, ground := Go.Ground.phase }, { on := 6, ground := Go.Ground.phase }, { on := 7, ground := Go.Ground.phase }, { on := 8, ground := Go.Ground.phase }, { on := 9, ground := Go.Ground.phase }, { on := 10, ground := Go.Ground.phase }, { on := 11, ground := Go.Ground.phase }], guard := none }) rfl (fun K hK => ?_) AllReadyH.nil)
                  go_simp
                  refine hK.out _ _ (ST.cell g0 hb0) (fun hH13 => ?_)
                  clear hK K hH12
                  try simp only [Act.put, List.setIfInBounds_toArray, List.set_cons_zero, List.set_cons_succ]
                  refine wpAnyH_done (by kernel_rfl) ?_ _
                  refine NoPanic.normal ?_
                  exact HC.out v0 v2 v3 v7 A9 c9 v11 g8 g10 W ⟨FL, hc9, ST⟩
                · rw [if_pos (by rfl)]
                  refine wp_buildI1 29 _ rfl j0 (.int .i64 0) Try.underlying29 HJ.out HY0.out HY1.out w3.heap.size ST.sz 0 rfl ?_
                  intro g8 W hg8 F8 hb
                  have HA := (FI.off_new (v' := (.slice (some ⟨g8, 0, none⟩) 1 1)) rfl hg8).symm
                  clear hg8
                  have FL := FL.below hb
                  have FI := FI.below hb
                  have ST := ST.new hb
                  refine hK.out _ _ (ST.cell g0 hb0) (fun hH8 => ?_)
                  clear hK K hH7
                  try simp only [Act.put, List.setIfInBounds_toArray, List.set_cons_zero, List.set_cons_succ]
                  refine wpAnyH_ready (rs := [7]) (by kernel_rfl) (by simp) ?_
                  refine (AllReadyH.cons (o := { dst := some 47, op := Go.Op.call { callee := Go.Callee.builtin Go.Builtin.append, args := #[Go.Operand.tmp 43, Go.Operand.tmp 46], argTypes := #[29, 29] }, type := 29, pos := "laws.go:4835", after := #[{ on := 3, ground := Go.Ground.data }, { on := 6, ground := Go.Ground.data }, { on := 2, ground := Go.Ground.chain }], guard := none }) rfl (fun K hK => ?_) AllReadyH.nil)
                  rw [if_pos (by rfl)]
                  refine wp_appendJ _ _ 29 rfl w3.heap.size 3 j0 (.int .i64 0) Try.underlying29 HJ.out HY0.out HY1.out HY2.out rfl v3 0 [] rfl FI A0 n0 c0 l0 rfl (HR0.out.below ST.b1) (by omega) (by omega) ST.sz ?_
                  intro v7 W FI2 hb hg
                  have ST := ST.step hb
                  have FL := FL.past FI hg (HR1.out.below ST.b1).rows
                  have F8 := F8.offs HA hg
                  have FI := own_copyI FI2
                  refine hK.out _ _ (ST.cell g0 hb0) (fun hH9 => ?_)
                  clear hK K hH8
                  try simp only [Act.put, List.setIfInBounds_toArray, List.set_cons_zero, List.set_cons_succ]
                  refine wpAnyH_ready (rs := [9]) (by kernel_rfl) (by simp) ?_
                  refine (AllReadyH.cons (o := { dst := some 49, op := Go.Op.call { callee := Go.Callee.builtin Go.Builtin.append, args := #[Go.Operand.tmp 47, Go.Operand.tmp 48], argTypes := #[29, 29] }, type := 29, pos := "laws.go:4835", after := #[{ on := 7, ground := Go.Ground.data }, { on := 8, ground := Go.Ground.data }, { on := 7, ground := Go.Ground.chain }], guard := none }) rfl (fun K hK => ?_) AllReadyH.nil)
                  rw [if_pos (by rfl)]
                  refine wp_appendJ _ _ 29 rfl w3.heap.size 3 j0 (.int .i64 0) Try.underlying29 HJ.out HY0.out HY1.out HY2.out rfl v7 n0 l0 rfl FI (some ⟨g8, 0, none⟩) 1 1 [0] rfl F8.rd (by omega) (by omega) ST.sz ?_
                  intro v9 W FI2 hb hg
                  have ST := ST.step hb
                  have FL := FL.past FI hg (HR1.out.below ST.b1).rows
                  obtain ⟨A9, c9, rfl, hc9, _⟩ := FI2.form
                  have FI := FI2
                  refine hK.out _ _ (ST.cell g0 hb0) (fun hH10 => ?_)
                  clear hK K hH9
                  try simp only [Act.put, List.setIfInBounds_toArray, List.set_cons_zero, List.set_cons_succ]
                  refine wpAnyH_ready (rs := [10]) (by kernel_rfl) (by simp) ?_
                  refine (AllReadyH.cons (o := { dst := some 50, op := Go.Op.buildSlice 22 1 #[(0, Go.Operand.tmp 49)], type := 22, pos := "laws.go:4835", after := #[{ on := 9, ground := Go.Ground.data }], guard := none }) rfl (fun K hK => ?_) AllReadyH.nil)
                  rw [if_pos (by rfl)]
                  refine wp_buildR1 22 _ rfl i0 (.slice none 0 0) Try.underlying22 HI.out HZ0.out HZ1.out A9 (n0 + 1) c9 rfl ?_
                  intro g10 W F10 hb
                  have FL := FL.below hb
                  have FI := FI.below hb
                  have ST := ST.new hb
                  refine hK.out _ _ (ST.cell g0 hb0) (fun hH11 => ?_)
                  clear hK K hH10
                  try simp only [Act.put, List.setIfInBounds_toArray, List.set_cons_zero, List.set_cons_succ]
                  refine wpAnyH_ready (rs := [11]) (by kernel_rfl) (by simp) ?_
                  refine (AllReadyH.cons (o := { dst := some 51, op := Go.Op.call { callee := Go.Callee.builtin Go.Builtin.append, args := #[Go.Operand.tmp 42, Go.Operand.tmp 50], argTypes := #[22, 22] }, type := 22, pos := "laws.go:4835", after := #[{ on := 2, ground := Go.Ground.data }, { on := 10, ground := Go.Ground.data }, { on := 9, ground := Go.Ground.chain }], guard := none }) rfl (fun K hK => ?_) AllReadyH.nil)
                  rw [if_pos (by rfl)]
                  refine wp_appendR1 _ _ 22 rfl w3.heap.size i0 (.slice none 0 0) Try.underlying22 HI.out HZ0.out HZ1.out HZ2.out rfl v2 n1 rs rfl FL (apart_old FL HR1.out.rows HH1.out ST.s1) g10 (RV.mk A9 (n0 + 1) c9 (l0 ++ [0])) rfl F10 w3.heap.size FI (by omega) ST.sz ?_
                  intro v11 W FL hb
                  have ST := ST.step hb
                  clear F10
                  refine hK.out _ _ (ST.cell g0 hb0) (fun hH12 => ?_)
                  clear hK K hH11
                  try simp only [Act.put, List.setIfInBounds_toArray, List.set_cons_zero, List.set_cons_succ]
                  refine wpAnyH_ready (rs := [12]) (by kernel_rfl) (by simp) ?_
                  refine (AllReadyH.cons (o := { dst := some 9, op := Go.Op.assign (Go.Operand.tmp 51), type := 22, pos := "laws.go:4835", after := #[{ on := 11, ground := Go.Ground.data }, { on := 11, ground := Go.Ground.chain }, { on := 0, ground := Go.Ground.phase }, { on := 1, ground := Go.Ground.phase }, { on := 2, ground := Go.Ground.phase }, { on := 3, ground := Go.Ground.phase }, { on := 4, ground := Go.Ground.phase }, { on := 5, ground := Go.Ground.phase }, { on := 6, ground := Go.Ground.phase }, { on := 7, ground := Go.Ground.phase }, { on := 8, ground := Go.Ground.phase }, { on := 9, ground := Go.Ground.phase }, { on := 10, ground := Go.Ground.phase }, { on := 11, ground := Go.Ground.phase }], guard := none }) rfl (fun K hK => ?_) AllReadyH.nil)
                  go_simp
                  refine hK.out _ _ (ST.cell g0 hb0) (fun hH13 => ?_)
                  clear hK K hH12
                  try simp only [Act.put, List.setIfInBounds_toArray, List.set_cons_zero, List.set_cons_succ]
                  refine wpAnyH_done (by kernel_rfl) ?_ _
                  refine NoPanic.normal ?_
                  exact HC.out v0 v2 v3 v7 A9 c9 v11 g8 g10 W ⟨FL, hc9, ST⟩
              · rw [if_pos (by rfl)]
                refine wp_buildI1 29 _ rfl j0 (.int .i64 0) Try.underlying29 HJ.out HY0.out HY1.out w3.heap.size ST.sz 0 rfl ?_
                intro g8 W hg8 F8 hb
                clear hg8
                have FL := FL.below hb
                have ST := ST.new hb
                refine hK.out _ _ (ST.cell g0 hb0) (fun hH7 => ?_)
                clear hK K hH6
                try simp only [Act.put, List.setIfInBounds_toArray, List.set_cons_zero, List.set_cons_succ]
                refine wpAnyH_ready (rs := [3]) (by kernel_rfl) (by simp) ?_
                refine (AllReadyH.cons (o := { dst := some 43, op := Go.Op.buildSlice 29 0 #[], type := 29, pos := "laws.go:4835", after := #[], guard := none }) rfl (fun K hK => ?_) AllReadyH.nil)
                rw [if_pos (by rfl)]
                refine wp_buildI0 29 rfl j0 Try.underlying29 HJ.out w3.heap.size ST.sz ?_
                intro v3 W g3 hv3 hg3 FI hb
                have HA := F8.off_new hv3 hg3
                clear hv3 hg3
                have FL := FL.below hb
                have F8 := F8.below hb
                have ST := ST.new hb
                refine hK.out _ _ (ST.cell g0 hb0) (fun hH8 => ?_)
                clear hK K hH7
                try simp only [Act.put, List.setIfInBounds_toArray, List.set_cons_zero, List.set_cons_succ]
                refine wpAnyH_ready (rs := [7]) (by kernel_rfl) (by simp) ?_
                refine (AllReadyH.cons (o := { dst := some 47, op := Go.Op.call { callee := Go.Callee.builtin Go.Builtin.append, args := #[Go.Operand.tmp 43, Go.Operand.tmp 46], argTypes := #[29, 29] }, type := 29, pos := "laws.go:4835", after := #[{ on := 3, ground := Go.Ground.data }, { on := 6, ground := Go.Ground.data }, { on := 2, ground := Go.Ground.chain }], guard := none }) rfl (fun K hK => ?_) AllReadyH.nil)
                rw [if_pos (by rfl)]
                refine wp_appendJ _ _ 29 rfl w3.heap.size 3 j0 (.int .i64 0) Try.underlying29 HJ.out HY0.out HY1.out HY2.out rfl v3 0 [] rfl FI A0 n0 c0 l0 rfl (HR0.out.below ST.b1) (by omega) (by omega) ST.sz ?_
                intro v7 W FI2 hb hg
                have ST := ST.step hb
                have FL := FL.past FI hg (HR1.out.below ST.b1).rows
                have F8 := F8.offs HA hg
                have FI := own_copyI FI2
                refine hK.out _ _ (ST.cell g0 hb0) (fun hH9 => ?_)
                clear hK K hH8
                try simp only [Act.put, List.setIfInBounds_toArray, List.set_cons_zero, List.set_cons_succ]
                refine wpAnyH_ready (rs := [9]) (by kernel_rfl) (by simp) ?_
                refine (AllReadyH.cons (o := { dst := some 49, op := Go.Op.call { callee := Go.Callee.builtin Go.Builtin.append, args := #[Go.Operand.tmp 47, Go.Operand.tmp 48], argTypes := #[29, 29] }, type := 29, pos := "laws.go:4835", after := #[{ on := 7, ground := Go.Ground.data }, { on := 8, ground := Go.Ground.data }, { on := 7, ground := Go.Ground.chain }], guard := none }) rfl (fun K hK => ?_) AllReadyH.nil)
                rw [if_pos (by rfl)]
                refine wp_appendJ _ _ 29 rfl w3.heap.size 3 j0 (.int .i64 0) Try.underlying29 HJ.out HY0.out HY1.out HY2.out rfl v7 n0 l0 rfl FI (some ⟨g8, 0, none⟩) 1 1 [0] rfl F8.rd (by omega) (by omega) ST.sz ?_
                intro v9 W FI2 hb hg
                have ST := ST.step hb
                have FL := FL.past FI hg (HR1.out.below ST.b1).rows
                obtain ⟨A9, c9, rfl, hc9, _⟩ := FI2.form
                have FI := FI2
                refine hK.out _ _ (ST.cell g0 hb0) (fun hH10 => ?_)
                clear hK K hH9
                try simp only [Act.put, List.setIfInBounds_toArray, List.set_cons_zero, List.set_cons_succ]
                refine wpAnyH_ready (rs := [10]) (by kernel_rfl) (by simp) ?_
                refine (AllReadyH.cons (o := { dst := some 50, op := Go.Op.buildSlice 22 1 #[(0, Go.Operand.tmp 49)], type := 22, pos := "laws.go:4835", after := #[{ on := 9, ground := Go.Ground.data }], guard := none }) rfl (fun K hK => ?_) AllReadyH.nil)
                rw [if_pos (by rfl)]
                refine wp_buildR1 22 _ rfl i0 (.slice none 0 0) Try.underlying22 HI.out HZ0.out HZ1.out A9 (n0 + 1) c9 rfl ?_
                intro g10 W F10 hb
                have FL := FL.below hb
                have FI := FI.below hb
                have ST := ST.new hb
                refine hK.out _ _ (ST.cell g0 hb0) (fun hH11 => ?_)
                clear hK K hH10
                try simp only [Act.put, List.setIfInBounds_toArray, List.set_cons_zero, List.set_cons_succ]
                refine wpAnyH_ready (rs := [11]) (by kernel_rfl) (by simp) ?_
                refine (AllReadyH.cons (o := { dst := some 51, op := Go.Op.call { callee := Go.Callee.builtin Go.Builtin.append, args := #[Go.Operand.tmp 42, Go.Operand.tmp 50], argTypes := #[22, 22] }, type := 22, pos := "laws.go:4835", after := #[{ on := 2, ground := Go.Ground.data }, { on := 10, ground := Go.Ground.data }, { on := 9, ground := Go.Ground.chain }], guard := none }) rfl (fun K hK => ?_) AllReadyH.nil)
                rw [if_pos (by rfl)]
                refine wp_appendR1 _ _ 22 rfl w3.heap.size i0 (.slice none 0 0) Try.underlying22 HI.out HZ0.out HZ1.out HZ2.out rfl v2 n1 rs rfl FL (apart_old FL HR1.out.rows HH1.out ST.s1) g10 (RV.mk A9 (n0 + 1) c9 (l0 ++ [0])) rfl F10 w3.heap.size FI (by omega) ST.sz ?_
                intro v11 W FL hb
                have ST := ST.step hb
                clear F10
                refine hK.out _ _ (ST.cell g0 hb0) (fun hH12 => ?_)
                clear hK K hH11
                try simp only [Act.put, List.setIfInBounds_toArray, List.set_cons_zero, List.set_cons_succ]
                refine wpAnyH_ready (rs := [12]) (by kernel_rfl) (by simp) ?_
                refine (AllReadyH.cons (o := { dst := some 9, op := Go.Op.assign (Go.Operand.tmp 51), type := 22, pos := "laws.go:4835", after := #[{ on := 11, ground := Go.Ground.data }, { on := 11, ground := Go.Ground.chain }, { on := 0, ground := Go.Ground.phase }, { on := 1, ground := Go.Ground.phase }, { on := 2, ground := Go.Ground.phase }, { on := 3, ground := Go.Ground.phase }, { on := 4, ground := Go.Ground.phase }, { on := 5, ground := Go.Ground.phase }, { on := 6, ground := Go.Ground.phase }, { on := 7, ground := Go.Ground.phase }, { on := 8, ground := Go.Ground.phase }, { on := 9, ground := Go.Ground.phase }, { on := 10, ground := Go.Ground.phase }, { on := 11, ground := Go.Ground.phase }], guard := none }) rfl (fun K hK => ?_) AllReadyH.nil)
                go_simp
                refine hK.out _ _ (ST.cell g0 hb0) (fun hH13 => ?_)
                clear hK K hH12
                try simp only [Act.put, List.setIfInBounds_toArray, List.set_cons_zero, List.set_cons_succ]
                refine wpAnyH_done (by kernel_rfl) ?_ _
                refine NoPanic.normal ?_
                exact HC.out v0 v2 v3 v7 A9 c9 v11 g8 g10 W ⟨FL, hc9, ST⟩
            · rw [if_pos (by rfl)]
              refine wp_buildI0 29 rfl j0 Try.underlying29 HJ.out w3.heap.size ST.sz ?_
              intro v3 W g3 hv3 hg3 FI hb
              clear hv3 hg3
              have FL := FL.below hb
              have ST := ST.new hb
              refine hK.out _ _ (ST.cell g0 hb0) (fun hH6 => ?_)
              clear hK K hH5
              try simp only [Act.put, List.setIfInBounds_toArray, List.set_cons_zero, List.set_cons_succ]
              refine wpAnyH_ready (rs := [2, 8]) (by kernel_rfl) (by simp) ?_
              refine (AllReadyH.cons (o := { dst := some 42, op := Go.Op.call { callee := Go.Callee.builtin Go.Builtin.append, args := #[Go.Operand.tmp 40, Go.Operand.tmp 41], argTypes := #[22, 22] }, type := 22, pos := "laws.go:4835", after := #[{ on := 0, ground := Go.Ground.data }, { on := 1, ground := Go.Ground.data }], guard := none }) rfl (fun K hK => ?_) (AllReadyH.cons (o := { dst := some 48, op := Go.Op.buildSlice 29 1 #[(0, Go.Operand.const (Go.Value.int Go.IntKind.i64 0))], type := 29, pos := "laws.go:4835", after := #[], guard := none }) rfl (fun K hK => ?_) AllReadyH.nil))
              · rw [if_pos (by rfl)]
                refine wp_appendRR _ _ 22 rfl w3.heap.size 29 i0 (.slice none 0 0) Try.underlying22 HI.out HZ0.out HZ1.out HZ2.out rfl v0 0 [] rfl FL b off n1 c1 rs rfl HR1.out.len (fun i hi => ST.cell (HCELL.out i hi) hb0) (HR1.out.below ST.b1).rows (apart_old FL HR1.out.rows HH1.out ST.s1) (by omega) ST.sz ?_
                intro v2 W FL2 hb hg
                have FI := FI.past FL hg
                have FL := own_copyR FL2
                have ST := ST.step hb
                refine hK.out _ _ (ST.cell g0 hb0) (fun hH7 => ?_)
                clear hK K hH6
                try simp only [Act.put, List.setIfInBounds_toArray, List.set_cons_zero, List.set_cons_succ]
                refine wpAnyH_ready (rs := [7, 8]) (by kernel_rfl) (by simp) ?_
                refine (AllReadyH.cons (o := { dst := some 47, op := Go.Op.call { callee := Go.Callee.builtin Go.Builtin.append, args := #[Go.Operand.tmp 43, Go.Operand.tmp 46], argTypes := #[29, 29] }, type := 29, pos := "laws.go:4835", after := #[{ on := 3, ground := Go.Ground.data }, { on := 6, ground := Go.Ground.data }, { on := 2, ground := Go.Ground.chain }], guard := none }) rfl (fun K hK => ?_) (AllReadyH.cons (o := { dst := some 48, op := Go.Op.buildSlice 29 1 #[(0, Go.Operand.const (Go.Value.int Go.IntKind.i64 0))], type := 29, pos := "laws.go:4835", after := #[], guard := none }) rfl (fun K hK => ?_) AllReadyH.nil))
                · rw [if_pos (by rfl)]
                  refine wp_appendJ _ _ 29 rfl w3.heap.size 3 j0 (.int .i64 0) Try.underlying29 HJ.out HY0.out HY1.out HY2.out rfl v3 0 [] rfl FI A0 n0 c0 l0 rfl (HR0.out.below ST.b1) (by omega) (by omega) ST.sz ?_
                  intro v7 W FI2 hb hg
                  have ST := ST.step hb
                  have FL := FL.past FI hg (HR1.out.below ST.b1).rows
                  have FI := own_copyI FI2
                  refine hK.out _ _ (ST.cell g0 hb0) (fun hH8 => ?_)
                  clear hK K hH7
                  try simp only [Act.put, List.setIfInBounds_toArray, List.set_cons_zero, List.set_cons_succ]
                  refine wpAnyH_ready (rs := [8]) (by kernel_rfl) (by simp) ?_
                  refine (AllReadyH.cons (o := { dst := some 48, op := Go.Op.buildSlice 29 1 #[(0, Go.Operand.const (Go.Value.int Go.IntKind.i64 0))], type := 29, pos := "laws.go:4835", after := #[], guard := none }) rfl (fun K hK => ?_) AllReadyH.nil)
                  rw [if_pos (by rfl)]
                  refine wp_buildI1 29 _ rfl j0 (.int .i64 0) Try.underlying29 HJ.out HY0.out HY1.out w3.heap.size ST.sz 0 rfl ?_
                  intro g8 W hg8 F8 hb
                  clear hg8
                  have FL := FL.below hb
                  have FI := FI.below hb
                  have ST := ST.new hb
                  refine hK.out _ _ (ST.cell g0 hb0) (fun hH9 => ?_)
                  clear hK K hH8
                  try simp only [Act.put, List.setIfInBounds_toArray, List.set_cons_zero, List.set_cons_succ]
                  refine wpAnyH_ready (rs := [9]) (by kernel_rfl) (by simp) ?_
                  refine (AllReadyH.cons (o := { dst := some 49, op := Go.Op.call { callee := Go.Callee.builtin Go.Builtin.append, args := #[Go.Operand.tmp 47, Go.Operand.tmp 48], argTypes := #[29, 29] }, type := 29, pos := "laws.go:4835", after := #[{ on := 7, ground := Go.Ground.data }, { on := 8, ground := Go.Ground.data }, { on := 7, ground := Go.Ground.chain }], guard := none }) rfl (fun K hK => ?_) AllReadyH.nil)
                  rw [if_pos (by rfl)]
                  refine wp_appendJ _ _ 29 rfl w3.heap.size 3 j0 (.int .i64 0) Try.underlying29 HJ.out HY0.out HY1.out HY2.out rfl v7 n0 l0 rfl FI (some ⟨g8, 0, none⟩) 1 1 [0] rfl F8.rd (by omega) (by omega) ST.sz ?_
                  intro v9 W FI2 hb hg
                  have ST := ST.step hb
                  have FL := FL.past FI hg (HR1.out.below ST.b1).rows
                  obtain ⟨A9, c9, rfl, hc9, _⟩ := FI2.form
                  have FI := FI2
                  refine hK.out _ _ (ST.cell g0 hb0) (fun hH10 => ?_)
                  clear hK K hH9
                  try simp only [Act.put, List.setIfInBounds_toArray, List.set_cons_zero, List.set_cons_succ]
                  refine wpAnyH_ready (rs := [10]) (by kernel_rfl) (by simp) ?_
                  refine (AllReadyH.cons (o := { dst := some 50, op := Go.Op.buildSlice 22 1 #[(0, Go.Operand.tmp 49)], type := 22, pos := "laws.go:4835", after := #[{ on := 9, ground := Go.Ground.data }], guard := none }) rfl (fun K hK => ?_) AllReadyH.nil)
                  rw [if_pos (by rfl)]
                  refine wp_buildR1 22 _ rfl i0 (.slice none 0 0) Try.underlying22 HI.out HZ0.out HZ1.out A9 (n0 + 1) c9 rfl ?_
                  intro g10 W F10 hb
                  have FL := FL.below hb
                  have FI := FI.below hb
                  have ST := ST.new hb
                  refine hK.out _ _ (ST.cell g0 hb0) (fun hH11 => ?_)
                  clear hK K hH10
                  try simp only [Act.put, List.setIfInBounds_toArray, List.set_cons_zero, List.set_cons_succ]
                  refine wpAnyH_ready (rs := [11]) (by kernel_rfl) (by simp) ?_
                  refine (AllReadyH.cons (o := { dst := some 51, op := Go.Op.call { callee := Go.Callee.builtin Go.Builtin.append, args := #[Go.Operand.tmp 42, Go.Operand.tmp 50], argTypes := #[22, 22] }, type := 22, pos := "laws.go:4835", after := #[{ on := 2, ground := Go.Ground.data }, { on := 10, ground := Go.Ground.data }, { on := 9, ground := Go.Ground.chain }], guard := none }) rfl (fun K hK => ?_) AllReadyH.nil)
                  rw [if_pos (by rfl)]
                  refine wp_appendR1 _ _ 22 rfl w3.heap.size i0 (.slice none 0 0) Try.underlying22 HI.out HZ0.out HZ1.out HZ2.out rfl v2 n1 rs rfl FL (apart_old FL HR1.out.rows HH1.out ST.s1) g10 (RV.mk A9 (n0 + 1) c9 (l0 ++ [0])) rfl F10 w3.heap.size FI (by omega) ST.sz ?_
                  intro v11 W FL hb
                  have ST := ST.step hb
                  clear F10
                  refine hK.out _ _ (ST.cell g0 hb0) (fun hH12 => ?_)
                  clear hK K hH11
                  try simp only [Act.put, List.setIfInBounds_toArray, List.set_cons_zero, List.set_cons_succ]
                  refine wpAnyH_ready (rs := [12]) (by kernel_rfl) (by simp) ?_
                  refine (AllReadyH.cons (o := { dst := some 9, op := Go.Op.assign (Go.Operand.tmp 51), type := 22, pos := "laws.go:4835", after := #[{ on := 11, ground := Go.Ground.data }, { on := 11, ground := Go.Ground.chain }, { on := 0, ground := Go.Ground.phase }, { on := 1, ground := Go.Ground.phase }, { on := 2, ground := Go.Ground.phase }, { on := 3, ground := Go.Ground.phase }, { on := 4, ground := Go.Ground.phase }, { on := 5, ground := Go.Ground.phase }, { on := 6, ground := Go.Ground.phase }, { on := 7, ground := Go.Ground.phase }, { on := 8, ground := Go.Ground.phase }, { on := 9, ground := Go.Ground.phase }, { on := 10, ground := Go.Ground.phase }, { on := 11, ground := Go.Ground.phase }], guard := none }) rfl (fun K hK => ?_) AllReadyH.nil)
                  go_simp
                  refine hK.out _ _ (ST.cell g0 hb0) (fun hH13 => ?_)
                  clear hK K hH12
                  try simp only [Act.put, List.setIfInBounds_toArray, List.set_cons_zero, List.set_cons_succ]
                  refine wpAnyH_done (by kernel_rfl) ?_ _
                  refine NoPanic.normal ?_
                  exact HC.out v0 v2 v3 v7 A9 c9 v11 g8 g10 W ⟨FL, hc9, ST⟩
                · rw [if_pos (by rfl)]
                  refine wp_buildI1 29 _ rfl j0 (.int .i64 0) Try.underlying29 HJ.out HY0.out HY1.out w3.heap.size ST.sz 0 rfl ?_
                  intro g8 W hg8 F8 hb
                  have HA := (FI.off_new (v' := (.slice (some ⟨g8, 0, none⟩) 1 1)) rfl hg8).symm
                  clear hg8
                  have FL := FL.below hb
                  have FI := FI.below hb
                  have ST := ST.new hb
                  refine hK.out _ _ (ST.cell g0 hb0) (fun hH8 => ?_)
                  clear hK K hH7
                  try simp only [Act.put, List.setIfInBounds_toArray, List.set_cons_zero, List.set_cons_succ]
                  refine wpAnyH_ready (rs := [7]) (by kernel_rfl) (by simp) ?_
                  refine (AllReadyH.cons (o := { dst := some 47, op := Go.Op.call { callee := Go.Callee.builtin Go.Builtin.append, args := #[Go.Operand.tmp 43, Go.Operand.tmp 46], argTypes := #[29, 29] }, type := 29, pos := "laws.go:4835", after := #[{ on := 3, ground := Go.Ground.data }, { on := 6, ground := Go.Ground.data }, { on := 2, ground := Go.Ground.chain }], guard := none }) rfl (fun K hK => ?_) AllReadyH.nil)
                  rw [if_pos (by rfl)]
                  refine wp_appendJ _ _ 29 rfl w3.heap.size 3 j0 (.int .i64 0) Try.underlying29 HJ.out HY0.out HY1.out HY2.out rfl v3 0 [] rfl FI A0 n0 c0 l0 rfl (HR0.out.below ST.b1) (by omega) (by omega) ST.sz ?_
                  intro v7 W FI2 hb hg
                  have ST := ST.step hb
                  have FL := FL.past FI hg (HR1.out.below ST.b1).rows
                  have F8 := F8.offs HA hg
                  have FI := own_copyI FI2
                  refine hK.out _ _ (ST.cell g0 hb0) (fun hH9 => ?_)
                  clear hK K hH8
                  try simp only [Act.put, List.setIfInBounds_toArray, List.set_cons_zero, List.set_cons_succ]
                  refine wpAnyH_ready (rs := [9]) (by kernel_rfl) (by simp) ?_
                  refine (AllReadyH.cons (o := { dst := some 49, op := Go.Op.call { callee := Go.Callee.builtin Go.Builtin.append, args := #[Go.Operand.tmp 47, Go.Operand.tmp 48], argTypes := #[29, 29] }, type := 29, pos := "laws.go:4835", after := #[{ on := 7, ground := Go.Ground.data }, { on := 8, ground := Go.Ground.data }, { on := 7, ground := Go.Ground.chain }], guard := none }) rfl (fun K hK => ?_) AllReadyH.nil)
                  rw [if_pos (by rfl)]
                  refine wp_appendJ _ _ 29 rfl w3.heap.size 3 j0 (.int .i64 0) Try.underlying29 HJ.out HY0.out HY1.out HY2.out rfl v7 n0 l0 rfl FI (some ⟨g8, 0, none⟩) 1 1 [0] rfl F8.rd (by omega) (by omega) ST.sz ?_
                  intro v9 W FI2 hb hg
                  have ST := ST.step hb
                  have FL := FL.past FI hg (HR1.out.below ST.b1).rows
                  obtain ⟨A9, c9, rfl, hc9, _⟩ := FI2.form
                  have FI := FI2
                  refine hK.out _ _ (ST.cell g0 hb0) (fun hH10 => ?_)
                  clear hK K hH9
                  try simp only [Act.put, List.setIfInBounds_toArray, List.set_cons_zero, List.set_cons_succ]
                  refine wpAnyH_ready (rs := [10]) (by kernel_rfl) (by simp) ?_
                  refine (AllReadyH.cons (o := { dst := some 50, op := Go.Op.buildSlice 22 1 #[(0, Go.Operand.tmp 49)], type := 22, pos := "laws.go:4835", after := #[{ on := 9, ground := Go.Ground.data }], guard := none }) rfl (fun K hK => ?_) AllReadyH.nil)
                  rw [if_pos (by rfl)]
                  refine wp_buildR1 22 _ rfl i0 (.slice none 0 0) Try.underlying22 HI.out HZ0.out HZ1.out A9 (n0 + 1) c9 rfl ?_
                  intro g10 W F10 hb
                  have FL := FL.below hb
                  have FI := FI.below hb
                  have ST := ST.new hb
                  refine hK.out _ _ (ST.cell g0 hb0) (fun hH11 => ?_)
                  clear hK K hH10
                  try simp only [Act.put, List.setIfInBounds_toArray, List.set_cons_zero, List.set_cons_succ]
                  refine wpAnyH_ready (rs := [11]) (by kernel_rfl) (by simp) ?_
                  refine (AllReadyH.cons (o := { dst := some 51, op := Go.Op.call { callee := Go.Callee.builtin Go.Builtin.append, args := #[Go.Operand.tmp 42, Go.Operand.tmp 50], argTypes := #[22, 22] }, type := 22, pos := "laws.go:4835", after := #[{ on := 2, ground := Go.Ground.data }, { on := 10, ground := Go.Ground.data }, { on := 9, ground := Go.Ground.chain }], guard := none }) rfl (fun K hK => ?_) AllReadyH.nil)
                  rw [if_pos (by rfl)]
                  refine wp_appendR1 _ _ 22 rfl w3.heap.size i0 (.slice none 0 0) Try.underlying22 HI.out HZ0.out HZ1.out HZ2.out rfl v2 n1 rs rfl FL (apart_old FL HR1.out.rows HH1.out ST.s1) g10 (RV.mk A9 (n0 + 1) c9 (l0 ++ [0])) rfl F10 w3.heap.size FI (by omega) ST.sz ?_
                  intro v11 W FL hb
                  have ST := ST.step hb
                  clear F10
                  refine hK.out _ _ (ST.cell g0 hb0) (fun hH12 => ?_)
                  clear hK K hH11
                  try simp only [Act.put, List.setIfInBounds_toArray, List.set_cons_zero, List.set_cons_succ]
                  refine wpAnyH_ready (rs := [12]) (by kernel_rfl) (by simp) ?_
                  refine (AllReadyH.cons (o := { dst := some 9, op := Go.Op.assign (Go.Operand.tmp 51), type := 22, pos := "laws.go:4835", after := #[{ on := 11, ground := Go.Ground.data }, { on := 11, ground := Go.Ground.chain }, { on := 0, ground := Go.Ground.phase }, { on := 1, ground := Go.Ground.phase }, { on := 2, ground := Go.Ground.phase }, { on := 3, ground := Go.Ground.phase }, { on := 4, ground := Go.Ground.phase }, { on := 5, ground := Go.Ground.phase }, { on := 6, ground := Go.Ground.phase }, { on := 7, ground := Go.Ground.phase }, { on := 8, ground := Go.Ground.phase }, { on := 9, ground := Go.Ground.phase }, { on := 10, ground := Go.Ground.phase }, { on := 11, ground := Go.Ground.phase }], guard := none }) rfl (fun K hK => ?_) AllReadyH.nil)
                  go_simp
                  refine hK.out _ _ (ST.cell g0 hb0) (fun hH13 => ?_)
                  clear hK K hH12
                  try simp only [Act.put, List.setIfInBounds_toArray, List.set_cons_zero, List.set_cons_succ]
                  refine wpAnyH_done (by kernel_rfl) ?_ _
                  refine NoPanic.normal ?_
                  exact HC.out v0 v2 v3 v7 A9 c9 v11 g8 g10 W ⟨FL, hc9, ST⟩
              · rw [if_pos (by rfl)]
                refine wp_buildI1 29 _ rfl j0 (.int .i64 0) Try.underlying29 HJ.out HY0.out HY1.out w3.heap.size ST.sz 0 rfl ?_
                intro g8 W hg8 F8 hb
                have HA := (FI.off_new (v' := (.slice (some ⟨g8, 0, none⟩) 1 1)) rfl hg8).symm
                clear hg8
                have FL := FL.below hb
                have FI := FI.below hb
                have ST := ST.new hb
                refine hK.out _ _ (ST.cell g0 hb0) (fun hH7 => ?_)
                clear hK K hH6
                try simp only [Act.put, List.setIfInBounds_toArray, List.set_cons_zero, List.set_cons_succ]
                refine wpAnyH_ready (rs := [2]) (by kernel_rfl) (by simp) ?_
                refine (AllReadyH.cons (o := { dst := some 42, op := Go.Op.call { callee := Go.Callee.builtin Go.Builtin.append, args := #[Go.Operand.tmp 40, Go.Operand.tmp 41], argTypes := #[22, 22] }, type := 22, pos := "laws.go:4835", after := #[{ on := 0, ground := Go.Ground.data }, { on := 1, ground := Go.Ground.data }], guard := none }) rfl (fun K hK => ?_) AllReadyH.nil)
                rw [if_pos (by rfl)]
                refine wp_appendRR _ _ 22 rfl w3.heap.size 29 i0 (.slice none 0 0) Try.underlying22 HI.out HZ0.out HZ1.out HZ2.out rfl v0 0 [] rfl FL b off n1 c1 rs rfl HR1.out.len (fun i hi => ST.cell (HCELL.out i hi) hb0) (HR1.out.below ST.b1).rows (apart_old FL HR1.out.rows HH1.out ST.s1) (by omega) ST.sz ?_
                intro v2 W FL2 hb hg
                have FI := FI.past FL hg
                have F8 := F8.past FL hg
                have FL := own_copyR FL2
                have ST := ST.step hb
                refine hK.out _ _ (ST.cell g0 hb0) (fun hH8 => ?_)
                clear hK K hH7
                try simp only [Act.put, List.setIfInBounds_toArray, List.set_cons_zero, List.set_cons_succ]
                refine wpAnyH_ready (rs := [7]) (by kernel_rfl) (by simp) ?_
                refine (AllReadyH.cons (o := { dst := some 47, op := Go.Op.call { callee := Go.Callee.builtin Go.Builtin.append, args := #[Go.Operand.tmp 43, Go.Operand.tmp 46], argTypes := #[29, 29] }, type := 29, pos := "laws.go:4835", after := #[{ on := 3, ground := Go.Ground.data }, { on := 6, ground := Go.Ground.data }, { on := 2, ground := Go.Ground.chain }], guard := none }) rfl (fun K hK => ?_) AllReadyH.nil)
                rw [if_pos (by rfl)]
                refine wp_appendJ _ _ 29 rfl w3.heap.size 3 j0 (.int .i64 0) Try.underlying29 HJ.out HY0.out HY1.out HY2.out rfl v3 0 [] rfl FI A0 n0 c0 l0 rfl (HR0.out.below ST.b1) (by omega) (by omega) ST.sz ?_
                intro v7 W FI2 hb hg
                have ST := ST.step hb
                have FL := FL.past FI hg (HR1.out.below ST.b1).rows
                have F8 := F8.offs HA hg
                have FI := own_copyI FI2
                refine hK.out _ _ (ST.cell g0 hb0) (fun hH9 => ?_)
                clear hK K hH8
                try simp only [Act.put, List.setIfInBounds_toArray, List.set_cons_zero, List.set_cons_succ]
                refine wpAnyH_ready (rs := [9]) (by kernel_rfl) (by simp) ?_
                refine (AllReadyH.cons (o := { dst := some 49, op := Go.Op.call { callee := Go.Callee.builtin Go.Builtin.append, args := #[Go.Operand.tmp 47, Go.Operand.tmp 48], argTypes := #[29, 29] }, type := 29, pos := "laws.go:4835", after := #[{ on := 7, ground := Go.Ground.data }, { on := 8, ground := Go.Ground.data }, { on := 7, ground := Go.Ground.chain }], guard := none }) rfl (fun K hK => ?_) AllReadyH.nil)
                rw [if_pos (by rfl)]
                refine wp_appendJ _ _ 29 rfl w3.heap.size 3 j0 (.int .i64 0) Try.underlying29 HJ.out HY0.out HY1.out HY2.out rfl v7 n0 l0 rfl FI (some ⟨g8, 0, none⟩) 1 1 [0] rfl F8.rd (by omega) (by omega) ST.sz ?_
                intro v9 W FI2 hb hg
                have ST := ST.step hb
                have FL := FL.past FI hg (HR1.out.below ST.b1).rows
                obtain ⟨A9, c9, rfl, hc9, _⟩ := FI2.form
                have FI := FI2
                refine hK.out _ _ (ST.cell g0 hb0) (fun hH10 => ?_)
                clear hK K hH9
                try simp only [Act.put, List.setIfInBounds_toArray, List.set_cons_zero, List.set_cons_succ]
                refine wpAnyH_ready (rs := [10]) (by kernel_rfl) (by simp) ?_
                refine (AllReadyH.cons (o := { dst := some 50, op := Go.Op.buildSlice 22 1 #[(0, Go.Operand.tmp 49)], type := 22, pos := "laws.go:4835", after := #[{ on := 9, ground := Go.Ground.data }], guard := none }) rfl (fun K hK => ?_) AllReadyH.nil)
                rw [if_pos (by rfl)]
                refine wp_buildR1 22 _ rfl i0 (.slice none 0 0) Try.underlying22 HI.out HZ0.out HZ1.out A9 (n0 + 1) c9 rfl ?_
                intro g10 W F10 hb
                have FL := FL.below hb
                have FI := FI.below hb
                have ST := ST.new hb
                refine hK.out _ _ (ST.cell g0 hb0) (fun hH11 => ?_)
                clear hK K hH10
                try simp only [Act.put, List.setIfInBounds_toArray, List.set_cons_zero, List.set_cons_succ]
                refine wpAnyH_ready (rs := [11]) (by kernel_rfl) (by simp) ?_
                refine (AllReadyH.cons (o := { dst := some 51, op := Go.Op.call { callee := Go.Callee.builtin Go.Builtin.append, args := #[Go.Operand.tmp 42, Go.Operand.tmp 50], argTypes := #[22, 22] }, type := 22, pos := "laws.go:4835", after := #[{ on := 2, ground := Go.Ground.data }, { on := 10, ground := Go.Ground.data }, { on := 9, ground := Go.Ground.chain }], guard := none }) rfl (fun K hK => ?_) AllReadyH.nil)
                rw [if_pos (by rfl)]
                refine wp_appendR1 _ _ 22 rfl w3.heap.size i0 (.slice none 0 0) Try.underlying22 HI.out HZ0.out HZ1.out HZ2.out rfl v2 n1 rs rfl FL (apart_old FL HR1.out.rows HH1.out ST.s1) g10 (RV.mk A9 (n0 + 1) c9 (l0 ++ [0])) rfl F10 w3.heap.size FI (by omega) ST.sz ?_
                intro v11 W FL hb
                have ST := ST.step hb
                clear F10
                refine hK.out _ _ (ST.cell g0 hb0) (fun hH12 => ?_)
                clear hK K hH11
                try simp only [Act.put, List.setIfInBounds_toArray, List.set_cons_zero, List.set_cons_succ]
                refine wpAnyH_ready (rs := [12]) (by kernel_rfl) (by simp) ?_
                refine (AllReadyH.cons (o := { dst := some 9, op := Go.Op.assign (Go.Operand.tmp 51), type := 22, pos := "laws.go:4835", after := #[{ on := 11, ground := Go.Ground.data }, { on := 11, ground := Go.Ground.chain }, { on := 0, ground := Go.Ground.phase }, { on := 1, ground := Go.Ground.phase }, { on := 2, ground := Go.Ground.phase }, { on := 3, ground := Go.Ground.phase }, { on := 4, ground := Go.Ground.phase }, { on := 5, ground := Go.Ground.phase }, { on := 6, ground := Go.Ground.phase }, { on := 7, ground := Go.Ground.phase }, { on := 8, ground := Go.Ground.phase }, { on := 9, ground := Go.Ground.phase }, { on := 10, ground := Go.Ground.phase }, { on := 11, ground := Go.Ground.phase }], guard := none }) rfl (fun K hK => ?_) AllReadyH.nil)
                go_simp
                refine hK.out _ _ (ST.cell g0 hb0) (fun hH13 => ?_)
                clear hK K hH12
                try simp only [Act.put, List.setIfInBounds_toArray, List.set_cons_zero, List.set_cons_succ]
                refine wpAnyH_done (by kernel_rfl) ?_ _
                refine NoPanic.normal ?_
                exact HC.out v0 v2 v3 v7 A9 c9 v11 g8 g10 W ⟨FL, hc9, ST⟩
            · rw [if_pos (by rfl)]
              refine wp_buildI1 29 _ rfl j0 (.int .i64 0) Try.underlying29 HJ.out HY0.out HY1.out w3.heap.size ST.sz 0 rfl ?_
              intro g8 W hg8 F8 hb
              clear hg8
              have FL := FL.below hb
              have ST := ST.new hb
              refine hK.out _ _ (ST.cell g0 hb0) (fun hH6 => ?_)
              clear hK K hH5
              try simp only [Act.put, List.setIfInBounds_toArray, List.set_cons_zero, List.set_cons_succ]
              refine wpAnyH_ready (rs := [2, 3]) (by kernel_rfl) (by simp) ?_
              refine (AllReadyH.cons (o := { dst := some 42, op := Go.Op.call { callee := Go.Callee.builtin Go.Builtin.append, args := #[Go.Operand.tmp 40, Go.Operand.tmp 41], argTypes := #[22, 22] }, type := 22, pos := "laws.go:4835", after := #[{ on := 0, ground := Go.Ground.data }, { on := 1, ground := Go.Ground.data }], guard := none }) rfl (fun K hK => ?_) (AllReadyH.cons (o := { dst := some 43, op := Go.Op.buildSlice 29 0 #[], type := 29, pos := "laws.go:4835", after := #[], guard := none }) rfl (fun K hK => ?_) AllReadyH.nil))
              · rw [if_pos (by rfl)]
                refine wp_appendRR _ _ 22 rfl w3.heap.size 29 i0 (.slice none 0 0) Try.underlying22 HI.out HZ0.out HZ1.out HZ2.out rfl v0 0 [] rfl FL b off n1 c1 rs rfl HR1.out.len (fun i hi => ST.cell (HCELL.out i hi) hb0) (HR1.out.below ST.b1).rows (apart_old FL HR1.out.rows HH1.out ST.s1) (by omega) ST.sz ?_
                intro v2 W FL2 hb hg
                have F8 := F8.past FL hg
                have FL := own_copyR FL2
                have ST := ST.step hb
                refine hK.out _ _ (ST.cell g0 hb0) (fun hH7 => ?_)
                clear hK K hH6
                try simp only [Act.put, List.setIfInBounds_toArray, List.set_cons_zero, List.set_cons_succ]
                refine wpAnyH_ready (rs := [3]) (by kernel_rfl) (by simp) ?_
                refine (AllReadyH.cons (o := { dst := some 43, op := Go.Op.buildSlice 29 0 #[], type := 29, pos := "laws.go:4835", after := #[], guard := none }) rfl (fun K hK => ?_) AllReadyH.nil)
                rw [if_pos (by rfl)]
                refine wp_buildI0 29 rfl j0 Try.underlying29 HJ.out w3.heap.size ST.sz ?_
                intro v3 W g3 hv3 hg3 FI hb
                have HA := F8.off_new hv3 hg3
                clear hv3 hg3
                have FL := FL.below hb
                have F8 := F8.below hb
                have ST := ST.new hb
                refine hK.out _ _ (ST.cell g0 hb0) (fun hH8 => ?_)
                clear hK K hH7
                try simp only [Act.put, List.setIfInBounds_toArray, List.set_cons_zero, List.set_cons_succ]
                refine wpAnyH_ready (rs := [7]) (by kernel_rfl) (by simp) ?_
                refine (AllReadyH.cons (o := { dst := some 47, op := Go.Op.call { callee := Go.Callee.builtin Go.Builtin.append, args := #[Go.Operand.tmp 43, Go.Operand.tmp 46], argTypes := #[29, 29] }, type := 29, pos := "laws.go:4835", after := #[{ on := 3, ground := Go.Ground.data }, { on := 6, ground := Go.Ground.data }, { on := 2, ground := Go.Ground.chain }], guard := none }) rfl (fun K hK => ?_) AllReadyH.nil)
                rw [if_pos (by rfl)]
                refine wp_appendJ _ _ 29 rfl w3.heap.size 3 j0 (.int .i64 0) Try.underlying29 HJ.out HY0.out HY1.out HY2.out rfl v3 0 [] rfl FI A0 n0 c0 l0 rfl (HR0.out.below ST.b1) (by omega) (by omega) ST.sz ?_
                intro v7 W FI2 hb hg
                have ST := ST.step hb
                have FL := FL.past FI hg (HR1.out.below ST.b1).rows
                have F8 := F8.offs HA hg
                have FI := own_copyI FI2
                refine hK.out _ _ (ST.cell g0 hb0) (fun hH9 => ?_)
                clear hK K hH8
                try simp only [Act.put, List.setIfInBounds_toArray, List.set_cons_zero, List.set_cons_succ]
                refine wpAnyH_ready (rs := [9]) (by kernel_rfl) (by simp) ?_
                refine (AllReadyH.cons (o := { dst := some 49, op := Go.Op.call { callee := Go.Callee.builtin Go.Builtin.append, args := #[Go.Operand.tmp 47, Go.Operand.tmp 48], argTypes := #[29, 29] }, type := 29, pos := "laws.go:4835", after := #[{ on := 7, ground := Go.Ground.data }, { on := 8, ground := Go.Ground.data }, { on := 7, ground := Go.Ground.chain }], guard := none }) rfl (fun K hK => ?_) AllReadyH.nil)
                rw [if_pos (by rfl)]
                refine wp_appendJ _ _ 29 rfl w3.heap.size 3 j0 (.int .i64 0) Try.underlying29 HJ.out HY0.out HY1.out HY2.out rfl v7 n0 l0 rfl FI (some ⟨g8, 0, none⟩) 1 1 [0] rfl F8.rd (by omega) (by omega) ST.sz ?_
                intro v9 W FI2 hb hg
                have ST := ST.step hb
                have FL := FL.past FI hg (HR1.out.below ST.b1).rows
                obtain ⟨A9, c9, rfl, hc9, _⟩ := FI2.form
                have FI := FI2
                refine hK.out _ _ (ST.cell g0 hb0) (fun hH10 => ?_)
                clear hK K hH9
                try simp only [Act.put, List.setIfInBounds_toArray, List.set_cons_zero, List.set_cons_succ]
                refine wpAnyH_ready (rs := [10]) (by kernel_rfl) (by simp) ?_
                refine (AllReadyH.cons (o := { dst := some 50, op := Go.Op.buildSlice 22 1 #[(0, Go.Operand.tmp 49)], type := 22, pos := "laws.go:4835", after := #[{ on := 9, ground := Go.Ground.data }], guard := none }) rfl (fun K hK => ?_) AllReadyH.nil)
                rw [if_pos (by rfl)]
                refine wp_buildR1 22 _ rfl i0 (.slice none 0 0) Try.underlying22 HI.out HZ0.out HZ1.out A9 (n0 + 1) c9 rfl ?_
                intro g10 W F10 hb
                have FL := FL.below hb
                have FI := FI.below hb
                have ST := ST.new hb
                refine hK.out _ _ (ST.cell g0 hb0) (fun hH11 => ?_)
                clear hK K hH10
                try simp only [Act.put, List.setIfInBounds_toArray, List.set_cons_zero, List.set_cons_succ]
                refine wpAnyH_ready (rs := [11]) (by kernel_rfl) (by simp) ?_
                refine (AllReadyH.cons (o := { dst := some 51, op := Go.Op.call { callee := Go.Callee.builtin Go.Builtin.append, args := #[Go.Operand.tmp 42, Go.Operand.tmp 50], argTypes := #[22, 22] }, type := 22, pos := "laws.go:4835", after := #[{ on := 2, ground := Go.Ground.data }, { on := 10, ground := Go.Ground.data }, { on := 9, ground := Go.Ground.chain }], guard := none }) rfl (fun K hK => ?_) AllReadyH.nil)
                rw [if_pos (by rfl)]
                refine wp_appendR1 _ _ 22 rfl w3.heap.size i0 (.slice none 0 0) Try.underlying22 HI.out HZ0.out HZ1.out HZ2.out rfl v2 n1 rs rfl FL (apart_old FL HR1.out.rows HH1.out ST.s1) g10 (RV.mk A9 (n0 + 1) c9 (l0 ++ [0])) rfl F10 w3.heap.size FI (by omega) ST.sz ?_
                intro v11 W FL hb
                have ST := ST.step hb
                clear F10
                refine hK.out _ _ (ST.cell g0 hb0) (fun hH12 => ?_)
                clear hK K hH11
                try simp only [Act.put, List.setIfInBounds_toArray, List.set_cons_zero, List.set_cons_succ]
                refine wpAnyH_ready (rs := [12]) (by kernel_rfl) (by simp) ?_
                refine (AllReadyH.cons (o := { dst := some 9, op := Go.Op.assign (Go.Operand.tmp 51), type := 22, pos := "laws.go:4835", after := #[{ on := 11, ground := Go.Ground.data }, { on := 11, ground := Go.Ground.chain }, { on := 0, ground := Go.Ground.phase }, { on := 1, ground := Go.Ground.phase }, { on := 2, ground := Go.Ground.phase }, { on := 3, ground := Go.Ground.phase }, { on := 4, ground := Go.Ground.phase }, { on := 5, ground := Go.Ground.phase }, { on := 6, ground := Go.Ground.phase }, { on := 7, ground := Go.Ground.phase }, { on := 8, ground := Go.Ground.phase }, { on := 9, ground := Go.Ground.phase }, { on := 10, ground := Go.Ground.phase }, { on := 11, ground := Go.Ground.phase }], guard := none }) rfl (fun K hK => ?_) AllReadyH.nil)
                go_simp
                refine hK.out _ _ (ST.cell g0 hb0) (fun hH13 => ?_)
                clear hK K hH12
                try simp only [Act.put, List.setIfInBounds_toArray, List.set_cons_zero, List.set_cons_succ]
                refine wpAnyH_done (by kernel_rfl) ?_ _
                refine NoPanic.normal ?_
                exact HC.out v0 v2 v3 v7 A9 c9 v11 g8 g10 W ⟨FL, hc9, ST⟩
              · rw [if_pos (by rfl)]
                refine wp_buildI0 29 rfl j0 Try.underlying29 HJ.out w3.heap.size ST.sz ?_
                intro v3 W g3 hv3 hg3 FI hb
                have HA := F8.off_new hv3 hg3
                clear hv3 hg3
                have FL := FL.below hb
                have F8 := F8.below hb
                have ST := ST.new hb
                refine hK.out _ _ (ST.cell g0 hb0) (fun hH7 => ?_)
                clear hK K hH6
                try simp only [Act.put, List.setIfInBounds_toArray, List.set_cons_zero, List.set_cons_succ]
                refine wpAnyH_ready (rs := [2]) (by kernel_rfl) (by simp) ?_
                refine (AllReadyH.cons (o := { dst := some 42, op := Go.Op.call { callee := Go.Callee.builtin Go.Builtin.append, args := #[Go.Operand.tmp 40, Go.Operand.tmp 41], argTypes := #[22, 22] }, type := 22, pos := "laws.go:4835", after := #[{ on := 0, ground := Go.Ground.data }, { on := 1, ground := Go.Ground.data }], guard := none }) rfl (fun K hK => ?_) AllReadyH.nil)
                rw [if_pos (by rfl)]
                refine wp_appendRR _ _ 22 rfl w3.heap.size 29 i0 (.slice none 0 0) Try.underlying22 HI.out HZ0.out HZ1.out HZ2.out rfl v0 0 [] rfl FL b off n1 c1 rs rfl HR1.out.len (fun i hi => ST.cell (HCELL.out i hi) hb0) (HR1.out.below ST.b1).rows (apart_old FL HR1.out.rows HH1.out ST.s1) (by omega) ST.sz ?_
                intro v2 W FL2 hb hg
                have FI := FI.past FL hg
                have F8 := F8.past FL hg
                have FL := own_copyR FL2
                have ST := ST.step hb
                refine hK.out _ _ (ST.cell g0 hb0) (fun hH8 => ?_)
                clear hK K hH7
                try simp only [Act.put, List.setIfInBounds_toArray, List.set_cons_zero, List.set_cons_succ]
                refine wpAnyH_ready (rs := [7]) (by kernel_rfl) (by simp) ?_
                refine (AllReadyH.cons (o := { dst := some 47, op := Go.Op.call { callee := Go.Callee.builtin Go.Builtin.append, args := #[Go.Operand.tmp 43, Go.Operand.tmp 46], argTypes := #[29, 29] }, type := 29, pos := "laws.go:4835", after := #[{ on := 3, ground := Go.Ground.data }, { on := 6, ground := Go.Ground.data }, { on := 2, ground := Go.Ground.chain }], guard := none }) rfl (fun K hK => ?_) AllReadyH.nil)
                rw [if_pos (by rfl)]
                refine wp_appendJ _ _ 29 rfl w3.heap.size 3 j0 (.int .i64 0) Try.underlying29 HJ.out HY0.out HY1.out HY2.out rfl v3 0 [] rfl FI A0 n0 c0 l0 rfl (HR0.out.below ST.b1) (by omega) (by omega) ST.sz ?_
                intro v7 W FI2 hb hg
                have ST := ST.step hb
                have FL := FL.past FI hg (HR1.out.below ST.b1).rows
                have F8 := F8.offs HA hg
                have FI := own_copyI FI2
                refine hK.out _ _ (ST.cell g0 hb0) (fun hH9 => ?_)
                clear hK K hH8
                try simp only [Act.put, List.setIfInBounds_toArray, List.set_cons_zero, List.set_cons_succ]
                refine wpAnyH_ready (rs := [9]) (by kernel_rfl) (by simp) ?_
                refine (AllReadyH.cons (o := { dst := some 49, op := Go.Op.call { callee := Go.Callee.builtin Go.Builtin.append, args := #[Go.Operand.tmp 47, Go.Operand.tmp 48], argTypes := #[29, 29] }, type := 29, pos := "laws.go:4835", after := #[{ on := 7, ground := Go.Ground.data }, { on := 8, ground := Go.Ground.data }, { on := 7, ground := Go.Ground.chain }], guard := none }) rfl (fun K hK => ?_) AllReadyH.nil)
                rw [if_pos (by rfl)]
                refine wp_appendJ _ _ 29 rfl w3.heap.size 3 j0 (.int .i64 0) Try.underlying29 HJ.out HY0.out HY1.out HY2.out rfl v7 n0 l0 rfl FI (some ⟨g8, 0, none⟩) 1 1 [0] rfl F8.rd (by omega) (by omega) ST.sz ?_
                intro v9 W FI2 hb hg
                have ST := ST.step hb
                have FL := FL.past FI hg (HR1.out.below ST.b1).rows
                obtain ⟨A9, c9, rfl, hc9, _⟩ := FI2.form
                have FI := FI2
                refine hK.out _ _ (ST.cell g0 hb0) (fun hH10 => ?_)
                clear hK K hH9
                try simp only [Act.put, List.setIfInBounds_toArray, List.set_cons_zero, List.set_cons_succ]
                refine wpAnyH_ready (rs := [10]) (by kernel_rfl) (by simp) ?_
                refine (AllReadyH.cons (o := { dst := some 50, op := Go.Op.buildSlice 22 1 #[(0, Go.Operand.tmp 49)], type := 22, pos := "laws.go:4835", after := #[{ on := 9, ground := Go.Ground.data }], guard := none }) rfl (fun K hK => ?_) AllReadyH.nil)
                rw [if_pos (by rfl)]
                refine wp_buildR1 22 _ rfl i0 (.slice none 0 0) Try.underlying22 HI.out HZ0.out HZ1.out A9 (n0 + 1) c9 rfl ?_
                intro g10 W F10 hb
                have FL := FL.below hb
                have FI := FI.below hb
                have ST := ST.new hb
                refine hK.out _ _ (ST.cell g0 hb0) (fun hH11 => ?_)
                clear hK K hH10
                try simp only [Act.put, List.setIfInBounds_toArray, List.set_cons_zero, List.set_cons_succ]
                refine wpAnyH_ready (rs := [11]) (by kernel_rfl) (by simp) ?_
                refine (AllReadyH.cons (o := { dst := some 51, op := Go.Op.call { callee := Go.Callee.builtin Go.Builtin.append, args := #[Go.Operand.tmp 42, Go.Operand.tmp 50], argTypes := #[22, 22] }, type := 22, pos := "laws.go:4835", after := #[{ on := 2, ground := Go.Ground.data }, { on := 10, ground := Go.Ground.data }, { on := 9, ground := Go.Ground.chain }], guard := none }) rfl (fun K hK => ?_) AllReadyH.nil)
                rw [if_pos (by rfl)]
                refine wp_appendR1 _ _ 22 rfl w3.heap.size i0 (.slice none 0 0) Try.underlying22 HI.out HZ0.out HZ1.out HZ2.out rfl v2 n1 rs rfl FL (apart_old FL HR1.out.rows HH1.out ST.s1) g10 (RV.mk A9 (n0 + 1) c9 (l0 ++ [0])) rfl F10 w3.heap.size FI (by omega) ST.sz ?_
                intro v11 W FL hb
                have ST := ST.step hb
                clear F10
                refine hK.out _ _ (ST.cell g0 hb0) (fun hH12 => ?_)
                clear hK K hH11
                try simp only [Act.put, List.setIfInBounds_toArray, List.set_cons_zero, List.set_cons_succ]
                refine wpAnyH_ready (rs := [12]) (by kernel_rfl) (by simp) ?_
                refine (AllReadyH.cons (o := { dst := some 9, op := Go.Op.assign (Go.Operand.tmp 51), type := 22, pos := "laws.go:4835", after := #[{ on := 11, ground := Go.Ground.data }, { on := 11, ground := Go.Ground.chain }, { on := 0, ground := Go.Ground.phase }, { on := 1, ground := Go.Ground.phase }, { on := 2, ground := Go.Ground.phase }, { on := 3, ground := Go.Ground.phase }, { on := 4, ground := Go.Ground.phase }, { on := 5, ground := Go.Ground.phase }, { on := 6, ground := Go.Ground.phase }, { on := 7, ground := Go.Ground.phase }, { on := 8, ground := Go.Ground.phase }, { on := 9, ground := Go.Ground.phase }, { on := 10, ground := Go.Ground.phase }, { on := 11, ground := Go.Ground.phase }], guard := none }) rfl (fun K hK => ?_) AllReadyH.nil)
                go_simp
                refine hK.out _ _ (ST.cell g0 hb0) (fun hH13 => ?_)
                clear hK K hH12
                try simp only [Act.put, List.setIfInBounds_toArray, List.set_cons_zero, List.set_cons_succ]
                refine wpAnyH_done (by kernel_rfl) ?_ _
                refine NoPanic.normal ?_
                exact HC.out v0 v2 v3 v7 A9 c9 v11 g8 g10 W ⟨FL, hc9, ST⟩
          · rw [if_pos (by rfl)]
            refine wp_buildI0 29 rfl j0 Try.underlying29 HJ.out w3.heap.size ST.sz ?_
            intro v3 W g3 hv3 hg3 FI hb
            clear hv3 hg3
            have ST := ST.new hb
            refine hK.out _ _ (ST.cell g0 hb0) (fun hH5 => ?_)
            clear hK K hH0
            try simp only [Act.put, List.setIfInBounds_toArray, List.set_cons_zero, List.set_cons_succ]
            refine wpAnyH_ready (rs := [0, 8]) (by kernel_rfl) (by simp) ?_
            refine (AllReadyH.cons (o := { dst := some 40, op := Go.Op.buildSlice 22 0 #[], type := 22, pos := "laws.go:4835", after := #[], guard := none }) rfl (fun K hK => ?_) (AllReadyH.cons (o := { dst := some 48, op := Go.Op.buildSlice 29 1 #[(0, Go.Operand.const (Go.Value.int Go.IntKind.i64 0))], type := 29, pos := "laws.go:4835", after := #[], guard := none }) rfl (fun K hK => ?_) AllReadyH.nil))
            · rw [if_pos (by rfl)]
              refine wp_buildR0 22 rfl i0 Try.underlying22 HI.out w3.heap.size ST.sz ?_
              intro v0 W FL hb
              have FI := FI.below hb
              have ST := ST.new hb
              refine hK.out _ _ (ST.cell g0 hb0) (fun hH6 => ?_)
              clear hK K hH5
              try simp only [Act.put, List.setIfInBounds_toArray, List.set_cons_zero, List.set_cons_succ]
              refine wpAnyH_ready (rs := [2, 8]) (by kernel_rfl) (by simp) ?_
              refine (AllReadyH.cons (o := { dst := some 42, op := Go.Op.call { callee := Go.Callee.builtin Go.Builtin.append, args := #[Go.Operand.tmp 40, Go.Operand.tmp 41], argTypes := #[22, 22] }, type := 22, pos := "laws.go:4835", after := #[{ on := 0, ground := Go.Ground.data }, { on := 1, ground := Go.Ground.data }], guard := none }) rfl (fun K hK => ?_) (AllReadyH.cons (o := { dst := some 48, op := Go.Op.buildSlice 29 1 #[(0, Go.Operand.const (Go.Value.int Go.IntKind.i64 0))], type := 29, pos := "laws.go:4835", after := #[], guard := none }) rfl (fun K hK => ?_) AllReadyH.nil))
              · rw [if_pos (by rfl)]
                refine wp_appendRR _ _ 22 rfl w3.heap.size 29 i0 (.slice none 0 0) Try.underlying22 HI.out HZ0.out HZ1.out HZ2.out rfl v0 0 [] rfl FL b off n1 c1 rs rfl HR1.out.len (fun i hi => ST.cell (HCELL.out i hi) hb0) (HR1.out.below ST.b1).rows (apart_old FL HR1.out.rows HH1.out ST.s1) (by omega) ST.sz ?_
                intro v2 W FL2 hb hg
                have FI := FI.past FL hg
                have FL := own_copyR FL2
                have ST := ST.step hb
                refine hK.out _ _ (ST.cell g0 hb0) (fun hH7 => ?_)
                clear hK K hH6
                try simp only [Act.put, List.setIfInBounds_toArray, List.set_cons_zero, List.set_cons_succ]
                refine wpAnyH_ready (rs := [7, 8]) (by kernel_rfl) (by simp) ?_
                refine (AllReadyH.cons (o := { dst := some 47, op := Go.Op.call { callee := Go.Callee.builtin Go.Builtin.append, args := #[Go.Operand.tmp 43, Go.Operand.tmp 46], argTypes := #[29, 29] }, type := 29, pos := "laws.go:4835", after := #[{ on := 3, ground := Go.Ground.data }, { on := 6, ground := Go.Ground.data }, { on := 2, ground := Go.Ground.chain }], guard := none }) rfl (fun K hK => ?_) (AllReadyH.cons (o := { dst := some 48, op := Go.Op.buildSlice 29 1 #[(0, Go.Operand.const (Go.Value.int Go.IntKind.i64 0))], type := 29, pos := "laws.go:4835", after := #[], guard := none }) rfl (fun K hK => ?_) AllReadyH.nil))
                · rw [if_pos (by rfl)]
                  refine wp_appendJ _ _ 29 rfl w3.heap.size 3 j0 (.int .i64 0) Try.underlying29 HJ.out HY0.out HY1.out HY2.out rfl v3 0 [] rfl FI A0 n0 c0 l0 rfl (HR0.out.below ST.b1) (by omega) (by omega) ST.sz ?_
                  intro v7 W FI2 hb hg
                  have ST := ST.step hb
                  have FL := FL.past FI hg (HR1.out.below ST.b1).rows
                  have FI := own_copyI FI2
                  refine hK.out _ _ (ST.cell g0 hb0) (fun hH8 => ?_)
                  clear hK K hH7
                  try simp only [Act.put, List.setIfInBounds_toArray, List.set_cons_zero, List.set_cons_succ]
                  refine wpAnyH_ready (rs := [8]) (by kernel_rfl) (by simp) ?_
                  refine (AllReadyH.cons (o := { dst := some 48, op := Go.Op.buildSlice 29 1 #[(0, Go.Operand.const (Go.Value.int Go.IntKind.i64 0))], type := 29, pos := "laws.go:4835", after := #[], guard := none }) rfl (fun K hK => ?_) AllReadyH.nil)
                  rw [if_pos (by rfl)]
                  refine wp_buildI1 29 _ rfl j0 (.int .i64 0) Try.underlying29 HJ.out HY0.out HY1.out w3.heap.size ST.sz 0 rfl ?_
                  intro g8 W hg8 F8 hb
                  clear hg8
                  have FL := FL.below hb
                  have FI := FI.below hb
                  have ST := ST.new hb
                  refine hK.out _ _ (ST.cell g0 hb0) (fun hH9 => ?_)
                  clear hK K hH8
                  try simp only [Act.put, List.setIfInBounds_toArray, List.set_cons_zero, List.set_cons_succ]
                  refine wpAnyH_ready (rs := [9]) (by kernel_rfl) (by simp) ?_
                  refine (AllReadyH.cons (o := { dst := some 49, op := Go.Op.call { callee := Go.Callee.builtin Go.Builtin.append, args := #[Go.Operand.tmp 47, Go.Operand.tmp 48], argTypes := #[29, 29] }, type := 29, pos := "laws.go:4835", after := #[{ on := 7, ground := Go.Ground.data }, { on := 8, ground := Go.Ground.data }, { on := 7, ground := Go.Ground.chain }], guard := none }) rfl (fun K hK => ?_) AllReadyH.nil)
                  rw [if_pos (by rfl)]
                  refine wp_appendJ _ _ 29 rfl w3.heap.size 3 j0 (.int .i64 0) Try.underlying29 HJ.out HY0.out HY1.out HY2.out rfl v7 n0 l0 rfl FI (some ⟨g8, 0, none⟩) 1 1 [0] rfl F8.rd (by omega) (by omega) ST.sz ?_
                  intro v9 W FI2 hb hg
                  have ST := ST.step hb
                  have FL := FL.past FI hg (HR1.out.below ST.b1).rows
                  obtain ⟨A9, c9, rfl, hc9, _⟩ := FI2.form
                  have FI := FI2
                  refine hK.out _ _ (ST.cell g0 hb0) (fun hH10 => ?_)
                  clear hK K hH9
                  try simp only [Act.put, List.setIfInBounds_toArray, List.set_cons_zero, List.set_cons_succ]
                  refine wpAnyH_ready (rs := [10]) (by kernel_rfl) (by simp) ?_
                  refine (AllReadyH.cons (o := { dst := some 50, op := Go.Op.buildSlice 22 1 #[(0, Go.Operand.tmp 49)], type := 22, pos := "laws.go:4835", after := #[{ on := 9, ground := Go.Ground.data }], guard := none }) rfl (fun K hK => ?_) AllReadyH.nil)
                  rw [if_pos (by rfl)]
                  refine wp_buildR1 22 _ rfl i0 (.slice none 0 0) Try.underlying22 HI.out HZ0.out HZ1.out A9 (n0 + 1) c9 rfl ?_
                  intro g10 W F10 hb
                  have FL := FL.below hb
                  have FI := FI.below hb
                  have ST := ST.new hb
                  refine hK.out _ _ (ST.cell g0 hb0) (fun hH11 => ?_)
                  clear hK K hH10
                  try simp only [Act.put, List.setIfInBounds_toArray, List.set_cons_zero, List.set_cons_succ]
                  refine wpAnyH_ready (rs := [11]) (by kernel_rfl) (by simp) ?_
                  refine (AllReadyH.cons (o := { dst := some 51, op := Go.Op.call { callee := Go.Callee.builtin Go.Builtin.append, args := #[Go.Operand.tmp 42, Go.Operand.tmp 50], argTypes := #[22, 22] }, type := 22, pos := "laws.go:4835", after := #[{ on := 2, ground := Go.Ground.data }, { on := 10, ground := Go.Ground.data }, { on := 9, ground := Go.Ground.chain }], guard := none }) rfl (fun K hK => ?_) AllReadyH.nil)
                  rw [if_pos (by rfl)]
                  refine wp_appendR1 _ _ 22 rfl w3.heap.size i0 (.slice none 0 0) Try.underlying22 HI.out HZ0.out HZ1.out HZ2.out rfl v2 n1 rs rfl FL (apart_old FL HR1.out.rows HH1.out ST.s1) g10 (RV.mk A9 (n0 + 1) c9 (l0 ++ [0])) rfl F10 w3.heap.size FI (by omega) ST.sz ?_
                  intro v11 W FL hb
                  have ST := ST.step hb
                  clear F10
                  refine hK.out _ _ (ST.cell g0 hb0) (fun hH12 => ?_)
                  clear hK K hH11
                  try simp only [Act.put, List.setIfInBounds_toArray, List.set_cons_zero, List.set_cons_succ]
                  refine wpAnyH_ready (rs := [12]) (by kernel_rfl) (by simp) ?_
                  refine (AllReadyH.cons (o := { dst := some 9, op := Go.Op.assign (Go.Operand.tmp 51), type := 22, pos := "laws.go:4835", after := #[{ on := 11, ground := Go.Ground.data }, { on := 11, ground := Go.Ground.chain }, { on := 0, ground := Go.Ground.phase }, { on := 1, ground := Go.Ground.phase }, { on := 2, ground := Go.Ground.phase }, { on := 3, ground := Go.Ground.phase }, { on := 4, ground := Go.Ground.phase }, { on := 5, ground := Go.Ground.phase }, { on := 6, ground := Go.Ground.phase }, { on := 7, ground := Go.Ground.phase }, { on := 8, ground := Go.Ground.phase }, { on := 9, ground := Go.Ground.phase }, { on := 10, ground := Go.Ground.phase }, { on := 11, ground := Go.Ground.phase }], guard := none }) rfl (fun K hK => ?_) AllReadyH.nil)
                  go_simp
                  refine hK.out _ _ (ST.cell g0 hb0) (fun hH13 => ?_)
                  clear hK K hH12
                  try simp only [Act.put, List.setIfInBounds_toArray, List.set_cons_zero, List.set_cons_succ]
                  refine wpAnyH_done (by kernel_rfl) ?_ _
                  refine NoPanic.normal ?_
                  exact HC.out v0 v2 v3 v7 A9 c9 v11 g8 g10 W ⟨FL, hc9, ST⟩
                · rw [if_pos (by rfl)]
                  refine wp_buildI1 29 _ rfl j0 (.int .i64 0) Try.underlying29 HJ.out HY0.out HY1.out w3.heap.size ST.sz 0 rfl ?_
                  intro g8 W hg8 F8 hb
                  have HA := (FI.off_new (v' := (.slice (some ⟨g8, 0, none⟩) 1 1)) rfl hg8).symm
                  clear hg8
                  have FL := FL.below hb
                  have FI := FI.below hb
                  have ST := ST.new hb
                  refine hK.out _ _ (ST.cell g0 hb0) (fun hH8 => ?_)
                  clear hK K hH7
                  try simp only [Act.put, List.setIfInBounds_toArray, List.set_cons_zero, List.set_cons_succ]
                  refine wpAnyH_ready (rs := [7]) (by kernel_rfl) (by simp) ?_
                  refine (AllReadyH.cons (o := { dst := some 47, op := Go.Op.call { callee := Go.Callee.builtin Go.Builtin.append, args := #[Go.Operand.tmp 43, Go.Operand.tmp 46], argTypes := #[29, 29] }, type := 29, pos := "laws.go:4835", after := #[{ on := 3, ground := Go.Ground.data }, { on := 6, ground := Go.Ground.data }, { on := 2, ground := Go.Ground.chain }], guard := none }) rfl (fun K hK => ?_) AllReadyH.nil)
                  rw [if_pos (by rfl)]
                  refine wp_appendJ _ _ 29 rfl w3.heap.size 3 j0 (.int .i64 0) Try.underlying29 HJ.out HY0.out HY1.out HY2.out rfl v3 0 [] rfl FI A0 n0 c0 l0 rfl (HR0.out.below ST.b1) (by omega) (by omega) ST.sz ?_
                  intro v7 W FI2 hb hg
                  have ST := ST.step hb
                  have FL := FL.past FI hg (HR1.out.below ST.b1).rows
                  have F8 := F8.offs HA hg
                  have FI := own_copyI FI2
                  refine hK.out _ _ (ST.cell g0 hb0) (fun hH9 => ?_)
                  clear hK K hH8
                  try simp only [Act.put, List.setIfInBounds_toArray, List.set_cons_zero, List.set_cons_succ]
                  refine wpAnyH_ready (rs := [9]) (by kernel_rfl) (by simp) ?_
                  refine (AllReadyH.cons (o := { dst := some 49, op := Go.Op.call { callee := Go.Callee.builtin Go.Builtin.append, args := #[Go.Operand.tmp 47, Go.Operand.tmp 48], argTypes := #[29, 29] }, type := 29, pos := "laws.go:4835", after := #[{ on := 7, ground := Go.Ground.data }, { on := 8, ground := Go.Ground.data }, { on := 7, ground := Go.Ground.chain }], guard := none }) rfl (fun K hK => ?_) AllReadyH.nil)
                  rw [if_pos (by rfl)]
                  refine wp_appendJ _ _ 29 rfl w3.heap.size 3 j0 (.int .i64 0) Try.underlying29 HJ.out HY0.out HY1.out HY2.out rfl v7 n0 l0 rfl FI (some ⟨g8, 0, none⟩) 1 1 [0] rfl F8.rd (by omega) (by omega) ST.sz ?_
                  intro v9 W FI2 hb hg
                  have ST := ST.step hb
                  have FL := FL.past FI hg (HR1.out.below ST.b1).rows
                  obtain ⟨A9, c9, rfl, hc9, _⟩ := FI2.form
                  have FI := FI2
                  refine hK.out _ _ (ST.cell g0 hb0) (fun hH10 => ?_)
                  clear hK K hH9
                  try simp only [Act.put, List.setIfInBounds_toArray, List.set_cons_zero, List.set_cons_succ]
                  refine wpAnyH_ready (rs := [10]) (by kernel_rfl) (by simp) ?_
                  refine (AllReadyH.cons (o := { dst := some 50, op := Go.Op.buildSlice 22 1 #[(0, Go.Operand.tmp 49)], type := 22, pos := "laws.go:4835", after := #[{ on := 9, ground := Go.Ground.data }], guard := none }) rfl (fun K hK => ?_) AllReadyH.nil)
                  rw [if_pos (by rfl)]
                  refine wp_buildR1 22 _ rfl i0 (.slice none 0 0) Try.underlying22 HI.out HZ0.out HZ1.out A9 (n0 + 1) c9 rfl ?_
                  intro g10 W F10 hb
                  have FL := FL.below hb
                  have FI := FI.below hb
                  have ST := ST.new hb
                  refine hK.out _ _ (ST.cell g0 hb0) (fun hH11 => ?_)
                  clear hK K hH10
                  try simp only [Act.put, List.setIfInBounds_toArray, List.set_cons_zero, List.set_cons_succ]
                  refine wpAnyH_ready (rs := [11]) (by kernel_rfl) (by simp) ?_
                  refine (AllReadyH.cons (o := { dst := some 51, op := Go.Op.call { callee := Go.Callee.builtin Go.Builtin.append, args := #[Go.Operand.tmp 42, Go.Operand.tmp 50], argTypes := #[22, 22] }, type := 22, pos := "laws.go:4835", after := #[{ on := 2, ground := Go.Ground.data }, { on := 10, ground := Go.Ground.data }, { on := 9, ground := Go.Ground.chain }], guard := none }) rfl (fun K hK => ?_) AllReadyH.nil)
                  rw [if_pos (by rfl)]
                  refine wp_appendR1 _ _ 22 rfl w3.heap.size i0 (.slice none 0 0) Try.underlying22 HI.out HZ0.out HZ1.out HZ2.out rfl v2 n1 rs rfl FL (apart_old FL HR1.out.rows HH1.out ST.s1) g10 (RV.mk A9 (n0 + 1) c9 (l0 ++ [0])) rfl F10 w3.heap.size FI (by omega) ST.sz ?_
                  intro v11 W FL hb
                  have ST := ST.step hb
                  clear F10
                  refine hK.out _ _ (ST.cell g0 hb0) (fun hH12 => ?_)
                  clear hK K hH11
                  try simp only [Act.put, List.setIfInBounds_toArray, List.set_cons_zero, List.set_cons_succ]
                  refine wpAnyH_ready (rs := [12]) (by kernel_rfl) (by simp) ?_
                  refine (AllReadyH.cons (o := { dst := some 9, op := Go.Op.assign (Go.Operand.tmp 51), type := 22, pos := "laws.go:4835", after := #[{ on := 11, ground := Go.Ground.data }, { on := 11, ground := Go.Ground.chain }, { on := 0, ground := Go.Ground.phase }, { on := 1, ground := Go.Ground.phase }, { on := 2, ground := Go.Ground.phase }, { on := 3, ground := Go.Ground.phase }, { on := 4, ground := Go.Ground.phase }, { on := 5, ground := Go.Ground.phase }, { on := 6, ground := Go.Ground.phase }, { on := 7, ground := Go.Ground.phase }, { on := 8, ground := Go.Ground.phase }, { on := 9, ground := Go.Ground.phase }, { on := 10, ground := Go.Ground.phase }, { on := 11, ground := Go.Ground.phase }], guard := none }) rfl (fun K hK => ?_) AllReadyH.nil)
                  go_simp
                  refine hK.out _ _ (ST.cell g0 hb0) (fun hH13 => ?_)
                  clear hK K hH12
                  try simp only [Act.put, List.setIfInBounds_toArray, List.set_cons_zero, List.set_cons_succ]
                  refine wpAnyH_done (by kernel_rfl) ?_ _
                  refine NoPanic.normal ?_
                  exact HC.out v0 v2 v3 v7 A9 c9 v11 g8 g10 W ⟨FL, hc9, ST⟩
              · rw [if_pos (by rfl)]
                refine wp_buildI1 29 _ rfl j0 (.int .i64 0) Try.underlying29 HJ.out HY0.out HY1.out w3.heap.size ST.sz 0 rfl ?_
                intro g8 W hg8 F8 hb
                have HA := (FI.off_new (v' := (.slice (some ⟨g8, 0, none⟩) 1 1)) rfl hg8).symm
                clear hg8
                have FL := FL.below hb
                have FI := FI.below hb
                have ST := ST.new hb
                refine hK.out _ _ (ST.cell g0 hb0) (fun hH7 => ?_)
                clear hK K hH6
                try simp only [Act.put, List.setIfInBounds_toArray, List.set_cons_zero, List.set_cons_succ]
                refine wpAnyH_ready (rs := [2]) (by kernel_rfl) (by simp) ?_
                refine (AllReadyH.cons (o := { dst := some 42, op := Go.Op.call { callee := Go.Callee.builtin Go.Builtin.append, args := #[Go.Operand.tmp 40, Go.Operand.tmp 41], argTypes := #[22, 22] }, type := 22, pos := "laws.go:4835", after := #[{ on := 0, ground := Go.Ground.data }, { on := 1, ground := Go.Ground.data }], guard := none }) rfl (fun K hK => ?_) AllReadyH.nil)
                rw [if_pos (by rfl)]
                refine wp_appendRR _ _ 22 rfl w3.heap.size 29 i0 (.slice none 0 0) Try.underlying22 HI.out HZ0.out HZ1.out HZ2.out rfl v0 0 [] rfl FL b off n1 c1 rs rfl HR1.out.len (fun i hi => ST.cell (HCELL.out i hi) hb0) (HR1.out.below ST.b1).rows (apart_old FL HR1.out.rows HH1.out ST.s1) (by omega) ST.sz ?_
                intro v2 W FL2 hb hg
                have FI := FI.past FL hg
                have F8 := F8.past FL hg
                have FL := own_copyR FL2
                have ST := ST.step hb
                refine hK.out _ _ (ST.cell g0 hb0) (fun hH8 => ?_)
                clear hK K hH7
                try simp only [Act.put, List.setIfInBounds_toArray, List.set_cons_zero, List.set_cons_succ]
                refine wpAnyH_ready (rs := [7]) (by kernel_rfl) (by simp) ?_
                refine (AllReadyH.cons (o := { dst := some 47, op := Go.Op.call { callee := Go.Callee.builtin Go.Builtin.append, args := #[Go.Operand.tmp 43, Go.Operand.tmp 46], argTypes := #[29, 29] }, type := 29, pos := "laws.go:4835", after := #[{ on := 3, ground := Go.Ground.data }, { on := 6, ground := Go.Ground.data }, { on := 2, ground := Go.Ground.chain }], guard := none }) rfl (fun K hK => ?_) AllReadyH.nil)
                rw [if_pos (by rfl)]
                refine wp_appendJ _ _ 29 rfl w3.heap.size 3 j0 (.int .i64 0) Try.underlying29 HJ.out HY0.out HY1.out HY2.out rfl v3 0 [] rfl FI A0 n0 c0 l0 rfl (HR0.out.below ST.b1) (by omega) (by omega) ST.sz ?_
                intro v7 W FI2 hb hg
                have ST := ST.step hb
                have FL := FL.past FI hg (HR1.out.below ST.b1).rows
                have F8 := F8.offs HA hg
                have FI := own_copyI FI2
                refine hK.out _ _ (ST.cell g0 hb0) (fun hH9 => ?_)
                clear hK K hH8
                try simp only [Act.put, List.setIfInBounds_toArray, List.set_cons_zero, List.set_cons_succ]
                refine wpAnyH_ready (rs := [9]) (by kernel_rfl) (by simp) ?_
                refine (AllReadyH.cons (o := { dst := some 49, op := Go.Op.call { callee := Go.Callee.builtin Go.Builtin.append, args := #[Go.Operand.tmp 47, Go.Operand.tmp 48], argTypes := #[29, 29] }, type := 29, pos := "laws.go:4835", after := #[{ on := 7, ground := Go.Ground.data }, { on := 8, ground := Go.Ground.data }, { on := 7, ground := Go.Ground.chain }], guard := none }) rfl (fun K hK => ?_) AllReadyH.nil)
                rw [if_pos (by rfl)]
                refine wp_appendJ _ _ 29 rfl w3.heap.size 3 j0 (.int .i64 0) Try.underlying29 HJ.out HY0.out HY1.out HY2.out rfl v7 n0 l0 rfl FI (some ⟨g8, 0, none⟩) 1 1 [0] rfl F8.rd (by omega) (by omega) ST.sz ?_
                intro v9 W FI2 hb hg
                have ST := ST.step hb
                have FL := FL.past FI hg (HR1.out.below ST.b1).rows
                obtain ⟨A9, c9, rfl, hc9, _⟩ := FI2.form
                have FI := FI2
                refine hK.out _ _ (ST.cell g0 hb0) (fun hH10 => ?_)
                clear hK K hH9
                try simp only [Act.put, List.setIfInBounds_toArray, List.set_cons_zero, List.set_cons_succ]
                refine wpAnyH_ready (rs := [10]) (by kernel_rfl) (by simp) ?_
                refine (AllReadyH.cons (o := { dst := some 50, op := Go.Op.buildSlice 22 1 #[(0, Go.Operand.tmp 49)], type := 22, pos := "laws.go:4835", after := #[{ on := 9, ground := Go.Ground.data }], guard := none }) rfl (fun K hK => ?_) AllReadyH.nil)
                rw [if_pos (by rfl)]
                refine wp_buildR1 22 _ rfl i0 (.slice none 0 0) Try.underlying22 HI.out HZ0.out HZ1.out A9 (n0 + 1) c9 rfl ?_
                intro g10 W F10 hb
                have FL := FL.below hb
                have FI := FI.below hb
                have ST := ST.new hb
                refine hK.out _ _ (ST.cell g0 hb0) (fun hH11 => ?_)
                clear hK K hH10
                try simp only [Act.put, List.setIfInBounds_toArray, List.set_cons_zero, List.set_cons_succ]
                refine wpAnyH_ready (rs := [11]) (by kernel_rfl) (by simp) ?_
                refine (AllReadyH.cons (o := { dst := some 51, op := Go.Op.call { callee := Go.Callee.builtin Go.Builtin.append, args := #[Go.Operand.tmp 42, Go.Operand.tmp 50], argTypes := #[22, 22] }, type := 22, pos := "laws.go:4835", after := #[{ on := 2, ground := Go.Ground.data }, { on := 10, ground := Go.Ground.data }, { on := 9, ground := Go.Ground.chain }], guard := none }) rfl (fun K hK => ?_) AllReadyH.nil)
                rw [if_pos (by rfl)]
                refine wp_appendR1 _ _ 22 rfl w3.heap.size i0 (.slice none 0 0) Try.underlying22 HI.out HZ0.out HZ1.out HZ2.out rfl v2 n1 rs rfl FL (apart_old FL HR1.out.rows HH1.out ST.s1) g10 (RV.mk A9 (n0 + 1) c9 (l0 ++ [0])) rfl F10 w3.heap.size FI (by omega) ST.sz ?_
                intro v11 W FL hb
                have ST := ST.step hb
                clear F10
                refine hK.out _ _ (ST.cell g0 hb0) (fun hH12 => ?_)
                clear hK K hH11
                try simp only [Act.put, List.setIfInBounds_toArray, List.set_cons_zero, List.set_cons_succ]
                refine wpAnyH_ready (rs := [12]) (by kernel_rfl) (by simp) ?_
                refine (AllReadyH.cons (o := { dst := some 9, op := Go.Op.assign (Go.Operand.tmp 51), type := 22, pos := "laws.go:4835", after := #[{ on := 11, ground := Go.Ground.data }, { on := 11, ground := Go.Ground.chain }, { on := 0, ground := Go.Ground.phase }, { on := 1, ground := Go.Ground.phase }, { on := 2, ground := Go.Ground.phase }, { on := 3, ground := Go.Ground.phase }, { on := 4, ground := Go.Ground.phase }, { on := 5, ground := Go.Ground.phase }, { on := 6, ground := Go.Ground.phase }, { on := 7, ground := Go.Ground.phase }, { on := 8, ground := Go.Ground.phase }, { on := 9, ground := Go.Ground.phase }, { on := 10, ground := Go.Ground.phase }, { on := 11, ground := Go.Ground.phase }], guard := none }) rfl (fun K hK => ?_) AllReadyH.nil)
                go_simp
                refine hK.out _ _ (ST.cell g0 hb0) (fun hH13 => ?_)
                clear hK K hH12
                try simp only [Act.put, List.setIfInBounds_toArray, List.set_cons_zero, List.set_cons_succ]
                refine wpAnyH_done (by kernel_rfl) ?_ _
                refine NoPanic.normal ?_
                exact HC.out v0 v2 v3 v7 A9 c9 v11 g8 g10 W ⟨FL, hc9, ST⟩
            · rw [if_pos (by rfl)]
              refine wp_buildI1 29 _ rfl j0 (.int .i64 0) Try.underlying29 HJ.out HY0.out HY1.out w3.heap.size ST.sz 0 rfl ?_
              intro g8 W hg8 F8 hb
              have HA := (FI.off_new (v' := (.slice (some ⟨g8, 0, none⟩) 1 1)) rfl hg8).symm
              clear hg8
              have FI := FI.below hb
              have ST := ST.new hb
              refine hK.out _ _ (ST.cell g0 hb0) (fun hH6 => ?_)
              clear hK K hH5
              try simp only [Act.put, List.setIfInBounds_toArray, List.set_cons_zero, List.set_cons_succ]
              refine wpAnyH_ready (rs := [0]) (by kernel_rfl) (by simp) ?_
              refine (AllReadyH.cons (o := { dst := some 40, op := Go.Op.buildSlice 22 0 #[], type := 22, pos := "laws.go:4835", after := #[], guard := none }) rfl (fun K hK => ?_) AllReadyH.nil)
              rw [if_pos (by rfl)]
              refine wp_buildR0 22 rfl i0 Try.underlying22 HI.out w3.heap.size ST.sz ?_
              intro v0 W FL hb
              have FI := FI.below hb
              have F8 := F8.below hb
              have ST := ST.new hb
              refine hK.out _ _ (ST.cell g0 hb0) (fun hH7 => ?_)
              clear hK K hH6
              try simp only [Act.put, List.setIfInBounds_toArray, List.set_cons_zero, List.set_cons_succ]
              refine wpAnyH_ready (rs := [2]) (by kernel_rfl) (by simp) ?_
              refine (AllReadyH.cons (o := { dst := some 42, op := Go.Op.call { callee := Go.Callee.builtin Go.Builtin.append, args := #[Go.Operand.tmp 40, Go.Operand.tmp 41], argTypes := #[22, 22] }, type := 22, pos := "laws.go:4835", after := #[{ on := 0, ground := Go.Ground.data }, { on := 1, ground := Go.Ground.data }], guard := none }) rfl (fun K hK => ?_) AllReadyH.nil)
              rw [if_pos (by rfl)]
              refine wp_appendRR _ _ 22 rfl w3.heap.size 29 i0 (.slice none 0 0) Try.underlying22 HI.out HZ0.out HZ1.out HZ2.out rfl v0 0 [] rfl FL b off n1 c1 rs rfl HR1.out.len (fun i hi => ST.cell (HCELL.out i hi) hb0) (HR1.out.below ST.b1).rows (apart_old FL HR1.out.rows HH1.out ST.s1) (by omega) ST.sz ?_
              intro v2 W FL2 hb hg
              have FI := FI.past FL hg
              have F8 := F8.past FL hg
              have FL := own_copyR FL2
              have ST := ST.step hb
              refine hK.out _ _ (ST.cell g0 hb0) (fun hH8 => ?_)
              clear hK K hH7
              try simp only [Act.put, List.setIfInBounds_toArray, List.set_cons_zero, List.set_cons_succ]
              refine wpAnyH_ready (rs := [7]) (by kernel_rfl) (by simp) ?_
              refine (AllReadyH.cons (o := { dst := some 47, op := Go.Op.call { callee := Go.Callee.builtin Go.Builtin.append, args := #[Go.Operand.tmp 43, Go.Operand.tmp 46], argTypes := #[29, 29] }, type := 29, pos := "laws.go:4835", after := #[{ on := 3, ground := Go.Ground.data }, { on := 6, ground := Go.Ground.data }, { on := 2, ground := Go.Ground.chain }], guard := none }) rfl (fun K hK => ?_) AllReadyH.nil)
              rw [if_pos (by rfl)]
              refine wp_appendJ _ _ 29 rfl w3.heap.size 3 j0 (.int .i64 0) Try.underlying29 HJ.out HY0.out HY1.out HY2.out rfl v3 0 [] rfl FI A0 n0 c0 l0 rfl (HR0.out.below ST.b1) (by omega) (by omega) ST.sz ?_
              intro v7 W FI2 hb hg
              have ST := ST.step hb
              have FL := FL.past FI hg (HR1.out.below ST.b1).rows
              have F8 := F8.offs HA hg
              have FI := own_copyI FI2
              refine hK.out _ _ (ST.cell g0 hb0) (fun hH9 => ?_)
              clear hK K hH8
              try simp only [Act.put, List.setIfInBounds_toArray, List.set_cons_zero, List.set_cons_succ]
              refine wpAnyH_ready (rs := [9]) (by kernel_rfl) (by simp) ?_
              refine (AllReadyH.cons (o := { dst := some 49, op := Go.Op.call { callee := Go.Callee.builtin Go.Builtin.append, args := #[Go.Operand.tmp 47, Go.Operand.tmp 48], argTypes := #[29, 29] }, type := 29, pos := "laws.go:4835", after := #[{ on := 7, ground := Go.Ground.data }, { on := 8, ground := Go.Ground.data }, { on := 7, ground := Go.Ground.chain }], guard := none }) rfl (fun K hK => ?_) AllReadyH.nil)
              rw [if_pos (by rfl)]
              refine wp_appendJ _ _ 29 rfl w3.heap.size 3 j0 (.int .i64 0) Try.underlying29 HJ.out HY0.out HY1.out HY2.out rfl v7 n0 l0 rfl FI (some ⟨g8, 0, none⟩) 1 1 [0] rfl F8.rd (by omega) (by omega) ST.sz ?_
              intro v9 W FI2 hb hg
              have ST := ST.step hb
              have FL := FL.past FI hg (HR1.out.below ST.b1).rows
              obtain ⟨A9, c9, rfl, hc9, _⟩ := FI2.form
              have FI := FI2
              refine hK.out _ _ (ST.cell g0 hb0) (fun hH10 => ?_)
              clear hK K hH9
              try simp only [Act.put, List.setIfInBounds_toArray, List.set_cons_zero, List.set_cons_succ]
              refine wpAnyH_ready (rs := [10]) (by kernel_rfl) (by simp) ?_
              refine (AllReadyH.cons (o := { dst := some 50, op := Go.Op.buildSlice 22 1 #[(0, Go.Operand.tmp 49)], type := 22, pos := "laws.go:4835", after := #[{ on := 9, ground := Go.Ground.data }], guard := none }) rfl (fun K hK => ?_) AllReadyH.nil)
              rw [if_pos (by rfl)]
              refine wp_buildR1 22 _ rfl i0 (.slice none 0 0) Try.underlying22 HI.out HZ0.out HZ1.out A9 (n0 + 1) c9 rfl ?_
              intro g10 W F10 hb
              have FL := FL.below hb
              have FI := FI.below hb
              have ST := ST.new hb
              refine hK.out _ _ (ST.cell g0 hb0) (fun hH11 => ?_)
              clear hK K hH10
              try simp only [Act.put, List.setIfInBounds_toArray, List.set_cons_zero, List.set_cons_succ]
              refine wpAnyH_ready (rs := [11]) (by kernel_rfl) (by simp) ?_
              refine (AllReadyH.cons (o := { dst := some 51, op := Go.Op.call { callee := Go.Callee.builtin Go.Builtin.append, args := #[Go.Operand.tmp 42, Go.Operand.tmp 50], argTypes := #[22, 22] }, type := 22, pos := "laws.go:4835", after := #[{ on := 2, ground := Go.Ground.data }, { on := 10, ground := Go.Ground.data }, { on := 9, ground := Go.Ground.chain }], guard := none }) rfl (fun K hK => ?_) AllReadyH.nil)
              rw [if_pos (by rfl)]
              refine wp_appendR1 _ _ 22 rfl w3.heap.size i0 (.slice none 0 0) Try.underlying22 HI.out HZ0.out HZ1.out HZ2.out rfl v2 n1 rs rfl FL (apart_old FL HR1.out.rows HH1.out ST.s1) g10 (RV.mk A9 (n0 + 1) c9 (l0 ++ [0])) rfl F10 w3.heap.size FI (by omega) ST.sz ?_
              intro v11 W FL hb
              have ST := ST.step hb
              clear F10
              refine hK.out _ _ (ST.cell g0 hb0) (fun hH12 => ?_)
              clear hK K hH11
              try simp only [Act.put, List.setIfInBounds_toArray, List.set_cons_zero, List.set_cons_succ]
              refine wpAnyH_ready (rs := [12]) (by kernel_rfl) (by simp) ?_
              refine (AllReadyH.cons (o := { dst := some 9, op := Go.Op.assign (Go.Operand.tmp 51), type := 22, pos := "laws.go:4835", after := #[{ on := 11, ground := Go.Ground.data }, { on := 11, ground := Go.Ground.chain }, { on := 0, ground := Go.Ground.phase }, { on := 1, ground := Go.Ground.phase }, { on := 2, ground := Go.Ground.phase }, { on := 3, ground := Go.Ground.phase }, { on := 4, ground := Go.Ground.phase }, { on := 5, ground := Go.Ground.phase }, { on := 6, ground := Go.Ground.phase }, { on := 7, ground := Go.Ground.phase }, { on := 8, ground := Go.Ground.phase }, { on := 9, ground := Go.Ground.phase }, { on := 10, ground := Go.Ground.phase }, { on := 11, ground := Go.Ground.phase }], guard := none }) rfl (fun K hK => ?_) AllReadyH.nil)
              go_simp
              refine hK.out _ _ (ST.cell g0 hb0) (fun hH13 => ?_)
              clear hK K hH12
              try simp only [Act.put, List.setIfInBounds_toArray, List.set_cons_zero, List.set_cons_succ]
              refine wpAnyH_done (by kernel_rfl) ?_ _
              refine NoPanic.normal ?_
              exact HC.out v0 v2 v3 v7 A9 c9 v11 g8 g10 W ⟨FL, hc9, ST⟩
          · rw [if_pos (by rfl)]
            refine wp_buildI1 29 _ rfl j0 (.int .i64 0) Try.underlying29 HJ.out HY0.out HY1.out w3.heap.size ST.sz 0 rfl ?_
            intro g8 W hg8 F8 hb
            clear hg8
            have ST := ST.new hb
            refine hK.out _ _ (ST.cell g0 hb0) (fun hH5 => ?_)
            clear hK K hH0
            try simp only [Act.put, List.setIfInBounds_toArray, List.set_cons_zero, List.set_cons_succ]
            refine wpAnyH_ready (rs := [0, 3]) (by kernel_rfl) (by simp) ?_
            refine (AllReadyH.cons (o := { dst := some 40, op := Go.Op.buildSlice 22 0 #[], type := 22, pos := "laws.go:4835", after := #[], guard := none }) rfl (fun K hK => ?_) (AllReadyH.cons (o := { dst := some 43, op := Go.Op.buildSlice 29 0 #[], type := 29, pos := "laws.go:4835", after := #[], guard := none }) rfl (fun K hK => ?_) AllReadyH.nil))
            · rw [if_pos (by rfl)]
              refine wp_buildR0 22 rfl i0 Try.underlying22 HI.out w3.heap.size ST.sz ?_
              intro v0 W FL hb
              have F8 := F8.below hb
              have ST := ST.new hb
              refine hK.out _ _ (ST.cell g0 hb0) (fun hH6 => ?_)
              clear hK K hH5
              try simp only [Act.put, List.setIfInBounds_toArray, List.set_cons_zero, List.set_cons_succ]
              refine wpAnyH_ready (rs := [2, 3]) (by kernel_rfl) (by simp) ?_
              refine (AllReadyH.cons (o := { dst := some 42, op := Go.Op.call { callee := Go.Callee.builtin Go.Builtin.append, args := #[Go.Operand.tmp 40, Go.Operand.tmp 41], argTypes := #[22, 22] }, type := 22, pos := "laws.go:4835", after := #[{ on := 0, ground := Go.Ground.data }, { on := 1, ground := Go.Ground.data }], guard := none }) rfl (fun K hK => ?_) (AllReadyH.cons (o := { dst := some 43, op := Go.Op.buildSlice 29 0 #[], type := 29, pos := "laws.go:4835", after := #[], guard := none }) rfl (fun K hK => ?_) AllReadyH.nil))
              · rw [if_pos (by rfl)]
                refine wp_appendRR _ _ 22 rfl w3.heap.size 29 i0 (.slice none 0 0) Try.underlying22 HI.out HZ0.out HZ1.out HZ2.out rfl v0 0 [] rfl FL b off n1 c1 rs rfl HR1.out.len (fun i hi => ST.cell (HCELL.out i hi) hb0) (HR1.out.below ST.b1).rows (apart_old FL HR1.out.rows HH1.out ST.s1) (by omega) ST.sz ?_
                intro v2 W FL2 hb hg
                have F8 := F8.past FL hg
                have FL := own_copyR FL2
                have ST := ST.step hb
                refine hK.out _ _ (ST.cell g0 hb0) (fun hH7 => ?_)
                clear hK K hH6
                try simp only [Act.put, List.setIfInBounds_toArray, List.set_cons_zero, List.set_cons_succ]
                refine wpAnyH_ready (rs := [3]) (by kernel_rfl) (by simp) ?_
                refine (AllReadyH.cons (o := { dst := some 43, op := Go.Op.buildSlice 29 0 #[], type := 29, pos := "laws.go:4835", after := #[], guard := none }) rfl (fun K hK => ?_) AllReadyH.nil)
                rw [if_pos (by rfl)]
                refine wp_buildI0 29 rfl j0 Try.underlying29 HJ.out w3.heap.size ST.sz ?_
                intro v3 W g3 hv3 hg3 FI hb
                have HA := F8.off_new hv3 hg3
                clear hv3 hg3
                have FL := FL.below hb
                have F8 := F8.below hb
                have ST := ST.new hb
                refine hK.out _ _ (ST.cell g0 hb0) (fun hH8 => ?_)
                clear hK K hH7
                try simp only [Act.put, List.setIfInBounds_toArray, List.set_cons_zero, List.set_cons_succ]
                refine wpAnyH_ready (rs := [7]) (by kernel_rfl) (by simp) ?_
                refine (AllReadyH.cons (o := { dst := some 47, op := Go.Op.call { callee := Go.Callee.builtin Go.Builtin.append, args := #[Go.Operand.tmp 43, Go.Operand.tmp 46], argTypes := #[29, 29] }, type := 29, pos := "laws.go:4835", after := #[{ on := 3, ground := Go.Ground.data }, { on := 6, ground := Go.Ground.data }, { on := 2, ground := Go.Ground.chain }], guard := none }) rfl (fun K hK => ?_) AllReadyH.nil)
                rw [if_pos (by rfl)]
                refine wp_appendJ _ _ 29 rfl w3.heap.size 3 j0 (.int .i64 0) Try.underlying29 HJ.out HY0.out HY1.out HY2.out rfl v3 0 [] rfl FI A0 n0 c0 l0 rfl (HR0.out.below ST.b1) (by omega) (by omega) ST.sz ?_
                intro v7 W FI2 hb hg
                have ST := ST.step hb
                have FL := FL.past FI hg (HR1.out.below ST.b1).rows
                have F8 := F8.offs HA hg
                have FI := own_copyI FI2
                refine hK.out _ _ (ST.cell g0 hb0) (fun hH9 => ?_)
                clear hK K hH8
                try simp only [Act.put, List.setIfInBounds_toArray, List.set_cons_zero, List.set_cons_succ]
                refine wpAnyH_ready (rs := [9]) (by kernel_rfl) (by simp) ?_
                refine (AllReadyH.cons (o := { dst := some 49, op := Go.Op.call { callee := Go.Callee.builtin Go.Builtin.append, args := #[Go.Operand.tmp 47, Go.Operand.tmp 48], argTypes := #[29, 29] }, type := 29, pos := "laws.go:4835", after := #[{ on := 7, ground := Go.Ground.data }, { on := 8, ground := Go.Ground.data }, { on := 7, ground := Go.Ground.chain }], guard := none }) rfl (fun K hK => ?_) AllReadyH.nil)
                rw [if_pos (by rfl)]
                refine wp_appendJ _ _ 29 rfl w3.heap.size 3 j0 (.int .i64 0) Try.underlying29 HJ.out HY0.out HY1.out HY2.out rfl v7 n0 l0 rfl FI (some ⟨g8, 0, none⟩) 1 1 [0] rfl F8.rd (by omega) (by omega) ST.sz ?_
                intro v9 W FI2 hb hg
                have ST := ST.step hb
                have FL := FL.past FI hg (HR1.out.below ST.b1).rows
                obtain ⟨A9, c9, rfl, hc9, _⟩ := FI2.form
                have FI := FI2
                refine hK.out _ _ (ST.cell g0 hb0) (fun hH10 => ?_)
                clear hK K hH9
                try simp only [Act.put, List.setIfInBounds_toArray, List.set_cons_zero, List.set_cons_succ]
                refine wpAnyH_ready (rs := [10]) (by kernel_rfl) (by simp) ?_
                refine (AllReadyH.cons (o := { dst := some 50, op := Go.Op.buildSlice 22 1 #[(0, Go.Operand.tmp 49)], type := 22, pos := "laws.go:4835", after := #[{ on := 9, ground := Go.Ground.data }], guard := none }) rfl (fun K hK => ?_) AllReadyH.nil)
                rw [if_pos (by rfl)]
                refine wp_buildR1 22 _ rfl i0 (.slice none 0 0) Try.underlying22 HI.out HZ0.out HZ1.out A9 (n0 + 1) c9 rfl ?_
                intro g10 W F10 hb
                have FL := FL.below hb
                have FI := FI.below hb
                have ST := ST.new hb
                refine hK.out _ _ (ST.cell g0 hb0) (fun hH11 => ?_)
                clear hK K hH10
                try simp only [Act.put, List.setIfInBounds_toArray, List.set_cons_zero, List.set_cons_succ]
                refine wpAnyH_ready (rs := [11]) (by kernel_rfl) (by simp) ?_
                refine (AllReadyH.cons (o := { dst := some 51, op := Go.Op.call { callee := Go.Callee.builtin Go.Builtin.append, args := #[Go.Operand.tmp 42, Go.Operand.tmp 50], argTypes := #[22, 22] }, type := 22, pos := "laws.go:4835", after := #[{ on := 2, ground := Go.Ground.data }, { on := 10, ground := Go.Ground.data }, { on := 9, ground := Go.Ground.chain }], guard := none }) rfl (fun K hK => ?_) AllReadyH.nil)
                rw [if_pos (by rfl)]
                refine wp_appendR1 _ _ 22 rfl w3.heap.size i0 (.slice none 0 0) Try.underlying22 HI.out HZ0.out HZ1.out HZ2.out rfl v2 n1 rs rfl FL (apart_old FL HR1.out.rows HH1.out ST.s1) g10 (RV.mk A9 (n0 + 1) c9 (l0 ++ [0])) rfl F10 w3.heap.size FI (by omega) ST.sz ?_
                intro v11 W FL hb
                have ST := ST.step hb
                clear F10
                refine hK.out _ _ (ST.cell g0 hb0) (fun hH12 => ?_)
                clear hK K hH11
                try simp only [Act.put, List.setIfInBounds_toArray, List.set_cons_zero, List.set_cons_succ]
                refine wpAnyH_ready (rs := [12]) (by kernel_rfl) (by simp) ?_
                refine (AllReadyH.cons (o := { dst := some 9, op := Go.Op.assign (Go.Operand.tmp 51), type := 22, pos := "laws.go:4835", after := #[{ on := 11, ground := Go.Ground.data }, { on := 11, ground := Go.Ground.chain }, { on := 0, ground := Go.Ground.phase }, { on := 1, ground := Go.Ground.phase }, { on := 2, ground := Go.Ground.phase }, { on := 3, ground := Go.Ground.phase }, { on := 4, ground := Go.Ground.phase }, { on := 5, ground := Go.Ground.phase }, { on := 6, ground := Go.Ground.phase }, { on := 7, ground := Go.Ground.phase }, { on := 8, ground := Go.Ground.phase }, { on := 9, ground := Go.Ground.phase }, { on := 10, ground := Go.Ground.phase }, { on := 11, ground := Go.Ground.phase }], guard := none }) rfl (fun K hK => ?_) AllReadyH.nil)
                go_simp
                refine hK.out _ _ (ST.cell g0 hb0) (fun hH13 => ?_)
                clear hK K hH12
                try simp only [Act.put, List.setIfInBounds_toArray, List.set_cons_zero, List.set_cons_succ]
                refine wpAnyH_done (by kernel_rfl) ?_ _
                refine NoPanic.normal ?_
                exact HC.out v0 v2 v3 v7 A9 c9 v11 g8 g10 W ⟨FL, hc9, ST⟩
              · rw [if_pos (by rfl)]
                refine wp_buildI0 29 rfl j0 Try.underlying29 HJ.out w3.heap.size ST.sz ?_
                intro v3 W g3 hv3 hg3 FI hb
                have HA := F8.off_new hv3 hg3
                clear hv3 hg3
                have FL := FL.below hb
                have F8 := F8.below hb
                have ST := ST.new hb
                refine hK.out _ _ (ST.cell g0 hb0) (fun hH7 => ?_)
                clear hK K hH6
                try simp only [Act.put, List.setIfInBounds_toArray, List.set_cons_zero, List.set_cons_succ]
                refine wpAnyH_ready (rs := [2]) (by kernel_rfl) (by simp) ?_
                refine (AllReadyH.cons (o := { dst := some 42, op := Go.Op.call { callee := Go.Callee.builtin Go.Builtin.append, args := #[Go.Operand.tmp 40, Go.Operand.tmp 41], argTypes := #[22, 22] }, type := 22, pos := "laws.go:4835", after := #[{ on := 0, ground := Go.Ground.data }, { on := 1, ground := Go.Ground.data }], guard := none }) rfl (fun K hK => ?_) AllReadyH.nil)
                rw [if_pos (by rfl)]
                refine wp_appendRR _ _ 22 rfl w3.heap.size 29 i0 (.slice none 0 0) Try.underlying22 HI.out HZ0.out HZ1.out HZ2.out rfl v0 0 [] rfl FL b off n1 c1 rs rfl HR1.out.len (fun i hi => ST.cell (HCELL.out i hi) hb0) (HR1.out.below ST.b1).rows (apart_old FL HR1.out.rows HH1.out ST.s1) (by omega) ST.sz ?_
                intro v2 W FL2 hb hg
                have FI := FI.past FL hg
                have F8 := F8.past FL hg
                have FL := own_copyR FL2
                have ST := ST.step hb
                refine hK.out _ _ (ST.cell g0 hb0) (fun hH8 => ?_)
                clear hK K hH7
                try simp only [Act.put, List.setIfInBounds_toArray, List.set_cons_zero, List.set_cons_succ]
                refine wpAnyH_ready (rs := [7]) (by kernel_rfl) (by simp) ?_
                refine (AllReadyH.cons (o := { dst := some 47, op := Go.Op.call { callee := Go.Callee.builtin Go.Builtin.append, args := #[Go.Operand.tmp 43, Go.Operand.tmp 46], argTypes := #[29, 29] }, type := 29, pos := "laws.go:4835", after := #[{ on := 3, ground := Go.Ground.data }, { on := 6, ground := Go.Ground.data }, { on := 2, ground := Go.Ground.chain }], guard := none }) rfl (fun K hK => ?_) AllReadyH.nil)
                rw [if_pos (by rfl)]
                refine wp_appendJ _ _ 29 rfl w3.heap.size 3 j0 (.int .i64 0) Try.underlying29 HJ.out HY0.out HY1.out HY2.out rfl v3 0 [] rfl FI A0 n0 c0 l0 rfl (HR0.out.below ST.b1) (by omega) (by omega) ST.sz ?_
                intro v7 W FI2 hb hg
                have ST := ST.step hb
                have FL := FL.past FI hg (HR1.out.below ST.b1).rows
                have F8 := F8.offs HA hg
                have FI := own_copyI FI2
                refine hK.out _ _ (ST.cell g0 hb0) (fun hH9 => ?_)
                clear hK K hH8
                try simp only [Act.put, List.setIfInBounds_toArray, List.set_cons_zero, List.set_cons_succ]
                refine wpAnyH_ready (rs := [9]) (by kernel_rfl) (by simp) ?_
                refine (AllReadyH.cons (o := { dst := some 49, op := Go.Op.call { callee := Go.Callee.builtin Go.Builtin.append, args := #[Go.Operand.tmp 47, Go.Operand.tmp 48], argTypes := #[29, 29] }, type := 29, pos := "laws.go:4835", after := #[{ on := 7, ground := Go.Ground.data }, { on := 8, ground := Go.Ground.data }, { on := 7, ground := Go.Ground.chain }], guard := none }) rfl (fun K hK => ?_) AllReadyH.nil)
                rw [if_pos (by rfl)]
                refine wp_appendJ _ _ 29 rfl w3.heap.size 3 j0 (.int .i64 0) Try.underlying29 HJ.out HY0.out HY1.out HY2.out rfl v7 n0 l0 rfl FI (some ⟨g8, 0, none⟩) 1 1 [0] rfl F8.rd (by omega) (by omega) ST.sz ?_
                intro v9 W FI2 hb hg
                have ST := ST.step hb
                have FL := FL.past FI hg (HR1.out.below ST.b1).rows
                obtain ⟨A9, c9, rfl, hc9, _⟩ := FI2.form
                have FI := FI2
                refine hK.out _ _ (ST.cell g0 hb0) (fun hH10 => ?_)
                clear hK K hH9
                try simp only [Act.put, List.setIfInBounds_toArray, List.set_cons_zero, List.set_cons_succ]
                refine wpAnyH_ready (rs := [10]) (by kernel_rfl) (by simp) ?_
                refine (AllReadyH.cons (o := { dst := some 50, op := Go.Op.buildSlice 22 1 #[(0, Go.Operand.tmp 49)], type := 22, pos := "laws.go:4835", after := #[{ on := 9, ground := Go.Ground.data }], guard := none }) rfl (fun K hK => ?_) AllReadyH.nil)
                rw [if_pos (by rfl)]
                refine wp_buildR1 22 _ rfl i0 (.slice none 0 0) Try.underlying22 HI.out HZ0.out HZ1.out A9 (n0 + 1) c9 rfl ?_
                intro g10 W F10 hb
                have FL := FL.below hb
                have FI := FI.below hb
                have ST := ST.new hb
                refine hK.out _ _ (ST.cell g0 hb0) (fun hH11 => ?_)
                clear hK K hH10
                try simp only [Act.put, List.setIfInBounds_toArray, List.set_cons_zero, List.set_cons_succ]
                refine wpAnyH_ready (rs := [11]) (by kernel_rfl) (by simp) ?_
                refine (AllReadyH.cons (o := { dst := some 51, op := Go.Op.call { callee := Go.Callee.builtin Go.Builtin.append, args := #[Go.Operand.tmp 42, Go.Operand.tmp 50], argTypes := #[22, 22] }, type := 22, pos := "laws.go:4835", after := #[{ on := 2, ground := Go.Ground.data }, { on := 10, ground := Go.Ground.data }, { on := 9, ground := Go.Ground.chain }], guard := none }) rfl (fun K hK => ?_) AllReadyH.nil)
                rw [if_pos (by rfl)]
                refine wp_appendR1 _ _ 22 rfl w3.heap.size i0 (.slice none 0 0) Try.underlying22 HI.out HZ0.out HZ1.out HZ2.out rfl v2 n1 rs rfl FL (apart_old FL HR1.out.rows HH1.out ST.s1) g10 (RV.mk A9 (n0 + 1) c9 (l0 ++ [0])) rfl F10 w3.heap.size FI (by omega) ST.sz ?_
                intro v11 W FL hb
                have ST := ST.step hb
                clear F10
                refine hK.out _ _ (ST.cell g0 hb0) (fun hH12 => ?_)
                clear hK K hH11
                try simp only [Act.put, List.setIfInBounds_toArray, List.set_cons_zero, List.set_cons_succ]
                refine wpAnyH_ready (rs := [12]) (by kernel_rfl) (by simp) ?_
                refine (AllReadyH.cons (o := { dst := some 9, op := Go.Op.assign (Go.Operand.tmp 51), type := 22, pos := "laws.go:4835", after := #[{ on := 11, ground := Go.Ground.data }, { on := 11, ground := Go.Ground.chain }, { on := 0, ground := Go.Ground.phase }, { on := 1, ground := Go.Ground.phase }, { on := 2, ground := Go.Ground.phase }, { on := 3, ground := Go.Ground.phase }, { on := 4, ground := Go.Ground.phase }, { on := 5, ground := Go.Ground.phase }, { on := 6, ground := Go.Ground.phase }, { on := 7, ground := Go.Ground.phase }, { on := 8, ground := Go.Ground.phase }, { on := 9, ground := Go.Ground.phase }, { on := 10, ground := Go.Ground.phase }, { on := 11, ground := Go.Ground.phase }], guard := none }) rfl (fun K hK => ?_) AllReadyH.nil)
                go_simp
                refine hK.out _ _ (ST.cell g0 hb0) (fun hH13 => ?_)
                clear hK K hH12
                try simp only [Act.put, List.setIfInBounds_toArray, List.set_cons_zero, List.set_cons_succ]
                refine wpAnyH_done (by kernel_rfl) ?_ _
                refine NoPanic.normal ?_
                exact HC.out v0 v2 v3 v7 A9 c9 v11 g8 g10 W ⟨FL, hc9, ST⟩
            · rw [if_pos (by rfl)]
              refine wp_buildI0 29 rfl j0 Try.underlying29 HJ.out w3.heap.size ST.sz ?_
              intro v3 W g3 hv3 hg3 FI hb
              have HA := F8.off_new hv3 hg3
              clear hv3 hg3
              have F8 := F8.below hb
              have ST := ST.new hb
              refine hK.out _ _ (ST.cell g0 hb0) (fun hH6 => ?_)
              clear hK K hH5
              try simp only [Act.put, List.setIfInBounds_toArray, List.set_cons_zero, List.set_cons_succ]
              refine wpAnyH_ready (rs := [0]) (by kernel_rfl) (by simp) ?_
              refine (AllReadyH.cons (o := { dst := some 40, op := Go.Op.buildSlice 22 0 #[], type := 22, pos := "laws.go:4835", after := #[], guard := none }) rfl (fun K hK => ?_) AllReadyH.nil)
              rw [if_pos (by rfl)]
              refine wp_buildR0 22 rfl i0 Try.underlying22 HI.out w3.heap.size ST.sz ?_
              intro v0 W FL hb
              have FI := FI.below hb
              have F8 := F8.below hb
              have ST := ST.new hb
              refine hK.out _ _ (ST.cell g0 hb0) (fun hH7 => ?_)
              clear hK K hH6
              try simp only [Act.put, List.setIfInBounds_toArray, List.set_cons_zero, List.set_cons_succ]
              refine wpAnyH_ready (rs := [2]) (by kernel_rfl) (by simp) ?_
              refine (AllReadyH.cons (o := { dst := some 42, op := Go.Op.call { callee := Go.Callee.builtin Go.Builtin.append, args := #[Go.Operand.tmp 40, Go.Operand.tmp 41], argTypes := #[22, 22] }, type := 22, pos := "laws.go:4835", after := #[{ on := 0, ground := Go.Ground.data }, { on := 1, ground := Go.Ground.data }], guard := none }) rfl (fun K hK => ?_) AllReadyH.nil)
              rw [if_pos (by rfl)]
              refine wp_appendRR _ _ 22 rfl w3.heap.size 29 i0 (.slice none 0 0) Try.underlying22 HI.out HZ0.out HZ1.out HZ2.out rfl v0 0 [] rfl FL b off n1 c1 rs rfl HR1.out.len (fun i hi => ST.cell (HCELL.out i hi) hb0) (HR1.out.below ST.b1).rows (apart_old FL HR1.out.rows HH1.out ST.s1) (by omega) ST.sz ?_
              intro v2 W FL2 hb hg
              have FI := FI.past FL hg
              have F8 := F8.past FL hg
              have FL := own_copyR FL2
              have ST := ST.step hb
              refine hK.out _ _ (ST.cell g0 hb0) (fun hH8 => ?_)
              clear hK K hH7
              try simp only [Act.put, List.setIfInBounds_toArray, List.set_cons_zero, List.set_cons_succ]
              refine wpAnyH_ready (rs := [7]) (by kernel_rfl) (by simp) ?_
              refine (AllReadyH.cons (o := { dst := some 47, op := Go.Op.call { callee := Go.Callee.builtin Go.Builtin.append, args := #[Go.Operand.tmp 43, Go.Operand.tmp 46], argTypes := #[29, 29] }, type := 29, pos := "laws.go:4835", after := #[{ on := 3, ground := Go.Ground.data }, { on := 6, ground := Go.Ground.data }, { on := 2, ground := Go.Ground.chain }], guard := none }) rfl (fun K hK => ?_) AllReadyH.nil)
              rw [if_pos (by rfl)]
              refine wp_appendJ _ _ 29 rfl w3.heap.size 3 j0 (.int .i64 0) Try.underlying29 HJ.out HY0.out HY1.out HY2.out rfl v3 0 [] rfl FI A0 n0 c0 l0 rfl (HR0.out.below ST.b1) (by omega) (by omega) ST.sz ?_
              intro v7 W FI2 hb hg
              have ST := ST.step hb
              have FL := FL.past FI hg (HR1.out.below ST.b1).rows
              have F8 := F8.offs HA hg
              have FI := own_copyI FI2
              refine hK.out _ _ (ST.cell g0 hb0) (fun hH9 => ?_)
              clear hK K hH8
              try simp only [Act.put, List.setIfInBounds_toArray, List.set_cons_zero, List.set_cons_succ]
              refine wpAnyH_ready (rs := [9]) (by kernel_rfl) (by simp) ?_
              refine (AllReadyH.cons (o := { dst := some 49, op := Go.Op.call { callee := Go.Callee.builtin Go.Builtin.append, args := #[Go.Operand.tmp 47, Go.Operand.tmp 48], argTypes := #[29, 29] }, type := 29, pos := "laws.go:4835", after := #[{ on := 7, ground := Go.Ground.data }, { on := 8, ground := Go.Ground.data }, { on := 7, ground := Go.Ground.chain }], guard := none }) rfl (fun K hK => ?_) AllReadyH.nil)
              rw [if_pos (by rfl)]
              refine wp_appendJ _ _ 29 rfl w3.heap.size 3 j0 (.int .i64 0) Try.underlying29 HJ.out HY0.out HY1.out HY2.out rfl v7 n0 l0 rfl FI (some ⟨g8, 0, none⟩) 1 1 [0] rfl F8.rd (by omega) (by omega) ST.sz ?_
              intro v9 W FI2 hb hg
              have ST := ST.step hb
              have FL := FL.past FI hg (HR1.out.below ST.b1).rows
              obtain ⟨A9, c9, rfl, hc9, _⟩ := FI2.form
              have FI := FI2
              refine hK.out _ _ (ST.cell g0 hb0) (fun hH10 => ?_)
              clear hK K hH9
              try simp only [Act.put, List.setIfInBounds_toArray, List.set_cons_zero, List.set_cons_succ]
              refine wpAnyH_ready (rs := [10]) (by kernel_rfl) (by simp) ?_
              refine (AllReadyH.cons (o := { dst := some 50, op := Go.Op.buildSlice 22 1 #[(0, Go.Operand.tmp 49)], type := 22, pos := "laws.go:4835", after := #[{ on := 9, ground := Go.Ground.data }], guard := none }) rfl (fun K hK => ?_) AllReadyH.nil)
              rw [if_pos (by rfl)]
              refine wp_buildR1 22 _ rfl i0 (.slice none 0 0) Try.underlying22 HI.out HZ0.out HZ1.out A9 (n0 + 1) c9 rfl ?_
              intro g10 W F10 hb
              have FL := FL.below hb
              have FI := FI.below hb
              have ST := ST.new hb
              refine hK.out _ _ (ST.cell g0 hb0) (fun hH11 => ?_)
              clear hK K hH10
              try simp only [Act.put, List.setIfInBounds_toArray, List.set_cons_zero, List.set_cons_succ]
              refine wpAnyH_ready (rs := [11]) (by kernel_rfl) (by simp) ?_
              refine (AllReadyH.cons (o := { dst := some 51, op := Go.Op.call { callee := Go.Callee.builtin Go.Builtin.append, args := #[Go.Operand.tmp 42, Go.Operand.tmp 50], argTypes := #[22, 22] }, type := 22, pos := "laws.go:4835", after := #[{ on := 2, ground := Go.Ground.data }, { on := 10, ground := Go.Ground.data }, { on := 9, ground := Go.Ground.chain }], guard := none }) rfl (fun K hK => ?_) AllReadyH.nil)
              rw [if_pos (by rfl)]
              refine wp_appendR1 _ _ 22 rfl w3.heap.size i0 (.slice none 0 0) Try.underlying22 HI.out HZ0.out HZ1.out HZ2.out rfl v2 n1 rs rfl FL (apart_old FL HR1.out.rows HH1.out ST.s1) g10 (RV.mk A9 (n0 + 1) c9 (l0 ++ [0])) rfl F10 w3.heap.size FI (by omega) ST.sz ?_
              intro v11 W FL hb
              have ST := ST.step hb
              clear F10
              refine hK.out _ _ (ST.cell g0 hb0) (fun hH12 => ?_)
              clear hK K hH11
              try simp only [Act.put, List.setIfInBounds_toArray, List.set_cons_zero, List.set_cons_succ]
              refine wpAnyH_ready (rs := [12]) (by kernel_rfl) (by simp) ?_
              refine (AllReadyH.cons (o := { dst := some 9, op := Go.Op.assign (Go.Operand.tmp 51), type := 22, pos := "laws.go:4835", after := #[{ on := 11, ground := Go.Ground.data }, { on := 11, ground := Go.Ground.chain }, { on := 0, ground := Go.Ground.phase }, { on := 1, ground := Go.Ground.phase }, { on := 2, ground := Go.Ground.phase }, { on := 3, ground := Go.Ground.phase }, { on := 4, ground := Go.Ground.phase }, { on := 5, ground := Go.Ground.phase }, { on := 6, ground := Go.Ground.phase }, { on := 7, ground := Go.Ground.phase }, { on := 8, ground := Go.Ground.phase }, { on := 9, ground := Go.Ground.phase }, { on := 10, ground := Go.Ground.phase }, { on := 11, ground := Go.Ground.phase }], guard := none }) rfl (fun K hK => ?_) AllReadyH.nil)
              go_simp
              refine hK.out _ _ (ST.cell g0 hb0) (fun hH13 => ?_)
              clear hK K hH12
              try simp only [Act.put, List.setIfInBounds_toArray, List.set_cons_zero, List.set_cons_succ]
              refine wpAnyH_done (by kernel_rfl) ?_ _
              refine NoPanic.normal ?_
              exact HC.out v0 v2 v3 v7 A9 c9 v11 g8 g10 W ⟨FL, hc9, ST⟩
        intro v0 v2 v3 v7 A9 c9 v11 g8 g10 W hW
        obtain ⟨hO, hc9, hST⟩ := hW
        have HST := Lib.hid hST
        obtain ⟨A11, c11, rfl, hc11, _, hr11, _⟩ := hO.form
        have HR11 := Lib.hid hr11
        have HSK := Lib.hid (HS1.out.sub (l := rs.take k) fun r hr => List.mem_of_mem_take hr)
        have HSM := Lib.hid (HS1.out.app (short1 (r := RV.mk A9 (n0 + 1) c9 (l0 ++ [0])) (show n0 + 1 ≤ 2000000 by omega)))
        have HVK := Lib.hid (show vStack (vals (rs.take k)) = true by rw [vals_take]; exact vStack_take HV.out hk1)
        have HVM := Lib.hid (show vStack (vals (rs ++ [RV.mk A9 (n0 + 1) c9 (l0 ++ [0])])) = false by rw [vals_app]; exact HMORE.out)
        have HRK := Lib.hid ((HR1.out.below hST.b1).take hk2)
        have HB0 := Lib.hid hST.b0
        clear hO hST hr11 HCELL
        go_wp2_with fail
        refine (c_implStackValid _ _ _ (rs.take k) _ (by omega) HRK.out HSK.out).mono ?_
        rintro e w5 ⟨he, rfl⟩
        rw [HVK.out] at he
        subst he
        go_wp2_with fail
        refine (c_implStackValid _ _ _ _ _ (by omega) HR11.out HSM.out).mono ?_
        rintro e w6 ⟨he, rfl⟩
        rw [HVM.out] at he
        subst he
        go_wp2_with fail
        refine (c_implStackValid _ _ _ [] _ (by omega) (OwnR.empty W 29 (Nat.le_refl _)).rdr (fun i hi => absurd hi (by simp))).mono ?_
        rintro e w7 ⟨he, rfl⟩
        rw [show vStack (vals []) = false from vStack_nil] at he
        subst he
        go_wp2
        go_ret
        exact ⟨rfl, HB0.out.trans ((below_new W _).mono HB0.out.size)⟩
      · have HV := Lib.hid hv
        clear hv
        go_wp2_with fail
        refine (c_implStackValid _ _ _ rs _ (by omega) HR1.out HS1.out).mono ?_
        rintro e w2 ⟨he, rfl⟩
        rw [HV.out] at he
        subst he
        go_wp2_with fail
        refine (c_specStackValid _ _ _ rs _ (by omega) HR1.out HS1.out).mono ?_
        rintro e w3 ⟨he, hB13⟩
        rw [HV.out] at he
        subst he
        have hB3 := hB1.trans (hB13.mono hB1.size)
        go_wp2
        go_ret
        exact ⟨rfl, hB3⟩
end Go.Proofs.Ytbaplcdedijaeaa
