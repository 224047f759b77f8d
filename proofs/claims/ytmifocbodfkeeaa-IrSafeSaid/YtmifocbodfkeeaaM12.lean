import Derived.Test.YtmifocbodfkeeaaM10
namespace Go.Proofs.Ytmifocbodfkeeaa.K
open Go.RowKit Go.Proofs.YtmifocbodfkeeaaW.PrintWords Go.Proofs.YtmifocbodfkeeaaW.PrintLast Go.Proofs.YtmifocbodfkeeaaW.PrintMore
set_option linter.unusedVariables false
set_option linter.unusedSimpArgs false
set_option maxHeartbeats 8000000 in
set_option maxRecDepth 100000 in
theorem ir_Check_no (p : Prg) (b : Bdy) (A1 : Option Addr) (c1 : Nat) (A2 : Option Addr) (c2 : Nat) (A5 : Option Addr) (c5 : Nat) (A6 : Option Addr) (c6 : Nat) (A7 : Option Addr) (c7 : Nat) (w : World)
    (hs : Kd.string.C w A1 p.pool.length p.pool) (hr : k52.C w A2 p.codes.length p.codes) (hsz : ∀ s ∈ p.pool, s.size ≤ 9223372036854775807) (hck : ¬ CheckP p) :
    Calls Try.prog 14 #[.agg #[.int .i64 p.g, .slice A1 p.pool.length c1, .slice A2 p.codes.length c2], .agg #[.int .i64 b.f, .int .i64 b.regs, .slice A5 b.consts.length c5, .slice A6 b.ops.length c6, .slice A7 b.deps.length c7]] w fun e w' => e = .returned (.int .i64 (said (CheckB p b))) ∧ Below w.heap.size w w' := by
  have HCK := Aside0.mk (fun W (hb : Below w.heap.size w W) => code_Check said_depths p A1 c1 A2 c2 W (Kd.C_below hs hb) (Kd.C_below hr hb) hsz)
  rw [said_no hck] at HCK
  have HNO := Aside0.mk (said_no (P := CheckB p b) (fun h => hck h.1))
  clear hs hr hsz hck
  have bb := Aside0.mk (below_drew1 (below_alloc (below_alloc (Below.refl w.heap.size w) (.cells #[.int .i64 p.g, .slice A1 p.pool.length c1, .slice A2 p.codes.length c2] 25)) (.cells #[.int .i64 b.f, .int .i64 b.regs, .slice A5 b.consts.length c5, .slice A6 b.ops.length c6, .slice A7 b.deps.length c7] 30)))
  go_enter Try.func14, Try.ntmps14
  go_wp2
  refine wp_region_head 4 (by kernel_rfl) (by kernel_rfl) ?_
  simp only [List.take_succ_cons, List.take_zero, List.drop_succ_cons, List.drop_zero]
  go_wp2_with (go_at_call 35; refine (HCK.out _ bb.out).mono ?_; rintro e w1 ⟨rfl, hb1⟩)
  refine Aside0.mk ?_
  change wpStill _ _ w1 _ _ _
  repeat (first | ((with_reducible refine wpStill_step (fun K hK => ?_)); go_simp; (with_reducible refine hK _ ?_); clear hK K))
  refine wpStill_nil ?_
  go_wp2
  go_ret
  exact ⟨by rw [HNO.out]; rfl, below_step bb.out hb1⟩
theorem headB_ways {p : Prg} {b : Bdy} (h : ¬ HeadB p b) :
    ¬ (0 ≤ b.f ∧ b.f < (p.codes.length : Int)) ∨ (0 ≤ b.f ∧ b.f < (p.codes.length : Int)) ∧ (b.regs < (rd_T52 p.codes b.f).f1 ∨ (rd_T52 p.codes b.f).f1 ≤ b.regs ∧ (88 < b.regs ∨ b.regs ≤ 88 ∧ (4000 < (b.consts.length : Int) ∨ (b.consts.length : Int) ≤ 4000 ∧ ((b.ops.length : Int) < 1 ∨ 1 ≤ (b.ops.length : Int) ∧ (16000 < (b.ops.length : Int) ∨ (b.ops.length : Int) ≤ 16000 ∧ 200 < (b.deps.length : Int)))))) := by
  unfold HeadB at h
  omega
set_option maxHeartbeats 16000000 in
set_option maxRecDepth 100000 in
theorem ir_Check_bad (p : Prg) (b : Bdy) (A1 : Option Addr) (c1 : Nat) (A2 : Option Addr) (c2 : Nat) (A5 : Option Addr) (c5 : Nat) (A6 : Option Addr) (c6 : Nat) (A7 : Option Addr) (c7 : Nat) (w : World)
    (hs : Kd.string.C w A1 p.pool.length p.pool) (hr : k52.C w A2 p.codes.length p.codes) (hsz : ∀ s ∈ p.pool, s.size ≤ 9223372036854775807)
    (hck : CheckP p) (hhb : ¬ HeadB p b) :
    Calls Try.prog 14 #[.agg #[.int .i64 p.g, .slice A1 p.pool.length c1, .slice A2 p.codes.length c2], .agg #[.int .i64 b.f, .int .i64 b.regs, .slice A5 b.consts.length c5, .slice A6 b.ops.length c6, .slice A7 b.deps.length c7]] w fun e w' => e = .returned (.int .i64 (said (CheckB p b))) ∧ Below w.heap.size w w' := by
  have HCK := Aside0.mk (fun W (hb : Below w.heap.size w W) => code_Check said_depths p A1 c1 A2 c2 W (Kd.C_below hs hb) (Kd.C_below hr hb) hsz)
  rw [said_yes hck] at HCK
  have HR := Aside0.mk hr
  have HNO := Aside0.mk (said_no (P := CheckB p b) (fun h => hhb h.2.1))
  have HW := headB_ways hhb
  clear hs hr hsz hck hhb
  have bx1 := Aside0.mk (blk_alloc (blk_new w (.cells #[.int .i64 p.g, .slice A1 p.pool.length c1, .slice A2 p.codes.length c2] 25)) (.cells #[.int .i64 b.f, .int .i64 b.regs, .slice A5 b.consts.length c5, .slice A6 b.ops.length c6, .slice A7 b.deps.length c7] 30))
  have bx2 := blk_new (w.alloc (.cells #[.int .i64 p.g, .slice A1 p.pool.length c1, .slice A2 p.codes.length c2] 25)) (.cells #[.int .i64 b.f, .int .i64 b.regs, .slice A5 b.consts.length c5, .slice A6 b.ops.length c6, .slice A7 b.deps.length c7] 30)
  have e1 : (w.alloc (.cells #[.int .i64 p.g, .slice A1 p.pool.length c1, .slice A2 p.codes.length c2] 25)).heap.size = w.heap.size + 1 := by simp
  rw [e1] at bx2
  replace bx2 := Aside0.mk bx2
  have bb := Aside0.mk (below_drew1 (below_alloc (below_alloc (Below.refl w.heap.size w) (.cells #[.int .i64 p.g, .slice A1 p.pool.length c1, .slice A2 p.codes.length c2] 25)) (.cells #[.int .i64 b.f, .int .i64 b.regs, .slice A5 b.consts.length c5, .slice A6 b.ops.length c6, .slice A7 b.deps.length c7] 30)))
  clear e1
  have H36 := Aside0.mk (fun W => ir_below b.f p.codes.length W)
  have n1 : 0 ≤ (b.consts.length : Int) := by omega
  have n2 : 0 ≤ (b.ops.length : Int) := by omega
  have n3 : 0 ≤ (b.deps.length : Int) := by omega
  rcases HW with hf | ⟨⟨f0, f1⟩, HW⟩
  · rw [decide_eq_false hf] at H36
    clear hf
    go_enter Try.func14, Try.ntmps14
    go_wp2
    refine wp_region_head 4 (by kernel_rfl) (by kernel_rfl) ?_
    simp only [List.take_succ_cons, List.take_zero, List.drop_succ_cons, List.drop_zero]
    go_wp2_with (go_at_call 35; refine (HCK.out _ bb.out).mono ?_; rintro e w1 ⟨rfl, hb1⟩)
    have b1 := Aside0.mk (below_step bb.out hb1)
    have cx1 := Aside0.mk (blk_below (blk_drew bx1.out) hb1)
    have cx2 := Aside0.mk (blk_below (blk_drew bx2.out) hb1)
    clear hb1 bx1 bx2 bb
    have kc2 := blk_cell cx1.out 2
    have oc0 := blk_cell cx2.out 0
    simp at kc2 oc0
    refine Aside0.mk ?_
    change wpStill _ _ w1 _ _ _
    repeat (first | ((with_reducible refine wpStill_step (fun K hK => ?_)); go_simp; (with_reducible refine hK _ ?_); clear hK K) | ((with_reducible refine wpStill_step (fun K hK => ?_)); go_simp; refine ⟨_, H36.out _, ?_⟩; (with_reducible refine hK _ ?_); clear hK K))
    refine wpStill_nil ?_
    go_wp2
    go_ret
    exact ⟨by rw [HNO.out]; rfl, b1.out⟩
  · rw [decide_eq_true (show 0 ≤ b.f ∧ b.f < (p.codes.length : Int) from ⟨f0, f1⟩)] at H36
    rcases HW with h | ⟨h2, h | ⟨h3, h | ⟨h4, h | ⟨h5, h | ⟨h6, h⟩⟩⟩⟩⟩
    all_goals
      first
      | have g2 : decide (b.regs < (rd_T52 p.codes b.f).f1) = false := decide_eq_false (by omega)
      | have g2 : decide (b.regs < (rd_T52 p.codes b.f).f1) = true := decide_eq_true (by omega)
      first
      | have g3 : decide (88 < b.regs) = false := decide_eq_false (by omega)
      | have g3 : decide (88 < b.regs) = true := decide_eq_true (by omega)
      | skip
      first
      | have g4 : decide ((4000 : Int) < (b.consts.length : Int)) = false := decide_eq_false (by omega)
      | have g4 : decide ((4000 : Int) < (b.consts.length : Int)) = true := decide_eq_true (by omega)
      | skip
      first
      | have g5 : decide ((b.ops.length : Int) < 1) = false := decide_eq_false (by omega)
      | have g5 : decide ((b.ops.length : Int) < 1) = true := decide_eq_true (by omega)
      | skip
      first
      | have g6 : decide ((16000 : Int) < (b.ops.length : Int)) = false := decide_eq_false (by omega)
      | have g6 : decide ((16000 : Int) < (b.ops.length : Int)) = true := decide_eq_true (by omega)
      | skip
      first
      | have g7 : decide ((200 : Int) < (b.deps.length : Int)) = false := decide_eq_false (by omega)
      | have g7 : decide ((200 : Int) < (b.deps.length : Int)) = true := decide_eq_true (by omega)
      | skip
      go_enter Try.func14, Try.ntmps14
      go_wp2
      refine wp_region_head 4 (by kernel_rfl) (by kernel_rfl) ?_
      simp only [List.take_succ_cons, List.take_zero, List.drop_succ_cons, List.drop_zero]
      go_wp2_with (go_at_call 35; refine (HCK.out _ bb.out).mono ?_; rintro e w1 ⟨rfl, hb1⟩)
      have b1 := Aside0.mk (below_step bb.out hb1)
      have cx1 := Aside0.mk (blk_below (blk_drew bx1.out) hb1)
      have cx2 := Aside0.mk (blk_below (blk_drew bx2.out) hb1)
      clear hb1 bx1 bx2 bb
      have kc2 := blk_cell cx1.out 2
      have oc0 := blk_cell cx2.out 0
      have oc1 := blk_cell cx2.out 1
      have oc2 := blk_cell cx2.out 2
      have oc3 := blk_cell cx2.out 3
      have oc4 := blk_cell cx2.out 4
      simp at kc2 oc0 oc1 oc2 oc3 oc4
      obtain ⟨ad, A4, c4, e, _, hx1, _⟩ := at_T52 (Kd.C_below HR.out b1.out) b.f f0 f1
      obtain rfl := e
      refine Aside0.mk ?_
      change wpStill _ _ w1 _ _ _
      repeat (first | ((with_reducible refine wpStill_step (fun K hK => ?_)); go_simp; (with_reducible refine hK _ ?_); clear hK K) | ((with_reducible refine wpStill_step (fun K hK => ?_)); go_simp; refine ⟨_, H36.out _, ?_⟩; (with_reducible refine hK _ ?_); clear hK K))
      refine wpStill_nil ?_
      go_wp2
      go_ret
      exact ⟨by rw [HNO.out]; rfl, b1.out⟩
end Go.Proofs.Ytmifocbodfkeeaa.K
