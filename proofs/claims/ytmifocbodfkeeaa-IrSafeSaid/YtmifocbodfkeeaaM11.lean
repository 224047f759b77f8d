import Derived.Test.YtmifocbodfkeeaaM10
namespace Go.Proofs.Ytmifocbodfkeeaa.K
open Go.RowKit Go.Proofs.YtmifocbodfkeeaaW.PrintWords Go.Proofs.YtmifocbodfkeeaaW.PrintLast Go.Proofs.YtmifocbodfkeeaaW.PrintMore
set_option linter.unusedVariables false
set_option linter.unusedSimpArgs false
set_option maxHeartbeats 8000000 in
set_option maxRecDepth 100000 in
theorem ir_Check_ok (p : Prg) (b : Bdy) (A1 : Option Addr) (c1 : Nat) (A2 : Option Addr) (c2 : Nat) (A5 : Option Addr) (c5 : Nat) (A6 : Option Addr) (c6 : Nat) (A7 : Option Addr) (c7 : Nat) (w : World)
    (hs : Kd.string.C w A1 p.pool.length p.pool) (hr : k52.C w A2 p.codes.length p.codes) (hsz : ∀ s ∈ p.pool, s.size ≤ 9223372036854775807)
    (hco : k65.C w A5 b.consts.length b.consts) (hcz : ∀ v ∈ b.consts, v.f2.size ≤ 9223372036854775807) (hops : k42.C w A6 b.ops.length b.ops) (hde : k74.C w A7 b.deps.length b.deps)
    (hll : ∀ t : Int, 0 ≤ t → t < b.ops.length → (rd_T42 b.ops t).f5.length ≤ 1000000 ∧ (rd_T42 b.ops t).f6.length ≤ 1000000 ∧ (rd_T42 b.ops t).f8.length ≤ 1000000)
    (hck : CheckP p) (hhb : HeadB p b) :
    Calls Try.prog 14 #[.agg #[.int .i64 p.g, .slice A1 p.pool.length c1, .slice A2 p.codes.length c2], .agg #[.int .i64 b.f, .int .i64 b.regs, .slice A5 b.consts.length c5, .slice A6 b.ops.length c6, .slice A7 b.deps.length c7]] w fun e w' => e = .returned (.int .i64 (said (CheckB p b))) ∧ Below w.heap.size w w' := by
  have HCK := Aside0.mk (fun W (hb : Below w.heap.size w W) => code_Check said_depths p A1 c1 A2 c2 W (Kd.C_below hs hb) (Kd.C_below hr hb) hsz)
  have HDP := Aside0.mk (fun W (hb : Below w.heap.size w W) => code_Depths p A1 c1 A2 c2 b.f W (Kd.C_below hs hb) (Kd.C_below hr hb) hsz hhb.1.1 hhb.1.2 hck)
  rw [said_yes hck] at HCK
  have HV := Aside0.mk (fun W (hb : Below w.heap.size w W) => contains_vals A5 c5 b.consts W (Kd.C_below hco hb) (by have := hhb.2.2.2.1; omega) hcz)
  have HD := Aside0.mk (fun W (hb : Below w.heap.size w W) => contains_deps A7 c7 b.deps W (Kd.C_below hde hb) (by have := hhb.2.2.2.2.2.2; omega))
  have HR := Aside0.mk hr
  have HOPS := Aside0.mk hops
  have HLL := Aside0.mk hll
  have HS := Aside0.mk hs
  have HPP := Aside0.mk hck
  have HHB := Aside0.mk hhb
  obtain ⟨⟨f0, f1⟩, hh2, hh3, hh4, hh5, hh6, hh7⟩ := id hhb
  have H36 := Aside0.mk (fun W => ir_below b.f p.codes.length W)
  rw [decide_eq_true (show 0 ≤ b.f ∧ b.f < (p.codes.length : Int) from ⟨f0, f1⟩)] at H36
  clear hs hr hsz hco hcz hops hde hll hck hhb
  have bx1 := Aside0.mk (blk_alloc (blk_new w (.cells #[.int .i64 p.g, .slice A1 p.pool.length c1, .slice A2 p.codes.length c2] 25)) (.cells #[.int .i64 b.f, .int .i64 b.regs, .slice A5 b.consts.length c5, .slice A6 b.ops.length c6, .slice A7 b.deps.length c7] 30))
  have bx2 := blk_new (w.alloc (.cells #[.int .i64 p.g, .slice A1 p.pool.length c1, .slice A2 p.codes.length c2] 25)) (.cells #[.int .i64 b.f, .int .i64 b.regs, .slice A5 b.consts.length c5, .slice A6 b.ops.length c6, .slice A7 b.deps.length c7] 30)
  have e1 : (w.alloc (.cells #[.int .i64 p.g, .slice A1 p.pool.length c1, .slice A2 p.codes.length c2] 25)).heap.size = w.heap.size + 1 := by simp
  rw [e1] at bx2
  replace bx2 := Aside0.mk bx2
  have bb := Aside0.mk (below_drew1 (below_alloc (below_alloc (Below.refl w.heap.size w) (.cells #[.int .i64 p.g, .slice A1 p.pool.length c1, .slice A2 p.codes.length c2] 25)) (.cells #[.int .i64 b.f, .int .i64 b.regs, .slice A5 b.consts.length c5, .slice A6 b.ops.length c6, .slice A7 b.deps.length c7] 30)))
  clear e1
  have g2 : decide (b.regs < (rd_T52 p.codes b.f).f1) = false := decide_eq_false (by omega)
  have g3 : decide (88 < b.regs) = false := decide_eq_false (by omega)
  have g4 : decide ((4000 : Int) < (b.consts.length : Int)) = false := decide_eq_false (by omega)
  have g5 : decide ((b.ops.length : Int) < 1) = false := decide_eq_false (by omega)
  have g6 : decide ((16000 : Int) < (b.ops.length : Int)) = false := decide_eq_false (by omega)
  have g7 : decide ((200 : Int) < (b.deps.length : Int)) = false := decide_eq_false (by omega)
  go_enter Try.func14, Try.ntmps14
  go_wp2
  refine wp_region_head 4 (by kernel_rfl) (by kernel_rfl) ?_
  simp only [List.take_succ_cons, List.take_zero, List.drop_succ_cons, List.drop_zero]
  go_wp2_with (go_at_call 35; refine (HCK.out _ bb.out).mono ?_; rintro e w1 ⟨rfl, hb1⟩)
  have b1 := Aside0.mk (below_step bb.out hb1)
  have cx1 := Aside0.mk (blk_below (blk_drew bx1.out) hb1)
  have cx2 := Aside0.mk (blk_below (blk_drew bx2.out) hb1)
  clear hb1 bx1 bx2 bb
  have kc0 := blk_cell cx1.out 0
  have kc1 := blk_cell cx1.out 1
  have kc2 := blk_cell cx1.out 2
  have oc0 := blk_cell cx2.out 0
  have oc1 := blk_cell cx2.out 1
  have oc2 := blk_cell cx2.out 2
  have oc3 := blk_cell cx2.out 3
  have oc4 := blk_cell cx2.out 4
  simp at kc0 kc1 kc2 oc0 oc1 oc2 oc3 oc4
  obtain ⟨ad, A4, c4, e, _, hx1, _⟩ := at_T52 (Kd.C_below HR.out b1.out) b.f f0 f1
  obtain rfl := e
  refine Aside0.mk ?_
  change wpStill _ _ w1 _ _ _
  repeat (first | ((with_reducible refine wpStill_step (fun K hK => ?_)); go_simp; (with_reducible refine hK _ ?_); clear hK K) | ((with_reducible refine wpStill_step (fun K hK => ?_)); go_simp; refine ⟨_, H36.out _, ?_⟩; (with_reducible refine hK _ ?_); clear hK K))
  refine wpStill_nil ?_
  clear hx1 g2 g3 g4 g5 g6 g7 H36
  cases hv : b.consts.all valB
  · have HNO := Aside0.mk (said_no (P := CheckB p b) (fun h => by have := h.2.2.1; rw [hv] at this; cases this))
    rw [hv] at HV
    clear hv
    go_wp2_with (go_at_call 37; refine (HV.out _ b1.out).mono ?_; rintro e w2 ⟨rfl, hb2⟩)
    go_ret
    exact ⟨by rw [HNO.out]; rfl, below_step b1.out hb2⟩
  · cases hd : b.deps.all depB
    · have HNO := Aside0.mk (said_no (P := CheckB p b) (fun h => by have := h.2.2.2.1; rw [hd] at this; cases this))
      rw [hv] at HV
      rw [hd] at HD
      clear hv hd
      go_wp2_with (first | (go_at_call 37; refine (HV.out _ b1.out).mono ?_; rintro e w2 ⟨rfl, hb2⟩; have tc4 := cell_later hb2 oc4) | (go_at_call 40; refine (HD.out _ (below_step b1.out hb2)).mono ?_; rintro e w3 ⟨rfl, hb3⟩))
      go_ret
      exact ⟨by rw [HNO.out]; rfl, below_step (below_step b1.out hb2) hb3⟩
    · have HYV := Aside0.mk hv
      have HYD := Aside0.mk hd
      rw [hv] at HV
      rw [hd] at HD
      clear hv hd
      go_wp2_with (first | (go_at_call 37; refine (HV.out _ b1.out).mono ?_; rintro e w2 ⟨rfl, hb2⟩; have tc4 := cell_later hb2 oc4) | (go_at_call 40; refine (HD.out _ (below_step b1.out hb2)).mono ?_; rintro e w3 ⟨rfl, hb3⟩))
      have b3 := Aside0.mk (below_step (below_step b1.out hb2) hb3)
      have dx1 := Aside0.mk (blk_below (blk_below cx1.out hb2) hb3)
      have dx2 := Aside0.mk (blk_below (blk_below cx2.out hb2) hb3)
      clear hb2 hb3 tc4 b1 cx1 cx2 kc0 kc1 kc2 oc0 oc1 oc2 oc3 oc4 HV HD HCK
      have kc0 := blk_cell dx1.out 0
      have kc1 := blk_cell dx1.out 1
      have kc2 := blk_cell dx1.out 2
      have oc0 := blk_cell dx2.out 0
      have oc1 := blk_cell dx2.out 1
      have oc2 := blk_cell dx2.out 2
      have oc3 := blk_cell dx2.out 3
      have oc4 := blk_cell dx2.out 4
      simp at kc0 kc1 kc2 oc0 oc1 oc2 oc3 oc4
      have KEEP := Aside0.mk (show ∀ W' : World, Below w3.heap.size w3 W' → (W'.cell? ⟨w.heap.size, 0, none⟩ = some (.int .i64 p.g) ∧ W'.cell? ⟨w.heap.size, 1, none⟩ = some (.slice A1 p.pool.length c1) ∧ W'.cell? ⟨w.heap.size, 2, none⟩ = some (.slice (some ad) p.codes.length c2) ∧ W'.cell? ⟨w.heap.size + 1, 0, none⟩ = some (.int .i64 b.f) ∧ W'.cell? ⟨w.heap.size + 1, 1, none⟩ = some (.int .i64 b.regs) ∧ W'.cell? ⟨w.heap.size + 1, 2, none⟩ = some (.slice A5 b.consts.length c5) ∧ W'.cell? ⟨w.heap.size + 1, 3, none⟩ = some (.slice A6 b.ops.length c6) ∧ W'.cell? ⟨w.heap.size + 1, 4, none⟩ = some (.slice A7 b.deps.length c7) ∧ Below w3.heap.size w3 W') from fun W' hb => ⟨cell_later hb kc0, cell_later hb kc1, cell_later hb kc2, cell_later hb oc0, cell_later hb oc1, cell_later hb oc2, cell_later hb oc3, cell_later hb oc4, hb⟩)
      refine wp_region_noPanic ?_
      refine wp_region_held_drew (S := (fun W' => W'.cell? ⟨w.heap.size, 0, none⟩ = some (.int .i64 p.g) ∧ W'.cell? ⟨w.heap.size, 1, none⟩ = some (.slice A1 p.pool.length c1) ∧ W'.cell? ⟨w.heap.size, 2, none⟩ = some (.slice (some ad) p.codes.length c2) ∧ W'.cell? ⟨w.heap.size + 1, 0, none⟩ = some (.int .i64 b.f) ∧ W'.cell? ⟨w.heap.size + 1, 1, none⟩ = some (.int .i64 b.regs) ∧ W'.cell? ⟨w.heap.size + 1, 2, none⟩ = some (.slice A5 b.consts.length c5) ∧ W'.cell? ⟨w.heap.size + 1, 3, none⟩ = some (.slice A6 b.ops.length c6) ∧ W'.cell? ⟨w.heap.size + 1, 4, none⟩ = some (.slice A7 b.deps.length c7) ∧ Below w3.heap.size w3 W')) (by kernel_rfl) (KEEP.out _ (below_drew1 (Below.refl _ _))) (fun hHeld => ?_)
      refine wpAnyH_take (i := 0) (v := ?_) rfl (by kernel_rfl) (by kernel_rfl) (by kernel_rfl) (fun _ _ _ h => h) (Or.inl ⟨by rfl, ?_⟩) (by assumption) ?_
      rotate_left
      · intro w hSw; (try dsimp only at hSw); go_simp; (try with_reducible rfl)
      try simp only [Act.put, List.setIfInBounds_toArray, List.set_cons_zero, List.set_cons_succ]
      refine wpAnyH_take (i := 1) (v := ?_) rfl (by kernel_rfl) (by kernel_rfl) (by kernel_rfl) (fun _ _ _ h => h) (Or.inl ⟨by rfl, ?_⟩) (by assumption) ?_
      rotate_left
      · intro w hSw; (try dsimp only at hSw); go_simp; (try with_reducible rfl)
      try simp only [Act.put, List.setIfInBounds_toArray, List.set_cons_zero, List.set_cons_succ]
      refine wpAnyH_take (i := 2) (v := ?_) rfl (by kernel_rfl) (by kernel_rfl) (by kernel_rfl) (fun _ _ _ h => h) (Or.inl ⟨by rfl, ?_⟩) (by assumption) ?_
      rotate_left
      · intro w hSw; (try dsimp only at hSw); go_simp; (try with_reducible rfl)
      try simp only [Act.put, List.setIfInBounds_toArray, List.set_cons_zero, List.set_cons_succ]
      refine wpAnyH_take (i := 3) (v := ?_) rfl (by kernel_rfl) (by kernel_rfl) (by kernel_rfl) (fun _ _ _ h => h) (Or.inl ⟨by rfl, ?_⟩) (by assumption) ?_
      rotate_left
      · intro w hSw; (try dsimp only at hSw); go_simp; (try with_reducible rfl)
      try simp only [Act.put, List.setIfInBounds_toArray, List.set_cons_zero, List.set_cons_succ]
      refine wpAnyH_take (i := 4) (v := ?_) rfl (by kernel_rfl) (by kernel_rfl) (by kernel_rfl) (fun _ _ _ h => h) (Or.inl ⟨by rfl, ?_⟩) (by assumption) ?_
      rotate_left
      · intro w hSw; (try dsimp only at hSw); go_simp; (try with_reducible rfl)
      try simp only [Act.put, List.setIfInBounds_toArray, List.set_cons_zero, List.set_cons_succ]
      refine wpAnyH_ready (rs := [5, 7]) (by kernel_rfl) (by simp) ?_
      refine AllReadyH.cons rfl (fun K hK => ?_) (AllReadyH.cons rfl (fun K hK => ?_) AllReadyH.nil)
      go_simp
      (go_at_call 42; refine (HDP.out _ (below_step b3.out (by first | exact below_drew1 (Below.refl _ _) | exact below_drew1 (below_alloc (Below.refl _ _) _)))).mono ?_; rintro e w4 ⟨v, out, rfl, hdo, hR4, hb4⟩; obtain ⟨A8, c8, rfl, hc8, hC8⟩ := Kd.R_reads hR4)
      refine hK.out _ _ ?_ (fun hHeld => ?_)
      · exact KEEP.out _ (by repeat (first | exact Below.refl _ _ | assumption | with_reducible apply below_drew1 | with_reducible apply below_alloc | with_reducible refine below_setRow ?_ (Nat.le_refl _) _ | (refine below_step ?_ ‹Below _ _ w4›)))
      clear hK K
      try simp only [Act.put, List.setIfInBounds_toArray, List.set_cons_zero, List.set_cons_succ]
      refine wpAnyH_take (i := 6) (v := ?_) rfl (by kernel_rfl) (by kernel_rfl) (by kernel_rfl) (fun _ _ _ h => h) (Or.inl ⟨by rfl, ?_⟩) (by assumption) ?_
      rotate_left
      · intro w hSw; (try dsimp only at hSw); go_simp; (try with_reducible rfl)
      try simp only [Act.put, List.setIfInBounds_toArray, List.set_cons_zero, List.set_cons_succ]
      refine wpAnyH_ready (rs := [7]) (by kernel_rfl) (by simp) ?_
      refine AllReadyH.cons rfl (fun K hK => ?_) AllReadyH.nil
      go_simp
      refine hK.out _ _ ?_ (fun hHeld => ?_)
      · exact KEEP.out _ (by repeat (first | exact Below.refl _ _ | assumption | with_reducible apply below_drew1 | with_reducible apply below_alloc | with_reducible refine below_setRow ?_ (Nat.le_refl _) _ | (refine below_step ?_ ‹Below _ _ w4›)))
      clear hK K
      try simp only [Act.put, List.setIfInBounds_toArray, List.set_cons_zero, List.set_cons_succ]
      refine wpAnyH_ready (rs := [8]) (by kernel_rfl) (by simp) ?_
      refine AllReadyH.cons rfl (fun K hK => ?_) AllReadyH.nil
      go_simp
      refine hK.out _ _ ?_ (fun hHeld => ?_)
      · exact KEEP.out _ (by repeat (first | exact Below.refl _ _ | assumption | with_reducible apply below_drew1 | with_reducible apply below_alloc | with_reducible refine below_setRow ?_ (Nat.le_refl _) _ | (refine below_step ?_ ‹Below _ _ w4›)))
      clear hK K
      try simp only [Act.put, List.setIfInBounds_toArray, List.set_cons_zero, List.set_cons_succ]
      refine wpAnyH_done (by kernel_rfl) ?_ _
      refine NoPanic.normal ?_
      have BX := Aside0.mk (blk_new w4 (.cells #[.int .i64 p.g, .slice A1 p.pool.length c1, .slice (some ad) p.codes.length c2, .int .i64 b.f, .int .i64 b.regs, .slice A5 b.consts.length c5, .slice A6 b.ops.length c6, .slice A7 b.deps.length c7, .slice A8 out.length c8] 78))
      have BB := Aside0.mk (show Below w.heap.size w (w4.alloc (.cells #[.int .i64 p.g, .slice A1 p.pool.length c1, .slice (some ad) p.codes.length c2, .int .i64 b.f, .int .i64 b.regs, .slice A5 b.consts.length c5, .slice A6 b.ops.length c6, .slice A7 b.deps.length c7, .slice A8 out.length c8] 78)) from below_alloc (below_step (below_step b3.out (below_drew1 (Below.refl _ _))) hb4) _)
      have BD := Aside0.mk (Kd.C_alloc hC8 (.cells #[.int .i64 p.g, .slice A1 p.pool.length c1, .slice (some ad) p.codes.length c2, .int .i64 b.f, .int .i64 b.regs, .slice A5 b.consts.length c5, .slice A6 b.ops.length c6, .slice A7 b.deps.length c7, .slice A8 out.length c8] 78))
      have B2 := Aside0.mk (blk_alloc (blk_below (blk_drew dx2.out) hb4) (.cells #[.int .i64 p.g, .slice A1 p.pool.length c1, .slice (some ad) p.codes.length c2, .int .i64 b.f, .int .i64 b.regs, .slice A5 b.consts.length c5, .slice A6 b.ops.length c6, .slice A7 b.deps.length c7, .slice A8 out.length c8] 78))
      have HDO := Aside0.mk hdo
      clear hdo hR4 hb4 hc8 hC8 hHeld HDP b3 dx1 dx2 KEEP kc0 kc1 kc2 oc0 oc1 oc2 oc3 oc4
      generalize w4.heap.size = gb at *
      generalize w4.alloc (.cells #[.int .i64 p.g, .slice A1 p.pool.length c1, .slice (some ad) p.codes.length c2, .int .i64 b.f, .int .i64 b.regs, .slice A5 b.consts.length c5, .slice A6 b.ops.length c6, .slice A7 b.deps.length c7, .slice A8 out.length c8] 78) = wq at *
      rotate_left
      go_simp
      skip
      refine hK.out _ _ ?_ (fun hHeld => ?_)
      · exact KEEP.out _ (by repeat (first | exact Below.refl _ _ | assumption | with_reducible apply below_drew1 | with_reducible apply below_alloc | with_reducible refine below_setRow ?_ (Nat.le_refl _) _ | (refine below_step ?_ ‹Below _ _ w4›)))
      clear hK K
      try simp only [Act.put, List.setIfInBounds_toArray, List.set_cons_zero, List.set_cons_succ]
      refine wpAnyH_ready (rs := [5]) (by kernel_rfl) (by simp) ?_
      refine AllReadyH.cons rfl (fun K hK => ?_) AllReadyH.nil
      go_simp
      (go_at_call 42; refine (HDP.out _ (below_step b3.out (by first | exact below_drew1 (Below.refl _ _) | exact below_drew1 (below_alloc (Below.refl _ _) _)))).mono ?_; rintro e w4 ⟨v, out, rfl, hdo, hR4, hb4⟩; obtain ⟨A8, c8, rfl, hc8, hC8⟩ := Kd.R_reads hR4)
      refine hK.out _ _ ?_ (fun hHeld => ?_)
      · exact KEEP.out _ (by repeat (first | exact Below.refl _ _ | assumption | with_reducible apply below_drew1 | with_reducible apply below_alloc | with_reducible refine below_setRow ?_ (Nat.le_refl _) _ | (refine below_step ?_ ‹Below _ _ w4›)))
      clear hK K
      try simp only [Act.put, List.setIfInBounds_toArray, List.set_cons_zero, List.set_cons_succ]
      refine wpAnyH_take (i := 6) (v := ?_) rfl (by kernel_rfl) (by kernel_rfl) (by kernel_rfl) (fun _ _ _ h => h) (Or.inl ⟨by rfl, ?_⟩) (by assumption) ?_
      rotate_left
      · intro w hSw; (try dsimp only at hSw); go_simp; (try with_reducible rfl)
      try simp only [Act.put, List.setIfInBounds_toArray, List.set_cons_zero, List.set_cons_succ]
      refine wpAnyH_ready (rs := [8]) (by kernel_rfl) (by simp) ?_
      refine AllReadyH.cons rfl (fun K hK => ?_) AllReadyH.nil
      rw [if_pos (by rfl)]
      refine wp_store_row (o := { dst := none, op := .store 78 (.tmp 5) (.tmp 75), type := 0, pos := _, after := _, guard := none }) _ _ _ rfl _ _ rfl rfl 78 #[.int .i64 0, .slice none 0 0, .slice none 0 0, .int .i64 0, .int .i64 0, .slice none 0 0, .slice none 0 0, .slice none 0 0, .slice none 0 0] (blk_below (blk_drew (blk_new w3 _)) hb4) (by kernel_rfl) rfl (by simp [Value.oneCell']) ?_
      go_simp
      try simp only [Act.put, List.setIfInBounds_toArray, List.set_cons_zero, List.set_cons_succ]
      refine hK.out _ _ ?_ (fun hHeld => ?_)
      · exact KEEP.out _ (by repeat (first | exact Below.refl _ _ | assumption | with_reducible apply below_drew1 | with_reducible apply below_alloc | with_reducible refine below_setRow ?_ (Nat.le_refl _) _ | (refine below_step ?_ ‹Below _ _ w4›)))
      clear hK K
      try simp only [Act.put, List.setIfInBounds_toArray, List.set_cons_zero, List.set_cons_succ]
      refine wpAnyH_done (by kernel_rfl) ?_ _
      refine NoPanic.normal ?_
      have hrow := blk_below (blk_drew (blk_new w3 (.cells #[.int .i64 0, .slice none 0 0, .slice none 0 0, .int .i64 0, .int .i64 0, .slice none 0 0, .slice none 0 0, .slice none 0 0, .slice none 0 0] 78))) hb4
      have BX := Aside0.mk (setRow_heap w4 w3.heap.size _ #[.int .i64 p.g, .slice A1 p.pool.length c1, .slice (some ad) p.codes.length c2, .int .i64 b.f, .int .i64 b.regs, .slice A5 b.consts.length c5, .slice A6 b.ops.length c6, .slice A7 b.deps.length c7, .slice A8 out.length c8] 78 (0, 0) hrow)
      have BB := Aside0.mk (show Below w.heap.size w (w4.setRow w3.heap.size #[.int .i64 p.g, .slice A1 p.pool.length c1, .slice (some ad) p.codes.length c2, .int .i64 b.f, .int .i64 b.regs, .slice A5 b.consts.length c5, .slice A6 b.ops.length c6, .slice A7 b.deps.length c7, .slice A8 out.length c8]) from below_setRow (below_step (below_step b3.out (below_drew1 (below_alloc (Below.refl _ _) _))) hb4) b3.out.size _)
      have BD := Aside0.mk (Kd.R_reads' (Kd.R_step (w1 := w4.setRow w3.heap.size #[.int .i64 p.g, .slice A1 p.pool.length c1, .slice (some ad) p.codes.length c2, .int .i64 b.f, .int .i64 b.regs, .slice A5 b.consts.length c5, .slice A6 b.ops.length c6, .slice A7 b.deps.length c7, .slice A8 out.length c8]) (Kd.R_bound hR4) (fun k hk _ => setRow_other _ _ _ _ (by have := hk.2.1; simp at this; omega)))).2.2
      have B2 := Aside0.mk ((setRow_other w4 w3.heap.size (w.heap.size + 1) #[.int .i64 p.g, .slice A1 p.pool.length c1, .slice (some ad) p.codes.length c2, .int .i64 b.f, .int .i64 b.regs, .slice A5 b.consts.length c5, .slice A6 b.ops.length c6, .slice A7 b.deps.length c7, .slice A8 out.length c8] (by have := blk_lt dx2.out; omega)).trans (blk_below (blk_drew (blk_alloc dx2.out _)) hb4))
      have HDO := Aside0.mk hdo
      clear hdo hR4 hb4 hc8 hC8 hHeld HDP b3 dx1 dx2 KEEP kc0 kc1 kc2 oc0 oc1 oc2 oc3 oc4 hrow
      generalize w3.heap.size = gb at *
      generalize w4.setRow gb #[.int .i64 p.g, .slice A1 p.pool.length c1, .slice (some ad) p.codes.length c2, .int .i64 b.f, .int .i64 b.regs, .slice A5 b.consts.length c5, .slice A6 b.ops.length c6, .slice A7 b.deps.length c7, .slice A8 out.length c8] = wq at *
      all_goals
        have oc3 := blk_cell B2.out 3
        simp at oc3
        have HOL := Aside0.mk (show out.length ≤ 1000000 from by
          have := HDO.out.1
          have h2 := (HPP.out.2.2.2.2.2.2 b.f f0 f1).1
          unfold HeadC at h2
          omega)
        go_wp2
        go_loopw [4, 79] (fun v4 v79 wr => ∃ i : Nat, i ≤ b.ops.length ∧ v4 = .int .i64 0 ∧ v79 = .int .i64 i ∧ Aside0 (wr.heap[gb]? = some (.cells #[.int .i64 p.g, .slice A1 p.pool.length c1, .slice (some ad) p.codes.length c2, .int .i64 b.f, .int .i64 b.regs, .slice A5 b.consts.length c5, .slice A6 b.ops.length c6, .slice A7 b.deps.length c7, .slice A8 out.length c8] 78 (0, 0))) ∧ Aside0 (wr.heap[w.heap.size + 1]? = some (.cells #[.int .i64 b.f, .int .i64 b.regs, .slice A5 b.consts.length c5, .slice A6 b.ops.length c6, .slice A7 b.deps.length c7] 30 (0, 0))) ∧ Aside0 (Below w.heap.size w wr) ∧ Aside0 ((Kd.int .i64).C wr A8 out.length out) ∧ Aside0 (∀ t : Int, 0 ≤ t → t < i → opB p.g p.pool.length (rd_T52 p.codes b.f).f2 b.regs b.consts.length b.ops out t = true)) (fun _ v79 _ => b.ops.length - (intOf v79).toNat)
        case atStart => exact ⟨0, Nat.zero_le _, rfl, rfl, BX, B2, BB, BD, ⟨fun t a b => by omega⟩⟩
        case round =>
          clear BX B2 BB BD oc3
          obtain ⟨i, hi, rfl, rfl, B1, B2, BB, BD, HI⟩ := hrel
          have hi9 : (i : Int) ≤ 16000 := by omega
          have hi0 : 0 ≤ (i : Int) := by omega
          by_cases hin : i < b.ops.length
          · have hin2 : (i : Int) < b.ops.length := by omega
            obtain ⟨l5, l6, l8⟩ := HLL.out i hi0 hin2
            have hcal := checker_op p.g A1 p.pool.length c1 (some ad) c2 p.codes b.f b.regs A5 b.consts.length c5 A6 c6 b.ops (.slice A7 b.deps.length c7) A8 c8 out i wr (Kd.C_below HR.out BB.out) f0 f1 (Kd.C_below HOPS.out BB.out) hi0 hin2 l5 l6 l8 BD.out HOL.out
            clear l5 l6 l8
            have kc0 := blk_cell B1.out 0
            have kc1 := blk_cell B1.out 1
            have kc2 := blk_cell B1.out 2
            have kc3 := blk_cell B1.out 3
            have kc4 := blk_cell B1.out 4
            have kc5 := blk_cell B1.out 5
            have kc6 := blk_cell B1.out 6
            have kc7 := blk_cell B1.out 7
            have kc8 := blk_cell B1.out 8
            simp at kc0 kc1 kc2 kc3 kc4 kc5 kc6 kc7 kc8
            cases hb : opB p.g p.pool.length (rd_T52 p.codes b.f).f2 b.regs b.consts.length b.ops out i
            · have HNO := Aside0.mk (said_no (P := CheckB p b) (fun h => by have := h.2.2.2.2.1 out HDO.out i hi0 hin2; rw [hb] at this; cases this))
              rw [hb] at hcal
              have HCAL := Aside0.mk hcal
              clear hcal hb hin
              go_wp2_with (go_at_call 43; refine HCAL.out.mono ?_; rintro e w' ⟨rfl, hb'⟩)
              go_ret
              exact ⟨by rw [HNO.out]; rfl, below_step BB.out hb'⟩
            · have HTR := Aside0.mk hb
              rw [hb] at hcal
              have HCAL := Aside0.mk hcal
              have HIN := Aside0.mk hin
              clear hcal hb hin
              go_wp2_with (go_at_call 43; refine HCAL.out.mono ?_; rintro e w' ⟨rfl, hb'⟩)
              go_roundw
              case rel =>
                have := HIN.out
                refine ⟨i + 1, by omega, rfl, by go_num, ⟨blk_below B1.out hb'⟩, ⟨blk_below B2.out hb'⟩, ⟨below_step BB.out hb'⟩, ⟨Kd.C_below BD.out hb'⟩, ⟨fun t a b => ?_⟩⟩
                by_cases q : t = i
                · rw [q]; exact HTR.out
                · exact HI.out t a (by omega)
              case measure => have := HIN.out; simp [intOf]; omega
          · have hin2 : ¬ (i : Int) < b.ops.length := by omega
            obtain rfl : i = b.ops.length := by omega
            have oc3 := blk_cell B2.out 3
            simp at oc3
            have z0 : 0 ≤ (b.ops.length : Int) - 1 := by omega
            have z1 : (b.ops.length : Int) - 1 < b.ops.length := by omega
            obtain ⟨ad2, _, _, _, _, _, _, e2, hz0, _⟩ := at_T42 (Kd.C_below HOPS.out BB.out) ((b.ops.length : Int) - 1) z0 z1
            subst e2
            have hz1 := hz0
            rw [show ((b.ops.length : Int) - 1).toNat = b.ops.length - 1 by omega] at hz1
            have HOUT := Aside0.mk (show OpsB p b from fun out' h' t a c => by
              rw [DepthsOf.same (HPP.out.2.2.2.2.2.2 b.f f0 f1).2.2 h' HDO.out]
              exact HI.out t a c)
            by_cases hk : LastB b
            · have HYES := Aside0.mk (said_yes (P := CheckB p b) ⟨HPP.out, HHB.out, HYV.out, HYD.out, HOUT.out, hk⟩)
              unfold LastB at hk
              generalize rd_T42 b.ops ((b.ops.length : Int) - 1) = y at *
              clear hin
              rcases hk with hk | hk
              · have q1 : (y.f0 != 17) = false := by simpa using hk
                have q2 : (y.f0 == 17) = true := by simpa using hk
                clear hk
                go_wp2
                go_ret
                exact ⟨by rw [HYES.out]; rfl, BB.out⟩
              · have q1 : (y.f0 != 17) = true := by rw [hk]; rfl
                have q2 : (y.f0 == 17) = false := by rw [hk]; rfl
                have q3 : (y.f0 != 24) = false := by rw [hk]; rfl
                have q4 : (y.f0 == 24) = true := by rw [hk]; rfl
                clear hk
                go_wp2
                go_ret
                exact ⟨by rw [HYES.out]; rfl, BB.out⟩
            · have HNO := Aside0.mk (said_no (P := CheckB p b) (fun h => hk h.2.2.2.2.2))
              unfold LastB at hk
              generalize rd_T42 b.ops ((b.ops.length : Int) - 1) = y at *
              clear hin
              have q1 : (y.f0 != 17) = true := by rw [bne_iff_ne]; omega
              have q2 : (y.f0 == 17) = false := by rw [beq_eq_false_iff_ne]; omega
              have q3 : (y.f0 != 24) = true := by rw [bne_iff_ne]; omega
              have q4 : (y.f0 == 24) = false := by rw [beq_eq_false_iff_ne]; omega
              clear hk
              go_wp2
              go_ret
              exact ⟨by rw [HNO.out]; rfl, BB.out⟩
end Go.Proofs.Ytmifocbodfkeeaa.K
