import Derived.Test.YtmifocbodfkeeaaM9
import Derived.StillTailTactics
namespace Go.Proofs.Ytmifocbodfkeeaa.K
open Go.RowKit Go.Proofs.YtmifocbodfkeeaaW.PrintWords Go.Proofs.YtmifocbodfkeeaaW.PrintLast Go.Proofs.YtmifocbodfkeeaaW.PrintMore
set_option linter.unusedVariables false
set_option linter.unusedSimpArgs false
/-- What is known where one goes through the letters. -/
structure OpsAt (v0 v1 v2 v3 v4 v5 v6 v7 v8 : Value) (k a b c d : Int) (u5 u6 : Value) (pc : Int) (u8 : Value) (w : World) (cb ob pb it : Nat) (i : Nat) (wr : World) : Prop where
  chk : wr.heap[cb]? = some (.cells #[v0, v1, v2, v3, v4, v5, v6, v7, v8] 78 (0, 0))
  box : wr.heap[ob]? = some (.cells #[.int .i64 k, .int .i64 a, .int .i64 b, .int .i64 c, .int .i64 d, u5, u6, .int .i64 pc, u8] 42 (0, 0))
  par : wr.heap[pb]? = some (.cells #[.int .i64 a, .int .i64 b, .int .i64 c, .int .i64 d] 83 (0, 0))
  iter : wr.heap[it]? = some (.stringIter (fieldsS k) i)
  below : Below w.heap.size w wr
set_option maxHeartbeats 4000000 in
set_option maxRecDepth 100000 in
theorem op_good1 (g : Int) (A1 : Option Addr) (n1 c1 : Nat) (A2 : Option Addr) (c2 : Nat) (codes : List S52) (f regs : Int) (A5 : Option Addr) (n5 c5 : Nat) (A6 : Option Addr) (c6 : Nat) (ops : List S42) (v7 : Value) (A8 : Option Addr) (c8 : Nat) (ds : List Int) (at' : Int) (w : World)
    (hcodes : k52.C w A2 codes.length codes) (hf0 : 0 ≤ f) (hf1 : f < codes.length)
    (hops : k42.C w A6 ops.length ops) (h0 : 0 ≤ at') (h1 : at' < ops.length) (hl5 : (rd_T42 ops at').f5.length ≤ 1000000) (hl6 : (rd_T42 ops at').f6.length ≤ 1000000) (hl8 : (rd_T42 ops at').f8.length ≤ 1000000)
    (hds : (Kd.int .i64).C w A8 ds.length ds) (hld : ds.length ≤ 1000000)
    (hk : 1 ≤ (rd_T42 ops at').f0 ∧ (rd_T42 ops at').f0 ≤ 30) (hli : listsB regs (rd_T42 ops at').f0 (rd_T42 ops at').f3 (rd_T42 ops at').f5 (rd_T42 ops at').f6 = true) :
    Calls Try.prog 43 #[.agg #[.int .i64 g, .slice A1 n1 c1, .slice A2 codes.length c2, .int .i64 f, .int .i64 regs, .slice A5 n5 c5, .slice A6 ops.length c6, v7, .slice A8 ds.length c8], .int .i64 at'] w fun e w' => e = .returned (.bool (opB g n1 (rd_T52 codes f).f2 regs n5 ops ds at')) ∧ Below w.heap.size w w' := by
  have HB := Aside0.mk (Below.refl w.heap.size w)
  have HOPS := Aside0.mk hops
  have HDS := Aside0.mk hds
  have HCODES := Aside0.mk hcodes
  obtain ⟨ad, B5, d5, B6, d6, B8, d8, e, hx0, hx1, hx2, hx3, hx4, hx5, hx6, hx7, hx8, m5, hr5, m6, hr6, m8, hr8⟩ := at_T42 hops at' h0 h1
  subst e
  clear hops m8 m5 m6 hcodes hds
  have hfin : opB g n1 (rd_T52 codes f).f2 regs n5 ops ds at' = (lettersB g n1 (rd_T52 codes f).f2 regs n5 ops.length (rd_T42 ops at').f0 (rd_T42 ops at').f1 (rd_T42 ops at').f2 (rd_T42 ops at').f3 (rd_T42 ops at').f4 (fieldsS (rd_T42 ops at').f0).size && tailB regs ops ds (rd_T42 ops at') at') := by
    unfold opB; rw [hli]; simp [hk]
  rw [hfin]
  clear hfin
  generalize rd_T42 ops at' = x at *
  have hy0 := cell1 hx0
  have hy1 := cell1 hx1
  have hy2 := cell1 hx2
  have hy3 := cell1 hx3
  have hy4 := cell1 hx4
  have hy5 := cell1 hx5
  have hy6 := cell1 hx6
  have hy7 := cell1 hx7
  have hy8 := cell1 hx8
  clear hx0 hx1 hx2 hx3 hx4 hx5 hx6 hx7 hx8
  have HL := fun W (hb : Below w.heap.size w W) => checker_lists (.int .i64 g) (.slice A1 n1 c1) (.slice A2 codes.length c2) f regs (.slice A5 n5 c5) (.slice (some ad) ops.length c6) v7 (.slice A8 ds.length c8) x.f0 x.f1 x.f2 x.f3 x.f4 B5 d5 x.f5 B6 d6 x.f6 x.f7 (.slice B8 x.f8.length d8) W (Kd.C_below hr5 hb) hl5 (Kd.C_below hr6 hb) hl6
  rw [hli] at HL
  have HLL := Aside0.mk HL
  have HR8 := Aside0.mk hr8
  clear HL hr5 hr6 hr8
  have hkb := fields_some hk
  have HK := Aside0.mk hk
  have hsz := fieldsS_size x.f0
  clear hli hk
  have bx1 := Aside0.mk (blk_alloc (blk_new w (.cells #[.int .i64 g, .slice A1 n1 c1, .slice A2 codes.length c2, .int .i64 f, .int .i64 regs, .slice A5 n5 c5, .slice (some ad) ops.length c6, v7, .slice A8 ds.length c8] 78)) (.cells #[.int .i64 x.f0, .int .i64 x.f1, .int .i64 x.f2, .int .i64 x.f3, .int .i64 x.f4, .slice B5 x.f5.length d5, .slice B6 x.f6.length d6, .int .i64 x.f7, .slice B8 x.f8.length d8] 42))
  have bx2 := Aside0.mk (blk_new (w.alloc (.cells #[.int .i64 g, .slice A1 n1 c1, .slice A2 codes.length c2, .int .i64 f, .int .i64 regs, .slice A5 n5 c5, .slice (some ad) ops.length c6, v7, .slice A8 ds.length c8] 78)) (.cells #[.int .i64 x.f0, .int .i64 x.f1, .int .i64 x.f2, .int .i64 x.f3, .int .i64 x.f4, .slice B5 x.f5.length d5, .slice B6 x.f6.length d6, .int .i64 x.f7, .slice B8 x.f8.length d8] 42))
  have e1 : (w.alloc (.cells #[.int .i64 g, .slice A1 n1 c1, .slice A2 codes.length c2, .int .i64 f, .int .i64 regs, .slice A5 n5 c5, .slice (some ad) ops.length c6, v7, .slice A8 ds.length c8] 78)).heap.size = w.heap.size + 1 := by simp
  rw [e1] at bx2
  clear e1
  go_enter Try.func43, Try.ntmps43
  go_wp2_with (first | (go_at_call 54; refine (ir_fields _ _).mono ?_; rintro e w' ⟨rfl, rfl⟩) | (go_at_call 89; refine (HLL.out _ (below_alloc (below_alloc HB.out _) _)).mono ?_; rintro e w1 ⟨rfl, hb1⟩; obtain ⟨hq1, hq2⟩ := bcell hb1) | (go_at_call 53; refine (ir_parts _ _ _ _ _ _ _ _ _ _).mono ?_; rintro e w2 ⟨rfl, hb2⟩))
  have b2 := Aside0.mk (below_step (below_step (below_alloc (below_alloc HB.out _) _) hb1) hb2)
  replace bx1 := Aside0.mk (blk_below (blk_below bx1.out hb1) hb2)
  replace bx2 := Aside0.mk (blk_below (blk_below bx2.out hb1) hb2)
  clear hb1 hb2 hq1 hq2
  have hne : w.heap.size + 1 < w2.heap.size := blk_lt bx2.out
  have LL : Aside0 (OpsAt (.int .i64 g) (.slice A1 n1 c1) (.slice A2 codes.length c2) (.int .i64 f) (.int .i64 regs) (.slice A5 n5 c5) (.slice (some ad) ops.length c6) v7 (.slice A8 ds.length c8) x.f0 x.f1 x.f2 x.f3 x.f4 (.slice B5 x.f5.length d5) (.slice B6 x.f6.length d6) x.f7 (.slice B8 x.f8.length d8) w w.heap.size (w.heap.size + 1) w2.heap.size (w2.heap.size + 1) 0 ((w2.alloc (.cells #[.int .i64 x.f1, .int .i64 x.f2, .int .i64 x.f3, .int .i64 x.f4] 83)).iter (fieldsS x.f0) 0)) := by
    refine ⟨⟨blk_alloc (blk_alloc bx1.out _) _, blk_alloc (blk_alloc bx2.out _) _, blk_alloc (blk_new _ _) _, ?_, below_alloc (below_alloc b2.out _) _⟩⟩
    have := World.iter_heap (w2.alloc (.cells #[.int .i64 x.f1, .int .i64 x.f2, .int .i64 x.f3, .int .i64 x.f4] 83)) (fieldsS x.f0) 0
    simpa using this
  have B2S := Aside0.mk b2.out.size
  clear bx1 bx2 b2 hy0 hy1 hy2 hy3 hy4 hy5 hy6 hy7 hy8 HLL
  generalize hit : w2.heap.size + 1 = it at *
  generalize hpb : w2.heap.size = pb at *
  go_loopg [4] ((fieldsS x.f0).size) (fun gg v4 wr => ∃ i : Nat, i ≤ (fieldsS x.f0).size ∧ (fieldsS x.f0).size - i ≤ gg ∧ v4 = .bool false ∧ Aside0 (OpsAt (.int .i64 g) (.slice A1 n1 c1) (.slice A2 codes.length c2) (.int .i64 f) (.int .i64 regs) (.slice A5 n5 c5) (.slice (some ad) ops.length c6) v7 (.slice A8 ds.length c8) x.f0 x.f1 x.f2 x.f3 x.f4 (.slice B5 x.f5.length d5) (.slice B6 x.f6.length d6) x.f7 (.slice B8 x.f8.length d8) w w.heap.size (w.heap.size + 1) pb it i wr) ∧ Aside0 (lettersB g n1 (rd_T52 codes f).f2 regs n5 ops.length x.f0 x.f1 x.f2 x.f3 x.f4 i = true))
  case atStart => exact ⟨0, Nat.zero_le _, by omega, rfl, LL, ⟨rfl⟩⟩
  case round =>
    clear LL
    obtain ⟨i, hi, hg, rfl, LT, HLET⟩ := hrel
    have ne1 : w.heap.size ≠ it := by omega
    have ne2 : pb ≠ it := by omega
    have ne3 : w.heap.size + 1 ≠ it := by omega
    by_cases hin : i < (fieldsS x.f0).size
    · have hnx := fun ty => Lib.run_next_ascii_at (P := Try.prog) wr it (fieldsS x.f0) i ty LT.out.iter hin (fieldsS_ascii x.f0 i hin)
      have hle : letter x.f0 i = ((fieldsS x.f0)[i]'hin).toNat := by unfold letter; rw [dif_pos hin]
      rw [← hle] at hnx
      have HLT := Aside0.mk hin
      have i4 : (i : Int) < 4 := by omega
      have i0 : 0 ≤ (i : Int) := by omega
      have px : (wr.iterAt it (fieldsS x.f0) (i + 1)).cell? ⟨pb, i, none⟩ = some (.int .i64 (partO x.f1 x.f2 x.f3 x.f4 i)) := by
        rw [World.cell?_of_block (w := wr) (Lib.iterAt_other wr it pb _ _ ne2), blk_cell LT.out.par i]
        rcases i with _ | _ | _ | _ | i
        · rfl
        · rfl
        · rfl
        · rfl
        · omega
      have L6 : OpsAt (.int .i64 g) (.slice A1 n1 c1) (.slice A2 codes.length c2) (.int .i64 f) (.int .i64 regs) (.slice A5 n5 c5) (.slice (some ad) ops.length c6) v7 (.slice A8 ds.length c8) x.f0 x.f1 x.f2 x.f3 x.f4 (.slice B5 x.f5.length d5) (.slice B6 x.f6.length d6) x.f7 (.slice B8 x.f8.length d8) w w.heap.size (w.heap.size + 1) pb it (i + 1) (wr.iterAt it (fieldsS x.f0) (i + 1)) := by
        exact ⟨(Lib.iterAt_other wr it _ _ _ ne1).trans LT.out.chk, (Lib.iterAt_other wr it _ _ _ ne3).trans LT.out.box, (Lib.iterAt_other wr it _ _ _ ne2).trans LT.out.par, Lib.iterAt_heap wr it _ _ _ LT.out.iter, Lib.below_iterAt LT.out.below (by omega) _ _⟩
      have kc0 := blk_cell L6.chk 0
      have kc1 := blk_cell L6.chk 1
      have kc2 := blk_cell L6.chk 2
      have kc3 := blk_cell L6.chk 3
      have kc4 := blk_cell L6.chk 4
      have kc5 := blk_cell L6.chk 5
      have kc6 := blk_cell L6.chk 6
      have kc7 := blk_cell L6.chk 7
      have kc8 := blk_cell L6.chk 8
      simp at kc0 kc1 kc2 kc3 kc4 kc5 kc6 kc7 kc8
      have HP := fun W (hb : Below w.heap.size w W) => checker_part g A1 n1 c1 A2 c2 codes f regs A5 n5 c5 (some ad) ops.length c6 v7 (.slice A8 ds.length c8) (letter x.f0 i) (partO x.f1 x.f2 x.f3 x.f4 i) W (Kd.C_below HCODES.out hb) hf0 hf1
      have HLI := Aside0.mk L6
      cases hpt : partB g n1 (rd_T52 codes f).f2 regs n5 ops.length (letter x.f0 i) (partO x.f1 x.f2 x.f3 x.f4 i)
      · have HF := Aside0.mk (show lettersB g n1 (rd_T52 codes f).f2 regs n5 ops.length x.f0 x.f1 x.f2 x.f3 x.f4 (fieldsS x.f0).size = false from by
          cases hq : lettersB g n1 (rd_T52 codes f).f2 regs n5 ops.length x.f0 x.f1 x.f2 x.f3 x.f4 (fieldsS x.f0).size
          · rfl
          · exact absurd (letters_mono hq i hin) (by rw [hpt]; simp))
        rw [hpt] at HP
        have HPP := Aside0.mk HP
        clear hle hin L6 HP hpt
        go_wp2
        go_region_with (go_at_call 90; refine (HPP.out _ (below_drew1 HLI.out.below)).mono ?_; rintro e w3 ⟨rfl, hb3⟩; obtain ⟨hq1, hq2⟩ := bcell hb3)
        all_goals
          go_wp2_with fail
          go_ret
          exact ⟨by rw [HF.out]; rfl, below_step (below_drew1 HLI.out.below) hb3⟩
      · have HT := Aside0.mk (show lettersB g n1 (rd_T52 codes f).f2 regs n5 ops.length x.f0 x.f1 x.f2 x.f3 x.f4 (i + 1) = true from by
          simp only [lettersB, hpt, HLET.out, Bool.and_self])
        rw [hpt] at HP
        have HPP := Aside0.mk HP
        clear hle hin L6 HP hpt
        go_wp2
        go_region_with (go_at_call 90; refine (HPP.out _ (below_drew1 HLI.out.below)).mono ?_; rintro e w3 ⟨rfl, hb3⟩; obtain ⟨hq1, hq2⟩ := bcell hb3)
        all_goals
          have L7 := Aside0.mk (show OpsAt (.int .i64 g) (.slice A1 n1 c1) (.slice A2 codes.length c2) (.int .i64 f) (.int .i64 regs) (.slice A5 n5 c5) (.slice (some ad) ops.length c6) v7 (.slice A8 ds.length c8) x.f0 x.f1 x.f2 x.f3 x.f4 (.slice B5 x.f5.length d5) (.slice B6 x.f6.length d6) x.f7 (.slice B8 x.f8.length d8) w w.heap.size (w.heap.size + 1) pb it (i + 1) w3 from ⟨blk_below (blk_drew HLI.out.chk) hb3, blk_below (blk_drew HLI.out.box) hb3, blk_below (blk_drew HLI.out.par) hb3, blk_below (blk_drew HLI.out.iter) hb3, below_step (below_drew1 HLI.out.below) hb3⟩)
          go_wp2_with fail
          go_roundg ((fieldsS x.f0).size - (i + 1))
          case measure => have := HLT.out; omega
          case rel => exact ⟨i + 1, HLT.out, by omega, rfl, L7, HT⟩
    · have hnx := fun ty => Lib.run_next_end_at (P := Try.prog) wr it (fieldsS x.f0) i ty LT.out.iter hin
      obtain rfl : i = (fieldsS x.f0).size := by omega
      have kc0 := blk_cell LT.out.chk 0
      have kc1 := blk_cell LT.out.chk 1
      have kc2 := blk_cell LT.out.chk 2
      have kc3 := blk_cell LT.out.chk 3
      have kc4 := blk_cell LT.out.chk 4
      have kc5 := blk_cell LT.out.chk 5
      have kc6 := blk_cell LT.out.chk 6
      have kc7 := blk_cell LT.out.chk 7
      have kc8 := blk_cell LT.out.chk 8
      simp at kc0 kc1 kc2 kc3 kc4 kc5 kc6 kc7 kc8
      have oc0 := blk_cell LT.out.box 0
      have oc1 := blk_cell LT.out.box 1
      have oc2 := blk_cell LT.out.box 2
      have oc3 := blk_cell LT.out.box 3
      have oc4 := blk_cell LT.out.box 4
      have oc5 := blk_cell LT.out.box 5
      have oc6 := blk_cell LT.out.box 6
      have oc7 := blk_cell LT.out.box 7
      have oc8 := blk_cell LT.out.box 8
      simp at oc0 oc1 oc2 oc3 oc4 oc5 oc6 oc7 oc8
      have z0 : 0 ≤ (ds.length : Int) := by omega
      have z1 : 0 ≤ (x.f8.length : Int) := by omega
      have HRG := Aside0.mk (contains_regs 92 (.inr rfl) regs w.heap.size B8 d8 x.f8 wr.drew (Kd.C_below HR8.out (below_drew1 LT.out.below)) hl8 (by rw [blk_cell (blk_drew LT.out.chk) 4]; rfl))
      clear hin
      have H36 := Aside0.mk (fun W => ir_below x.f7 ds.length W)
      by_cases hpc : 0 ≤ x.f7 ∧ x.f7 < ds.length
      · obtain ⟨pd, pe, px⟩ := Kd.at_int (Kd.C_below HDS.out LT.out.below) x.f7 hpc.1 hpc.2
        obtain ⟨pc0, pc1⟩ := id hpc
        subst pe
        have h36 := H36.out
        simp only [decide_eq_true hpc] at h36
        replace H36 := Aside0.mk h36
        clear h36
        by_cases hem : rd ds x.f7 = x.f8.length
        · have hemb : (rd ds x.f7 == (x.f8.length : Int)) = true := by simpa using hem
          have hemb2 : (rd ds x.f7 != (x.f8.length : Int)) = false := by simpa using hem
          have HPC := Aside0.mk hpc
          have HEM := Aside0.mk hem
          clear hpc hem
          cases hrg : regsB regs x.f8
          · have HF := Aside0.mk (show tailB regs ops ds x at' = false by unfold tailB; rw [hrg]; simp)
            rw [hrg] at HRG
            clear hrg
            go_wp2
            refine wp_region_still_tail 23 (by kernel_rfl) (by kernel_rfl) ?_
            simp only [List.take_succ_cons, List.take_zero, List.drop_succ_cons, List.drop_zero]
            change wpStill _ _ wr.drew _ _ _
            repeat (first | still_step | (refine wpStill_step (fun K hK => ?_); go_simp; refine ⟨_, H36.out _, hK _ ?_⟩; clear hK K))
            refine wpStill_nil ?_
            change wpList _ _ _ _ _ wr.drew
            go_wp2_with (go_at_call 91; refine HRG.out.mono ?_; rintro e w3 ⟨rfl, hb3⟩)
            go_ret
            exact ⟨by rw [HLET.out, HF.out]; rfl, below_step (below_drew1 LT.out.below) hb3⟩
          · have HF := Aside0.mk (show tailB regs ops ds x at' = (!decide (17 ≤ x.f0 ∧ x.f0 ≤ 19) || decide (at' < x.f1) || decide ((rd_T42 ops x.f1).f0 = 1)) by unfold tailB at0; rw [hrg, decide_eq_true HPC.out, decide_eq_true HEM.out]; simp)
            rw [hrg] at HRG
            clear hrg
            by_cases hgo : 17 ≤ x.f0 ∧ x.f0 ≤ 19
            · have hgob := decide_eq_true hgo
              have HGO := Aside0.mk hgo
              clear hgo
              by_cases hlt : at' < x.f1
              · have hltb := decide_eq_true hlt
                go_wp2
                refine wp_region_still_tail 23 (by kernel_rfl) (by kernel_rfl) ?_
                simp only [List.take_succ_cons, List.take_zero, List.drop_succ_cons, List.drop_zero]
                change wpStill _ _ wr.drew _ _ _
                repeat (first | still_step | (refine wpStill_step (fun K hK => ?_); go_simp; refine ⟨_, H36.out _, hK _ ?_⟩; clear hK K))
                refine wpStill_nil ?_
                change wpList _ _ _ _ _ wr.drew
                go_wp2_with (first | (go_at_call 91; refine HRG.out.mono ?_; rintro e w3 ⟨rfl, hb3⟩; have tc0 := cell_later hb3 (show wr.drew.cell? _ = _ from oc0); have tc1 := cell_later hb3 (show wr.drew.cell? _ = _ from oc1); have tc6 := cell_later hb3 (show wr.drew.cell? _ = _ from kc6)) | (go_at_call 56; refine (ir_goes _ _).mono ?_; rintro e w' ⟨rfl, rfl⟩))
                go_ret
                exact ⟨ret_bool (by rw [HLET.out, HF.out, hgob, hltb]; rfl), below_step (below_drew1 LT.out.below) hb3⟩
              · have hltb := decide_eq_false hlt
                have hin := letters_goes HLET.out HGO.out
                obtain ⟨in0, in1⟩ := hin
                obtain ⟨ad2, _, _, _, _, _, _, e2, hz0, _⟩ := at_T42 (Kd.C_below HOPS.out LT.out.below) x.f1 in0 in1
                obtain rfl : ad = ad2 := (by injection e2)
                generalize rd_T42 ops x.f1 = y at *
                clear e2
                go_wp2
                refine wp_region_still_tail 23 (by kernel_rfl) (by kernel_rfl) ?_
                simp only [List.take_succ_cons, List.take_zero, List.drop_succ_cons, List.drop_zero]
                change wpStill _ _ wr.drew _ _ _
                repeat (first | still_step | (refine wpStill_step (fun K hK => ?_); go_simp; refine ⟨_, H36.out _, hK _ ?_⟩; clear hK K))
                refine wpStill_nil ?_
                change wpList _ _ _ _ _ wr.drew
                go_wp2_with (first | (go_at_call 91; refine HRG.out.mono ?_; rintro e w3 ⟨rfl, hb3⟩; have tc0 := cell_later hb3 (show wr.drew.cell? _ = _ from oc0); have tc1 := cell_later hb3 (show wr.drew.cell? _ = _ from oc1); have tc6 := cell_later hb3 (show wr.drew.cell? _ = _ from kc6); have tz0 := cell_later hb3 (show wr.drew.cell? _ = _ from hz0)) | (go_at_call 56; refine (ir_goes _ _).mono ?_; rintro e w' ⟨rfl, rfl⟩))
                go_ret
                exact ⟨ret_bool (by rw [HLET.out, HF.out, hgob, hltb, Bool.eq_iff_iff]; simp), below_step (below_drew1 LT.out.below) hb3⟩
            · have hgob := decide_eq_false hgo
              have HGO := Aside0.mk hgo
              clear hgo
              go_wp2
              refine wp_region_still_tail 23 (by kernel_rfl) (by kernel_rfl) ?_
              simp only [List.take_succ_cons, List.take_zero, List.drop_succ_cons, List.drop_zero]
              change wpStill _ _ wr.drew _ _ _
              repeat (first | still_step | (refine wpStill_step (fun K hK => ?_); go_simp; refine ⟨_, H36.out _, hK _ ?_⟩; clear hK K))
              refine wpStill_nil ?_
              change wpList _ _ _ _ _ wr.drew
              go_wp2_with (first | (go_at_call 91; refine HRG.out.mono ?_; rintro e w3 ⟨rfl, hb3⟩; have tc0 := cell_later hb3 (show wr.drew.cell? _ = _ from oc0); have tc1 := cell_later hb3 (show wr.drew.cell? _ = _ from oc1); have tc6 := cell_later hb3 (show wr.drew.cell? _ = _ from kc6)) | (go_at_call 56; refine (ir_goes _ _).mono ?_; rintro e w' ⟨rfl, rfl⟩))
              go_ret
              exact ⟨ret_bool (by rw [HLET.out, HF.out, hgob]; rfl), below_step (below_drew1 LT.out.below) hb3⟩
        · have hemb : (rd ds x.f7 == (x.f8.length : Int)) = false := by simpa using hem
          have hemb2 : (rd ds x.f7 != (x.f8.length : Int)) = true := by simpa using hem
          have HF := Aside0.mk (show tailB regs ops ds x at' = false by unfold tailB at0; simp [hem])
          clear hem hpc
          go_wp2
          go_quiet ((first | (go_at_call 36; exact Calls.quiet_of_same (H36.out _)) | fail))
          go_wp2_with fail
          go_ret
          exact ⟨by rw [HLET.out, HF.out]; rfl, pw_below_drewN LT.out.below _⟩
      · have h36 := H36.out
        simp only [decide_eq_false hpc] at h36
        have HF := Aside0.mk (show tailB regs ops ds x at' = false by unfold tailB; rw [decide_eq_false hpc]; rfl)
        replace H36 := Aside0.mk h36
        clear hpc h36
        go_wp2
        go_quiet ((first | (go_at_call 36; exact Calls.quiet_of_same (H36.out _)) | fail))
        go_wp2_with fail
        go_ret
        exact ⟨by rw [HLET.out, HF.out]; rfl, pw_below_drewN LT.out.below _⟩
theorem checker_op (g : Int) (A1 : Option Addr) (n1 c1 : Nat) (A2 : Option Addr) (c2 : Nat) (codes : List S52) (f regs : Int) (A5 : Option Addr) (n5 c5 : Nat) (A6 : Option Addr) (c6 : Nat) (ops : List S42) (v7 : Value) (A8 : Option Addr) (c8 : Nat) (ds : List Int) (at' : Int) (w : World)
    (hcodes : k52.C w A2 codes.length codes) (hf0 : 0 ≤ f) (hf1 : f < codes.length)
    (hops : k42.C w A6 ops.length ops) (h0 : 0 ≤ at') (h1 : at' < ops.length) (hl5 : (rd_T42 ops at').f5.length ≤ 1000000) (hl6 : (rd_T42 ops at').f6.length ≤ 1000000) (hl8 : (rd_T42 ops at').f8.length ≤ 1000000)
    (hds : (Kd.int .i64).C w A8 ds.length ds) (hld : ds.length ≤ 1000000) :
    Calls Try.prog 43 #[.agg #[.int .i64 g, .slice A1 n1 c1, .slice A2 codes.length c2, .int .i64 f, .int .i64 regs, .slice A5 n5 c5, .slice A6 ops.length c6, v7, .slice A8 ds.length c8], .int .i64 at'] w fun e w' => e = .returned (.bool (opB g n1 (rd_T52 codes f).f2 regs n5 ops ds at')) ∧ Below w.heap.size w w' := by
  by_cases hk : 1 ≤ (rd_T42 ops at').f0 ∧ (rd_T42 ops at').f0 ≤ 30
  · cases hli : listsB regs (rd_T42 ops at').f0 (rd_T42 ops at').f3 (rd_T42 ops at').f5 (rd_T42 ops at').f6
    · exact op_bad1 g A1 n1 c1 A2 c2 codes f regs A5 n5 c5 A6 c6 ops v7 A8 c8 ds at' w hops h0 h1 hl5 hl6 (by rw [hli]; simp)
    · exact op_good1 g A1 n1 c1 A2 c2 codes f regs A5 n5 c5 A6 c6 ops v7 A8 c8 ds at' w hcodes hf0 hf1 hops h0 h1 hl5 hl6 hl8 hds hld hk hli
  · exact op_bad1 g A1 n1 c1 A2 c2 codes f regs A5 n5 c5 A6 c6 ops v7 A8 c8 ds at' w hops h0 h1 hl5 hl6 (by rw [decide_eq_false hk]; rfl)
end Go.Proofs.Ytmifocbodfkeeaa.K
/-! A region whose first operations stand in one order, and whose others only read. -/
namespace Go.Proofs.Ytmifocbodfkeeaa.K
open Go.RowKit Go.Proofs.YtmifocbodfkeeaaW.PrintWords Go.Proofs.YtmifocbodfkeeaaW.PrintLast Go.Proofs.YtmifocbodfkeeaaW.PrintMore
set_option linter.unusedVariables false
set_option linter.unusedSimpArgs false
/-- What is asked behind the head. -/
def HeadQ (Q K : Exit → Act → World → Prop) : Exit → Act → World → Prop
  | .normal, a, w => K .normal a w
  | e, a, w => Q e a w
/-- The first operations stand in one order; the others may be walked in the text's order. -/
def headB (md : Region.Mode) (ops : Array Oper) (g : Nat) : Nat → Nat → Array Bool → Bool
  | 0, k, listed => Region.lexFrom md ops g k listed
  | f + 1, k, listed => decide (Region.ready md ops listed = [k]) && headB md ops g f (k + 1) (listed.setIfInBounds k true)
theorem letsOut_head {Q K : Exit → Act → World → Prop} (h : LetsOut (HeadQ Q K)) : LetsOut Q := by
  obtain ⟨a, w, h⟩ := h
  exact ⟨a, w, h⟩
theorem wpOp_head {P : Program} {ops : Array Oper} {Q K : Exit → Act → World → Prop} {i : Nat} {L : Act → World → Prop} {a : Act} {w : World} (hh : wpOp P ops (HeadQ Q K) i L a w) : wpOp P ops Q i L a w := by
  unfold wpOp at *
  split
  · rename_i q; simpa [q] using hh
  · rename_i o q
    simp only [q] at hh
    split
    · rename_i hw
      simp only [hw, if_true] at hh
      rcases hh with hh | hh
      · refine .inl ?_
        unfold Oper.wp at *
        generalize (execOp a.eval o).run P w = r at *
        cases r with
        | ok n w' =>
          cases n <;> simp only [Oper.upon] at hh ⊢ <;>
          first
            | exact hh
            | exact Calls.mono hh (fun e w'' he => by cases e <;> first | exact he | exact letsOut_head he)
        | halt x w' => cases x <;> simp only [Oper.upon] at hh ⊢ <;> exact hh
      · exact .inr ⟨hh.1, letsOut_head hh.2⟩
    · rename_i hw
      simpa [hw] using hh
theorem wpAny_of_headed {P : Program} {ops : Array Oper} {md : Region.Mode} {Q K : Exit → Act → World → Prop} {r : List Oper}
    (hK : ∀ (k : Nat) (listed : Array Bool) (a : Act) (w : World), Region.lexFrom md ops r.length k listed = true → (∀ j, r[j]? = ops[k + j]?) → K .normal a w → wpAny P md ops Q r.length listed a w) (l : List Oper) :
    ∀ (k : Nat) (listed : Array Bool) (a : Act) (w : World), (∀ j, (l ++ r)[j]? = ops[k + j]?) → headB md ops r.length l.length k listed = true → wpList P ops (HeadQ Q K) l a w → wpAny P md ops Q (l.length + r.length) listed a w := by
  induction l with
  | nil =>
    intro k listed a w hl hB h
    rw [List.length_nil, Nat.zero_add]
    exact hK k listed a w hB (by simpa using hl) h
  | cons o l ih =>
    intro k listed a w hl hB h
    have h0 : ops[k]? = some o := by simpa using (hl 0).symm
    simp only [List.length_cons, headB, Bool.and_eq_true, decide_eq_true_eq] at hB
    rw [show (o :: l).length + r.length = (l.length + r.length) + 1 by simp only [List.length_cons]; omega]
    refine ⟨fun h1 => (by rw [hB.1] at h1; cases h1), fun i hi => ?_⟩
    rw [hB.1] at hi
    obtain rfl : i = k := by simpa using hi
    have hw : wpOp P ops (HeadQ Q K) i (wpList P ops (HeadQ Q K) l) a w := by unfold wpOp; simp only [h0]; exact h
    exact wpOp_head (wpOp_mono (fun a' w' h' => ih (i + 1) _ a' w' (fun j => by have := hl (j + 1); simpa [Nat.add_assoc, Nat.add_comm 1 j] using this) hB.2 h') hw)
/-- The head in its one order; behind it reads alone, in the text's order. -/
theorem wp_region_head {P : Program} {id : Nat} {Q : Exit → Act → World → Prop} {a : Act} {w : World} {l : List Oper} (n : Nat) (hm : P.follows .mixedOrders = true) (hB : (Region.noSelect l.toArray && headB .any l.toArray (l.drop n).length (l.take n).length 0 (Array.replicate l.toArray.size false)) = true)
    (h : wpList P l.toArray (HeadQ Q fun _ a' w' => Aside0 (wpStill P l.toArray w' (fun a'' => Q .normal a'' w') (l.drop n) a')) (l.take n) a w.drew) : (Code.region id l.toArray true).wp P Q a w := by
  rw [Bool.and_eq_true] at hB
  refine wp_region_any hm ?_
  have := wpAny_of_headed (md := .any) (r := l.drop n) (Q := Q) (fun k listed a' w' hx hj hk => wpAny_of_still (Q := fun a'' => Q .normal a'' w') (fun _ h => h) _ _ _ (wpAnyS_lex hB.1 (l.drop n) k listed a' hj hx hk.out)) (l.take n) 0 _ a _ (fun j => by simp) hB.2 h
  rw [show (l.take n).length + (l.drop n).length = l.toArray.size by simp; omega] at this
  exact this
end Go.Proofs.Ytmifocbodfkeeaa.K
/-! Bodies that may be: the specification; the lists of constants and of what a body leans on. -/
namespace Go.Proofs.Ytmifocbodfkeeaa.K
open Go.RowKit Go.Proofs.YtmifocbodfkeeaaW.PrintWords Go.Proofs.YtmifocbodfkeeaaW.PrintLast Go.Proofs.YtmifocbodfkeeaaW.PrintMore
set_option linter.unusedVariables false
set_option linter.unusedSimpArgs false
def depB (d : S74) : Bool := decide (1 ≤ d.f0 ∧ 0 ≤ d.f1)
/-- May a body's numbers be? -/
def HeadB (p : Prg) (b : Bdy) : Prop :=
  (0 ≤ b.f ∧ b.f < (p.codes.length : Int)) ∧ (rd_T52 p.codes b.f).f1 ≤ b.regs ∧ b.regs ≤ 88 ∧ (b.consts.length : Int) ≤ 4000 ∧ 1 ≤ (b.ops.length : Int) ∧ (b.ops.length : Int) ≤ 16000 ∧ (b.deps.length : Int) ≤ 200
/-- May its operations be? -/
def OpsB (p : Prg) (b : Bdy) : Prop :=
  ∀ out : List Int, DepthsOf (rd_T52 p.codes b.f).f4 out → ∀ t : Int, 0 ≤ t → t < b.ops.length → opB p.g p.pool.length (rd_T52 p.codes b.f).f2 b.regs b.consts.length b.ops out t = true
def LastB (b : Bdy) : Prop := (rd_T42 b.ops ((b.ops.length : Int) - 1)).f0 = 17 ∨ (rd_T42 b.ops ((b.ops.length : Int) - 1)).f0 = 24
/-- May a body be? -/
def CheckB (p : Prg) (b : Bdy) : Prop := CheckP p ∧ HeadB p b ∧ b.consts.all valB = true ∧ b.deps.all depB = true ∧ OpsB p b ∧ LastB b
theorem DepthsOf.same {ins : List S67} {de : Int} {o1 o2 : List Int} (hg : Good ins de) (h1 : DepthsOf ins o1) (h2 : DepthsOf ins o2) : o1 = o2 := by
  refine List.ext_getElem (by rw [h1.1, h2.1]) fun i i1 i2 => ?_
  have e : ∀ (l : List Int) (h : i < l.length), at0 l (i : Int) = l[i] := by
    intro l h
    unfold at0 rd
    rw [Int.toNat_natCast, List.getD_eq_getElem?_getD, List.getElem?_eq_getElem h]
    rfl
  rw [← e o1 i1, ← e o2 i2]
  have hl := h1.1
  rcases h1.2 i (by omega) (by omega) with ⟨a0, a1⟩ | ⟨a0, a1⟩
  · rcases h2.2 i (by omega) (by omega) with ⟨b0, b1⟩ | ⟨b0, b1⟩
    · exact hg.2 _ _ _ a1 b1
    · exact absurd a1 (b1 _)
  · rcases h2.2 i (by omega) (by omega) with ⟨b0, b1⟩ | ⟨b0, b1⟩
    · exact absurd b1 (a1 _)
    · rw [a0, b0]
set_option maxHeartbeats 400000 in
theorem check_1 (v : S65) (w : World) (hs : v.f2.size ≤ 9223372036854775807) : Calls Try.prog 38 #[.agg #[.int .i64 v.f0, .int .i64 v.f1, .string v.f2]] w fun e w' => e = .returned (.bool (!valB v)) ∧ Below w.heap.size w w' := by
  have HB := Aside0.mk (Below.refl w.heap.size w)
  go_enter Try.func38, Try.ntmps38
  go_wp2_with (go_at_call 39; refine (value_Right v _ hs).mono ?_; rintro e w' ⟨rfl, hb'⟩)
  go_ret
  exact ⟨rfl, below_step (below_alloc HB.out _) hb'⟩
set_option maxHeartbeats 400000 in
theorem check_2 (x : S74) (w : World) : Calls Try.prog 41 #[.agg #[.int .i64 x.f0, .int .i64 x.f1]] w fun e w' => e = .returned (.bool (!depB x)) ∧ Below w.heap.size w w' := by
  have HB := Aside0.mk (Below.refl w.heap.size w)
  go_enter Try.func41, Try.ntmps41
  go_wp2
  all_goals
    go_ret
    refine ⟨ret_bool ?_, ?_⟩
    · clear HB
      rw [Bool.eq_iff_iff]
      simp [depB]
      try omega
    · repeat (first | (with_reducible first | exact HB.out | apply below_alloc | apply pw_below_drewN | apply below_drew1))
theorem contains_vals (A : Option Addr) (c : Nat) (xs : List S65) (w : World) (hr : k65.C w A xs.length xs) (hn : xs.length ≤ 1000000) (hsz : ∀ v ∈ xs, v.f2.size ≤ 9223372036854775807) :
    Calls Try.prog 37 #[.slice A xs.length c, .func (.func 38) #[] #[]] w fun e w' => e = .returned (.bool (!xs.all valB)) ∧ Below w.heap.size w w' := by
  have := contains_val 38 #[] (enters_of Try.func38 (by kernel_rfl) rfl) A c xs (fun i => !valB (xs.getD i z65)) w hr hn (by
    intro W i v hb hi hv
    subst hv
    refine check_1 _ W (hsz _ ?_)
    unfold rd_T65
    rw [Int.toNat_natCast, List.getD_eq_getElem?_getD, List.getElem?_eq_getElem hi]
    exact List.getElem_mem _)
  rw [any_not z65 xs valB] at this
  exact this
theorem contains_deps (A : Option Addr) (c : Nat) (xs : List S74) (w : World) (hr : k74.C w A xs.length xs) (hn : xs.length ≤ 1000000) :
    Calls Try.prog 40 #[.slice A xs.length c, .func (.func 41) #[] #[]] w fun e w' => e = .returned (.bool (!xs.all depB)) ∧ Below w.heap.size w w' := by
  have := contains_dep 41 #[] (enters_of Try.func41 (by kernel_rfl) rfl) A c xs (fun i => !depB (xs.getD i z74)) w hr hn (by
    intro W i v hb hi hv
    subst hv
    exact check_2 _ W)
  rw [any_not z74 xs depB] at this
  exact this
end Go.Proofs.Ytmifocbodfkeeaa.K
