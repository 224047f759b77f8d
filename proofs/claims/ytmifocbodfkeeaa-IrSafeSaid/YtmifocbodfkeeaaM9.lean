import Derived.Test.YtmifocbodfkeeaaM8
namespace Go.Proofs.Ytmifocbodfkeeaa.K
open Go.RowKit Go.Proofs.YtmifocbodfkeeaaW.PrintWords Go.Proofs.YtmifocbodfkeeaaW.PrintLast Go.Proofs.YtmifocbodfkeeaaW.PrintMore
set_option linter.unusedVariables false
set_option linter.unusedSimpArgs false
set_option maxHeartbeats 4000000 in
set_option maxRecDepth 100000 in
theorem lists_30 (v0 v1 v2 : Value) (f regs : Int) (v5 v6 v7 v8 : Value) (k a b c d : Int) (A5 : Option Addr) (c5 : Nat) (rl : List Int) (A6 : Option Addr) (c6 : Nat) (cl : List S116) (pc : Int) (v9 : Value) (w : World)
    (hr : (Kd.int .i64).C w A5 rl.length rl) (hl : rl.length ≤ 1000000) (hcs : k116.C w A6 cl.length cl) (hl2 : cl.length ≤ 1000000) (hk : k = 30) :
    Calls Try.prog 89 #[.agg #[v0, v1, v2, .int .i64 f, .int .i64 regs, v5, v6, v7, v8], .agg #[.int .i64 k, .int .i64 a, .int .i64 b, .int .i64 c, .int .i64 d, .slice A5 rl.length c5, .slice A6 cl.length c6, .int .i64 pc, v9]] w
      fun e w' => e = .returned (.bool (listsB regs k c rl cl)) ∧ Below w.heap.size w w' := by
  have HB := Aside0.mk (Below.refl w.heap.size w)
  have HR := Aside0.mk hr
  have HC := Aside0.mk hcs
  clear hr hcs
  have n1 : 0 ≤ (rl.length : Int) := by omega
  have n2 : 0 ≤ (cl.length : Int) := by omega
  have hb2 : 0 ≤ built2 c ∧ built2 c ≤ 2 := by
    by_cases h : 1 ≤ c ∧ c ≤ 7
    · have := built2_pos c h; omega
    · have := built2_zero c h; omega
  have B2 : Below w.heap.size w ((w.alloc (.cells #[v0, v1, v2, .int .i64 f, .int .i64 regs, v5, v6, v7, v8] 78)).alloc (.cells #[.int .i64 k, .int .i64 a, .int .i64 b, .int .i64 c, .int .i64 d, .slice A5 rl.length c5, .slice A6 cl.length c6, .int .i64 pc, v9] 42)) := below_alloc (below_alloc (Below.refl _ _) _) _
  have hc1 := contains_regs 120 (.inl rfl) regs w.heap.size A5 c5 rl _ (Kd.C_below HR.out B2) hl (by rw [blk_cell (blk_alloc (blk_new w _) _) 4]; rfl)
  have hc2 := fun W (hb : Below w.heap.size w W) => contains_cases A6 c6 cl W (Kd.C_below HC.out hb) hl2
  have B22 := Aside0.mk B2
  clear B2
  have hls : listsB regs k c rl cl = (decide (0 ≤ (rl.length : Int) ∧ (rl.length : Int) ≤ 0) && regsB regs rl && (decide (1 ≤ (cl.length : Int) ∧ (cl.length : Int) ≤ 4) && cl.all caseB)) := by
    unfold listsB leastO mostO
    simp [hk]
  rw [hls]
  clear hls
  have e1 : (k == 20) = false := by rw [hk]; rfl
  have e2 : (k == 21) = false := by rw [hk]; rfl
  have e3 : (k == 22) = false := by rw [hk]; rfl
  have e4 : (k != 30) = false := by rw [hk]; rfl
  clear hk
  rcases Nat.eq_zero_or_pos rl.length with hz | hz
  · obtain rfl := List.eq_nil_of_length_eq_zero hz
    clear hz
    have hrg : regsB regs [] = true := rfl
    simp only [List.length_nil] at hc1 B22 n1 ⊢
    cases hcg : cl.all caseB
    all_goals
      rw [hrg] at hc1
      rw [hcg] at hc2
      have HC1 := Aside0.mk hc1
      have HC2 := Aside0.mk hc2
      clear hc1 hc2 hcg
      rw [hrg]
      clear hrg
      go_enter Try.func89, Try.ntmps89
      go_wp2_with (first | (go_at_call 119; refine (tree_Built _ _).mono ?_; rintro e w' ⟨rfl, rfl⟩) | (go_at_call 91; refine HC1.out.mono ?_; rintro e w1 ⟨rfl, hb1⟩; obtain ⟨hq1, hq2⟩ := bcell hb1) | (go_at_call 121; refine (HC2.out _ (below_step B22.out hb1)).mono ?_; rintro e w2 ⟨rfl, hb2'⟩))
      all_goals
        go_ret
        refine ⟨ret_bool ?_, ?_⟩
        · (try clear hq1 hq2)
          clear HC1 HC2 B22 HB
          first
          | rfl
          | (simp; done)
          | (simp; omega)
          | (rw [Bool.eq_iff_iff]; simp; done)
          | (rw [Bool.eq_iff_iff]; simp; omega)
          | (rw [Bool.eq_iff_iff]; simp_all; done)
          | (rw [Bool.eq_iff_iff]; simp_all; omega)
        · first
          | exact below_step (below_step B22.out hb1) hb2'
          | exact below_step B22.out hb1
          | exact B22.out
  · have hz1 : 1 ≤ (rl.length : Int) := by omega
    have HZ := Aside0.mk (show decide (0 ≤ (rl.length : Int) ∧ (rl.length : Int) ≤ 0) = false from decide_eq_false (by omega))
    cases hrg : regsB regs rl
    all_goals
      cases hcg : cl.all caseB
      all_goals
        rw [hrg] at hc1
        rw [hcg] at hc2
        have HC1 := Aside0.mk hc1
        have HC2 := Aside0.mk hc2
        clear hc1 hc2 hrg hcg
        go_enter Try.func89, Try.ntmps89
        go_wp2_with (first | (go_at_call 119; refine (tree_Built _ _).mono ?_; rintro e w' ⟨rfl, rfl⟩) | (go_at_call 91; refine HC1.out.mono ?_; rintro e w1 ⟨rfl, hb1⟩; obtain ⟨hq1, hq2⟩ := bcell hb1) | (go_at_call 121; refine (HC2.out _ (below_step B22.out hb1)).mono ?_; rintro e w2 ⟨rfl, hb2'⟩))
        all_goals
          go_ret
          refine ⟨ret_bool ?_, ?_⟩
          · (try clear hq1 hq2)
            clear HC1 HC2 B22 HB
            first
            | rfl
            | (rw [HZ.out]; rfl)
            | (simp; done)
            | (simp; omega)
            | (rw [Bool.eq_iff_iff]; simp; done)
            | (rw [Bool.eq_iff_iff]; simp; omega)
            | (rw [Bool.eq_iff_iff]; simp_all; done)
            | (rw [Bool.eq_iff_iff]; simp_all; omega)
          · first
            | exact below_step (below_step B22.out hb1) hb2'
            | exact below_step B22.out hb1
            | exact B22.out
set_option maxHeartbeats 4000000 in
set_option maxRecDepth 100000 in
theorem lists_0 (v0 v1 v2 : Value) (f regs : Int) (v5 v6 v7 v8 : Value) (k a b c d : Int) (A5 : Option Addr) (c5 : Nat) (rl : List Int) (A6 : Option Addr) (c6 : Nat) (cl : List S116) (pc : Int) (v9 : Value) (w : World)
    (hr : (Kd.int .i64).C w A5 rl.length rl) (hl : rl.length ≤ 1000000) (hcs : k116.C w A6 cl.length cl) (hl2 : cl.length ≤ 1000000) (hk : ¬ k = 20 ∧ ¬ k = 21 ∧ ¬ k = 22 ∧ ¬ k = 30) :
    Calls Try.prog 89 #[.agg #[v0, v1, v2, .int .i64 f, .int .i64 regs, v5, v6, v7, v8], .agg #[.int .i64 k, .int .i64 a, .int .i64 b, .int .i64 c, .int .i64 d, .slice A5 rl.length c5, .slice A6 cl.length c6, .int .i64 pc, v9]] w
      fun e w' => e = .returned (.bool (listsB regs k c rl cl)) ∧ Below w.heap.size w w' := by
  have HB := Aside0.mk (Below.refl w.heap.size w)
  have HR := Aside0.mk hr
  have HC := Aside0.mk hcs
  clear hr hcs
  have n1 : 0 ≤ (rl.length : Int) := by omega
  have n2 : 0 ≤ (cl.length : Int) := by omega
  have hb2 : 0 ≤ built2 c ∧ built2 c ≤ 2 := by
    by_cases h : 1 ≤ c ∧ c ≤ 7
    · have := built2_pos c h; omega
    · have := built2_zero c h; omega
  have B2 : Below w.heap.size w ((w.alloc (.cells #[v0, v1, v2, .int .i64 f, .int .i64 regs, v5, v6, v7, v8] 78)).alloc (.cells #[.int .i64 k, .int .i64 a, .int .i64 b, .int .i64 c, .int .i64 d, .slice A5 rl.length c5, .slice A6 cl.length c6, .int .i64 pc, v9] 42)) := below_alloc (below_alloc (Below.refl _ _) _) _
  have hc1 := contains_regs 120 (.inl rfl) regs w.heap.size A5 c5 rl _ (Kd.C_below HR.out B2) hl (by rw [blk_cell (blk_alloc (blk_new w _) _) 4]; rfl)
  have hc2 := fun W (hb : Below w.heap.size w W) => contains_cases A6 c6 cl W (Kd.C_below HC.out hb) hl2
  have B22 := Aside0.mk B2
  clear B2
  have hls : listsB regs k c rl cl = (decide (0 ≤ (rl.length : Int) ∧ (rl.length : Int) ≤ 0) && regsB regs rl && decide ((cl.length : Int) = 0)) := by
    unfold listsB leastO mostO
    simp [hk]
  rw [hls]
  clear hls
  have e1 : (k == 20) = false := by rw [beq_eq_false_iff_ne]; omega
  have e2 : (k == 21) = false := by rw [beq_eq_false_iff_ne]; omega
  have e3 : (k == 22) = false := by rw [beq_eq_false_iff_ne]; omega
  have e4 : (k != 30) = true := by rw [bne_iff_ne]; omega
  clear hk
  rcases Nat.eq_zero_or_pos rl.length with hz | hz
  · obtain rfl := List.eq_nil_of_length_eq_zero hz
    clear hz
    have hrg : regsB regs [] = true := rfl
    simp only [List.length_nil] at hc1 B22 n1 ⊢
    cases hcg : cl.all caseB
    all_goals
      rw [hrg] at hc1
      rw [hcg] at hc2
      have HC1 := Aside0.mk hc1
      have HC2 := Aside0.mk hc2
      clear hc1 hc2 hcg
      rw [hrg]
      clear hrg
      go_enter Try.func89, Try.ntmps89
      go_wp2_with (first | (go_at_call 119; refine (tree_Built _ _).mono ?_; rintro e w' ⟨rfl, rfl⟩) | (go_at_call 91; refine HC1.out.mono ?_; rintro e w1 ⟨rfl, hb1⟩; obtain ⟨hq1, hq2⟩ := bcell hb1) | (go_at_call 121; refine (HC2.out _ (below_step B22.out hb1)).mono ?_; rintro e w2 ⟨rfl, hb2'⟩))
      all_goals
        go_ret
        refine ⟨ret_bool ?_, ?_⟩
        · (try clear hq1 hq2)
          clear HC1 HC2 B22 HB
          first
          | rfl
          | (simp; done)
          | (simp; omega)
          | (rw [Bool.eq_iff_iff]; simp; done)
          | (rw [Bool.eq_iff_iff]; simp; omega)
          | (rw [Bool.eq_iff_iff]; simp_all; done)
          | (rw [Bool.eq_iff_iff]; simp_all; omega)
        · first
          | exact below_step (below_step B22.out hb1) hb2'
          | exact below_step B22.out hb1
          | exact B22.out
  · have hz1 : 1 ≤ (rl.length : Int) := by omega
    have HZ := Aside0.mk (show decide (0 ≤ (rl.length : Int) ∧ (rl.length : Int) ≤ 0) = false from decide_eq_false (by omega))
    cases hrg : regsB regs rl
    all_goals
      cases hcg : cl.all caseB
      all_goals
        rw [hrg] at hc1
        rw [hcg] at hc2
        have HC1 := Aside0.mk hc1
        have HC2 := Aside0.mk hc2
        clear hc1 hc2 hrg hcg
        go_enter Try.func89, Try.ntmps89
        go_wp2_with (first | (go_at_call 119; refine (tree_Built _ _).mono ?_; rintro e w' ⟨rfl, rfl⟩) | (go_at_call 91; refine HC1.out.mono ?_; rintro e w1 ⟨rfl, hb1⟩; obtain ⟨hq1, hq2⟩ := bcell hb1) | (go_at_call 121; refine (HC2.out _ (below_step B22.out hb1)).mono ?_; rintro e w2 ⟨rfl, hb2'⟩))
        all_goals
          go_ret
          refine ⟨ret_bool ?_, ?_⟩
          · (try clear hq1 hq2)
            clear HC1 HC2 B22 HB
            first
            | rfl
            | (rw [HZ.out]; rfl)
            | (simp; done)
            | (simp; omega)
            | (rw [Bool.eq_iff_iff]; simp; done)
            | (rw [Bool.eq_iff_iff]; simp; omega)
            | (rw [Bool.eq_iff_iff]; simp_all; done)
            | (rw [Bool.eq_iff_iff]; simp_all; omega)
          · first
            | exact below_step (below_step B22.out hb1) hb2'
            | exact below_step B22.out hb1
            | exact B22.out
theorem checker_lists (v0 v1 v2 : Value) (f regs : Int) (v5 v6 v7 v8 : Value) (k a b c d : Int) (A5 : Option Addr) (c5 : Nat) (rl : List Int) (A6 : Option Addr) (c6 : Nat) (cl : List S116) (pc : Int) (v9 : Value) (w : World)
    (hr : (Kd.int .i64).C w A5 rl.length rl) (hl : rl.length ≤ 1000000) (hcs : k116.C w A6 cl.length cl) (hl2 : cl.length ≤ 1000000) :
    Calls Try.prog 89 #[.agg #[v0, v1, v2, .int .i64 f, .int .i64 regs, v5, v6, v7, v8], .agg #[.int .i64 k, .int .i64 a, .int .i64 b, .int .i64 c, .int .i64 d, .slice A5 rl.length c5, .slice A6 cl.length c6, .int .i64 pc, v9]] w
      fun e w' => e = .returned (.bool (listsB regs k c rl cl)) ∧ Below w.heap.size w w' := by
  by_cases h20 : k = 20
  · exact lists_20 v0 v1 v2 f regs v5 v6 v7 v8 k a b c d A5 c5 rl A6 c6 cl pc v9 w hr hl hcs hl2 h20
  · by_cases h21 : k = 21
    · exact lists_21 v0 v1 v2 f regs v5 v6 v7 v8 k a b c d A5 c5 rl A6 c6 cl pc v9 w hr hl hcs hl2 h21
    · by_cases h22 : k = 22
      · exact lists_22 v0 v1 v2 f regs v5 v6 v7 v8 k a b c d A5 c5 rl A6 c6 cl pc v9 w hr hl hcs hl2 h22
      · by_cases h30 : k = 30
        · exact lists_30 v0 v1 v2 f regs v5 v6 v7 v8 k a b c d A5 c5 rl A6 c6 cl pc v9 w hr hl hcs hl2 h30
        · exact lists_0 v0 v1 v2 f regs v5 v6 v7 v8 k a b c d A5 c5 rl A6 c6 cl pc v9 w hr hl hcs hl2 ⟨h20, h21, h22, h30⟩
end Go.Proofs.Ytmifocbodfkeeaa.K
namespace Go.Proofs.Ytmifocbodfkeeaa.K
open Go.RowKit Go.Proofs.YtmifocbodfkeeaaW.PrintWords Go.Proofs.YtmifocbodfkeeaaW.PrintLast Go.Proofs.YtmifocbodfkeeaaW.PrintMore
set_option linter.unusedVariables false
set_option linter.unusedSimpArgs false
/-- May the first of A, B, C and D be? -/
def lettersB (g np sites regs nc no k a b c d : Int) : Nat → Bool
  | 0 => true
  | i + 1 => lettersB g np sites regs nc no k a b c d i && partB g np sites regs nc no (letter k i) (partO a b c d i)
/-- What stands behind the letters. -/
def tailB (regs : Int) (ops : List S42) (ds : List Int) (x : S42) (at' : Int) : Bool :=
  (decide (0 ≤ x.f7 ∧ x.f7 < ds.length) && decide (at0 ds x.f7 = x.f8.length) && regsB regs x.f8) && (!decide (17 ≤ x.f0 ∧ x.f0 ≤ 19) || decide (at' < x.f1) || decide ((rd_T42 ops x.f1).f0 = 1))
/-- May an operation be? -/
def opB (g np sites regs nc : Int) (ops : List S42) (ds : List Int) (at' : Int) : Bool :=
  decide (1 ≤ (rd_T42 ops at').f0 ∧ (rd_T42 ops at').f0 ≤ 30) && listsB regs (rd_T42 ops at').f0 (rd_T42 ops at').f3 (rd_T42 ops at').f5 (rd_T42 ops at').f6 && lettersB g np sites regs nc ops.length (rd_T42 ops at').f0 (rd_T42 ops at').f1 (rd_T42 ops at').f2 (rd_T42 ops at').f3 (rd_T42 ops at').f4 (fieldsS (rd_T42 ops at').f0).size && tailB regs ops ds (rd_T42 ops at') at'
theorem fields_some {k : Int} (h : 1 ≤ k ∧ k ≤ 30) : (fieldsS k).toList.isEmpty = false := by
  rcases kinds30 h with rfl | rfl | rfl | rfl | rfl | rfl | rfl | rfl | rfl | rfl | rfl | rfl | rfl | rfl | rfl | rfl | rfl | rfl | rfl | rfl | rfl | rfl | rfl | rfl | rfl | rfl | rfl | rfl | rfl | rfl
  all_goals decide +kernel
theorem fields_goes {k : Int} (h : 17 ≤ k ∧ k ≤ 19) : letter k 0 = 116 ∧ 1 ≤ (fieldsS k).size := by
  obtain rfl | rfl | rfl : k = 17 ∨ k = 18 ∨ k = 19 := by omega
  all_goals decide +kernel
theorem letters_mono {g np sites regs nc no k a b c d : Int} {n : Nat} (h : lettersB g np sites regs nc no k a b c d n = true) : ∀ i : Nat, i < n → partB g np sites regs nc no (letter k i) (partO a b c d i) = true := by
  induction n with
  | zero => intro i hi; omega
  | succ n ih =>
    simp only [lettersB, Bool.and_eq_true] at h
    intro i hi
    by_cases e : i = n
    · subst e; exact h.2
    · exact ih h.1 i (by omega)
theorem letters_goes {g np sites regs nc no k a b c d : Int} (h : lettersB g np sites regs nc no k a b c d (fieldsS k).size = true) (hk : 17 ≤ k ∧ k ≤ 19) : 0 ≤ a ∧ a < no := by
  obtain ⟨e, hs⟩ := fields_goes hk
  have := letters_mono h 0 hs
  rw [e] at this
  simpa [partB, partO] using this
/-- What is known where one goes through the letters. -/
structure OpAt (bx : Value → Value → Value → Value → Value → Value → Value → Value → Value → Prop) (v0 v1 v2 v3 v4 v5 v6 v7 v8 : Value) (k a b c d : Int) (u5 u6 : Value) (pc : Int) (u8 : Value) (w : World) (cb ob pb it : Nat) (i : Nat) (wr : World) : Prop where
  chk : wr.heap[cb]? = some (.cells #[v0, v1, v2, v3, v4, v5, v6, v7, v8] 78 (0, 0))
  box : wr.heap[ob]? = some (.cells #[.int .i64 k, .int .i64 a, .int .i64 b, .int .i64 c, .int .i64 d, u5, u6, .int .i64 pc, u8] 42 (0, 0))
  par : wr.heap[pb]? = some (.cells #[.int .i64 a, .int .i64 b, .int .i64 c, .int .i64 d] 83 (0, 0))
  iter : wr.heap[it]? = some (.stringIter (fieldsS k) i)
  below : Below w.heap.size w wr
set_option maxHeartbeats 4000000 in
set_option maxRecDepth 100000 in
theorem op_bad1 (g : Int) (A1 : Option Addr) (n1 c1 : Nat) (A2 : Option Addr) (c2 : Nat) (codes : List S52) (f regs : Int) (A5 : Option Addr) (n5 c5 : Nat) (A6 : Option Addr) (c6 : Nat) (ops : List S42) (v7 : Value) (A8 : Option Addr) (c8 : Nat) (ds : List Int) (at' : Int) (w : World)
    (hops : k42.C w A6 ops.length ops) (h0 : 0 ≤ at') (h1 : at' < ops.length) (hl5 : (rd_T42 ops at').f5.length ≤ 1000000) (hl6 : (rd_T42 ops at').f6.length ≤ 1000000)
    (hbad : (decide (1 ≤ (rd_T42 ops at').f0 ∧ (rd_T42 ops at').f0 ≤ 30) && listsB regs (rd_T42 ops at').f0 (rd_T42 ops at').f3 (rd_T42 ops at').f5 (rd_T42 ops at').f6) = false) :
    Calls Try.prog 43 #[.agg #[.int .i64 g, .slice A1 n1 c1, .slice A2 codes.length c2, .int .i64 f, .int .i64 regs, .slice A5 n5 c5, .slice A6 ops.length c6, v7, .slice A8 ds.length c8], .int .i64 at'] w fun e w' => e = .returned (.bool (opB g n1 (rd_T52 codes f).f2 regs n5 ops ds at')) ∧ Below w.heap.size w w' := by
  have HB := Aside0.mk (Below.refl w.heap.size w)
  obtain ⟨ad, B5, d5, B6, d6, B8, d8, e, hx0, hx1, hx2, hx3, hx4, hx5, hx6, hx7, hx8, m5, hr5, m6, hr6, m8, hr8⟩ := at_T42 hops at' h0 h1
  subst e
  clear hops hr8 m8 m5 m6
  have hfin : opB g n1 (rd_T52 codes f).f2 regs n5 ops ds at' = false := by unfold opB; rw [hbad]; rfl
  rw [hfin]
  clear hfin
  generalize rd_T42 ops at' = x at *
  have hy0 := cell1 hx0
  have hy1 := cell1 hx1
  have hy2 := cell1 hx2
  have hy3 := cell1 hx3
  have hy4 := cell1 hx4
  have hy5 := cell1 hx5
  have hy6 := cell1 hx6
  have hy7 := cell1 hx7
  have hy8 := cell1 hx8
  clear hx0 hx1 hx2 hx3 hx4 hx5 hx6 hx7 hx8
  have HL := fun W (hb : Below w.heap.size w W) => checker_lists (.int .i64 g) (.slice A1 n1 c1) (.slice A2 codes.length c2) f regs (.slice A5 n5 c5) (.slice (some ad) ops.length c6) v7 (.slice A8 ds.length c8) x.f0 x.f1 x.f2 x.f3 x.f4 B5 d5 x.f5 B6 d6 x.f6 x.f7 (.slice B8 x.f8.length d8) W (Kd.C_below hr5 hb) hl5 (Kd.C_below hr6 hb) hl6
  have HLL := Aside0.mk HL
  clear HL hr5 hr6
  by_cases hk : 1 ≤ x.f0 ∧ x.f0 ≤ 30
  · have hkb := fields_some hk
    have hli : listsB regs x.f0 x.f3 x.f5 x.f6 = false := by simpa [hk] using hbad
    rw [hli] at HLL
    clear hli hbad hk
    go_enter Try.func43, Try.ntmps43
    go_wp2_with (first | (go_at_call 54; refine (ir_fields _ _).mono ?_; rintro e w' ⟨rfl, rfl⟩) | (go_at_call 89; refine (HLL.out _ (below_alloc (below_alloc HB.out _) _)).mono ?_; rintro e w1 ⟨rfl, hb1⟩))
    go_ret
    exact ⟨rfl, below_step (below_alloc (below_alloc HB.out _) _) hb1⟩
  · have hkb := fieldsS_none hk
    clear hbad hk HLL
    go_enter Try.func43, Try.ntmps43
    go_wp2_with (first | (go_at_call 54; refine (ir_fields _ _).mono ?_; rintro e w' ⟨rfl, rfl⟩))
    go_ret
    exact ⟨rfl, below_alloc (below_alloc HB.out _) _⟩
end Go.Proofs.Ytmifocbodfkeeaa.K
