import Derived.Test.YtmifocbodfkeeaaM7
namespace Go.Proofs.Ytmifocbodfkeeaa.K
open Go.RowKit Go.Proofs.YtmifocbodfkeeaaW.PrintWords Go.Proofs.YtmifocbodfkeeaaW.PrintLast Go.Proofs.YtmifocbodfkeeaaW.PrintMore
set_option linter.unusedVariables false
set_option linter.unusedSimpArgs false
theorem any_not {α : Type} (z : α) (l : List α) (q : α → Bool) : (List.range l.length).any (fun i => !q (l.getD i z)) = !l.all q := by
  rw [Bool.eq_iff_iff]
  simp only [List.any_eq_true, List.mem_range, Bool.not_eq_true', List.all_eq_false]
  constructor
  · rintro ⟨i, hi, h⟩
    rw [List.getD_eq_getElem?_getD, List.getElem?_eq_getElem hi] at h
    exact ⟨_, List.getElem_mem hi, by simpa using h⟩
  · rintro ⟨x, hx, h⟩
    obtain ⟨i, hi, rfl⟩ := List.getElem_of_mem hx
    exact ⟨i, hi, by rw [List.getD_eq_getElem?_getD, List.getElem?_eq_getElem hi]; simpa using h⟩
/-- Are all numbers registers? -/
def regsB (regs : Int) (l : List Int) : Bool := l.all (fun r => decide (0 ≤ r ∧ r < regs))
def caseB (x : S116) : Bool := decide (1 ≤ x.f0 ∧ -1 ≤ x.f1 ∧ 0 ≤ x.f2 ∧ x.f2 < 12)
def leastO (k c : Int) : Int := if k = 20 then 1 else if k = 21 then 2 else if k = 22 then built2 c else 0
def mostO (k c : Int) : Int := if k = 20 then 7 else if k = 21 then 8 else if k = 22 then built2 c else 0
/-- May an operation's Regs and Cases be? -/
def listsB (regs k c : Int) (rl : List Int) (cl : List S116) : Bool :=
  decide (leastO k c ≤ rl.length ∧ (rl.length : Int) ≤ mostO k c) && regsB regs rl && (if k = 30 then decide (1 ≤ (cl.length : Int) ∧ (cl.length : Int) ≤ 4) && cl.all caseB else decide ((cl.length : Int) = 0))
set_option maxHeartbeats 400000 in
theorem lists_1 (f : Nat) (hf : f = 120 ∨ f = 92) (x regs : Int) (b : Nat) (w : World) (h : w.cell? ⟨b, 4, none⟩ = some (.int .i64 regs)) : Calls Try.prog f #[.int .i64 x, .pointer (some ⟨b, 0, none⟩)] w fun e w' => e = .returned (.bool (!decide (0 ≤ x ∧ x < regs))) ∧ Below w.heap.size w w' := by
  rcases hf with rfl | rfl
  · go_enter Try.func120, Try.ntmps120
    go_wp2_with (go_at_call 36; refine (ir_below _ _ _).mono ?_; rintro e w' ⟨rfl, rfl⟩)
    go_ret
    exact ⟨ret_bool (by rw [Bool.eq_iff_iff]; simp; try omega), Below.refl _ _⟩
  · go_enter Try.func92, Try.ntmps92
    go_wp2_with (go_at_call 36; refine (ir_below _ _ _).mono ?_; rintro e w' ⟨rfl, rfl⟩)
    go_ret
    exact ⟨ret_bool (by rw [Bool.eq_iff_iff]; simp; try omega), Below.refl _ _⟩
set_option maxHeartbeats 400000 in
theorem lists_2 (x : S116) (w : World) : Calls Try.prog 122 #[.agg #[.int .i64 x.f0, .int .i64 x.f1, .int .i64 x.f2]] w fun e w' => e = .returned (.bool (!caseB x)) ∧ Below w.heap.size w w' := by
  have HB := Aside0.mk (Below.refl w.heap.size w)
  go_enter Try.func122, Try.ntmps122
  go_wp2_with (go_at_call 36; refine (ir_below _ _ _).mono ?_; rintro e w' ⟨rfl, rfl⟩)
  all_goals
    go_ret
    refine ⟨ret_bool ?_, ?_⟩
    · clear HB
      rw [Bool.eq_iff_iff]
      simp [caseB]
      omega
    · repeat (first | (with_reducible first | exact HB.out | apply below_alloc | apply pw_below_drewN | apply below_drew1))
theorem contains_regs (f : Nat) (hf : f = 120 ∨ f = 92) (regs : Int) (b : Nat) (A : Option Addr) (c : Nat) (xs : List Int) (w : World) (hr : (Kd.int .i64).C w A xs.length xs) (hn : xs.length ≤ 1000000) (h : w.cell? ⟨b, 4, none⟩ = some (.int .i64 regs)) :
    Calls Try.prog 91 #[.slice A xs.length c, .func (.func f) #[] #[.pointer (some ⟨b, 0, none⟩)]] w fun e w' => e = .returned (.bool (!regsB regs xs)) ∧ Below w.heap.size w w' := by
  have eg : ∀ args w, (callFunc f args).run Try.prog w = .ok (.enter f args) w := by
    rcases hf with rfl | rfl
    · exact enters_of Try.func120 (by kernel_rfl) rfl
    · exact enters_of Try.func92 (by kernel_rfl) rfl
  have := contains_int f #[.pointer (some ⟨b, 0, none⟩)] eg A c xs (fun i => !decide (0 ≤ xs.getD i 0 ∧ xs.getD i 0 < regs)) w hr hn (by
    intro W i v hb hi hv
    subst hv
    have e : rd xs (i : Int) = xs.getD i 0 := rfl
    rw [e]
    exact lists_1 f hf _ regs b W (cell_later hb h))
  rw [any_not 0 xs (fun r => decide (0 ≤ r ∧ r < regs))] at this
  exact this
theorem contains_cases (A : Option Addr) (c : Nat) (xs : List S116) (w : World) (hr : k116.C w A xs.length xs) (hn : xs.length ≤ 1000000) :
    Calls Try.prog 121 #[.slice A xs.length c, .func (.func 122) #[] #[]] w fun e w' => e = .returned (.bool (!xs.all caseB)) ∧ Below w.heap.size w w' := by
  have := contains_case 122 #[] (enters_of Try.func122 (by kernel_rfl) rfl) A c xs (fun i => !caseB (xs.getD i z116)) w hr hn (by
    intro W i v hb hi hv
    subst hv
    exact lists_2 _ W)
  rw [any_not z116 xs caseB] at this
  exact this
set_option maxHeartbeats 4000000 in
set_option maxRecDepth 100000 in
theorem lists_20 (v0 v1 v2 : Value) (f regs : Int) (v5 v6 v7 v8 : Value) (k a b c d : Int) (A5 : Option Addr) (c5 : Nat) (rl : List Int) (A6 : Option Addr) (c6 : Nat) (cl : List S116) (pc : Int) (v9 : Value) (w : World)
    (hr : (Kd.int .i64).C w A5 rl.length rl) (hl : rl.length ≤ 1000000) (hcs : k116.C w A6 cl.length cl) (hl2 : cl.length ≤ 1000000) (hk : k = 20) :
    Calls Try.prog 89 #[.agg #[v0, v1, v2, .int .i64 f, .int .i64 regs, v5, v6, v7, v8], .agg #[.int .i64 k, .int .i64 a, .int .i64 b, .int .i64 c, .int .i64 d, .slice A5 rl.length c5, .slice A6 cl.length c6, .int .i64 pc, v9]] w
      fun e w' => e = .returned (.bool (listsB regs k c rl cl)) ∧ Below w.heap.size w w' := by
  have HB := Aside0.mk (Below.refl w.heap.size w)
  have HR := Aside0.mk hr
  have HC := Aside0.mk hcs
  clear hr hcs
  have n1 : 0 ≤ (rl.length : Int) := by omega
  have n2 : 0 ≤ (cl.length : Int) := by omega
  have hb2 : 0 ≤ built2 c ∧ built2 c ≤ 2 := by
    by_cases h : 1 ≤ c ∧ c ≤ 7
    · have := built2_pos c h; omega
    · have := built2_zero c h; omega
  have B2 : Below w.heap.size w ((w.alloc (.cells #[v0, v1, v2, .int .i64 f, .int .i64 regs, v5, v6, v7, v8] 78)).alloc (.cells #[.int .i64 k, .int .i64 a, .int .i64 b, .int .i64 c, .int .i64 d, .slice A5 rl.length c5, .slice A6 cl.length c6, .int .i64 pc, v9] 42)) := below_alloc (below_alloc (Below.refl _ _) _) _
  have hc1 := contains_regs 120 (.inl rfl) regs w.heap.size A5 c5 rl _ (Kd.C_below HR.out B2) hl (by rw [blk_cell (blk_alloc (blk_new w _) _) 4]; rfl)
  have hc2 := fun W (hb : Below w.heap.size w W) => contains_cases A6 c6 cl W (Kd.C_below HC.out hb) hl2
  have B22 := Aside0.mk B2
  clear B2
  have hls : listsB regs k c rl cl = (decide (1 ≤ (rl.length : Int) ∧ (rl.length : Int) ≤ 7) && regsB regs rl && decide ((cl.length : Int) = 0)) := by
    unfold listsB leastO mostO
    simp [hk]
  rw [hls]
  clear hls
  have e1 : (k == 20) = true := by simpa using hk
  have e4 : (k != 30) = true := by rw [hk]; rfl
  clear hk
  cases hrg : regsB regs rl
  all_goals
    cases hcg : cl.all caseB
    all_goals
      rw [hrg] at hc1
      rw [hcg] at hc2
      have HC1 := Aside0.mk hc1
      have HC2 := Aside0.mk hc2
      clear hc1 hc2 hrg hcg
      go_enter Try.func89, Try.ntmps89
      go_wp2_with (first | (go_at_call 119; refine (tree_Built _ _).mono ?_; rintro e w' ⟨rfl, rfl⟩) | (go_at_call 91; refine HC1.out.mono ?_; rintro e w1 ⟨rfl, hb1⟩; obtain ⟨hq1, hq2⟩ := bcell hb1) | (go_at_call 121; refine (HC2.out _ (below_step B22.out hb1)).mono ?_; rintro e w2 ⟨rfl, hb2'⟩))
      all_goals
        go_ret
        refine ⟨ret_bool ?_, ?_⟩
        · (try clear hq1 hq2)
          clear HC1 HC2 B22 HB
          first
          | rfl
          | (simp; done)
          | (simp; omega)
          | (rw [Bool.eq_iff_iff]; simp; done)
          | (rw [Bool.eq_iff_iff]; simp; omega)
          | (rw [Bool.eq_iff_iff]; simp_all; done)
          | (rw [Bool.eq_iff_iff]; simp_all; omega)
        · first
          | exact below_step (below_step B22.out hb1) hb2'
          | exact below_step B22.out hb1
          | exact B22.out
set_option maxHeartbeats 4000000 in
set_option maxRecDepth 100000 in
theorem lists_21 (v0 v1 v2 : Value) (f regs : Int) (v5 v6 v7 v8 : Value) (k a b c d : Int) (A5 : Option Addr) (c5 : Nat) (rl : List Int) (A6 : Option Addr) (c6 : Nat) (cl : List S116) (pc : Int) (v9 : Value) (w : World)
    (hr : (Kd.int .i64).C w A5 rl.length rl) (hl : rl.length ≤ 1000000) (hcs : k116.C w A6 cl.length cl) (hl2 : cl.length ≤ 1000000) (hk : k = 21) :
    Calls Try.prog 89 #[.agg #[v0, v1, v2, .int .i64 f, .int .i64 regs, v5, v6, v7, v8], .agg #[.int .i64 k, .int .i64 a, .int .i64 b, .int .i64 c, .int .i64 d, .slice A5 rl.length c5, .slice A6 cl.length c6, .int .i64 pc, v9]] w
      fun e w' => e = .returned (.bool (listsB regs k c rl cl)) ∧ Below w.heap.size w w' := by
  have HB := Aside0.mk (Below.refl w.heap.size w)
  have HR := Aside0.mk hr
  have HC := Aside0.mk hcs
  clear hr hcs
  have n1 : 0 ≤ (rl.length : Int) := by omega
  have n2 : 0 ≤ (cl.length : Int) := by omega
  have hb2 : 0 ≤ built2 c ∧ built2 c ≤ 2 := by
    by_cases h : 1 ≤ c ∧ c ≤ 7
    · have := built2_pos c h; omega
    · have := built2_zero c h; omega
  have B2 : Below w.heap.size w ((w.alloc (.cells #[v0, v1, v2, .int .i64 f, .int .i64 regs, v5, v6, v7, v8] 78)).alloc (.cells #[.int .i64 k, .int .i64 a, .int .i64 b, .int .i64 c, .int .i64 d, .slice A5 rl.length c5, .slice A6 cl.length c6, .int .i64 pc, v9] 42)) := below_alloc (below_alloc (Below.refl _ _) _) _
  have hc1 := contains_regs 120 (.inl rfl) regs w.heap.size A5 c5 rl _ (Kd.C_below HR.out B2) hl (by rw [blk_cell (blk_alloc (blk_new w _) _) 4]; rfl)
  have hc2 := fun W (hb : Below w.heap.size w W) => contains_cases A6 c6 cl W (Kd.C_below HC.out hb) hl2
  have B22 := Aside0.mk B2
  clear B2
  have hls : listsB regs k c rl cl = (decide (2 ≤ (rl.length : Int) ∧ (rl.length : Int) ≤ 8) && regsB regs rl && decide ((cl.length : Int) = 0)) := by
    unfold listsB leastO mostO
    simp [hk]
  rw [hls]
  clear hls
  have e1 : (k == 20) = false := by rw [hk]; rfl
  have e2 : (k == 21) = true := by simpa using hk
  have e4 : (k != 30) = true := by rw [hk]; rfl
  clear hk
  cases hrg : regsB regs rl
  all_goals
    cases hcg : cl.all caseB
    all_goals
      rw [hrg] at hc1
      rw [hcg] at hc2
      have HC1 := Aside0.mk hc1
      have HC2 := Aside0.mk hc2
      clear hc1 hc2 hrg hcg
      go_enter Try.func89, Try.ntmps89
      go_wp2_with (first | (go_at_call 119; refine (tree_Built _ _).mono ?_; rintro e w' ⟨rfl, rfl⟩) | (go_at_call 91; refine HC1.out.mono ?_; rintro e w1 ⟨rfl, hb1⟩; obtain ⟨hq1, hq2⟩ := bcell hb1) | (go_at_call 121; refine (HC2.out _ (below_step B22.out hb1)).mono ?_; rintro e w2 ⟨rfl, hb2'⟩))
      all_goals
        go_ret
        refine ⟨ret_bool ?_, ?_⟩
        · (try clear hq1 hq2)
          clear HC1 HC2 B22 HB
          first
          | rfl
          | (simp; done)
          | (simp; omega)
          | (rw [Bool.eq_iff_iff]; simp; done)
          | (rw [Bool.eq_iff_iff]; simp; omega)
          | (rw [Bool.eq_iff_iff]; simp_all; done)
          | (rw [Bool.eq_iff_iff]; simp_all; omega)
        · first
          | exact below_step (below_step B22.out hb1) hb2'
          | exact below_step B22.out hb1
          | exact B22.out
set_option maxHeartbeats 4000000 in
set_option maxRecDepth 100000 in
theorem lists_22 (v0 v1 v2 : Value) (f regs : Int) (v5 v6 v7 v8 : Value) (k a b c d : Int) (A5 : Option Addr) (c5 : Nat) (rl : List Int) (A6 : Option Addr) (c6 : Nat) (cl : List S116) (pc : Int) (v9 : Value) (w : World)
    (hr : (Kd.int .i64).C w A5 rl.length rl) (hl : rl.length ≤ 1000000) (hcs : k116.C w A6 cl.length cl) (hl2 : cl.length ≤ 1000000) (hk : k = 22) :
    Calls Try.prog 89 #[.agg #[v0, v1, v2, .int .i64 f, .int .i64 regs, v5, v6, v7, v8], .agg #[.int .i64 k, .int .i64 a, .int .i64 b, .int .i64 c, .int .i64 d, .slice A5 rl.length c5, .slice A6 cl.length c6, .int .i64 pc, v9]] w
      fun e w' => e = .returned (.bool (listsB regs k c rl cl)) ∧ Below w.heap.size w w' := by
  have HB := Aside0.mk (Below.refl w.heap.size w)
  have HR := Aside0.mk hr
  have HC := Aside0.mk hcs
  clear hr hcs
  have n1 : 0 ≤ (rl.length : Int) := by omega
  have n2 : 0 ≤ (cl.length : Int) := by omega
  have hb2 : 0 ≤ built2 c ∧ built2 c ≤ 2 := by
    by_cases h : 1 ≤ c ∧ c ≤ 7
    · have := built2_pos c h; omega
    · have := built2_zero c h; omega
  have B2 : Below w.heap.size w ((w.alloc (.cells #[v0, v1, v2, .int .i64 f, .int .i64 regs, v5, v6, v7, v8] 78)).alloc (.cells #[.int .i64 k, .int .i64 a, .int .i64 b, .int .i64 c, .int .i64 d, .slice A5 rl.length c5, .slice A6 cl.length c6, .int .i64 pc, v9] 42)) := below_alloc (below_alloc (Below.refl _ _) _) _
  have hc1 := contains_regs 120 (.inl rfl) regs w.heap.size A5 c5 rl _ (Kd.C_below HR.out B2) hl (by rw [blk_cell (blk_alloc (blk_new w _) _) 4]; rfl)
  have hc2 := fun W (hb : Below w.heap.size w W) => contains_cases A6 c6 cl W (Kd.C_below HC.out hb) hl2
  have B22 := Aside0.mk B2
  clear B2
  have hls : listsB regs k c rl cl = (decide (built2 c ≤ (rl.length : Int) ∧ (rl.length : Int) ≤ built2 c) && regsB regs rl && decide ((cl.length : Int) = 0)) := by
    unfold listsB leastO mostO
    simp [hk]
  rw [hls]
  clear hls
  have e1 : (k == 20) = false := by rw [hk]; rfl
  have e2 : (k == 21) = false := by rw [hk]; rfl
  have e3 : (k == 22) = true := by simpa using hk
  have e4 : (k != 30) = true := by rw [hk]; rfl
  clear hk
  cases hrg : regsB regs rl
  all_goals
    cases hcg : cl.all caseB
    all_goals
      rw [hrg] at hc1
      rw [hcg] at hc2
      have HC1 := Aside0.mk hc1
      have HC2 := Aside0.mk hc2
      clear hc1 hc2 hrg hcg
      go_enter Try.func89, Try.ntmps89
      go_wp2_with (first | (go_at_call 119; refine (tree_Built _ _).mono ?_; rintro e w' ⟨rfl, rfl⟩) | (go_at_call 91; refine HC1.out.mono ?_; rintro e w1 ⟨rfl, hb1⟩; obtain ⟨hq1, hq2⟩ := bcell hb1) | (go_at_call 121; refine (HC2.out _ (below_step B22.out hb1)).mono ?_; rintro e w2 ⟨rfl, hb2'⟩))
      all_goals
        go_ret
        refine ⟨ret_bool ?_, ?_⟩
        · (try clear hq1 hq2)
          clear HC1 HC2 B22 HB
          first
          | rfl
          | (simp; done)
          | (simp; omega)
          | (rw [Bool.eq_iff_iff]; simp; done)
          | (rw [Bool.eq_iff_iff]; simp; omega)
          | (rw [Bool.eq_iff_iff]; simp_all; done)
          | (rw [Bool.eq_iff_iff]; simp_all; omega)
        · first
          | exact below_step (below_step B22.out hb1) hb2'
          | exact below_step B22.out hb1
          | exact B22.out
end Go.Proofs.Ytmifocbodfkeeaa.K
