import Derived.Test.YtmifocbodfkeeaaM1
namespace Go.Proofs.Ytmifocbodfkeeaa.K
open Go.RowKit Go.Proofs.YtmifocbodfkeeaaW.PrintWords Go.Proofs.YtmifocbodfkeeaaW.PrintLast Go.Proofs.YtmifocbodfkeeaaW.PrintMore
set_option linter.unusedVariables false
set_option linter.unusedSimpArgs false
/-- May an instruction's A be? -/
def argB (g np nc lo ni op a : Int) : Bool :=
  if op = 2 ∨ op = 6 ∨ op = 12 ∨ op = 16 ∨ op = 17 ∨ op = 19 ∨ op = 30 ∨ op = 31 ∨ op = 32 then decide (a = 0)
  else if op = 1 then decide (1 ≤ a ∧ a ≤ 1000)
  else if op = 3 then decide (0 ≤ a ∧ a < 2)
  else if op = 4 then decide (-4611686018427387904 ≤ a ∧ a ≤ 4611686018427387903)
  else if op = 5 ∨ op = 13 ∨ op = 14 ∨ op = 15 ∨ op = 18 ∨ op = 27 then decide (0 ≤ a ∧ a < np)
  else if op = 7 then decide (0 ≤ a ∧ a < nc)
  else if op = 8 ∨ op = 9 then decide (0 ≤ a ∧ a < lo)
  else if op = 10 ∨ op = 11 then decide (0 ≤ a ∧ a < g)
  else if op = 20 then decide (a = 1 ∨ a = 2)
  else if op = 21 then decide (1 ≤ a ∧ a ≤ 11)
  else if op = 22 ∨ op = 23 ∨ op = 24 ∨ op = 25 then decide (0 ≤ a ∧ a < ni)
  else if op = 26 ∨ op = 28 then decide (0 ≤ a ∧ a < 7)
  else if op = 29 then decide (1 ≤ a ∧ a ≤ 7)
  else false
set_option maxHeartbeats 4000000 in
set_option maxRecDepth 100000 in
theorem code_arg (g : Int) (A1 : Option Addr) (n1 c1 : Nat) (A2 : Option Addr) (n2 c2 : Nat) (pa lo si de : Int) (A4 : Option Addr) (n4 c4 : Nat) (op a b : Int) (w : World) :
    Calls Try.prog 136 #[.agg #[.int .i64 g, .slice A1 n1 c1, .slice A2 n2 c2], .agg #[.int .i64 pa, .int .i64 lo, .int .i64 si, .int .i64 de, .slice A4 n4 c4], .agg #[.int .i64 op, .int .i64 a, .int .i64 b]] w fun e w' => e = .returned (.bool (argB g n1 n2 lo n4 op a)) ∧ Below w.heap.size w w' := by
  have HB := Aside0.mk (Below.refl w.heap.size w)
  go_enter Try.func136, Try.ntmps136
  go_wp2_with (first | (go_at_call 138; refine (code_below _ _ _).mono ?_; rintro e w' ⟨rfl, rfl⟩) | (go_at_call 139; refine (code_goes _ _).mono ?_; rintro e w' ⟨rfl, rfl⟩) | (go_at_call 119; refine (tree_Built _ _).mono ?_; rintro e w' ⟨rfl, rfl⟩) | (go_at_call 123; refine (tree_Sign _ _).mono ?_; rintro e w' ⟨rfl, hb'⟩))
  all_goals
    go_ret
    refine ⟨ret_bool ?_, ?_⟩
    · rw [Bool.eq_iff_iff]
      simp only [builtS_empty, signS_empty, beq_iff_eq, beq_eq_false_iff_ne, Bool.not_not, decide_eq_true_eq, decide_eq_false_iff_not] at *
      first
      | (subst op; simp [argB, *]; done)
      | (subst op; simp [argB, *]; omega)
      | (simp_all [argB]; done)
      | (simp_all [argB]; omega)
    · (try refine below_step ?_ ‹Below _ _ _›); repeat (first | (with_reducible first | exact HB.out | apply below_alloc | apply pw_below_drewN | apply below_drew1) | exact HB.out)
set_option maxHeartbeats 4000000 in
set_option maxRecDepth 100000 in
theorem ref14_arg (g : Int) (A1 : Option Addr) (n1 c1 : Nat) (A2 : Option Addr) (n2 c2 : Nat) (pa lo si de : Int) (A4 : Option Addr) (n4 c4 : Nat) (op a b : Int) (w : World) (hg : 0 ≤ g) (hg2 : g ≤ 1000000) (hl : 0 ≤ lo) (hl2 : lo ≤ 1000000) (h1 : n1 ≤ 1000000) (h2 : n2 ≤ 1000000) (h4 : n4 ≤ 1000000) :
    Calls Try.prog 102 #[.agg #[.int .i64 g, .slice A1 n1 c1, .slice A2 n2 c2], .agg #[.int .i64 pa, .int .i64 lo, .int .i64 si, .int .i64 de, .slice A4 n4 c4], .agg #[.int .i64 op, .int .i64 a, .int .i64 b]] w fun e w' => e = .returned (.bool (argB g n1 n2 lo n4 op a)) ∧ Below w.heap.size w w' := by
  have HB := Aside0.mk (Below.refl w.heap.size w)
  go_enter Try.func102, Try.ntmps102
  go_wp2
  all_goals
    go_ret
    refine ⟨ret_bool ?_, ?_⟩
    · rw [Bool.eq_iff_iff]
      simp only [beq_iff_eq, beq_eq_false_iff_ne, Bool.not_not, decide_eq_true_eq, decide_eq_false_iff_not] at *
      first
      | (subst op; simp [argB, *]; done)
      | (subst op; simp [argB, *]; omega)
      | (subst op; simp [argB, wrap64] at *; omega)
      | (simp_all [argB]; done)
      | (simp_all [argB]; omega)
    · (try refine below_step ?_ ‹Below _ _ _›); repeat (first | (with_reducible first | exact HB.out | apply below_alloc | apply pw_below_drewN | apply below_drew1) | exact HB.out)
end Go.Proofs.Ytmifocbodfkeeaa.K
namespace Go.Proofs.Ytmifocbodfkeeaa.K
open Go.RowKit Go.Proofs.YtmifocbodfkeeaaW.PrintWords Go.Proofs.YtmifocbodfkeeaaW.PrintLast Go.Proofs.YtmifocbodfkeeaaW.PrintMore
set_option linter.unusedVariables false
set_option linter.unusedSimpArgs false
/-- A cell that was there is there behind what is laid. -/
theorem cell1 {w : World} {a : Addr} {v : Value} (h : w.cell? a = some v) : ∀ o, (w.alloc o).cell? a = some v :=
  fun o => (World.cell?_alloc_lt w o a (World.block_lt_of_cell? w a h)).trans h
theorem cell2 {w : World} {a : Addr} {v : Value} (h : w.cell? a = some v) : ∀ o o2, ((w.alloc o).alloc o2).cell? a = some v := fun o o2 => cell1 (cell1 h o) o2
theorem cell3 {w : World} {a : Addr} {v : Value} (h : w.cell? a = some v) : ∀ o o2 o3, (((w.alloc o).alloc o2).alloc o3).cell? a = some v := fun o o2 o3 => cell1 (cell2 h o o2) o3
/-- A row of whole numbers that lies in the newest block. -/
theorem R_ints (W : World) (xs : List Int) (base : Nat) (hb : base ≤ W.heap.size) (hm : xs.length ≤ 9223372036854775807) :
    (Kd.int .i64).R 3 (W.alloc (.cells (xs.map (Value.int .i64)).toArray 3)) base (fun _ => True) (.slice (some ⟨W.heap.size, 0, none⟩) xs.length xs.length) xs := by
  refine ⟨fun k hk => trivial, xs.map (Value.int .i64), ?_, ?_⟩
  · have h2 := World.ownsRow_lit (base := base) (e := 3) (size := 1) W (xs.map (Value.int .i64)).toArray xs.length hb (by simpa [maxLen] using hm) (by simp)
    have h3 : ((xs.map (Value.int .i64)).toArray).toList = xs.map (Value.int .i64) := by simp
    rw [h3] at h2
    exact h2
  · clear hm
    have : ∀ l m : List Int, Reps ((Kd.int .i64).M (W.alloc (.cells (xs.map (Value.int .i64)).toArray 3)) base (fun k => True ∧ some k ≠ (Value.slice (some ⟨W.heap.size, 0, none⟩) xs.length xs.length).ownBlock)) (Kd.int .i64).sz l (l.map (Value.int .i64)) → Reps ((Kd.int .i64).M (W.alloc (.cells (xs.map (Value.int .i64)).toArray 3)) base (fun k => True ∧ some k ≠ (Value.slice (some ⟨W.heap.size, 0, none⟩) xs.length xs.length).ownBlock)) (Kd.int .i64).sz (l ++ m) ((l ++ m).map (Value.int .i64)) := by
      intro l m
      induction m generalizing l with
      | nil => intro h; simpa using h
      | cons x m ih =>
        intro h
        have h2 := ih (l ++ [x]) (by rw [List.map_append]; exact h.snoc (p := x) (c := [.int .i64 x]) rfl rfl)
        simpa using h2
    exact this [] xs (Reps.none _ _)
theorem R_ints_at (W : World) (xs : List Int) (base b : Nat) (h : b = W.heap.size) (hb : base ≤ W.heap.size) (hm : xs.length ≤ 9223372036854775807) :
    (Kd.int .i64).R 3 (W.alloc (.cells (xs.map (Value.int .i64)).toArray 3)) base (fun _ => True) (.slice (some ⟨b, 0, none⟩) xs.length xs.length) xs := by
  subst h
  exact R_ints W xs base hb hm
/-- Where one comes behind an instruction. -/
def tgts (op a at_ : Int) : List Int := if op = 32 then [] else if op = 22 then [a] else if 22 ≤ op ∧ op ≤ 25 then [at_ + 1, a] else [at_ + 1]
theorem tgts_cases (op a t : Int) :
    ((op == 32) = true ∧ tgts op a t = []) ∨ ((op == 32) = false ∧ (op == 22) = true ∧ tgts op a t = [a]) ∨
    ((op == 32) = false ∧ (op == 22) = false ∧ decide (22 ≤ op ∧ op ≤ 25) = true ∧ tgts op a t = [t + 1, a]) ∨ ((op == 32) = false ∧ (op == 22) = false ∧ decide (22 ≤ op ∧ op ≤ 25) = false ∧ tgts op a t = [t + 1]) := by
  unfold tgts
  by_cases h1 : op = 32
  · left; simp [h1]
  · by_cases h2 : op = 22
    · right; left; simp [h2]
    · right; right
      by_cases h3 : 22 ≤ op ∧ op ≤ 25
      · left
        rw [if_neg h1, if_neg h2, if_pos h3]
        exact ⟨beq_eq_false_iff_ne.2 h1, beq_eq_false_iff_ne.2 h2, decide_eq_true h3, rfl⟩
      · right
        rw [if_neg h1, if_neg h2, if_neg h3]
        exact ⟨beq_eq_false_iff_ne.2 h1, beq_eq_false_iff_ne.2 h2, decide_eq_false h3, rfl⟩
set_option maxHeartbeats 4000000 in
set_option maxRecDepth 100000 in
theorem code_Targets (pa lo si de : Int) (A4 : Option Addr) (c4 : Nat) (ins : List S67) (at_ : Int) (w : World) (hr : Kd.C k67 w A4 ins.length ins) (h0 : 0 ≤ at_) (h1 : at_ < ins.length) (h2 : at_ ≤ 1000000) :
    Calls Try.prog 118 #[.agg #[.int .i64 pa, .int .i64 lo, .int .i64 si, .int .i64 de, .slice A4 ins.length c4], .int .i64 at_] w fun e w' => ∃ v : Value, e = .returned v ∧ (Kd.int .i64).R 3 w' w.heap.size (fun _ => True) v (tgts (rd_T67 ins at_).f0 (rd_T67 ins at_).f1 at_) ∧ Below w.heap.size w w' := by
  have HB := Aside0.mk (Below.refl w.heap.size w)
  obtain ⟨ad, e, hx0, hx1, hx2⟩ := at_T67 hr at_ h0 h1
  subst e
  clear hr
  generalize rd_T67 ins at_ = x at *
  have hy0 := cell1 hx0
  have hy1 := cell1 hx1
  have hy2 := cell1 hx2
  clear hx0 hx1 hx2
  obtain ⟨b1, ht⟩ | ⟨b1, b2, ht⟩ | ⟨b1, b2, b3, ht⟩ | ⟨b1, b2, b3, ht⟩ := tgts_cases x.f0 x.f1 at_
  all_goals
    rw [ht]
    clear ht
    go_enter Try.func118, Try.ntmps118
    go_wp2_with (go_at_call 139; refine (code_goes _ _).mono ?_; rintro e w' ⟨rfl, rfl⟩)
    go_ret
    refine ⟨.slice _ _ _, rfl, ?_, ?_⟩
    · first
      | exact Kd.R_nil _ _ _ _ _
      | (refine R_ints_at _ [x.f1] _ _ ?_ ?_ ?_ <;> simp; done)
      | (refine R_ints_at _ [x.f1] _ _ ?_ ?_ ?_ <;> simp <;> omega)
      | (refine R_ints_at _ [at_ + 1] _ _ ?_ ?_ ?_ <;> simp; done)
      | (refine R_ints_at _ [at_ + 1] _ _ ?_ ?_ ?_ <;> simp <;> omega)
      | (refine R_ints_at _ [at_ + 1, x.f1] _ _ ?_ ?_ ?_ <;> simp; done)
      | (refine R_ints_at _ [at_ + 1, x.f1] _ _ ?_ ?_ ?_ <;> simp <;> omega)
    · repeat (first | (with_reducible first | exact HB.out | apply below_alloc | apply pw_below_drewN | apply below_drew1) | exact HB.out)
set_option maxHeartbeats 400000 in
theorem ref14_goes (a : Int) (w : World) : Calls Try.prog 103 #[.int .i64 a] w fun e w' => e = .returned (.bool (decide (22 ≤ a ∧ a ≤ 25))) ∧ w' = w := by
  go_enter Try.func103, Try.ntmps103
  go_wp2
  all_goals (go_ret; exact ⟨ret_bool (by rw [Bool.eq_iff_iff]; simp_all; try omega), rfl⟩)
set_option maxHeartbeats 4000000 in
set_option maxRecDepth 100000 in
theorem ref14_Targets (pa lo si de : Int) (A4 : Option Addr) (c4 : Nat) (ins : List S67) (at_ : Int) (w : World) (hr : Kd.C k67 w A4 ins.length ins) (h0 : 0 ≤ at_) (h1 : at_ < ins.length) (h2 : at_ ≤ 1000000) :
    Calls Try.prog 126 #[.agg #[.int .i64 pa, .int .i64 lo, .int .i64 si, .int .i64 de, .slice A4 ins.length c4], .int .i64 at_] w fun e w' => ∃ v : Value, e = .returned v ∧ (Kd.int .i64).R 3 w' w.heap.size (fun _ => True) v (tgts (rd_T67 ins at_).f0 (rd_T67 ins at_).f1 at_) ∧ Below w.heap.size w w' := by
  have HB := Aside0.mk (Below.refl w.heap.size w)
  obtain ⟨ad, e, hx0, hx1, hx2⟩ := at_T67 hr at_ h0 h1
  subst e
  clear hr
  generalize rd_T67 ins at_ = x at *
  have hy0 := cell1 hx0
  have hy1 := cell1 hx1
  have hy2 := cell1 hx2
  clear hx0 hx1 hx2
  obtain ⟨b1, ht⟩ | ⟨b1, b2, ht⟩ | ⟨b1, b2, b3, ht⟩ | ⟨b1, b2, b3, ht⟩ := tgts_cases x.f0 x.f1 at_
  all_goals
    rw [ht]
    clear ht
    go_enter Try.func126, Try.ntmps126
    go_wp2_with (go_at_call 103; refine (ref14_goes _ _).mono ?_; rintro e w' ⟨rfl, rfl⟩)
    go_ret
    refine ⟨.slice _ _ _, rfl, ?_, ?_⟩
    · first
      | exact Kd.R_nil _ _ _ _ _
      | (refine R_ints_at _ [x.f1] _ _ ?_ ?_ ?_ <;> simp; done)
      | (refine R_ints_at _ [x.f1] _ _ ?_ ?_ ?_ <;> simp <;> omega)
      | (refine R_ints_at _ [at_ + 1] _ _ ?_ ?_ ?_ <;> simp; done)
      | (refine R_ints_at _ [at_ + 1] _ _ ?_ ?_ ?_ <;> simp <;> omega)
      | (refine R_ints_at _ [at_ + 1, x.f1] _ _ ?_ ?_ ?_ <;> simp; done)
      | (refine R_ints_at _ [at_ + 1, x.f1] _ _ ?_ ?_ ?_ <;> simp <;> omega)
    · repeat (first | (with_reducible first | exact HB.out | apply below_alloc | apply pw_below_drewN | apply below_drew1) | exact HB.out)
end Go.Proofs.Ytmifocbodfkeeaa.K
namespace Go.Proofs.Ytmifocbodfkeeaa.K
open Go.RowKit Go.Proofs.YtmifocbodfkeeaaW.PrintWords Go.Proofs.YtmifocbodfkeeaaW.PrintLast Go.Proofs.YtmifocbodfkeeaaW.PrintMore
set_option linter.unusedVariables false
set_option linter.unusedSimpArgs false
/-- May an instruction be? -/
def instrB (g np nc lo si : Int) (ins : List S67) (at_ : Int) : Bool :=
  argB g np nc lo ins.length (rd_T67 ins at_).f0 (rd_T67 ins at_).f1 && (if siteB (rd_T67 ins at_).f0 = true then decide (0 ≤ (rd_T67 ins at_).f2 ∧ (rd_T67 ins at_).f2 < si) else decide ((rd_T67 ins at_).f2 = 0)) &&
  (!decide (22 ≤ (rd_T67 ins at_).f0 ∧ (rd_T67 ins at_).f0 ≤ 25) || decide (at_ < (rd_T67 ins at_).f1) || ((rd_T67 ins (rd_T67 ins at_).f1).f0 == 1))
theorem bcell {W w1 : World} (hb : Below W.heap.size W w1) : (∀ b o, b < W.heap.size → w1.cell? ⟨b, o, none⟩ = W.cell? ⟨b, o, none⟩) ∧ (∀ b o, b < W.heap.size → w1.frozen? ⟨b, o, none⟩ = W.frozen? ⟨b, o, none⟩) :=
  ⟨fun b o h => hb.cell (p := ⟨b, o, none⟩) h, fun b o h => hb.frozen (p := ⟨b, o, none⟩) h⟩
theorem cell_later {W w1 : World} {a : Addr} {v : Value} (hb : Below W.heap.size W w1) (h : W.cell? a = some v) : w1.cell? a = some v := (hb.cell (World.block_lt_of_cell? W a h)).trans h
theorem argB_goes {g np nc lo ni op a : Int} (h : 22 ≤ op ∧ op ≤ 25) : argB g np nc lo ni op a = decide (0 ≤ a ∧ a < ni) := by
  obtain rfl | rfl | rfl | rfl : op = 22 ∨ op = 23 ∨ op = 24 ∨ op = 25 := by omega
  all_goals simp [argB]
set_option maxHeartbeats 4000000 in
set_option maxRecDepth 100000 in
theorem code_instr (g : Int) (A1 : Option Addr) (n1 c1 : Nat) (A2 : Option Addr) (n2 c2 : Nat) (pa lo si de : Int) (A4 : Option Addr) (c4 : Nat) (ins : List S67) (at_ : Int) (w : World) (hr : Kd.C k67 w A4 ins.length ins) (h0 : 0 ≤ at_) (h1 : at_ < ins.length) :
    Calls Try.prog 115 #[.agg #[.int .i64 g, .slice A1 n1 c1, .slice A2 n2 c2], .agg #[.int .i64 pa, .int .i64 lo, .int .i64 si, .int .i64 de, .slice A4 ins.length c4], .int .i64 at_] w fun e w' => e = .returned (.bool (instrB g n1 n2 lo si ins at_)) ∧ Below w.heap.size w w' := by
  have HB := Aside0.mk (Below.refl w.heap.size w)
  unfold instrB
  obtain ⟨ad, e, hx0, hx1, hx2⟩ := at_T67 hr at_ h0 h1
  have HR := Aside0.mk hr
  subst e
  clear hr
  generalize rd_T67 ins at_ = x at *
  have hy0 := cell2 hx0
  have hy1 := cell2 hx1
  have hy2 := cell2 hx2
  clear hx0 hx1 hx2
  by_cases hg : 22 ≤ x.f0 ∧ x.f0 ≤ 25
  · have hgb := decide_eq_true hg
    have ha := Aside0.mk (argB_goes (g := g) (np := n1) (nc := n2) (lo := lo) (ni := ins.length) (a := x.f1) hg)
    by_cases hin : 0 ≤ x.f1 ∧ x.f1 < (ins.length : Int)
    · obtain ⟨i0, i1⟩ := hin
      obtain ⟨ad2, e2, hz0, _, _⟩ := at_T67 HR.out x.f1 i0 i1
      obtain rfl : ad = ad2 := (by injection e2)
      generalize rd_T67 ins x.f1 = y at *
      go_enter Try.func115, Try.ntmps115
      go_wp2_with (first | (go_at_call 136; refine (code_arg _ _ _ _ _ _ _ _ _ _ _ _ _ _ _ _ _ _).mono ?_; rintro e w1 ⟨rfl, hb1⟩; obtain ⟨hc1, hf1⟩ := bcell hb1; have hz1 := cell_later hb1 (cell3 hz0 _ _ _); rw [ha.out]) | (go_at_call 137; refine (code_site _ _).mono ?_; rintro e w' ⟨rfl, rfl⟩) | (go_at_call 138; refine (code_below _ _ _).mono ?_; rintro e w' ⟨rfl, rfl⟩) | (go_at_call 139; refine (code_goes _ _).mono ?_; rintro e w' ⟨rfl, rfl⟩))
      all_goals
        go_ret
        refine ⟨ret_bool ?_, ?_⟩
        · try rw [ha.out]
          (try clear hz1 hz0)
          clear hc1 hf1 hy0 hy1 hy2
          simp_all
          try omega
        · (try clear hz1 hz0); refine below_step ?_ hb1; repeat (first | (with_reducible first | exact HB.out | apply below_alloc | apply pw_below_drewN | apply below_drew1) | exact HB.out)
    · have hnb := decide_eq_false hin
      go_enter Try.func115, Try.ntmps115
      go_wp2_with (first | (go_at_call 136; refine (code_arg _ _ _ _ _ _ _ _ _ _ _ _ _ _ _ _ _ _).mono ?_; rintro e w1 ⟨rfl, hb1⟩; obtain ⟨hc1, hf1⟩ := bcell hb1; rw [ha.out]) | (go_at_call 137; refine (code_site _ _).mono ?_; rintro e w' ⟨rfl, rfl⟩) | (go_at_call 138; refine (code_below _ _ _).mono ?_; rintro e w' ⟨rfl, rfl⟩) | (go_at_call 139; refine (code_goes _ _).mono ?_; rintro e w' ⟨rfl, rfl⟩))
      all_goals
        go_ret
        refine ⟨ret_bool ?_, ?_⟩
        · try rw [ha.out]
          clear hc1 hf1 hy0 hy1 hy2
          simp_all
          try omega
        · (try clear hz1 hz0); refine below_step ?_ hb1; repeat (first | (with_reducible first | exact HB.out | apply below_alloc | apply pw_below_drewN | apply below_drew1) | exact HB.out)
  · have hgb := decide_eq_false hg
    go_enter Try.func115, Try.ntmps115
    go_wp2_with (first | (go_at_call 136; refine (code_arg _ _ _ _ _ _ _ _ _ _ _ _ _ _ _ _ _ _).mono ?_; rintro e w1 ⟨rfl, hb1⟩; obtain ⟨hc1, hf1⟩ := bcell hb1; skip) | (go_at_call 137; refine (code_site _ _).mono ?_; rintro e w' ⟨rfl, rfl⟩) | (go_at_call 138; refine (code_below _ _ _).mono ?_; rintro e w' ⟨rfl, rfl⟩) | (go_at_call 139; refine (code_goes _ _).mono ?_; rintro e w' ⟨rfl, rfl⟩))
    all_goals
      go_ret
      refine ⟨ret_bool ?_, ?_⟩
      · clear hc1 hf1 hy0 hy1 hy2
        simp_all
        try omega
      · (try clear hz1 hz0); refine below_step ?_ hb1; repeat (first | (with_reducible first | exact HB.out | apply below_alloc | apply pw_below_drewN | apply below_drew1) | exact HB.out)
end Go.Proofs.Ytmifocbodfkeeaa.K
