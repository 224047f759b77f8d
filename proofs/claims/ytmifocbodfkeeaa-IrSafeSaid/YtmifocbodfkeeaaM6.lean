import Derived.Test.YtmifocbodfkeeaaM1
import Derived.Test.YtmifocbodfkeeaaM2
import Derived.Lib.OthersKept
namespace Go.Proofs.Ytmifocbodfkeeaa.K
open Go.RowKit Go.Proofs.YtmifocbodfkeeaaW.PrintWords Go.Proofs.YtmifocbodfkeeaaW.PrintLast Go.Proofs.YtmifocbodfkeeaaW.PrintMore
set_option linter.unusedVariables false
set_option linter.unusedSimpArgs false
/-- What an operation's A, B, C and D are, letter by letter. -/
def fieldsS (k : Int) : ByteArray :=
  if k = 1 then ⟨#[110, 45, 45, 45]⟩ else if k = 2 then ⟨#[82, 107, 45, 45]⟩ else if k = 3 ∨ k = 7 then ⟨#[82, 45, 45, 45]⟩ else if k = 4 then ⟨#[82, 114, 45, 45]⟩
  else if k = 5 then ⟨#[82, 103, 45, 45]⟩ else if k = 6 then ⟨#[103, 114, 45, 45]⟩ else if k = 8 ∨ k = 10 then ⟨#[114, 114, 112, 115]⟩ else if k = 9 then ⟨#[82, 114, 112, 115]⟩
  else if k = 11 then ⟨#[82, 114, 114, 45]⟩ else if k = 12 then ⟨#[114, 114, 114, 45]⟩ else if k = 13 then ⟨#[114, 45, 112, 45]⟩ else if k = 14 then ⟨#[114, 114, 45, 45]⟩
  else if k = 15 then ⟨#[82, 114, 117, 45]⟩ else if k = 16 then ⟨#[82, 114, 114, 98]⟩ else if k = 17 then ⟨#[116, 45, 45, 45]⟩ else if k = 18 ∨ k = 19 then ⟨#[116, 114, 45, 45]⟩
  else if k = 20 ∨ k = 21 then ⟨#[82, 45, 45, 45]⟩ else if k = 22 then ⟨#[82, 45, 99, 45]⟩ else if k = 23 ∨ k = 24 then ⟨#[114, 45, 45, 45]⟩ else if k = 25 then ⟨#[114, 104, 45, 45]⟩
  else if k = 26 then ⟨#[82, 114, 105, 45]⟩ else if k = 27 then ⟨#[82, 104, 105, 45]⟩ else if k = 28 then ⟨#[114, 114, 105, 45]⟩ else if k = 29 then ⟨#[114, 114, 104, 45]⟩
  else if k = 30 then ⟨#[82, 114, 45, 45]⟩ else ⟨#[]⟩
set_option maxHeartbeats 4000000 in
theorem ir_fields (a : Int) (w : World) : Calls Try.prog 54 #[.int .i64 a] w fun e w' => e = .returned (.string (fieldsS a)) ∧ w' = w := by
  go_enter Try.func54, Try.ntmps54
  go_wp2
  all_goals
    go_ret
    refine ⟨?_, rfl⟩
    simp only [beq_iff_eq, beq_eq_false_iff_ne] at *
    first
    | (subst a; rfl)
    | (simp_all [fieldsS]; done)
set_option maxHeartbeats 4000000 in
theorem ir_parts (k a b c d : Int) (v5 v6 : Value) (pc : Int) (v8 : Value) (w : World) :
    Calls Try.prog 53 #[.agg #[.int .i64 k, .int .i64 a, .int .i64 b, .int .i64 c, .int .i64 d, v5, v6, .int .i64 pc, v8]] w fun e w' => e = .returned (.agg #[.int .i64 a, .int .i64 b, .int .i64 c, .int .i64 d]) ∧ Below w.heap.size w w' := by
  have HB := Aside0.mk (Below.refl w.heap.size w)
  go_enter Try.func53, Try.ntmps53
  go_wp2
  refine bodyPost_ret (v := .agg #[.int .i64 a, .int .i64 b, .int .i64 c, .int .i64 d]) ?_ rfl ⟨rfl, ?_⟩
  · simp [results, Try.results53, go_sem]
  · repeat (first | (with_reducible first | exact HB.out | apply below_alloc | apply pw_below_drewN | apply below_drew1))
end Go.Proofs.Ytmifocbodfkeeaa.K
namespace Go.Proofs.Ytmifocbodfkeeaa.K
open Go.RowKit Go.Proofs.YtmifocbodfkeeaaW.PrintWords Go.Proofs.YtmifocbodfkeeaaW.PrintLast Go.Proofs.YtmifocbodfkeeaaW.PrintMore
set_option linter.unusedVariables false
set_option linter.unusedSimpArgs false
theorem kinds30 {k : Int} (h : 1 ≤ k ∧ k ≤ 30) : k = 1 ∨ k = 2 ∨ k = 3 ∨ k = 4 ∨ k = 5 ∨ k = 6 ∨ k = 7 ∨ k = 8 ∨ k = 9 ∨ k = 10 ∨ k = 11 ∨ k = 12 ∨ k = 13 ∨ k = 14 ∨ k = 15 ∨ k = 16 ∨ k = 17 ∨ k = 18 ∨ k = 19 ∨ k = 20 ∨ k = 21 ∨ k = 22 ∨ k = 23 ∨ k = 24 ∨ k = 25 ∨ k = 26 ∨ k = 27 ∨ k = 28 ∨ k = 29 ∨ k = 30 := by omega
theorem fieldsS_none {k : Int} (h : ¬ (1 ≤ k ∧ k ≤ 30)) : fieldsS k = ⟨#[]⟩ := by
  unfold fieldsS
  simp (disch := omega) only [if_neg]
/-- Does an operation write a register? -/
def defB (k : Int) : Bool := decide (k = 2 ∨ k = 3 ∨ k = 4 ∨ k = 5 ∨ k = 7 ∨ k = 9 ∨ k = 11 ∨ k = 15 ∨ k = 16 ∨ k = 20 ∨ k = 21 ∨ k = 22 ∨ k = 26 ∨ k = 27 ∨ k = 30)
theorem defB_none {k : Int} (h : ¬ (1 ≤ k ∧ k ≤ 30)) : defB k = false := by
  unfold defB
  rw [decide_eq_false]
  omega
set_option maxHeartbeats 8000000 in
theorem has_R0 (k : Int) (w : World) : Calls Try.prog 96 #[.string (fieldsS k), .string ⟨#[82]⟩] w fun e w' => e = .returned (.bool (defB k)) ∧ w' = w := by
  by_cases h : 1 ≤ k ∧ k ≤ 30
  · rcases kinds30 h with rfl | rfl | rfl | rfl | rfl | rfl | rfl | rfl | rfl | rfl | rfl | rfl | rfl | rfl | rfl | rfl | rfl | rfl | rfl | rfl | rfl | rfl | rfl | rfl | rfl | rfl | rfl | rfl | rfl | rfl
    all_goals
      clear h
      simp only [fieldsS]
      simp only [Int.reduceEq, if_true, if_false, or_true, true_or, or_self]
      go_enter Try.func96, Try.ntmps96
      go_wp2
      go_ret
      exact ⟨ret_bool (by decide +kernel), rfl⟩
  · rw [fieldsS_none h, defB_none h]
    clear h
    go_enter Try.func96, Try.ntmps96
    go_wp2
    all_goals (go_ret; exact ⟨rfl, rfl⟩)
set_option maxHeartbeats 400000 in
theorem has_R (k : Int) (w : World) : Calls Try.prog 55 #[.string (fieldsS k), .string ⟨#[82]⟩] w fun e w' => e = .returned (.bool (defB k)) ∧ w' = w := by
  generalize hs : fieldsS k = s
  have h := has_R0 k
  rw [hs] at h
  clear hs
  go_enter Try.func55, Try.ntmps55
  go_wp2_with (go_at_call 96; refine (h _).mono ?_; rintro e w' ⟨rfl, rfl⟩)
  go_ret
  exact ⟨rfl, rfl⟩
/-- The register that an operation writes. -/
def defO (k a : Int) : Int := if defB k = true then a else -1
set_option maxHeartbeats 1000000 in
theorem ir_Def (k a b c d : Int) (v5 v6 : Value) (pc : Int) (v8 : Value) (w : World) :
    Calls Try.prog 17 #[.agg #[.int .i64 k, .int .i64 a, .int .i64 b, .int .i64 c, .int .i64 d, v5, v6, .int .i64 pc, v8]] w fun e w' => e = .returned (.int .i64 (defO k a)) ∧ Below w.heap.size w w' := by
  have HB := Aside0.mk (Below.refl w.heap.size w)
  unfold defO
  have h := has_R k
  cases hd : defB k
  all_goals
    rw [hd] at h
    clear hd
    go_enter Try.func17, Try.ntmps17
    go_wp2_with (first | (go_at_call 54; refine (ir_fields _ _).mono ?_; rintro e w' ⟨rfl, rfl⟩) | (go_at_call 55; refine (h _).mono ?_; rintro e w' ⟨rfl, rfl⟩))
    go_ret
    refine ⟨?_, ?_⟩
    · rfl
    · repeat (first | (with_reducible first | exact HB.out | apply below_alloc | apply pw_below_drewN | apply below_drew1))
end Go.Proofs.Ytmifocbodfkeeaa.K
namespace Go.Proofs.Ytmifocbodfkeeaa.K
open Go.RowKit Go.Proofs.YtmifocbodfkeeaaW.PrintWords Go.Proofs.YtmifocbodfkeeaaW.PrintLast Go.Proofs.YtmifocbodfkeeaaW.PrintMore
set_option linter.unusedVariables false
set_option linter.unusedSimpArgs false
/-- The letter at a place. -/
def letter (k : Int) (i : Nat) : Nat := if h : i < (fieldsS k).size then ((fieldsS k)[i]'h).toNat else 0
/-- A, B, C or D. -/
def partO (a b c d : Int) (i : Nat) : Int := if i = 0 then a else if i = 1 then b else if i = 2 then c else d
/-- The registers among the first of A, B, C and D. -/
def usesN (k a b c d : Int) : Nat → List Int
  | 0 => []
  | i + 1 => usesN k a b c d i ++ (if letter k i = 114 then [partO a b c d i] else [])
def usesO (k a b c d : Int) (regs : List Int) : List Int := usesN k a b c d (fieldsS k).size ++ regs
theorem fieldsS_size (k : Int) : (fieldsS k).size ≤ 4 := by
  by_cases h : 1 ≤ k ∧ k ≤ 30
  · rcases kinds30 h with rfl | rfl | rfl | rfl | rfl | rfl | rfl | rfl | rfl | rfl | rfl | rfl | rfl | rfl | rfl | rfl | rfl | rfl | rfl | rfl | rfl | rfl | rfl | rfl | rfl | rfl | rfl | rfl | rfl | rfl
    all_goals decide +kernel
  · rw [fieldsS_none h]
    decide +kernel
theorem fieldsS_ascii (k : Int) (i : Nat) (h : i < (fieldsS k).size) : ((fieldsS k)[i]'h).toNat < 128 := by
  by_cases hk : 1 ≤ k ∧ k ≤ 30
  · have key : ∀ s : ByteArray, (∀ j : Fin s.size, (s[j.1]'j.2).toNat < 128) → ∀ (i : Nat) (h : i < s.size), (s[i]'h).toNat < 128 := fun s hs i h => hs ⟨i, h⟩
    refine key (fieldsS k) ?_ i h
    clear h
    rcases kinds30 hk with rfl | rfl | rfl | rfl | rfl | rfl | rfl | rfl | rfl | rfl | rfl | rfl | rfl | rfl | rfl | rfl | rfl | rfl | rfl | rfl | rfl | rfl | rfl | rfl | rfl | rfl | rfl | rfl | rfl | rfl
    all_goals decide +kernel
  · exfalso
    rw [fieldsS_none hk] at h
    exact absurd h (Nat.not_lt_zero _)
theorem usesN_len (k a b c d : Int) (i : Nat) : (usesN k a b c d i).length ≤ i := by
  induction i with
  | zero => simp [usesN]
  | succ i ih =>
    simp only [usesN, List.length_append]
    split <;> simp <;> omega
/-- What is known where one goes through the letters. -/
structure Letters (k a b c d : Int) (v5 v6 : Value) (pc : Int) (v8 : Value) (w : World) (ob pb it : Nat) (i : Nat) (v3 : Value) (wr : World) : Prop where
  box : wr.heap[ob]? = some (.cells #[.int .i64 k, .int .i64 a, .int .i64 b, .int .i64 c, .int .i64 d, v5, v6, .int .i64 pc, v8] 42 (0, 0))
  par : wr.heap[pb]? = some (.cells #[.int .i64 a, .int .i64 b, .int .i64 c, .int .i64 d] 83 (0, 0))
  iter : wr.heap[it]? = some (.stringIter (fieldsS k) i)
  list : (Kd.int .i64).R 3 wr w.heap.size (fun q => q ≠ ob ∧ q ≠ pb ∧ q ≠ it) v3 (usesN k a b c d i)
  below : Below w.heap.size w wr
set_option maxHeartbeats 4000000 in
set_option maxRecDepth 100000 in
theorem ir_Uses (k a b c d : Int) (A5 : Option Addr) (c5 : Nat) (regs : List Int) (v6 : Value) (pc : Int) (v8 : Value) (w : World) (hr : (Kd.int .i64).C w A5 regs.length regs) (hl : regs.length ≤ 1000000) :
    Calls Try.prog 16 #[.agg #[.int .i64 k, .int .i64 a, .int .i64 b, .int .i64 c, .int .i64 d, .slice A5 regs.length c5, v6, .int .i64 pc, v8]] w fun e w' => ∃ v : Value, e = .returned v ∧ (Kd.int .i64).R 3 w' w.heap.size (fun _ => True) v (usesO k a b c d regs) ∧ Below w.heap.size w w' := by
  have HR := Aside0.mk hr
  clear hr
  have bx1 := Aside0.mk (blk_new w (.cells #[.int .i64 k, .int .i64 a, .int .i64 b, .int .i64 c, .int .i64 d, .slice A5 regs.length c5, v6, .int .i64 pc, v8] 42))
  have b1 := Aside0.mk (below_alloc (Below.refl w.heap.size w) (.cells #[.int .i64 k, .int .i64 a, .int .i64 b, .int .i64 c, .int .i64 d, .slice A5 regs.length c5, v6, .int .i64 pc, v8] 42))
  go_enter Try.func16, Try.ntmps16
  go_wp2_with fail
  refine (ir_parts k a b c d _ v6 pc v8 _).mono ?_
  rintro e w1 ⟨rfl, hb1⟩
  have bx2 := Aside0.mk (blk_below bx1.out hb1)
  have b2 := Aside0.mk (below_step b1.out hb1)
  clear hb1
  have hc0 := blk_cell bx2.out 0
  simp at hc0
  have hne : w.heap.size < w1.heap.size := blk_lt bx2.out
  have hsz := fieldsS_size k
  go_wp2_with (go_at_call 54; refine (ir_fields _ _).mono ?_; rintro e w' ⟨rfl, rfl⟩)
  have L0 : Letters k a b c d (.slice A5 regs.length c5) v6 pc v8 w w.heap.size w1.heap.size (w1.heap.size + 1) 0 (.slice none 0 0) ((w1.alloc (.cells #[.int .i64 a, .int .i64 b, .int .i64 c, .int .i64 d] 83)).iter (fieldsS k) 0) := by
    refine ⟨blk_alloc (blk_alloc bx2.out _) _, blk_alloc (blk_new _ _) _, ?_, Kd.R_nil _ _ _ _ _, below_alloc (below_alloc b2.out _) _⟩
    have := World.iter_heap (w1.alloc (.cells #[.int .i64 a, .int .i64 b, .int .i64 c, .int .i64 d] 83)) (fieldsS k) 0
    simpa using this
  have LL := Aside0.mk L0
  have B2S := Aside0.mk b2.out.size
  clear L0 bx2 b2 hc0 bx1 b1
  generalize hit : w1.heap.size + 1 = it at *
  generalize hpb : w1.heap.size = pb at *
  go_loopg [3] ((fieldsS k).size) (fun gg v3 wr => ∃ i : Nat, i ≤ (fieldsS k).size ∧ (fieldsS k).size - i ≤ gg ∧ Aside0 (Letters k a b c d (.slice A5 regs.length c5) v6 pc v8 w w.heap.size pb it i v3 wr))
  case atStart => exact ⟨0, Nat.zero_le _, by omega, LL⟩
  case round =>
    clear LL
    obtain ⟨i, hi, hg, LT⟩ := hrel
    have ne1 : w.heap.size ≠ it := by omega
    have ne2 : pb ≠ it := by omega
    have ne3 : w.heap.size ≠ pb := by omega
    by_cases hin : i < (fieldsS k).size
    · have hnx := fun ty => Lib.run_next_ascii_at (P := Try.prog) wr it (fieldsS k) i ty LT.out.iter hin (fieldsS_ascii k i hin)
      have hle : letter k i = ((fieldsS k)[i]'hin).toNat := by unfold letter; rw [dif_pos hin]
      rw [← hle] at hnx
      have HLT := Aside0.mk hin
      have i4 : (i : Int) < 4 := by omega
      have i0 : 0 ≤ (i : Int) := by omega
      have W2 : Letters k a b c d (.slice A5 regs.length c5) v6 pc v8 w w.heap.size pb it i u3 wr := LT.out
      have px : (wr.iterAt it (fieldsS k) (i + 1)).cell? ⟨pb, i, none⟩ = some (.int .i64 (partO a b c d i)) := by
        rw [World.cell?_of_block (w := wr) (Lib.iterAt_other wr it pb _ _ ne2), blk_cell LT.out.par i]
        rcases i with _ | _ | _ | _ | i
        · rfl
        · rfl
        · rfl
        · rfl
        · omega
      clear hle W2
      by_cases hr : letter k i = 114
      · have hr1 : (((letter k i : Nat) : Int) == 114) = true := by rw [hr]; rfl
        have hr2 : (letter k i == 114) = true := by rw [hr]; rfl
        have HUN := Aside0.mk (show usesN k a b c d (i + 1) = usesN k a b c d i ++ [partO a b c d i] by simp only [usesN]; rw [if_pos hr])
        clear hr hin
        go_wp2_with ((with_reducible refine gate_dst (N := 24) rfl ?_); refine Kd.R_append (Kd.int .i64) (w0 := w) w.heap.size rfl (.tmp 19) (.tmp 23) 38 3 (.int .i64 0) 8 rfl Try.underlying38 info3 rfl (by decide) (by omega) u3 (usesN k a b c d i) (partO a b c d i) [.int .i64 (partO a b c d i)] (fun q => q ≠ w.heap.size ∧ q ≠ pb ∧ q ≠ it) (fun _ => False) rfl ?hs ?hp ?hokp ?hfresh ?HO ?HB ?hbase ?hl ?_; any_goals (intro v6_1 w6 hR6 hB6 hG6 hN6))
        case hs => simp [Act.eval, Act.put]
        case hp => rfl
        case hokp => exact fun _ h => h.elim
        case hfresh =>
          intro q hq
          have g1 := blk_lt LT.out.box
          have g2 := blk_lt LT.out.par
          have g3 := blk_lt LT.out.iter
          rw [Lib.iterAt_size] at hq
          exact ⟨by omega, by omega, by omega⟩
        case HO => exact Kd.R_step LT.out.list (fun q hq _ => Lib.iterAt_other _ _ _ _ _ hq.2.2)
        case HB => exact Lib.below_iterAt LT.out.below (by omega) _ _
        case hbase => rw [Lib.iterAt_size]; exact LT.out.below.size
        case hl => have := usesN_len k a b c d i; omega
        have o1 := LT.out.list.1
        have L6 : Letters k a b c d (.slice A5 regs.length c5) v6 pc v8 w w.heap.size pb it (i + 1) v6_1 w6 := by
          refine ⟨blk_grown ((Lib.iterAt_other wr it _ _ _ ne1).trans LT.out.box) hG6 (fun q => (o1 _ q.symm).1 rfl), blk_grown ((Lib.iterAt_other wr it _ _ _ ne2).trans LT.out.par) hG6 (fun q => (o1 _ q.symm).2.1 rfl), blk_grown (Lib.iterAt_heap wr it _ _ _ LT.out.iter) hG6 (fun q => (o1 _ q.symm).2.2 rfl), ?_, hB6⟩
          rw [HUN.out]
          exact hR6
        go_wp2
        go_roundg ((fieldsS k).size - (i + 1))
        case measure => have := HLT.out; omega
        case rel => exact ⟨i + 1, HLT.out, by omega, ⟨L6⟩⟩
      · have hr1 : (((letter k i : Nat) : Int) == 114) = false := by rw [beq_eq_false_iff_ne]; omega
        have hr2 : (letter k i == 114) = false := by rw [beq_eq_false_iff_ne]; exact hr
        have L6 : Letters k a b c d (.slice A5 regs.length c5) v6 pc v8 w w.heap.size pb it (i + 1) u3 (wr.iterAt it (fieldsS k) (i + 1)) := by
          refine ⟨(Lib.iterAt_other wr it _ _ _ ne1).trans LT.out.box, (Lib.iterAt_other wr it _ _ _ ne2).trans LT.out.par, Lib.iterAt_heap wr it _ _ _ LT.out.iter, ?_, Lib.below_iterAt LT.out.below (by omega) _ _⟩
          rw [show usesN k a b c d (i + 1) = usesN k a b c d i by simp only [usesN]; rw [if_neg hr]; simp]
          exact Kd.R_step LT.out.list (fun q hq _ => Lib.iterAt_other _ _ _ _ _ hq.2.2)
        clear hr hin
        go_wp2
        go_roundg ((fieldsS k).size - (i + 1))
        case measure => have := HLT.out; omega
        case rel => exact ⟨i + 1, HLT.out, by omega, ⟨L6⟩⟩
    · have hnx := fun ty => Lib.run_next_end_at (P := Try.prog) wr it (fieldsS k) i ty LT.out.iter hin
      obtain rfl : i = (fieldsS k).size := by omega
      have hbx := blk_cell LT.out.box 5
      simp at hbx
      clear hin
      go_wp2_with ((with_reducible refine gate_dst (N := 28) rfl ?_); refine Kd.R_append_row (Value.int .i64) 0 (h1 := fun _ => rfl) (w0 := w) w.heap.size rfl (.tmp 25) (.tmp 27) 38 3 (.int .i64 0) 8 rfl Try.underlying38 info3 rfl (by omega) u3 (usesN k a b c d (fieldsS k).size) regs A5 regs.length c5 (fun q => q ≠ w.heap.size ∧ q ≠ pb ∧ q ≠ it) rfl rfl ?rfresh ?RO ?RR ?RB ?rbase ?rl ?_; any_goals (intro v7 w7 hR7 hB7 hG7 hN7))
      case rfresh =>
        intro q hq
        have g1 := blk_lt LT.out.box
        have g2 := blk_lt LT.out.par
        have g3 := blk_lt LT.out.iter
        exact ⟨by omega, by omega, by omega⟩
      case RO => exact LT.out.list
      case RR => exact Kd.C_below HR.out LT.out.below
      case RB => exact LT.out.below
      case rbase => exact LT.out.below.size
      case rl => have := usesN_len k a b c d (fieldsS k).size; omega
      have HR7 := Aside0.mk (Kd.R_mono hR7 (ok' := fun _ => True) (fun _ _ => trivial))
      have HB7 := Aside0.mk hB7
      clear hR7 hB7 hG7 hN7
      go_wp2
      go_ret
      exact ⟨v7, rfl, HR7.out, HB7.out⟩
end Go.Proofs.Ytmifocbodfkeeaa.K
