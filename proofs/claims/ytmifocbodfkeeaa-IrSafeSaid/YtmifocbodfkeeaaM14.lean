import Derived.Test.YtmifocbodfkeeaaM13
import Derived.Test.YtmifocbodfkeeaaM11
import Derived.Test.YtmifocbodfkeeaaM12
/-! ir.Check whole; the body and the program of works(), in plain words. -/
namespace Go.Proofs.Ytmifocbodfkeeaa.K
open Go.RowKit Go.Proofs.YtmifocbodfkeeaaW.PrintWords Go.Proofs.YtmifocbodfkeeaaW.PrintLast Go.Proofs.YtmifocbodfkeeaaW.PrintMore
set_option linter.unusedVariables false
set_option linter.unusedSimpArgs false
theorem ir_Check (p : Prg) (b : Bdy) (A1 : Option Addr) (c1 : Nat) (A2 : Option Addr) (c2 : Nat) (A5 : Option Addr) (c5 : Nat) (A6 : Option Addr) (c6 : Nat) (A7 : Option Addr) (c7 : Nat) (w : World)
    (hs : Kd.string.C w A1 p.pool.length p.pool) (hr : k52.C w A2 p.codes.length p.codes) (hsz : ∀ s ∈ p.pool, s.size ≤ 9223372036854775807)
    (hco : k65.C w A5 b.consts.length b.consts) (hcz : ∀ v ∈ b.consts, v.f2.size ≤ 9223372036854775807) (hops : k42.C w A6 b.ops.length b.ops) (hde : k74.C w A7 b.deps.length b.deps)
    (hll : ∀ t : Int, 0 ≤ t → t < b.ops.length → (rd_T42 b.ops t).f5.length ≤ 1000000 ∧ (rd_T42 b.ops t).f6.length ≤ 1000000 ∧ (rd_T42 b.ops t).f8.length ≤ 1000000) :
    Calls Try.prog 14 #[.agg #[.int .i64 p.g, .slice A1 p.pool.length c1, .slice A2 p.codes.length c2], .agg #[.int .i64 b.f, .int .i64 b.regs, .slice A5 b.consts.length c5, .slice A6 b.ops.length c6, .slice A7 b.deps.length c7]] w fun e w' => e = .returned (.int .i64 (said (CheckB p b))) ∧ Below w.heap.size w w' := by
  by_cases hck : CheckP p
  · by_cases hhb : HeadB p b
    · exact ir_Check_ok p b A1 c1 A2 c2 A5 c5 A6 c6 A7 c7 w hs hr hsz hco hcz hops hde hll hck hhb
    · exact ir_Check_bad p b A1 c1 A2 c2 A5 c5 A6 c6 A7 c7 w hs hr hsz hck hhb
  · exact ir_Check_no p b A1 c1 A2 c2 A5 c5 A6 c6 A7 c7 w hs hr hsz hck
theorem C_of_block {α : Type} (d : Kd α) {w : World} {g : Nat} {T : TypeId} {cs : Array Value} {xs : List α} (h : w.heap[g]? = some (.cells cs T (0, 0))) (hr : Reps (d.K w) d.sz xs cs.toList) (hm : xs.length ≤ 9223372036854775807) : d.C w (some ⟨g, 0, none⟩) xs.length xs := by
  refine ⟨rfl, hm, fun _ => ⟨_, rfl, fun j p hj => ⟨_, d.K_len (hr.2 j p hj), hr.2 j p hj, fun i u hu => ?_⟩⟩⟩
  have hlt : i < d.sz := by
    have := (List.getElem?_eq_some_iff.1 hu).1
    rw [List.length_take] at this
    omega
  have hadd : (⟨g, 0, none⟩ : Addr).add (j * d.sz + i) = ⟨g, j * d.sz + i, none⟩ := by unfold Addr.add; split <;> simp_all
  rw [hadd, blk_cell h]
  rw [List.getElem?_take_of_lt hlt, List.getElem?_drop] at hu
  simpa using hu
/-- The program and the body of works(). -/
def wIns : List S67 := [⟨2, 0, 0⟩, ⟨32, 0, 0⟩]
def wPrg : Prg := ⟨0, [], [⟨0, 0, 0, 1, wIns⟩]⟩
def wBdy : Bdy := ⟨0, 1, [⟨0, 0, ⟨#[]⟩⟩], [⟨2, 0, 0, 0, 0, [], [], 0, []⟩, ⟨24, 0, 0, 0, 0, [], [], 1, [0]⟩], []⟩
theorem wReach {t d : Int} (h : Reach wIns t d) : t = 0 ∧ d = 0 ∨ t = 1 ∧ d = 1 := by
  induction h with
  | start => exact .inl ⟨rfl, rfl⟩
  | @step t d u e h hs ih =>
    rcases ih with ⟨rfl, rfl⟩ | ⟨rfl, rfl⟩
    · have e1 : stepsAt wIns 0 0 = [(1, 1)] := by decide +kernel
      rw [e1] at hs
      simp at hs
      exact .inr hs
    · have e1 : stepsAt wIns 1 1 = [] := by decide +kernel
      rw [e1] at hs
      simp at hs
theorem wReach1 : Reach wIns 1 1 := Reach.step Reach.start (by decide +kernel)
theorem wGood : Good wIns 1 := by
  refine ⟨fun t d h => ?_, fun t d e h1 h2 => ?_⟩
  · rcases wReach h with ⟨rfl, rfl⟩ | ⟨rfl, rfl⟩
    · refine ⟨by decide +kernel, by omega, fun u e hs => ?_⟩
      have e1 : stepsAt wIns 0 0 = [(1, 1)] := by decide +kernel
      rw [e1] at hs
      simp at hs
      obtain ⟨rfl, rfl⟩ := hs
      exact ⟨by decide, by decide⟩
    · refine ⟨by decide +kernel, by omega, fun u e hs => ?_⟩
      have e1 : stepsAt wIns 1 1 = [] := by decide +kernel
      rw [e1] at hs
      simp at hs
  · rcases wReach h1 with ⟨rfl, rfl⟩ | ⟨rfl, rfl⟩ <;> rcases wReach h2 with ⟨a, rfl⟩ | ⟨a, rfl⟩ <;> first | rfl | omega
theorem int_two {t : Int} {n : Nat} (hn : n = 2) (h0 : 0 ≤ t) (h1 : t < n) : t = 0 ∨ t = 1 := by omega
theorem wDepths : DepthsOf wIns [0, 1] := by
  refine ⟨rfl, fun t h0 h1 => ?_⟩
  rcases int_two rfl h0 h1 with rfl | rfl
  · exact .inl ⟨by decide +kernel, Reach.start⟩
  · exact .inl ⟨by decide +kernel, wReach1⟩
theorem wCheckP : CheckP wPrg := by
  refine ⟨by decide, by decide, by decide, by decide, by decide, fun i hi => absurd hi (Nat.not_lt_zero _), fun f h0 h1 => ?_⟩
  obtain rfl : f = 0 := by
    have : wPrg.codes.length = 1 := rfl
    omega
  refine ⟨?_, fun t h0 h1 => ?_, wGood⟩
  · refine ⟨by decide, by decide, by decide, by decide, by decide, by decide, by decide, by decide, by decide, by decide, fun _ => by decide⟩
  · rcases int_two rfl h0 h1 with rfl | rfl <;> decide +kernel
theorem wHeadB : HeadB wPrg wBdy := by
  refine ⟨⟨by decide, by decide⟩, by decide, by decide, by decide, by decide, by decide, by decide⟩
theorem wCheckB : CheckB wPrg wBdy := by
  refine ⟨wCheckP, wHeadB, by decide +kernel, rfl, fun out h t h0 h1 => ?_, .inr (by decide +kernel)⟩
  obtain rfl := DepthsOf.same wGood h wDepths
  rcases int_two rfl h0 h1 with rfl | rfl <;> decide +kernel
end Go.Proofs.Ytmifocbodfkeeaa.K
namespace Go.Proofs.Ytmifocbodfkeeaa.K
open Go.RowKit Go.Proofs.YtmifocbodfkeeaaW.PrintWords Go.Proofs.YtmifocbodfkeeaaW.PrintLast Go.Proofs.YtmifocbodfkeeaaW.PrintMore
set_option linter.unusedVariables false
set_option linter.unusedSimpArgs false
/-- The world in which works() asks. -/
def W0 (w : World) : World := (((((((w.alloc (.cells #[.int .i64 2, .int .i64 0, .int .i64 0, .int .i64 32, .int .i64 0, .int .i64 0] 67)).alloc (.cells #[.int .i64 0, .int .i64 0, .int .i64 0, .int .i64 1, .slice (some ⟨w.heap.size, 0, none⟩) 2 2] 52)).alloc (.cells #[.int .i64 0, .slice none 0 0, .slice (some ⟨w.heap.size + 1, 0, none⟩) 1 1] 25)).alloc (.cells #[.int .i64 0, .int .i64 0, .string ⟨#[]⟩] 65)).alloc (.cells #[.int .i64 0] 3)).alloc (.cells #[.int .i64 2, .int .i64 0, .int .i64 0, .int .i64 0, .int .i64 0, .slice none 0 0, .slice none 0 0, .int .i64 0, .slice none 0 0, .int .i64 24, .int .i64 0, .int .i64 0, .int .i64 0, .int .i64 0, .slice none 0 0, .slice none 0 0, .int .i64 1, .slice (some ⟨w.heap.size + 1 + 1 + 1 + 1, 0, none⟩) 1 1] 42)).alloc (.cells #[.int .i64 0, .int .i64 1, .slice (some ⟨w.heap.size + 1 + 1 + 1, 0, none⟩) 1 1, .slice (some ⟨w.heap.size + 1 + 1 + 1 + 1 + 1, 0, none⟩) 2 2, .slice none 0 0] 30))
/-- What lies there. -/
structure Laid (w W : World) : Prop where
  bp : W.heap[w.heap.size + 1 + 1]? = some (.cells #[.int .i64 0, .slice none 0 0, .slice (some ⟨w.heap.size + 1, 0, none⟩) 1 1] 25 (0, 0))
  bb : W.heap[w.heap.size + 1 + 1 + 1 + 1 + 1 + 1]? = some (.cells #[.int .i64 0, .int .i64 1, .slice (some ⟨w.heap.size + 1 + 1 + 1, 0, none⟩) 1 1, .slice (some ⟨w.heap.size + 1 + 1 + 1 + 1 + 1, 0, none⟩) 2 2, .slice none 0 0] 30 (0, 0))
  prg : PrgAt W (.agg #[.int .i64 0, .slice none 0 0, .slice (some ⟨w.heap.size + 1, 0, none⟩) 1 1]) wPrg
  bdy : BdyAt W (.agg #[.int .i64 0, .int .i64 1, .slice (some ⟨w.heap.size + 1 + 1 + 1, 0, none⟩) 1 1, .slice (some ⟨w.heap.size + 1 + 1 + 1 + 1 + 1, 0, none⟩) 2 2, .slice none 0 0]) wBdy
theorem laid (w : World) : Laid w (W0 w) := by
  have B0 : (W0 w).heap[w.heap.size]? = some (.cells #[.int .i64 2, .int .i64 0, .int .i64 0, .int .i64 32, .int .i64 0, .int .i64 0] 67 (0, 0)) := by
    have := blk_alloc (blk_alloc (blk_alloc (blk_alloc (blk_alloc (blk_alloc (blk_new w (.cells #[.int .i64 2, .int .i64 0, .int .i64 0, .int .i64 32, .int .i64 0, .int .i64 0] 67)) (.cells #[.int .i64 0, .int .i64 0, .int .i64 0, .int .i64 1, .slice (some ⟨w.heap.size, 0, none⟩) 2 2] 52)) (.cells #[.int .i64 0, .slice none 0 0, .slice (some ⟨w.heap.size + 1, 0, none⟩) 1 1] 25)) (.cells #[.int .i64 0, .int .i64 0, .string ⟨#[]⟩] 65)) (.cells #[.int .i64 0] 3)) (.cells #[.int .i64 2, .int .i64 0, .int .i64 0, .int .i64 0, .int .i64 0, .slice none 0 0, .slice none 0 0, .int .i64 0, .slice none 0 0, .int .i64 24, .int .i64 0, .int .i64 0, .int .i64 0, .int .i64 0, .slice none 0 0, .slice none 0 0, .int .i64 1, .slice (some ⟨w.heap.size + 1 + 1 + 1 + 1, 0, none⟩) 1 1] 42)) (.cells #[.int .i64 0, .int .i64 1, .slice (some ⟨w.heap.size + 1 + 1 + 1, 0, none⟩) 1 1, .slice (some ⟨w.heap.size + 1 + 1 + 1 + 1 + 1, 0, none⟩) 2 2, .slice none 0 0] 30)
    exact this
  have B1 : (W0 w).heap[w.heap.size + 1]? = some (.cells #[.int .i64 0, .int .i64 0, .int .i64 0, .int .i64 1, .slice (some ⟨w.heap.size, 0, none⟩) 2 2] 52 (0, 0)) := by
    have := blk_alloc (blk_alloc (blk_alloc (blk_alloc (blk_alloc (blk_new (w.alloc (.cells #[.int .i64 2, .int .i64 0, .int .i64 0, .int .i64 32, .int .i64 0, .int .i64 0] 67)) (.cells #[.int .i64 0, .int .i64 0, .int .i64 0, .int .i64 1, .slice (some ⟨w.heap.size, 0, none⟩) 2 2] 52)) (.cells #[.int .i64 0, .slice none 0 0, .slice (some ⟨w.heap.size + 1, 0, none⟩) 1 1] 25)) (.cells #[.int .i64 0, .int .i64 0, .string ⟨#[]⟩] 65)) (.cells #[.int .i64 0] 3)) (.cells #[.int .i64 2, .int .i64 0, .int .i64 0, .int .i64 0, .int .i64 0, .slice none 0 0, .slice none 0 0, .int .i64 0, .slice none 0 0, .int .i64 24, .int .i64 0, .int .i64 0, .int .i64 0, .int .i64 0, .slice none 0 0, .slice none 0 0, .int .i64 1, .slice (some ⟨w.heap.size + 1 + 1 + 1 + 1, 0, none⟩) 1 1] 42)) (.cells #[.int .i64 0, .int .i64 1, .slice (some ⟨w.heap.size + 1 + 1 + 1, 0, none⟩) 1 1, .slice (some ⟨w.heap.size + 1 + 1 + 1 + 1 + 1, 0, none⟩) 2 2, .slice none 0 0] 30)
    rw [show (w.alloc (.cells #[.int .i64 2, .int .i64 0, .int .i64 0, .int .i64 32, .int .i64 0, .int .i64 0] 67)).heap.size = w.heap.size + 1 by simp] at this
    exact this
  have B2 : (W0 w).heap[w.heap.size + 1 + 1]? = some (.cells #[.int .i64 0, .slice none 0 0, .slice (some ⟨w.heap.size + 1, 0, none⟩) 1 1] 25 (0, 0)) := by
    have := blk_alloc (blk_alloc (blk_alloc (blk_alloc (blk_new ((w.alloc (.cells #[.int .i64 2, .int .i64 0, .int .i64 0, .int .i64 32, .int .i64 0, .int .i64 0] 67)).alloc (.cells #[.int .i64 0, .int .i64 0, .int .i64 0, .int .i64 1, .slice (some ⟨w.heap.size, 0, none⟩) 2 2] 52)) (.cells #[.int .i64 0, .slice none 0 0, .slice (some ⟨w.heap.size + 1, 0, none⟩) 1 1] 25)) (.cells #[.int .i64 0, .int .i64 0, .string ⟨#[]⟩] 65)) (.cells #[.int .i64 0] 3)) (.cells #[.int .i64 2, .int .i64 0, .int .i64 0, .int .i64 0, .int .i64 0, .slice none 0 0, .slice none 0 0, .int .i64 0, .slice none 0 0, .int .i64 24, .int .i64 0, .int .i64 0, .int .i64 0, .int .i64 0, .slice none 0 0, .slice none 0 0, .int .i64 1, .slice (some ⟨w.heap.size + 1 + 1 + 1 + 1, 0, none⟩) 1 1] 42)) (.cells #[.int .i64 0, .int .i64 1, .slice (some ⟨w.heap.size + 1 + 1 + 1, 0, none⟩) 1 1, .slice (some ⟨w.heap.size + 1 + 1 + 1 + 1 + 1, 0, none⟩) 2 2, .slice none 0 0] 30)
    rw [show ((w.alloc (.cells #[.int .i64 2, .int .i64 0, .int .i64 0, .int .i64 32, .int .i64 0, .int .i64 0] 67)).alloc (.cells #[.int .i64 0, .int .i64 0, .int .i64 0, .int .i64 1, .slice (some ⟨w.heap.size, 0, none⟩) 2 2] 52)).heap.size = w.heap.size + 1 + 1 by simp] at this
    exact this
  have B3 : (W0 w).heap[w.heap.size + 1 + 1 + 1]? = some (.cells #[.int .i64 0, .int .i64 0, .string ⟨#[]⟩] 65 (0, 0)) := by
    have := blk_alloc (blk_alloc (blk_alloc (blk_new (((w.alloc (.cells #[.int .i64 2, .int .i64 0, .int .i64 0, .int .i64 32, .int .i64 0, .int .i64 0] 67)).alloc (.cells #[.int .i64 0, .int .i64 0, .int .i64 0, .int .i64 1, .slice (some ⟨w.heap.size, 0, none⟩) 2 2] 52)).alloc (.cells #[.int .i64 0, .slice none 0 0, .slice (some ⟨w.heap.size + 1, 0, none⟩) 1 1] 25)) (.cells #[.int .i64 0, .int .i64 0, .string ⟨#[]⟩] 65)) (.cells #[.int .i64 0] 3)) (.cells #[.int .i64 2, .int .i64 0, .int .i64 0, .int .i64 0, .int .i64 0, .slice none 0 0, .slice none 0 0, .int .i64 0, .slice none 0 0, .int .i64 24, .int .i64 0, .int .i64 0, .int .i64 0, .int .i64 0, .slice none 0 0, .slice none 0 0, .int .i64 1, .slice (some ⟨w.heap.size + 1 + 1 + 1 + 1, 0, none⟩) 1 1] 42)) (.cells #[.int .i64 0, .int .i64 1, .slice (some ⟨w.heap.size + 1 + 1 + 1, 0, none⟩) 1 1, .slice (some ⟨w.heap.size + 1 + 1 + 1 + 1 + 1, 0, none⟩) 2 2, .slice none 0 0] 30)
    rw [show (((w.alloc (.cells #[.int .i64 2, .int .i64 0, .int .i64 0, .int .i64 32, .int .i64 0, .int .i64 0] 67)).alloc (.cells #[.int .i64 0, .int .i64 0, .int .i64 0, .int .i64 1, .slice (some ⟨w.heap.size, 0, none⟩) 2 2] 52)).alloc (.cells #[.int .i64 0, .slice none 0 0, .slice (some ⟨w.heap.size + 1, 0, none⟩) 1 1] 25)).heap.size = w.heap.size + 1 + 1 + 1 by simp] at this
    exact this
  have B4 : (W0 w).heap[w.heap.size + 1 + 1 + 1 + 1]? = some (.cells #[.int .i64 0] 3 (0, 0)) := by
    have := blk_alloc (blk_alloc (blk_new ((((w.alloc (.cells #[.int .i64 2, .int .i64 0, .int .i64 0, .int .i64 32, .int .i64 0, .int .i64 0] 67)).alloc (.cells #[.int .i64 0, .int .i64 0, .int .i64 0, .int .i64 1, .slice (some ⟨w.heap.size, 0, none⟩) 2 2] 52)).alloc (.cells #[.int .i64 0, .slice none 0 0, .slice (some ⟨w.heap.size + 1, 0, none⟩) 1 1] 25)).alloc (.cells #[.int .i64 0, .int .i64 0, .string ⟨#[]⟩] 65)) (.cells #[.int .i64 0] 3)) (.cells #[.int .i64 2, .int .i64 0, .int .i64 0, .int .i64 0, .int .i64 0, .slice none 0 0, .slice none 0 0, .int .i64 0, .slice none 0 0, .int .i64 24, .int .i64 0, .int .i64 0, .int .i64 0, .int .i64 0, .slice none 0 0, .slice none 0 0, .int .i64 1, .slice (some ⟨w.heap.size + 1 + 1 + 1 + 1, 0, none⟩) 1 1] 42)) (.cells #[.int .i64 0, .int .i64 1, .slice (some ⟨w.heap.size + 1 + 1 + 1, 0, none⟩) 1 1, .slice (some ⟨w.heap.size + 1 + 1 + 1 + 1 + 1, 0, none⟩) 2 2, .slice none 0 0] 30)
    rw [show ((((w.alloc (.cells #[.int .i64 2, .int .i64 0, .int .i64 0, .int .i64 32, .int .i64 0, .int .i64 0] 67)).alloc (.cells #[.int .i64 0, .int .i64 0, .int .i64 0, .int .i64 1, .slice (some ⟨w.heap.size, 0, none⟩) 2 2] 52)).alloc (.cells #[.int .i64 0, .slice none 0 0, .slice (some ⟨w.heap.size + 1, 0, none⟩) 1 1] 25)).alloc (.cells #[.int .i64 0, .int .i64 0, .string ⟨#[]⟩] 65)).heap.size = w.heap.size + 1 + 1 + 1 + 1 by simp] at this
    exact this
  have B5 : (W0 w).heap[w.heap.size + 1 + 1 + 1 + 1 + 1]? = some (.cells #[.int .i64 2, .int .i64 0, .int .i64 0, .int .i64 0, .int .i64 0, .slice none 0 0, .slice none 0 0, .int .i64 0, .slice none 0 0, .int .i64 24, .int .i64 0, .int .i64 0, .int .i64 0, .int .i64 0, .slice none 0 0, .slice none 0 0, .int .i64 1, .slice (some ⟨w.heap.size + 1 + 1 + 1 + 1, 0, none⟩) 1 1] 42 (0, 0)) := by
    have := blk_alloc (blk_new (((((w.alloc (.cells #[.int .i64 2, .int .i64 0, .int .i64 0, .int .i64 32, .int .i64 0, .int .i64 0] 67)).alloc (.cells #[.int .i64 0, .int .i64 0, .int .i64 0, .int .i64 1, .slice (some ⟨w.heap.size, 0, none⟩) 2 2] 52)).alloc (.cells #[.int .i64 0, .slice none 0 0, .slice (some ⟨w.heap.size + 1, 0, none⟩) 1 1] 25)).alloc (.cells #[.int .i64 0, .int .i64 0, .string ⟨#[]⟩] 65)).alloc (.cells #[.int .i64 0] 3)) (.cells #[.int .i64 2, .int .i64 0, .int .i64 0, .int .i64 0, .int .i64 0, .slice none 0 0, .slice none 0 0, .int .i64 0, .slice none 0 0, .int .i64 24, .int .i64 0, .int .i64 0, .int .i64 0, .int .i64 0, .slice none 0 0, .slice none 0 0, .int .i64 1, .slice (some ⟨w.heap.size + 1 + 1 + 1 + 1, 0, none⟩) 1 1] 42)) (.cells #[.int .i64 0, .int .i64 1, .slice (some ⟨w.heap.size + 1 + 1 + 1, 0, none⟩) 1 1, .slice (some ⟨w.heap.size + 1 + 1 + 1 + 1 + 1, 0, none⟩) 2 2, .slice none 0 0] 30)
    rw [show (((((w.alloc (.cells #[.int .i64 2, .int .i64 0, .int .i64 0, .int .i64 32, .int .i64 0, .int .i64 0] 67)).alloc (.cells #[.int .i64 0, .int .i64 0, .int .i64 0, .int .i64 1, .slice (some ⟨w.heap.size, 0, none⟩) 2 2] 52)).alloc (.cells #[.int .i64 0, .slice none 0 0, .slice (some ⟨w.heap.size + 1, 0, none⟩) 1 1] 25)).alloc (.cells #[.int .i64 0, .int .i64 0, .string ⟨#[]⟩] 65)).alloc (.cells #[.int .i64 0] 3)).heap.size = w.heap.size + 1 + 1 + 1 + 1 + 1 by simp] at this
    exact this
  have B6 : (W0 w).heap[w.heap.size + 1 + 1 + 1 + 1 + 1 + 1]? = some (.cells #[.int .i64 0, .int .i64 1, .slice (some ⟨w.heap.size + 1 + 1 + 1, 0, none⟩) 1 1, .slice (some ⟨w.heap.size + 1 + 1 + 1 + 1 + 1, 0, none⟩) 2 2, .slice none 0 0] 30 (0, 0)) := by
    have := blk_new ((((((w.alloc (.cells #[.int .i64 2, .int .i64 0, .int .i64 0, .int .i64 32, .int .i64 0, .int .i64 0] 67)).alloc (.cells #[.int .i64 0, .int .i64 0, .int .i64 0, .int .i64 1, .slice (some ⟨w.heap.size, 0, none⟩) 2 2] 52)).alloc (.cells #[.int .i64 0, .slice none 0 0, .slice (some ⟨w.heap.size + 1, 0, none⟩) 1 1] 25)).alloc (.cells #[.int .i64 0, .int .i64 0, .string ⟨#[]⟩] 65)).alloc (.cells #[.int .i64 0] 3)).alloc (.cells #[.int .i64 2, .int .i64 0, .int .i64 0, .int .i64 0, .int .i64 0, .slice none 0 0, .slice none 0 0, .int .i64 0, .slice none 0 0, .int .i64 24, .int .i64 0, .int .i64 0, .int .i64 0, .int .i64 0, .slice none 0 0, .slice none 0 0, .int .i64 1, .slice (some ⟨w.heap.size + 1 + 1 + 1 + 1, 0, none⟩) 1 1] 42)) (.cells #[.int .i64 0, .int .i64 1, .slice (some ⟨w.heap.size + 1 + 1 + 1, 0, none⟩) 1 1, .slice (some ⟨w.heap.size + 1 + 1 + 1 + 1 + 1, 0, none⟩) 2 2, .slice none 0 0] 30)
    rw [show ((((((w.alloc (.cells #[.int .i64 2, .int .i64 0, .int .i64 0, .int .i64 32, .int .i64 0, .int .i64 0] 67)).alloc (.cells #[.int .i64 0, .int .i64 0, .int .i64 0, .int .i64 1, .slice (some ⟨w.heap.size, 0, none⟩) 2 2] 52)).alloc (.cells #[.int .i64 0, .slice none 0 0, .slice (some ⟨w.heap.size + 1, 0, none⟩) 1 1] 25)).alloc (.cells #[.int .i64 0, .int .i64 0, .string ⟨#[]⟩] 65)).alloc (.cells #[.int .i64 0] 3)).alloc (.cells #[.int .i64 2, .int .i64 0, .int .i64 0, .int .i64 0, .int .i64 0, .slice none 0 0, .slice none 0 0, .int .i64 0, .slice none 0 0, .int .i64 24, .int .i64 0, .int .i64 0, .int .i64 0, .int .i64 0, .slice none 0 0, .slice none 0 0, .int .i64 1, .slice (some ⟨w.heap.size + 1 + 1 + 1 + 1, 0, none⟩) 1 1] 42)).heap.size = w.heap.size + 1 + 1 + 1 + 1 + 1 + 1 by simp] at this
    exact this
  have C0 : k67.C (W0 w) (some ⟨w.heap.size, 0, none⟩) wIns.length wIns := C_of_block k67 B0 (((Reps.none _ _).snoc (p := (⟨2, 0, 0⟩ : S67)) (c := [.int .i64 2, .int .i64 0, .int .i64 0]) (k67_mk _ _) rfl).snoc (p := (⟨32, 0, 0⟩ : S67)) (c := [.int .i64 32, .int .i64 0, .int .i64 0]) (k67_mk _ _) rfl) (by decide)
  have C1 : k52.C (W0 w) (some ⟨w.heap.size + 1, 0, none⟩) wPrg.codes.length wPrg.codes := C_of_block k52 B1 ((Reps.none _ _).snoc (p := (⟨0, 0, 0, 1, wIns⟩ : S52)) (c := [.int .i64 0, .int .i64 0, .int .i64 0, .int .i64 1, .slice (some ⟨w.heap.size, 0, none⟩) 2 2]) (k52_mk _ (⟨0, 0, 0, 1, wIns⟩ : S52) (c4 := 2) (Nat.le_refl 2) C0) rfl) (by decide)
  have C3 : k65.C (W0 w) (some ⟨w.heap.size + 1 + 1 + 1, 0, none⟩) wBdy.consts.length wBdy.consts := C_of_block k65 B3 ((Reps.none _ _).snoc (p := (⟨0, 0, ⟨#[]⟩⟩ : S65)) (c := [.int .i64 0, .int .i64 0, .string ⟨#[]⟩]) (k65_mk _ _) rfl) (by decide)
  have C4 : (Kd.int .i64).C (W0 w) (some ⟨w.heap.size + 1 + 1 + 1 + 1, 0, none⟩) ([0] : List Int).length [0] := C_of_block (Kd.int .i64) B4 ((Reps.none _ _).snoc (p := (0 : Int)) (c := [.int .i64 0]) rfl rfl) (by decide)
  have C5 : k42.C (W0 w) (some ⟨w.heap.size + 1 + 1 + 1 + 1 + 1, 0, none⟩) wBdy.ops.length wBdy.ops := by
    have n3 : (Kd.int .i64).C (W0 w) none ([] : List Int).length [] := Kd.C_nil _ _
    have n6 : k116.C (W0 w) none ([] : List S116).length [] := Kd.C_nil _ _
    exact C_of_block k42 B5 (((Reps.none _ _).snoc (p := (⟨2, 0, 0, 0, 0, [], [], 0, []⟩ : S42)) (c := [.int .i64 2, .int .i64 0, .int .i64 0, .int .i64 0, .int .i64 0, .slice none 0 0, .slice none 0 0, .int .i64 0, .slice none 0 0]) (k42_mk _ (⟨2, 0, 0, 0, 0, [], [], 0, []⟩ : S42) (c5 := 0) (Nat.le_refl 0) n3 (c6 := 0) (Nat.le_refl 0) n6 (c8 := 0) (Nat.le_refl 0) n3) rfl).snoc (p := (⟨24, 0, 0, 0, 0, [], [], 1, [0]⟩ : S42)) (c := [.int .i64 24, .int .i64 0, .int .i64 0, .int .i64 0, .int .i64 0, .slice none 0 0, .slice none 0 0, .int .i64 1, .slice (some ⟨w.heap.size + 1 + 1 + 1 + 1, 0, none⟩) 1 1]) (k42_mk _ (⟨24, 0, 0, 0, 0, [], [], 1, [0]⟩ : S42) (c5 := 0) (Nat.le_refl 0) n3 (c6 := 0) (Nat.le_refl 0) n6 (c8 := 1) (Nat.le_refl 1) C4) rfl) (by decide)
  exact ⟨B2, B6, ⟨none, 0, _, 1, rfl, Nat.le_refl 0, Nat.le_refl 1, Kd.C_nil _ _, C1⟩, ⟨_, 1, _, 2, none, 0, rfl, C3, C5, Kd.C_nil _ _⟩⟩
theorem PrgAt.below {w w1 : World} {v : Value} {p : Prg} (h : PrgAt w v p) (hb : Below w.heap.size w w1) : PrgAt w1 v p := by
  obtain ⟨A1, c1, A2, c2, e, l1, l2, h1, h2⟩ := h
  exact ⟨A1, c1, A2, c2, e, l1, l2, Kd.C_below h1 hb, Kd.C_below h2 hb⟩
theorem BdyAt.below {w w1 : World} {v : Value} {b : Bdy} (h : BdyAt w v b) (hb : Below w.heap.size w w1) : BdyAt w1 v b := by
  obtain ⟨A5, c5, A6, c6, A7, c7, e, h5, h6, h7⟩ := h
  exact ⟨A5, c5, A6, c6, A7, c7, e, Kd.C_below h5 hb, Kd.C_below h6 hb, Kd.C_below h7 hb⟩
theorem Laid.below {w W W1 : World} (h : Laid w W) (hb : Below W.heap.size W W1) : Laid w W1 := ⟨blk_below h.bp hb, blk_below h.bb hb, h.prg.below hb, h.bdy.below hb⟩
/-- ir.Check, of what lies as a program and a body. -/
theorem ir_Check_at {vp vb : Value} {p : Prg} {b : Bdy} {w : World} (hp : PrgAt w vp p) (hb : BdyAt w vb b) (hsz : ∀ s ∈ p.pool, s.size ≤ 9223372036854775807) (hcz : ∀ v ∈ b.consts, v.f2.size ≤ 9223372036854775807)
    (hll : ∀ t : Int, 0 ≤ t → t < b.ops.length → (rd_T42 b.ops t).f5.length ≤ 1000000 ∧ (rd_T42 b.ops t).f6.length ≤ 1000000 ∧ (rd_T42 b.ops t).f8.length ≤ 1000000) :
    Calls Try.prog 14 #[vp, vb] w fun e w' => e = .returned (.int .i64 (said (CheckB p b))) ∧ Below w.heap.size w w' := by
  obtain ⟨A1, c1, A2, c2, rfl, _, _, h1, h2⟩ := hp
  obtain ⟨A5, c5, A6, c6, A7, c7, rfl, h5, h6, h7⟩ := hb
  exact ir_Check p b A1 c1 A2 c2 A5 c5 A6 c6 A7 c7 w h1 h2 hsz h5 hcz h6 h7 hll
theorem wShort : ∀ t : Int, 0 ≤ t → t < wBdy.ops.length → (rd_T42 wBdy.ops t).f5.length ≤ 1000000 ∧ (rd_T42 wBdy.ops t).f6.length ≤ 1000000 ∧ (rd_T42 wBdy.ops t).f8.length ≤ 1000000 := by
  intro t h0 h1
  rcases int_two rfl h0 h1 with rfl | rfl <;> decide +kernel
theorem wShort2 : ∀ v ∈ wBdy.consts, v.f2.size ≤ 9223372036854775807 := by
  intro v hv
  have : v = ⟨0, 0, ⟨#[]⟩⟩ := by simpa [wBdy] using hv
  subst this
  decide
theorem below_W0 (w : World) : Below w.heap.size w (W0 w) := by
  unfold W0
  repeat (first | exact Below.refl _ _ | with_reducible apply below_alloc)
set_option maxHeartbeats 4000000 in
set_option maxRecDepth 100000 in
theorem works20 (w : World) : Calls Try.prog 13 #[] w fun e w' => e = .returned (.bool true) ∧ Below w.heap.size w w' := by
  have HC := Aside0.mk (fun W (h : Laid w W) => ir_Check_at (w := W) h.prg h.bdy (fun s hs => by cases hs) wShort2 wShort)
  rw [said_yes wCheckB] at HC
  go_enter Try.func13, Try.ntmps13
  go_wp2_with fail
  change Calls _ _ _ (W0 w) _
  have HL := Aside0.mk (laid w)
  have HB := Aside0.mk (below_W0 w)
  generalize W0 w = wq at *
  refine (ir_Uses 16 0 1 2 3 none 0 [] (.slice none 0 0) 0 (.slice none 0 0) _ (Kd.C_nil _ _) (by decide)).mono ?_
  rintro e w1 ⟨v, rfl, hR, hB⟩
  rw [show usesO 16 0 1 2 3 [] = [1, 2] from by decide +kernel] at hR
  obtain ⟨A, c, rfl, hc, hC⟩ := Kd.R_reads hR
  obtain ⟨ad, rfl, hx0⟩ := Kd.at_int hC 0 (by decide) (by decide)
  obtain ⟨ad2, e2, hx1⟩ := Kd.at_int hC 1 (by decide) (by decide)
  obtain rfl : ad = ad2 := (by injection e2)
  clear e2
  have HL1 := Aside0.mk (HL.out.below hB)
  have HB1 := Aside0.mk (below_step HB.out hB)
  clear hR hC hB HL HB hc
  have kc0 := blk_cell HL1.out.bp 0
  have kc1 := blk_cell HL1.out.bp 1
  have kc2 := blk_cell HL1.out.bp 2
  have oc0 := blk_cell HL1.out.bb 0
  have oc1 := blk_cell HL1.out.bb 1
  have oc2 := blk_cell HL1.out.bb 2
  have oc3 := blk_cell HL1.out.bb 3
  have oc4 := blk_cell HL1.out.bb 4
  simp at kc0 kc1 kc2 oc0 oc1 oc2 oc3 oc4
  have r0 : rd [1, 2] 0 = 1 := rfl
  have r1 : rd [1, 2] 1 = 2 := rfl
  rw [r0] at hx0
  rw [r1] at hx1
  clear r0 r1
  rw [show ad.add (Int.toNat 0) = ad by unfold Addr.add; simp] at hx0
  rw [show ad.add (Int.toNat 1) = ⟨ad.block, ad.off + 1, none⟩ by unfold Addr.add; simp] at hx1
  go_wp2_with (first | (go_at_call 14; refine (HC.out _ HL1.out).mono ?_; rintro e w2 ⟨rfl, hb2⟩; have tx0 := cell_later hb2 hx0; have tx1 := cell_later hb2 hx1) | (go_at_call 17; refine (ir_Def _ _ _ _ _ _ _ _ _ _).mono ?_; rintro e w3 ⟨rfl, hb3⟩))
  go_ret
  exact ⟨rfl, below_step (below_step HB1.out hb2) hb3⟩
end Go.Proofs.Ytmifocbodfkeeaa.K
