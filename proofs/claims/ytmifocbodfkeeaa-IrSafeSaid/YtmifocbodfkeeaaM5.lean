import Derived.Test.YtmifocbodfkeeaaM3
import Derived.BigQuiet
import Derived.Test.YtmifocbodfkeeaaM4
namespace Go.Proofs.Ytmifocbodfkeeaa.K
open Go.RowKit Go.Proofs.YtmifocbodfkeeaaW.PrintWords Go.Proofs.YtmifocbodfkeeaaW.PrintLast Go.Proofs.YtmifocbodfkeeaaW.PrintMore
set_option linter.unusedVariables false
set_option linter.unusedSimpArgs false
/-- The search's contract, as it is used here. -/
def SaidDepths (f : Nat) : Prop := ∀ (pa lo si de : Int) (A4 : Option Addr) (c4 : Nat) (ins : List S67) (w : World), Kd.C k67 w A4 ins.length ins → 1 ≤ ins.length → ins.length ≤ 4000 → 0 ≤ de → de ≤ 64 → Goes ins →
    Calls Try.prog f #[.agg #[.int .i64 pa, .int .i64 lo, .int .i64 si, .int .i64 de, .slice A4 ins.length c4]] w (Depths2 ins de w)
set_option maxHeartbeats 4000000 in
set_option maxRecDepth 100000 in
theorem code_right (hD : SaidDepths 88) (p : Prg) (A1 : Option Addr) (c1 : Nat) (A2 : Option Addr) (c2 : Nat) (f : Int) (w : World) (hr : k52.C w A2 p.codes.length p.codes) (h0 : 0 ≤ f) (h1 : f < p.codes.length) :
    Calls Try.prog 85 #[.agg #[.int .i64 p.g, .slice A1 p.pool.length c1, .slice A2 p.codes.length c2], .int .i64 f] w fun e w' => e = .returned (.bool (tells (RightC p f))) ∧ Below w.heap.size w w' := by
  have HB := Aside0.mk (Below.refl w.heap.size w)
  obtain ⟨ad, A4, c4, e, hx0, hx1, hx2, hx3, hx4, hl4, hC4⟩ := at_T52 hr f h0 h1
  obtain rfl := e
  have HD := Aside0.mk hD
  have HC := Aside0.mk hC4
  clear hr hD hC4
  unfold RightC
  generalize rd_T52 p.codes f = c at *
  have hy0 := cell1 hx0
  have hy1 := cell1 hx1
  have hy2 := cell1 hx2
  have hy3 := cell1 hx3
  have hy4 := cell1 hx4
  clear hx0 hx1 hx2 hx3 hx4
  have hn0 : 0 ≤ (c.f4.length : Int) := by omega
  by_cases hok : HeadC c f
  · obtain ⟨k0, k1, k2, k3, k4, k5, k6, k7, k8, k9, k10⟩ := id hok
    have HOK := Aside0.mk hok
    have hl0 : ((c.f4.length : Int) == 0) = false := by rw [beq_eq_false_iff_ne]; omega
    have hl1 : (c.f4.length == 0) = false := by rw [beq_eq_false_iff_ne]; omega
    obtain ⟨fb, hfb⟩ : ∃ fb : Bool, (f == 0) = fb := ⟨_, rfl⟩
    have k11 : fb = true → c.f1 ≤ 0 := fun h => k10 (by rw [h] at hfb; simpa using hfb)
    clear hok k10
    have bx1 := blk_alloc (blk_new w (.cells #[.int .i64 p.g, .slice A1 p.pool.length c1, .slice (some ad) p.codes.length c2] 25)) (.cells #[.int .i64 c.f0, .int .i64 c.f1, .int .i64 c.f2, .int .i64 c.f3, .slice A4 c.f4.length c4] 52)
    have bx2 := blk_new (w.alloc (.cells #[.int .i64 p.g, .slice A1 p.pool.length c1, .slice (some ad) p.codes.length c2] 25)) (.cells #[.int .i64 c.f0, .int .i64 c.f1, .int .i64 c.f2, .int .i64 c.f3, .slice A4 c.f4.length c4] 52)
    have bb : Below w.heap.size w ((w.alloc (.cells #[.int .i64 p.g, .slice A1 p.pool.length c1, .slice (some ad) p.codes.length c2] 25)).alloc (.cells #[.int .i64 c.f0, .int .i64 c.f1, .int .i64 c.f2, .int .i64 c.f3, .slice A4 c.f4.length c4] 52)) := below_alloc (below_alloc (Below.refl _ _) _) _
    have e1 : (w.alloc (.cells #[.int .i64 p.g, .slice A1 p.pool.length c1, .slice (some ad) p.codes.length c2] 25)).heap.size = w.heap.size + 1 := by simp
    rw [e1] at bx2
    replace bx1 := Aside0.mk bx1
    replace bx2 := Aside0.mk bx2
    replace bb := Aside0.mk bb
    clear e1
    cases fb
    all_goals
      try (have k12 := k11 rfl)
      clear k11
      go_enter Try.func85, Try.ntmps85
      go_wp2
      go_loopw [4, 78] (fun v4 v78 wr => ∃ i : Nat, i ≤ c.f4.length ∧ v4 = .bool false ∧ v78 = .int .i64 i ∧ Aside0 (wr.heap[w.heap.size]? = some (.cells #[.int .i64 p.g, .slice A1 p.pool.length c1, .slice (some ad) p.codes.length c2] 25 (0, 0))) ∧ Aside0 (wr.heap[w.heap.size + 1]? = some (.cells #[.int .i64 c.f0, .int .i64 c.f1, .int .i64 c.f2, .int .i64 c.f3, .slice A4 c.f4.length c4] 52 (0, 0))) ∧ Aside0 (Below w.heap.size w wr) ∧ Aside0 (∀ t : Int, 0 ≤ t → t < i → instrB p.g p.pool.length p.codes.length c.f1 c.f2 c.f4 t = true)) (fun _ v78 _ => c.f4.length - (intOf v78).toNat)
      case atStart => exact ⟨0, Nat.zero_le _, rfl, rfl, bx1, bx2, bb, ⟨fun t a b => by omega⟩⟩
      case round =>
        clear bx1 bx2 bb hy0 hy1 hy2 hy3 hy4
        obtain ⟨i, hi, rfl, rfl, B1, B2, BB, HI⟩ := hrel
        have hc0 := blk_cell B1.out 0
        have hc1 := blk_cell B1.out 1
        have hc2 := blk_cell B1.out 2
        have hd0 := blk_cell B2.out 0
        have hd1 := blk_cell B2.out 1
        have hd2 := blk_cell B2.out 2
        have hd3 := blk_cell B2.out 3
        have hd4 := blk_cell B2.out 4
        simp at hc0 hc1 hc2 hd0 hd1 hd2 hd3 hd4
        have hi9 : (i : Int) ≤ 4000 := by omega
        have hi0 : 0 ≤ (i : Int) := by omega
        by_cases hin : i < c.f4.length
        · have hin2 : (i : Int) < c.f4.length := by omega
          have hcal := code_instr p.g A1 p.pool.length c1 (some ad) p.codes.length c2 c.f0 c.f1 c.f2 c.f3 A4 c4 c.f4 i wr (Kd.C_below HC.out BB.out) hi0 hin2
          cases hb : instrB p.g p.pool.length p.codes.length c.f1 c.f2 c.f4 i with
          | false =>
            rw [hb] at hcal
            have HNO := Aside0.mk (tells_no (P := HeadC c f ∧ BodyC p c) (fun h => by have := h.2.1 i hi0 hin2; rw [hb] at this; cases this))
            clear hb
            go_wp2_with (go_at_call 115; refine hcal.mono ?_; rintro e w' ⟨rfl, hb'⟩)
            go_ret
            exact ⟨by rw [HNO.out]; rfl, below_step BB.out hb'⟩
          | true =>
            rw [hb] at hcal
            have HTR := Aside0.mk hb
            clear hb
            go_wp2_with (go_at_call 115; refine hcal.mono ?_; rintro e w' ⟨rfl, hb'⟩)
            go_roundw
            case rel =>
              refine ⟨i + 1, by omega, rfl, by go_num, ⟨blk_below B1.out hb'⟩, ⟨blk_below B2.out hb'⟩, ⟨below_step BB.out hb'⟩, ⟨fun t a b => ?_⟩⟩
              by_cases q : t = i
              · rw [q]; exact HTR.out
              · exact HI.out t a (by omega)
            case measure => simp [intOf]; omega
        · have hin2 : ¬ (i : Int) < c.f4.length := by omega
          obtain rfl : i = c.f4.length := by omega
          have hcal := HD.out c.f0 c.f1 c.f2 c.f3 A4 c4 c.f4 wr (Kd.C_below HC.out BB.out) (by omega) (by omega) k6 k7 (goes_of_instr HI.out)
          go_wp2_with (go_at_call 88; refine hcal.mono ?_; rintro e w' ⟨v, b, rfl, ht, hf, hb'⟩)
          go_ret
          refine ⟨?_, below_step BB.out hb'⟩
          cases b with
          | true => rw [tells_yes ⟨HOK.out, HI.out, (ht rfl).1⟩]; rfl
          | false => rw [tells_no (fun h => (hf rfl).1 h.2.2)]; rfl
  · have hno : tells (HeadC c f ∧ BodyC p c) = false := tells_no (fun h => hok h.1)
    have HOK := Aside0.mk hok
    have HNO := Aside0.mk hno
    clear hok hno HC HD
    go_enter Try.func85, Try.ntmps85
    go_upto_region 4 with fail
    all_goals
      try simp only [beq_iff_eq, beq_eq_false_iff_ne] at *
      first
      | (exfalso; have h := HOK.out; unfold HeadC at h; omega)
      | (go_ret
         refine ⟨?_, ?_⟩
         · rw [HNO.out]
           rfl
         · repeat (first | (with_reducible first | exact HB.out | apply below_alloc | apply pw_below_drewN | apply below_drew1)))
end Go.Proofs.Ytmifocbodfkeeaa.K
namespace Go.Proofs.Ytmifocbodfkeeaa.K
open Go.RowKit Go.Proofs.YtmifocbodfkeeaaW.PrintWords Go.Proofs.YtmifocbodfkeeaaW.PrintLast Go.Proofs.YtmifocbodfkeeaaW.PrintMore
set_option linter.unusedVariables false
set_option linter.unusedSimpArgs false
set_option maxHeartbeats 400000 in
theorem long_str (s : ByteArray) (w : World) (hs : s.size ≤ 9223372036854775807) : Calls Try.prog 84 #[.string s] w fun e w' => e = .returned (.bool (decide (256 < (s.size : Int)))) ∧ w' = w := by
  go_enter Try.func84, Try.ntmps84
  go_wp2
  all_goals (go_ret; exact ⟨rfl, rfl⟩)
/-- May a program's numbers be? -/
def HeadP (p : Prg) : Prop := 0 ≤ p.g ∧ p.g ≤ 24 ∧ 1 ≤ (p.codes.length : Int) ∧ (p.codes.length : Int) ≤ 32 ∧ (p.pool.length : Int) ≤ 120
theorem checkP_iff (p : Prg) : CheckP p ↔ HeadP p ∧ (∀ i : Nat, i < p.pool.length → (rdOf ByteArray.empty p.pool (i : Int)).size ≤ 256) ∧ ∀ f : Int, 0 ≤ f → f < p.codes.length → RightC p f := by
  unfold CheckP HeadP
  constructor
  · rintro ⟨a, b, c, d, e, f, g⟩
    exact ⟨⟨a, b, by omega, by omega, by omega⟩, f, g⟩
  · rintro ⟨⟨a, b, c, d, e⟩, f, g⟩
    exact ⟨a, b, by omega, by omega, by omega, f, g⟩
set_option maxHeartbeats 4000000 in
set_option maxRecDepth 100000 in
theorem code_Check (hD : SaidDepths 88) (p : Prg) (A1 : Option Addr) (c1 : Nat) (A2 : Option Addr) (c2 : Nat) (w : World) (hs : Kd.string.C w A1 p.pool.length p.pool) (hr : k52.C w A2 p.codes.length p.codes) (hsz : ∀ s ∈ p.pool, s.size ≤ 9223372036854775807) :
    Calls Try.prog 35 #[.agg #[.int .i64 p.g, .slice A1 p.pool.length c1, .slice A2 p.codes.length c2]] w fun e w' => e = .returned (.int .i64 (said (CheckP p))) ∧ Below w.heap.size w w' := by
  have HB := Aside0.mk (Below.refl w.heap.size w)
  have HD := Aside0.mk hD
  have HS := Aside0.mk hs
  have HR := Aside0.mk hr
  have HSZ := Aside0.mk hsz
  have HIF := Aside0.mk (checkP_iff p)
  clear hD hs hr hsz
  have bx1 := Aside0.mk (blk_new w (.cells #[.int .i64 p.g, .slice A1 p.pool.length c1, .slice A2 p.codes.length c2] 25))
  have b1 := Aside0.mk (below_alloc (Below.refl w.heap.size w) (.cells #[.int .i64 p.g, .slice A1 p.pool.length c1, .slice A2 p.codes.length c2] 25))
  have n1 : 0 ≤ (p.codes.length : Int) := by omega
  have n2 : 0 ≤ (p.pool.length : Int) := by omega
  by_cases hok : HeadP p
  · obtain ⟨k0, k1, k2, k3, k4⟩ := id hok
    have HOK := Aside0.mk hok
    clear hok
    have hl0 : ((p.codes.length : Int) == 0) = false := by rw [beq_eq_false_iff_ne]; omega
    have hl1 : (p.codes.length == 0) = false := by rw [beq_eq_false_iff_ne]; omega
    have hp : ∀ W : World, Below w.heap.size w W → Pred 84 #[] (fun i _ v => v = .string (rdOf ByteArray.empty p.pool (i : Int))) p.pool.length (fun i => decide (256 < ((rdOf ByteArray.empty p.pool (i : Int)).size : Int))) W := by
      intro W _ W' i v hb hi hv
      subst hv
      refine (long_str _ W' ?_).mono ?_
      · refine HSZ.out _ ?_
        unfold rdOf
        rw [Int.toNat_natCast, List.getD_eq_getElem?_getD, List.getElem?_eq_getElem hi]
        exact List.getElem_mem _
      · rintro e w' ⟨rfl, rfl⟩
        exact ⟨rfl, Below.refl _ _⟩
    have HP := Aside0.mk hp
    clear hp
    have hcal := fun W hb => contains_str 84 #[] (enters_of Try.func84 (by kernel_rfl) rfl) A1 c1 p.pool _ W (Kd.C_below HS.out hb) (by omega) (HP.out W hb)
    by_cases hlong : ∀ i : Nat, i < p.pool.length → (rdOf ByteArray.empty p.pool (i : Int)).size ≤ 256
    · have hany : (List.range p.pool.length).any (fun i => decide (256 < ((rdOf ByteArray.empty p.pool (i : Int)).size : Int))) = false := by
        rw [List.any_eq_false]
        intro i hi
        have := hlong i (by simpa using hi)
        simp
        omega
      rw [hany] at hcal
      have HCAL := Aside0.mk hcal
      have HLO := Aside0.mk hlong
      clear hcal hany hlong
      go_enter Try.func35, Try.ntmps35
      go_wp2_with (go_at_call 83; refine (HCAL.out _ b1.out).mono ?_; rintro e w1 ⟨rfl, hb1⟩; obtain ⟨hc1, hf1⟩ := bcell hb1)
      have bx2 := Aside0.mk (blk_below bx1.out hb1)
      have b2 := Aside0.mk (below_step b1.out hb1)
      clear hc1 hf1 hb1 bx1 b1
      go_loopw [2, 38] (fun v2 v38 wr => ∃ i : Nat, i ≤ p.codes.length ∧ v2 = .int .i64 0 ∧ v38 = .int .i64 i ∧ Aside0 (wr.heap[w.heap.size]? = some (.cells #[.int .i64 p.g, .slice A1 p.pool.length c1, .slice A2 p.codes.length c2] 25 (0, 0))) ∧ Aside0 (Below w.heap.size w wr) ∧ Aside0 (∀ f : Int, 0 ≤ f → f < i → RightC p f)) (fun _ v38 _ => p.codes.length - (intOf v38).toNat)
      case atStart => exact ⟨0, Nat.zero_le _, rfl, rfl, bx2, b2, ⟨fun t a b => by omega⟩⟩
      case round =>
        clear bx2 b2
        obtain ⟨i, hi, rfl, rfl, B1, BB, HI⟩ := hrel
        have hc0 := blk_cell B1.out 0
        have hc1 := blk_cell B1.out 1
        have hc2 := blk_cell B1.out 2
        simp at hc0 hc1 hc2
        have hi9 : (i : Int) ≤ 4000 := by omega
        have hi0 : 0 ≤ (i : Int) := by omega
        by_cases hin : i < p.codes.length
        · have hin2 : (i : Int) < p.codes.length := by omega
          have hcal := code_right HD.out p A1 c1 A2 c2 i wr (Kd.C_below HR.out BB.out) hi0 hin2
          by_cases hb : RightC p i
          · rw [tells_yes hb] at hcal
            have HTR := Aside0.mk hb
            clear hb
            go_wp2_with (go_at_call 85; refine hcal.mono ?_; rintro e w' ⟨rfl, hb'⟩)
            go_roundw
            case rel =>
              refine ⟨i + 1, by omega, rfl, by go_num, ⟨blk_below B1.out hb'⟩, ⟨below_step BB.out hb'⟩, ⟨fun t a b => ?_⟩⟩
              by_cases q : t = i
              · rw [q]; exact HTR.out
              · exact HI.out t a (by omega)
            case measure => simp [intOf]; omega
          · rw [tells_no hb] at hcal
            have HNO := Aside0.mk (said_no (P := CheckP p) (fun h => hb ((HIF.out.1 h).2.2 i hi0 hin2)))
            clear hb
            go_wp2_with (go_at_call 85; refine hcal.mono ?_; rintro e w' ⟨rfl, hb'⟩)
            go_ret
            exact ⟨by rw [HNO.out]; rfl, below_step BB.out hb'⟩
        · have hin2 : ¬ (i : Int) < p.codes.length := by omega
          obtain rfl : i = p.codes.length := by omega
          have HYES := Aside0.mk (said_yes (HIF.out.2 ⟨HOK.out, HLO.out, HI.out⟩))
          go_wp2
          go_ret
          exact ⟨by rw [HYES.out]; rfl, BB.out⟩
    · have hany : (List.range p.pool.length).any (fun i => decide (256 < ((rdOf ByteArray.empty p.pool (i : Int)).size : Int))) = true := by
        rw [List.any_eq_true]
        apply Classical.byContradiction
        intro hno
        refine hlong fun i hi => Classical.byContradiction fun h => hno ⟨i, by simpa using hi, ?_⟩
        simp
        omega
      rw [hany] at hcal
      have HCAL := Aside0.mk hcal
      have HNO := Aside0.mk (said_no (P := CheckP p) (fun h => hlong (HIF.out.1 h).2.1))
      clear hcal hany hlong
      go_enter Try.func35, Try.ntmps35
      go_wp2_with (go_at_call 83; refine (HCAL.out _ b1.out).mono ?_; rintro e w1 ⟨rfl, hb1⟩)
      go_ret
      exact ⟨by rw [HNO.out]; rfl, below_step b1.out hb1⟩
  · have HOK := Aside0.mk hok
    have HNO := Aside0.mk (said_no (P := CheckP p) (fun h => hok (HIF.out.1 h).1))
    clear hok
    go_enter Try.func35, Try.ntmps35
    go_wp2_with fail
    all_goals
      try simp only [beq_iff_eq, beq_eq_false_iff_ne] at *
      first
      | (exfalso; have h := HOK.out; unfold HeadP at h; omega)
      | (exfalso; have h := HOK.out; unfold HeadP at h; have hz := mt List.length_eq_zero_iff.1 ‹¬p.codes = []›; omega)
      | (go_ret
         refine ⟨?_, ?_⟩
         · rw [HNO.out]
           rfl
         · repeat (first | (with_reducible first | exact HB.out | apply below_alloc | apply pw_below_drewN | apply below_drew1)))
end Go.Proofs.Ytmifocbodfkeeaa.K
namespace Go.Proofs.Ytmifocbodfkeeaa.K
open Go.RowKit Go.Proofs.YtmifocbodfkeeaaW.PrintWords Go.Proofs.YtmifocbodfkeeaaW.PrintLast Go.Proofs.YtmifocbodfkeeaaW.PrintMore
set_option linter.unusedVariables false
set_option linter.unusedSimpArgs false
theorem said_depths : SaidDepths 88 := fun pa lo si de A4 c4 ins w h a b c d e => code_depths pa lo si de A4 c4 ins w h a b c d e
set_option maxHeartbeats 400000 in
theorem ir_below (a b : Int) (w : World) : Calls Try.prog 36 #[.int .i64 a, .int .i64 b] w fun e w' => e = .returned (.bool (decide (0 ≤ a ∧ a < b))) ∧ w' = w := by
  go_enter Try.func36, Try.ntmps36
  go_wp2
  all_goals (go_ret; exact ⟨ret_bool (by rw [Bool.eq_iff_iff]; simp; omega), rfl⟩)
set_option maxHeartbeats 400000 in
theorem ir_goes (a : Int) (w : World) : Calls Try.prog 56 #[.int .i64 a] w fun e w' => e = .returned (.bool (decide (17 ≤ a ∧ a ≤ 19))) ∧ w' = w := by
  go_enter Try.func56, Try.ntmps56
  go_wp2
  all_goals (go_ret; exact ⟨ret_bool (by rw [Bool.eq_iff_iff]; simp_all; try omega), rfl⟩)
/-- Where one comes behind an operation. -/
def tgtsO (op a at_ : Int) : List Int := if op = 24 then [] else if op = 17 then [a] else if 17 ≤ op ∧ op ≤ 19 then [at_ + 1, a] else [at_ + 1]
theorem tgtsO_cases (op a t : Int) :
    ((op == 24) = true ∧ tgtsO op a t = []) ∨ ((op == 24) = false ∧ (op == 17) = true ∧ tgtsO op a t = [a]) ∨
    ((op == 24) = false ∧ (op == 17) = false ∧ decide (17 ≤ op ∧ op ≤ 19) = true ∧ tgtsO op a t = [t + 1, a]) ∨ ((op == 24) = false ∧ (op == 17) = false ∧ decide (17 ≤ op ∧ op ≤ 19) = false ∧ tgtsO op a t = [t + 1]) := by
  unfold tgtsO
  by_cases h1 : op = 24
  · left; simp [h1]
  · by_cases h2 : op = 17
    · right; left; simp [h2]
    · right; right
      by_cases h3 : 17 ≤ op ∧ op ≤ 19
      · left
        rw [if_neg h1, if_neg h2, if_pos h3]
        exact ⟨beq_eq_false_iff_ne.2 h1, beq_eq_false_iff_ne.2 h2, decide_eq_true h3, rfl⟩
      · right
        rw [if_neg h1, if_neg h2, if_neg h3]
        exact ⟨beq_eq_false_iff_ne.2 h1, beq_eq_false_iff_ne.2 h2, decide_eq_false h3, rfl⟩
set_option maxHeartbeats 4000000 in
set_option maxRecDepth 100000 in
theorem ir_Targets (f regs : Int) (A2 : Option Addr) (n2 c2 : Nat) (A3 : Option Addr) (c3 : Nat) (ops : List S42) (A4 : Option Addr) (n4 c4 : Nat) (at_ : Int) (w : World) (hr : Kd.C k42 w A3 ops.length ops) (h0 : 0 ≤ at_) (h1 : at_ < ops.length) (h2 : at_ ≤ 1000000) :
    Calls Try.prog 18 #[.agg #[.int .i64 f, .int .i64 regs, .slice A2 n2 c2, .slice A3 ops.length c3, .slice A4 n4 c4], .int .i64 at_] w fun e w' => ∃ v : Value, e = .returned v ∧ (Kd.int .i64).R 3 w' w.heap.size (fun _ => True) v (tgtsO (rd_T42 ops at_).f0 (rd_T42 ops at_).f1 at_) ∧ Below w.heap.size w w' := by
  have HB := Aside0.mk (Below.refl w.heap.size w)
  obtain ⟨ad, A5, d5, A6, d6, A8, d8, e, hx0, hx1, hx2, hx3, hx4, hx5, hx6, hx7, hx8, hrest⟩ := at_T42 hr at_ h0 h1
  subst e
  clear hr hrest
  generalize rd_T42 ops at_ = x at *
  have hy0 := cell1 hx0
  have hy1 := cell1 hx1
  have hy2 := cell1 hx2
  have hy3 := cell1 hx3
  have hy4 := cell1 hx4
  have hy5 := cell1 hx5
  have hy6 := cell1 hx6
  have hy7 := cell1 hx7
  have hy8 := cell1 hx8
  clear hx0 hx1 hx2 hx3 hx4 hx5 hx6 hx7 hx8
  obtain ⟨b1, ht⟩ | ⟨b1, b2, ht⟩ | ⟨b1, b2, b3, ht⟩ | ⟨b1, b2, b3, ht⟩ := tgtsO_cases x.f0 x.f1 at_
  all_goals
    rw [ht]
    clear ht
    go_enter Try.func18, Try.ntmps18
    go_wp2_with (go_at_call 56; refine (ir_goes _ _).mono ?_; rintro e w' ⟨rfl, rfl⟩)
    go_ret
    refine ⟨.slice _ _ _, rfl, ?_, ?_⟩
    · first
      | exact Kd.R_nil _ _ _ _ _
      | (refine R_ints_at _ [x.f1] _ _ ?_ ?_ ?_ <;> simp; done)
      | (refine R_ints_at _ [x.f1] _ _ ?_ ?_ ?_ <;> simp <;> omega)
      | (refine R_ints_at _ [at_ + 1] _ _ ?_ ?_ ?_ <;> simp; done)
      | (refine R_ints_at _ [at_ + 1] _ _ ?_ ?_ ?_ <;> simp <;> omega)
      | (refine R_ints_at _ [at_ + 1, x.f1] _ _ ?_ ?_ ?_ <;> simp; done)
      | (refine R_ints_at _ [at_ + 1, x.f1] _ _ ?_ ?_ ?_ <;> simp <;> omega)
    · repeat (first | (with_reducible first | exact HB.out | apply below_alloc | apply pw_below_drewN | apply below_drew1) | exact HB.out)
set_option maxHeartbeats 4000000 in
set_option maxRecDepth 100000 in
theorem code_Depths (p : Prg) (A1 : Option Addr) (c1 : Nat) (A2 : Option Addr) (c2 : Nat) (f : Int) (w : World) (hs : Kd.string.C w A1 p.pool.length p.pool) (hr : k52.C w A2 p.codes.length p.codes) (hsz : ∀ s ∈ p.pool, s.size ≤ 9223372036854775807) (h0 : 0 ≤ f) (h1 : f < p.codes.length) (hck : CheckP p) :
    Calls Try.prog 42 #[.agg #[.int .i64 p.g, .slice A1 p.pool.length c1, .slice A2 p.codes.length c2], .int .i64 f] w fun e w' => ∃ (v : Value) (out : List Int), e = .returned v ∧ DepthsOf (rd_T52 p.codes f).f4 out ∧ (Kd.int .i64).R 3 w' w.heap.size (fun _ => True) v out ∧ Below w.heap.size w w' := by
  have HC := Aside0.mk hck
  have HR := Aside0.mk hr
  have HCK := Aside0.mk (fun W (hb : Below w.heap.size w W) => code_Check said_depths p A1 c1 A2 c2 W (Kd.C_below hs hb) (Kd.C_below hr hb) hsz)
  clear hs hr hsz hck
  have bx1 := Aside0.mk (blk_new w (.cells #[.int .i64 p.g, .slice A1 p.pool.length c1, .slice A2 p.codes.length c2] 25))
  have b1 := Aside0.mk (below_alloc (Below.refl w.heap.size w) (.cells #[.int .i64 p.g, .slice A1 p.pool.length c1, .slice A2 p.codes.length c2] 25))
  have hcal := HCK.out _ b1.out
  rw [said_yes HC.out] at hcal
  have HCAL := Aside0.mk hcal
  clear hcal
  have hrc := HC.out.2.2.2.2.2.2 f h0 h1
  have HRC := Aside0.mk hrc
  clear hrc
  go_enter Try.func42, Try.ntmps42
  go_wp2_with fail
  refine HCAL.out.mono ?_
  rintro e w1 ⟨rfl, hb1⟩
  have bx2 := Aside0.mk (blk_below bx1.out hb1)
  have b2 := Aside0.mk (below_step b1.out hb1)
  clear hb1
  have hc0 := blk_cell bx2.out 0
  have hc1 := blk_cell bx2.out 1
  have hc2 := blk_cell bx2.out 2
  simp at hc0 hc1 hc2
  obtain ⟨ad, A4, c4, e, hx0, hx1, hx2, hx3, hx4, hl4, hC4⟩ := at_T52 (Kd.C_below HR.out b2.out) f h0 h1
  subst e
  have HC4 := Aside0.mk hC4
  clear hC4
  have HG : Aside0 (∃ c, rd_T52 p.codes f = c) := ⟨⟨_, rfl⟩⟩
  obtain ⟨c, hc⟩ := HG.out
  rw [hc] at hx0 hx1 hx2 hx3 hx4 hl4 HC4
  have HRC2 := HRC.out
  unfold RightC at HRC2
  rw [hc] at HRC2
  obtain ⟨hh, hbody⟩ := HRC2
  have HCC := Aside0.mk hc
  have HBODY := Aside0.mk hbody
  obtain ⟨k0, k1, k2, k3, k4, k5, k6, k7, k8, k9, _⟩ := hh
  clear hc hbody HG
  go_wp2_with fail
  refine (code_depths c.f0 c.f1 c.f2 c.f3 A4 c4 c.f4 w1 HC4.out (by omega) (by omega) k6 k7 (goes_of_instr HBODY.out.1)).mono ?_
  rintro e w2 ⟨v, b, rfl, ht, hf, hb2⟩
  cases b with
  | false => exact absurd HBODY.out.2 (hf rfl).1
  | true =>
    obtain ⟨_, out, hd, hR⟩ := ht rfl
    have H1 := Aside0.mk hd
    have H2 := Aside0.mk hR
    have H3 := Aside0.mk hb2
    clear ht hf hd hR hb2
    go_wp2
    go_ret
    exact ⟨v, out, rfl, by rw [HCC.out]; exact H1.out, Kd.R_lower H2.out b2.out.size, below_step b2.out H3.out⟩
end Go.Proofs.Ytmifocbodfkeeaa.K
