import Derived.Test.YtmifocbodfkeeaaM1
import Derived.Test.YtmifocbodfkeeaaM5
import Derived.Test.YtmifocbodfkeeaaM6
namespace Go.Proofs.Ytmifocbodfkeeaa.K
open Go.RowKit Go.Proofs.YtmifocbodfkeeaaW.PrintWords Go.Proofs.YtmifocbodfkeeaaW.PrintLast Go.Proofs.YtmifocbodfkeeaaW.PrintMore
set_option linter.unusedVariables false
set_option linter.unusedSimpArgs false
set_option maxHeartbeats 400000 in
theorem index_int (g : Nat) (lb : Array Value) (eg : ∀ args w, (callFunc g args).run Try.prog w = .ok (.enter g args) w) (A : Option Addr) (c : Nat) (xs : List Int) (p : Nat → Bool) (w : World)
    (hr : Kd.C (Kd.int .i64) w A xs.length xs) (hn : xs.length ≤ 1000000) (hp : Pred g lb (fun i _ v => v = .int .i64 (rd xs (i : Int))) xs.length p w) :
    Calls Try.prog 124 #[.slice A xs.length c, .func (.func g) #[] lb] w fun e w' => e = .returned (.int .i64 (idxF p xs.length)) ∧ Below w.heap.size w w' := by
  have HR := Aside0.mk hr
  have HP := Aside0.mk hp
  clear hr hp
  go_enter Try.func124, Try.ntmps124
  go_wp2
  go_loopg [5, 8] xs.length (fun gg _ s8 wr => ∃ kk : Nat, kk ≤ xs.length ∧ xs.length - kk ≤ gg ∧ s8 = .int .i64 kk ∧ Aside0 (Below w.heap.size w wr) ∧ Aside0 (∀ j, j < kk → p j = false))
  case atStart => exact ⟨0, Nat.zero_le _, by omega, rfl, ⟨Below.refl _ w⟩, ⟨fun j hj => absurd hj (Nat.not_lt_zero _)⟩⟩
  case round =>
    obtain ⟨kk, hkk, hg, rfl, BW, A⟩ := hrel
    by_cases hlt : kk < xs.length
    · have hltz : (kk : Int) < (xs.length : Int) := by omega
      obtain ⟨ad, e, hx⟩ := Kd.at_int (Kd.C_below HR.out BW.out) kk (by omega) hltz
      subst e
      rw [Int.toNat_natCast] at hx
      have hcall := HP.out wr kk _ BW.out hlt rfl
      clear HP
      cases hq : p kk with
      | true =>
        rw [hq] at hcall
        go_wp2_with (go_at_fn g; refine hcall.mono ?_; rintro e w' ⟨rfl, hb'⟩)
        go_ret
        exact ⟨ret_int (idxF_hit hlt hq A.out).symm, BW.out.trans (hb'.mono BW.out.size)⟩
      | false =>
        rw [hq] at hcall
        go_wp2_with (go_at_fn g; refine hcall.mono ?_; rintro e w' ⟨rfl, hb'⟩)
        go_roundg (xs.length - (kk + 1))
        case measure => omega
        case rel =>
          refine ⟨kk + 1, by omega, by omega, by go_num, ⟨BW.out.trans (hb'.mono BW.out.size)⟩, ⟨fun j hj => ?_⟩⟩
          by_cases e : j = kk
          · rw [e]; exact hq
          · exact A.out j (by omega)
    · have hltz : ¬ (kk : Int) < (xs.length : Int) := by omega
      go_wp2
      go_ret
      refine ⟨ret_int ?_, BW.out⟩
      rw [idxF_miss (fun j hj => A.out j (by omega))]
set_option maxHeartbeats 400000 in
theorem contains_int (g : Nat) (lb : Array Value) (eg : ∀ args w, (callFunc g args).run Try.prog w = .ok (.enter g args) w) (A : Option Addr) (c : Nat) (xs : List Int) (p : Nat → Bool) (w : World)
    (hr : Kd.C (Kd.int .i64) w A xs.length xs) (hn : xs.length ≤ 1000000) (hp : Pred g lb (fun i _ v => v = .int .i64 (rd xs (i : Int))) xs.length p w) :
    Calls Try.prog 91 #[.slice A xs.length c, .func (.func g) #[] lb] w fun e w' => e = .returned (.bool ((List.range xs.length).any p)) ∧ Below w.heap.size w w' := by
  have h := index_int g lb eg A c xs p w hr hn hp
  clear hp hr
  go_enter Try.func91, Try.ntmps91
  go_wp2_with (go_at_call 124; refine h.mono ?_; rintro e w' ⟨rfl, hb'⟩)
  go_ret
  exact ⟨ret_bool (idxF_any _ _), hb'⟩
set_option maxHeartbeats 400000 in
theorem index_val (g : Nat) (lb : Array Value) (eg : ∀ args w, (callFunc g args).run Try.prog w = .ok (.enter g args) w) (A : Option Addr) (c : Nat) (xs : List S65) (p : Nat → Bool) (w : World)
    (hr : Kd.C k65 w A xs.length xs) (hn : xs.length ≤ 1000000) (hp : Pred g lb (fun i _ v => v = .agg #[.int .i64 (rd_T65 xs (i : Int)).f0, .int .i64 (rd_T65 xs (i : Int)).f1, .string (rd_T65 xs (i : Int)).f2]) xs.length p w) :
    Calls Try.prog 86 #[.slice A xs.length c, .func (.func g) #[] lb] w fun e w' => e = .returned (.int .i64 (idxF p xs.length)) ∧ Below w.heap.size w w' := by
  have HR := Aside0.mk hr
  have HP := Aside0.mk hp
  clear hr hp
  go_enter Try.func86, Try.ntmps86
  go_wp2
  go_loopg [5, 8] xs.length (fun gg _ s8 wr => ∃ kk : Nat, kk ≤ xs.length ∧ xs.length - kk ≤ gg ∧ s8 = .int .i64 kk ∧ Aside0 (Below w.heap.size w wr) ∧ Aside0 (∀ j, j < kk → p j = false))
  case atStart => exact ⟨0, Nat.zero_le _, by omega, rfl, ⟨Below.refl _ w⟩, ⟨fun j hj => absurd hj (Nat.not_lt_zero _)⟩⟩
  case round =>
    obtain ⟨kk, hkk, hg, rfl, BW, A⟩ := hrel
    by_cases hlt : kk < xs.length
    · have hltz : (kk : Int) < (xs.length : Int) := by omega
      obtain ⟨ad, e, hx0, hx1, hx2⟩ := at_T65 (Kd.C_below HR.out BW.out) kk (by omega) hltz
      subst e
      rw [Int.toNat_natCast] at hx0 hx1 hx2
      have hcall := HP.out wr kk _ BW.out hlt rfl
      clear HP
      cases hq : p kk with
      | true =>
        rw [hq] at hcall
        go_wp2_with (go_at_fn g; refine hcall.mono ?_; rintro e w' ⟨rfl, hb'⟩)
        go_ret
        exact ⟨ret_int (idxF_hit hlt hq A.out).symm, BW.out.trans (hb'.mono BW.out.size)⟩
      | false =>
        rw [hq] at hcall
        go_wp2_with (go_at_fn g; refine hcall.mono ?_; rintro e w' ⟨rfl, hb'⟩)
        go_roundg (xs.length - (kk + 1))
        case measure => omega
        case rel =>
          refine ⟨kk + 1, by omega, by omega, by go_num, ⟨BW.out.trans (hb'.mono BW.out.size)⟩, ⟨fun j hj => ?_⟩⟩
          by_cases e : j = kk
          · rw [e]; exact hq
          · exact A.out j (by omega)
    · have hltz : ¬ (kk : Int) < (xs.length : Int) := by omega
      go_wp2
      go_ret
      refine ⟨ret_int ?_, BW.out⟩
      rw [idxF_miss (fun j hj => A.out j (by omega))]
set_option maxHeartbeats 400000 in
theorem contains_val (g : Nat) (lb : Array Value) (eg : ∀ args w, (callFunc g args).run Try.prog w = .ok (.enter g args) w) (A : Option Addr) (c : Nat) (xs : List S65) (p : Nat → Bool) (w : World)
    (hr : Kd.C k65 w A xs.length xs) (hn : xs.length ≤ 1000000) (hp : Pred g lb (fun i _ v => v = .agg #[.int .i64 (rd_T65 xs (i : Int)).f0, .int .i64 (rd_T65 xs (i : Int)).f1, .string (rd_T65 xs (i : Int)).f2]) xs.length p w) :
    Calls Try.prog 37 #[.slice A xs.length c, .func (.func g) #[] lb] w fun e w' => e = .returned (.bool ((List.range xs.length).any p)) ∧ Below w.heap.size w w' := by
  have h := index_val g lb eg A c xs p w hr hn hp
  clear hp hr
  go_enter Try.func37, Try.ntmps37
  go_wp2_with (go_at_call 86; refine h.mono ?_; rintro e w' ⟨rfl, hb'⟩)
  go_ret
  exact ⟨ret_bool (idxF_any _ _), hb'⟩
set_option maxHeartbeats 400000 in
theorem index_dep (g : Nat) (lb : Array Value) (eg : ∀ args w, (callFunc g args).run Try.prog w = .ok (.enter g args) w) (A : Option Addr) (c : Nat) (xs : List S74) (p : Nat → Bool) (w : World)
    (hr : Kd.C k74 w A xs.length xs) (hn : xs.length ≤ 1000000) (hp : Pred g lb (fun i _ v => v = .agg #[.int .i64 (rd_T74 xs (i : Int)).f0, .int .i64 (rd_T74 xs (i : Int)).f1]) xs.length p w) :
    Calls Try.prog 87 #[.slice A xs.length c, .func (.func g) #[] lb] w fun e w' => e = .returned (.int .i64 (idxF p xs.length)) ∧ Below w.heap.size w w' := by
  have HR := Aside0.mk hr
  have HP := Aside0.mk hp
  clear hr hp
  go_enter Try.func87, Try.ntmps87
  go_wp2
  go_loopg [5, 8] xs.length (fun gg _ s8 wr => ∃ kk : Nat, kk ≤ xs.length ∧ xs.length - kk ≤ gg ∧ s8 = .int .i64 kk ∧ Aside0 (Below w.heap.size w wr) ∧ Aside0 (∀ j, j < kk → p j = false))
  case atStart => exact ⟨0, Nat.zero_le _, by omega, rfl, ⟨Below.refl _ w⟩, ⟨fun j hj => absurd hj (Nat.not_lt_zero _)⟩⟩
  case round =>
    obtain ⟨kk, hkk, hg, rfl, BW, A⟩ := hrel
    by_cases hlt : kk < xs.length
    · have hltz : (kk : Int) < (xs.length : Int) := by omega
      obtain ⟨ad, e, hx0, hx1⟩ := at_T74 (Kd.C_below HR.out BW.out) kk (by omega) hltz
      subst e
      rw [Int.toNat_natCast] at hx0 hx1
      have hcall := HP.out wr kk _ BW.out hlt rfl
      clear HP
      cases hq : p kk with
      | true =>
        rw [hq] at hcall
        go_wp2_with (go_at_fn g; refine hcall.mono ?_; rintro e w' ⟨rfl, hb'⟩)
        go_ret
        exact ⟨ret_int (idxF_hit hlt hq A.out).symm, BW.out.trans (hb'.mono BW.out.size)⟩
      | false =>
        rw [hq] at hcall
        go_wp2_with (go_at_fn g; refine hcall.mono ?_; rintro e w' ⟨rfl, hb'⟩)
        go_roundg (xs.length - (kk + 1))
        case measure => omega
        case rel =>
          refine ⟨kk + 1, by omega, by omega, by go_num, ⟨BW.out.trans (hb'.mono BW.out.size)⟩, ⟨fun j hj => ?_⟩⟩
          by_cases e : j = kk
          · rw [e]; exact hq
          · exact A.out j (by omega)
    · have hltz : ¬ (kk : Int) < (xs.length : Int) := by omega
      go_wp2
      go_ret
      refine ⟨ret_int ?_, BW.out⟩
      rw [idxF_miss (fun j hj => A.out j (by omega))]
set_option maxHeartbeats 400000 in
theorem contains_dep (g : Nat) (lb : Array Value) (eg : ∀ args w, (callFunc g args).run Try.prog w = .ok (.enter g args) w) (A : Option Addr) (c : Nat) (xs : List S74) (p : Nat → Bool) (w : World)
    (hr : Kd.C k74 w A xs.length xs) (hn : xs.length ≤ 1000000) (hp : Pred g lb (fun i _ v => v = .agg #[.int .i64 (rd_T74 xs (i : Int)).f0, .int .i64 (rd_T74 xs (i : Int)).f1]) xs.length p w) :
    Calls Try.prog 40 #[.slice A xs.length c, .func (.func g) #[] lb] w fun e w' => e = .returned (.bool ((List.range xs.length).any p)) ∧ Below w.heap.size w w' := by
  have h := index_dep g lb eg A c xs p w hr hn hp
  clear hp hr
  go_enter Try.func40, Try.ntmps40
  go_wp2_with (go_at_call 87; refine h.mono ?_; rintro e w' ⟨rfl, hb'⟩)
  go_ret
  exact ⟨ret_bool (idxF_any _ _), hb'⟩
set_option maxHeartbeats 400000 in
theorem index_case (g : Nat) (lb : Array Value) (eg : ∀ args w, (callFunc g args).run Try.prog w = .ok (.enter g args) w) (A : Option Addr) (c : Nat) (xs : List S116) (p : Nat → Bool) (w : World)
    (hr : Kd.C k116 w A xs.length xs) (hn : xs.length ≤ 1000000) (hp : Pred g lb (fun i _ v => v = .agg #[.int .i64 (rd_T116 xs (i : Int)).f0, .int .i64 (rd_T116 xs (i : Int)).f1, .int .i64 (rd_T116 xs (i : Int)).f2]) xs.length p w) :
    Calls Try.prog 141 #[.slice A xs.length c, .func (.func g) #[] lb] w fun e w' => e = .returned (.int .i64 (idxF p xs.length)) ∧ Below w.heap.size w w' := by
  have HR := Aside0.mk hr
  have HP := Aside0.mk hp
  clear hr hp
  go_enter Try.func141, Try.ntmps141
  go_wp2
  go_loopg [5, 8] xs.length (fun gg _ s8 wr => ∃ kk : Nat, kk ≤ xs.length ∧ xs.length - kk ≤ gg ∧ s8 = .int .i64 kk ∧ Aside0 (Below w.heap.size w wr) ∧ Aside0 (∀ j, j < kk → p j = false))
  case atStart => exact ⟨0, Nat.zero_le _, by omega, rfl, ⟨Below.refl _ w⟩, ⟨fun j hj => absurd hj (Nat.not_lt_zero _)⟩⟩
  case round =>
    obtain ⟨kk, hkk, hg, rfl, BW, A⟩ := hrel
    by_cases hlt : kk < xs.length
    · have hltz : (kk : Int) < (xs.length : Int) := by omega
      obtain ⟨ad, e, hx0, hx1, hx2⟩ := at_T116 (Kd.C_below HR.out BW.out) kk (by omega) hltz
      subst e
      rw [Int.toNat_natCast] at hx0 hx1 hx2
      have hcall := HP.out wr kk _ BW.out hlt rfl
      clear HP
      cases hq : p kk with
      | true =>
        rw [hq] at hcall
        go_wp2_with (go_at_fn g; refine hcall.mono ?_; rintro e w' ⟨rfl, hb'⟩)
        go_ret
        exact ⟨ret_int (idxF_hit hlt hq A.out).symm, BW.out.trans (hb'.mono BW.out.size)⟩
      | false =>
        rw [hq] at hcall
        go_wp2_with (go_at_fn g; refine hcall.mono ?_; rintro e w' ⟨rfl, hb'⟩)
        go_roundg (xs.length - (kk + 1))
        case measure => omega
        case rel =>
          refine ⟨kk + 1, by omega, by omega, by go_num, ⟨BW.out.trans (hb'.mono BW.out.size)⟩, ⟨fun j hj => ?_⟩⟩
          by_cases e : j = kk
          · rw [e]; exact hq
          · exact A.out j (by omega)
    · have hltz : ¬ (kk : Int) < (xs.length : Int) := by omega
      go_wp2
      go_ret
      refine ⟨ret_int ?_, BW.out⟩
      rw [idxF_miss (fun j hj => A.out j (by omega))]
set_option maxHeartbeats 400000 in
theorem contains_case (g : Nat) (lb : Array Value) (eg : ∀ args w, (callFunc g args).run Try.prog w = .ok (.enter g args) w) (A : Option Addr) (c : Nat) (xs : List S116) (p : Nat → Bool) (w : World)
    (hr : Kd.C k116 w A xs.length xs) (hn : xs.length ≤ 1000000) (hp : Pred g lb (fun i _ v => v = .agg #[.int .i64 (rd_T116 xs (i : Int)).f0, .int .i64 (rd_T116 xs (i : Int)).f1, .int .i64 (rd_T116 xs (i : Int)).f2]) xs.length p w) :
    Calls Try.prog 121 #[.slice A xs.length c, .func (.func g) #[] lb] w fun e w' => e = .returned (.bool ((List.range xs.length).any p)) ∧ Below w.heap.size w w' := by
  have h := index_case g lb eg A c xs p w hr hn hp
  clear hp hr
  go_enter Try.func121, Try.ntmps121
  go_wp2_with (go_at_call 141; refine h.mono ?_; rintro e w' ⟨rfl, hb'⟩)
  go_ret
  exact ⟨ret_bool (idxF_any _ _), hb'⟩
end Go.Proofs.Ytmifocbodfkeeaa.K
namespace Go.Proofs.Ytmifocbodfkeeaa.K
open Go.RowKit Go.Proofs.YtmifocbodfkeeaaW.PrintWords Go.Proofs.YtmifocbodfkeeaaW.PrintLast Go.Proofs.YtmifocbodfkeeaaW.PrintMore
set_option linter.unusedVariables false
set_option linter.unusedSimpArgs false
/-- May a value be? -/
def valB (v : S65) : Bool :=
  if v.f0 = 3 then decide ((v.f2.size : Int) ≤ 256 ∧ v.f1 = 0)
  else v.f2.toList.isEmpty && decide (v.f0 = 1 ∧ (v.f1 = 0 ∨ v.f1 = 1) ∨ v.f0 = 2 ∧ -4611686018427387904 ≤ v.f1 ∧ v.f1 ≤ 4611686018427387903 ∨ v.f0 = 4 ∧ 1 ≤ v.f1 ∨ v.f0 = 5 ∧ 0 ≤ v.f1 ∨ v.f0 = 0 ∧ v.f1 = 0)
set_option maxHeartbeats 4000000 in
theorem value_Right (v : S65) (w : World) (hs : v.f2.size ≤ 9223372036854775807) : Calls Try.prog 39 #[.agg #[.int .i64 v.f0, .int .i64 v.f1, .string v.f2]] w fun e w' => e = .returned (.bool (valB v)) ∧ Below w.heap.size w w' := by
  have HB := Aside0.mk (Below.refl w.heap.size w)
  go_enter Try.func39, Try.ntmps39
  go_wp2
  all_goals
    go_ret
    refine ⟨ret_bool ?_, ?_⟩
    · clear HB
      try simp only [beq_iff_eq, beq_eq_false_iff_ne, bne_iff_ne, bne_eq_false_iff_eq] at *
      unfold valB
      by_cases h3 : v.f0 = 3
      · rw [if_pos h3, Bool.eq_iff_iff]
        simp_all
        try omega
      · rw [if_neg h3]
        cases he : v.f2.toList.isEmpty
        · simp_all
        · rw [Bool.eq_iff_iff]
          simp_all
          try omega
    · repeat (first | (with_reducible first | exact HB.out | apply below_alloc | apply pw_below_drewN | apply below_drew1))
end Go.Proofs.Ytmifocbodfkeeaa.K
namespace Go.Proofs.Ytmifocbodfkeeaa.K
open Go.RowKit Go.Proofs.YtmifocbodfkeeaaW.PrintWords Go.Proofs.YtmifocbodfkeeaaW.PrintLast Go.Proofs.YtmifocbodfkeeaaW.PrintMore
set_option linter.unusedVariables false
set_option linter.unusedSimpArgs false
/-- A body. -/
structure Bdy where
  f : Int
  regs : Int
  consts : List S65
  ops : List S42
  deps : List S74
/-- May one of A, B, C and D be, by its letter? -/
def partB (g np : Int) (sites regs nc no : Int) (ch n : Int) : Bool :=
  if ch = 82 ∨ ch = 114 then decide (0 ≤ n ∧ n < regs)
  else if ch = 107 then decide (0 ≤ n ∧ n < nc)
  else if ch = 103 then decide (0 ≤ n ∧ n < g)
  else if ch = 112 then decide (0 ≤ n ∧ n < np)
  else if ch = 115 then decide (0 ≤ n ∧ n < sites)
  else if ch = 117 then decide (n = 1 ∨ n = 2)
  else if ch = 98 then decide (1 ≤ n ∧ n ≤ 11)
  else if ch = 116 then decide (0 ≤ n ∧ n < no)
  else if ch = 110 then decide (1 ≤ n ∧ n ≤ 100000)
  else if ch = 104 then decide (1 ≤ n)
  else if ch = 105 then decide (0 ≤ n ∧ n < 12)
  else if ch = 99 then decide (1 ≤ n ∧ n ≤ 7)
  else decide (n = 0)
set_option maxHeartbeats 4000000 in
set_option maxRecDepth 100000 in
theorem checker_part (g : Int) (A1 : Option Addr) (n1 c1 : Nat) (A2 : Option Addr) (c2 : Nat) (codes : List S52) (f regs : Int) (A5 : Option Addr) (n5 c5 : Nat) (A6 : Option Addr) (n6 c6 : Nat) (v7 v8 : Value) (ch n : Int) (w : World) (hr : Kd.C k52 w A2 codes.length codes) (h0 : 0 ≤ f) (h1 : f < codes.length) :
    Calls Try.prog 90 #[.agg #[.int .i64 g, .slice A1 n1 c1, .slice A2 codes.length c2, .int .i64 f, .int .i64 regs, .slice A5 n5 c5, .slice A6 n6 c6, v7, v8], .int .i32 ch, .int .i64 n] w fun e w' => e = .returned (.bool (partB g n1 (rd_T52 codes f).f2 regs n5 n6 ch n)) ∧ Below w.heap.size w w' := by
  have HB := Aside0.mk (Below.refl w.heap.size w)
  obtain ⟨ad, A4, c4, e, hx0, hx1, hx2, hx3, hx4, hl4, hC4⟩ := at_T52 hr f h0 h1
  obtain rfl := e
  clear hr hC4 hl4
  generalize rd_T52 codes f = x at *
  have hy2 := cell1 hx2
  clear hx0 hx1 hx2 hx3 hx4
  go_enter Try.func90, Try.ntmps90
  go_wp2_with (first | (go_at_call 36; refine (ir_below _ _ _).mono ?_; rintro e w' ⟨rfl, rfl⟩) | (go_at_call 119; refine (tree_Built _ _).mono ?_; rintro e w' ⟨rfl, rfl⟩) | (go_at_call 123; refine (tree_Sign _ _).mono ?_; rintro e w' ⟨rfl, hb'⟩))
  all_goals
    go_ret
    refine ⟨ret_bool ?_, ?_⟩
    · clear HB hy2
      rw [Bool.eq_iff_iff]
      try simp only [builtS_empty, signS_empty, beq_iff_eq, beq_eq_false_iff_ne, Bool.not_not, decide_eq_true_eq, decide_eq_false_iff_not] at *
      first
      | (subst ch; simp [partB, *]; done)
      | (subst ch; simp [partB, *]; omega)
      | (simp_all [partB]; done)
      | (simp_all [partB]; omega)
    · (try refine below_step ?_ ‹Below _ _ _›); repeat (first | (with_reducible first | exact HB.out | apply below_alloc | apply pw_below_drewN | apply below_drew1) | exact HB.out)
end Go.Proofs.Ytmifocbodfkeeaa.K
