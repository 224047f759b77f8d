import Derived.Test.YtmifocbodfkeeaaM3
import Derived.ScopeJumps
import Derived.WalkMore
namespace Go.Proofs.Ytmifocbodfkeeaa.K
open Go.RowKit Go.Proofs.YtmifocbodfkeeaaW.PrintWords Go.Proofs.YtmifocbodfkeeaaW.PrintLast Go.Proofs.YtmifocbodfkeeaaW.PrintMore
set_option linter.unusedVariables false
set_option linter.unusedSimpArgs false
/-- How many of a block's numbers are below 0. -/
def negs (w : World) (g : Nat) : Nat := match w.heap[g]? with
  | some (.cells cs _ _) => cs.toList.countP (fun v => match v with | .int _ x => decide (x < 0) | _ => false)
  | _ => 0
theorem negs_of {w : World} {g : Nat} {out : List Int} (h : w.heap[g]? = some (.cells (out.map (Value.int .i64)).toArray 3 (0, 0))) : negs w g = cnt out := by
  unfold negs
  rw [h]
  simp only [cnt, List.countP_map]
  rfl
def lenOf : Value → Nat | .slice _ n _ => n | _ => 0
/-- What is known where the search goes on. -/
structure Search (ins : List S67) (pa lo si de : Int) (A4 : Option Addr) (c4 : Nat) (w : World) (go : Nat) (out todo : List Int) (v5 : Value) (wr : World) : Prop where
  box : wr.heap[w.heap.size]? = some (.cells #[.int .i64 pa, .int .i64 lo, .int .i64 si, .int .i64 de, .slice A4 ins.length c4] 52 (0, 0))
  row : wr.heap[go]? = some (.cells (out.map (Value.int .i64)).toArray 3 (0, 0))
  list : (Kd.int .i64).R 3 wr w.heap.size (fun k => k ≠ go ∧ k ≠ w.heap.size) v5 todo
  below : Below w.heap.size w wr
  inv : Inv ins de out todo fun _ => False
  few : todo.length + cnt out ≤ ins.length
def SearchAt (ins : List S67) (pa lo si de : Int) (A4 : Option Addr) (c4 : Nat) (w : World) (go : Nat) (a : Act) (wr : World) : Prop :=
  ∃ (out todo : List Int) (v5 : Value) (U : Nat → Value), a = { tmps := #[.agg #[.int .i64 pa, .int .i64 lo, .int .i64 si, .int .i64 de, .slice A4 ins.length c4], .pointer (some ⟨w.heap.size, 0, none⟩), .slice none 0 0, .bool false, .slice (some ⟨go, 0, none⟩) ins.length ins.length, v5, U 6, U 7, U 8, U 9, U 10, U 11, U 12, U 13, U 14, U 15, U 16, U 17, U 18, U 19, U 20, U 21, U 22, U 23, U 24, U 25, U 26, U 27, U 28, U 29, U 30, U 31, U 32, U 33, U 34, U 35, U 36, U 37, U 38, U 39, U 40, U 41, U 42, U 43, U 44, U 45, U 46, U 47, U 48, U 49, U 50, U 51, U 52, U 53, U 54, U 55, U 56, U 57, U 58, U 59, U 60, U 61, U 62, U 63, U 64, U 65, U 66, U 67, U 68, U 69, U 70, U 71, U 72, U 73, U 74, U 75, U 76, U 77, U 78, U 79, U 80, U 81, U 82, U 83, U 84, U 85, U 86, U 87, U 88, U 89, U 90, U 91, U 92, U 93, U 94, U 95, U 96, U 97, U 98, U 99, U 100, U 101, U 102, U 103, U 104, U 105, U 106, U 107, U 108, U 109, U 110, U 111, U 112, U 113, U 114, U 115, U 116, U 117, U 118, U 119, U 120, U 121, U 122, U 123, U 124, U 125, U 126, U 127, U 128, U 129, U 130, U 131], defers := [] } ∧ Search ins pa lo si de A4 c4 w go out todo v5 wr
set_option maxRecDepth 100000 in
theorem SearchAt.mk {ins : List S67} {pa lo si de : Int} {A4 : Option Addr} {c4 : Nat} {w : World} {go : Nat} {T : Array Value} {wr : World} (out todo : List Int) (v5 : Value)
    (hT : T = #[.agg #[.int .i64 pa, .int .i64 lo, .int .i64 si, .int .i64 de, .slice A4 ins.length c4], .pointer (some ⟨w.heap.size, 0, none⟩), .slice none 0 0, .bool false, .slice (some ⟨go, 0, none⟩) ins.length ins.length, v5, T.getD 6 undef, T.getD 7 undef, T.getD 8 undef, T.getD 9 undef, T.getD 10 undef, T.getD 11 undef, T.getD 12 undef, T.getD 13 undef, T.getD 14 undef, T.getD 15 undef, T.getD 16 undef, T.getD 17 undef, T.getD 18 undef, T.getD 19 undef, T.getD 20 undef, T.getD 21 undef, T.getD 22 undef, T.getD 23 undef, T.getD 24 undef, T.getD 25 undef, T.getD 26 undef, T.getD 27 undef, T.getD 28 undef, T.getD 29 undef, T.getD 30 undef, T.getD 31 undef, T.getD 32 undef, T.getD 33 undef, T.getD 34 undef, T.getD 35 undef, T.getD 36 undef, T.getD 37 undef, T.getD 38 undef, T.getD 39 undef, T.getD 40 undef, T.getD 41 undef, T.getD 42 undef, T.getD 43 undef, T.getD 44 undef, T.getD 45 undef, T.getD 46 undef, T.getD 47 undef, T.getD 48 undef, T.getD 49 undef, T.getD 50 undef, T.getD 51 undef, T.getD 52 undef, T.getD 53 undef, T.getD 54 undef, T.getD 55 undef, T.getD 56 undef, T.getD 57 undef, T.getD 58 undef, T.getD 59 undef, T.getD 60 undef, T.getD 61 undef, T.getD 62 undef, T.getD 63 undef, T.getD 64 undef, T.getD 65 undef, T.getD 66 undef, T.getD 67 undef, T.getD 68 undef, T.getD 69 undef, T.getD 70 undef, T.getD 71 undef, T.getD 72 undef, T.getD 73 undef, T.getD 74 undef, T.getD 75 undef, T.getD 76 undef, T.getD 77 undef, T.getD 78 undef, T.getD 79 undef, T.getD 80 undef, T.getD 81 undef, T.getD 82 undef, T.getD 83 undef, T.getD 84 undef, T.getD 85 undef, T.getD 86 undef, T.getD 87 undef, T.getD 88 undef, T.getD 89 undef, T.getD 90 undef, T.getD 91 undef, T.getD 92 undef, T.getD 93 undef, T.getD 94 undef, T.getD 95 undef, T.getD 96 undef, T.getD 97 undef, T.getD 98 undef, T.getD 99 undef, T.getD 100 undef, T.getD 101 undef, T.getD 102 undef, T.getD 103 undef, T.getD 104 undef, T.getD 105 undef, T.getD 106 undef, T.getD 107 undef, T.getD 108 undef, T.getD 109 undef, T.getD 110 undef, T.getD 111 undef, T.getD 112 undef, T.getD 113 undef, T.getD 114 undef, T.getD 115 undef, T.getD 116 undef, T.getD 117 undef, T.getD 118 undef, T.getD 119 undef, T.getD 120 undef, T.getD 121 undef, T.getD 122 undef, T.getD 123 undef, T.getD 124 undef, T.getD 125 undef, T.getD 126 undef, T.getD 127 undef, T.getD 128 undef, T.getD 129 undef, T.getD 130 undef, T.getD 131 undef]) (S : Search ins pa lo si de A4 c4 w go out todo v5 wr) : SearchAt ins pa lo si de A4 c4 w go { tmps := T, defers := [] } wr :=
  ⟨out, todo, v5, fun k => T.getD k undef, congrArg (fun x => ({ tmps := x, defers := [] } : Act)) hT, S⟩
theorem wp_scope_first {P : Program} {c body : Code} {Q : Exit → Act → World → Prop} {a : Act} {w : World} (l : Nat) (J : Act → World → Prop) (μ : Act → World → Nat) (hf : findLabel c l = some (Code.skip.seq body))
    (pass : ∀ a w, J a w → body.wp P (Exit.jump l (fun a' w' => J a' w' ∧ μ a' w' < μ a w) Q) a w) (first : (∀ a w, J a w → body.wp P (Exit.jump l J Q) a w) → c.wp P (Exit.jump l J Q) a w) : (Code.scope c).wp P Q a w :=
  wp_scope_jumps l J μ hf (first fun a w h => wp_mono (pass a w h) fun e a' w' q => by
    cases e with
    | goto l' => exact ⟨q.1, q.2.1⟩
    | _ => exact q) fun a w h => wp_seq (wp_skip (pass a w h))
/-- How much is left. -/
def measure2 (a : Act) (wr : World) : Nat := match a.tmps.getD 4 undef with
  | .slice (some ⟨g, _, _⟩) _ _ => 2 * negs wr g + lenOf (a.tmps.getD 5 undef)
  | _ => 0
def SearchOn (ins : List S67) (pa lo si de : Int) (A4 : Option Addr) (c4 : Nat) (w : World) (a : Act) (wr : World) : Prop := ∃ go, w.heap.size + 2 ≤ go ∧ SearchAt ins pa lo si de A4 c4 w go a wr
def JumpsTo (Q : Exit → Act → World → Prop) (a : Act) (w : World) : Prop := Q (.goto 0) a w
theorem R_ints_ok (W : World) (xs : List Int) (base b : Nat) (ok : Nat → Prop) (h : b = W.heap.size) (hb : base ≤ W.heap.size) (hok : ok b) (hm : xs.length ≤ 9223372036854775807) :
    (Kd.int .i64).R 3 (W.alloc (.cells (xs.map (Value.int .i64)).toArray 3)) base ok (.slice (some ⟨b, 0, none⟩) xs.length xs.length) xs := by
  have h2 := R_block (W.alloc (.cells (xs.map (Value.int .i64)).toArray 3)) xs base b (by rw [h]; exact heap_alloc_new W _) (by omega) hm
  refine Kd.R_mono (ok := fun k => k = b) ?_ (fun k hk => hk ▸ hok)
  obtain ⟨_, inner, ho, hr⟩ := h2
  exact ⟨fun k hk => by simpa [Value.ownBlock, eq_comm] using hk, inner, ho, hr.imp_ (fun _ _ hp => hp)⟩
/-- What is known inside the search, where one goes through an instruction's targets. -/
structure Inside (ins : List S67) (pa lo si de : Int) (A4 : Option Addr) (c4 : Nat) (w : World) (go gi S2 S3 : Nat) (t : Int) (dA : Int) (k0 : Nat) (v63 : Value) (i : Nat) (out todo : List Int) (v5 : Value) (wr : World) : Prop where
  box : wr.heap[w.heap.size]? = some (.cells #[.int .i64 pa, .int .i64 lo, .int .i64 si, .int .i64 de, .slice A4 ins.length c4] 52 (0, 0))
  row : wr.heap[go]? = some (.cells (out.map (Value.int .i64)).toArray 3 (0, 0))
  inb : wr.heap[gi]? = some (.cells #[.int .i64 (rd_T67 ins t).f0, .int .i64 (rd_T67 ins t).f1, .int .i64 (rd_T67 ins t).f2] 67 (0, 0))
  list : (Kd.int .i64).R 3 wr w.heap.size (fun k => k ≠ go ∧ k ≠ w.heap.size ∧ k ≠ gi ∧ (k < S2 ∨ S3 ≤ k)) v5 todo
  tgt : (Kd.int .i64).R 3 wr S2 (fun k => S2 ≤ k ∧ k < S3) v63 (tgts (rd_T67 ins t).f0 (rd_T67 ins t).f1 t)
  below : Below w.heap.size w wr
  size : S3 ≤ wr.heap.size
  inv : Inv ins de out todo (fun u => u = t)
  now : at0 out t = dA
  seen : ∀ j < i, ∀ u e, (stepsAt ins t dA)[j]? = some (u, e) → u < ins.length ∧ e ≤ de ∧ at0 out u = e
  few : todo.length + cnt out ≤ ins.length
  less : 2 * cnt out + todo.length ≤ k0
theorem Inside.push {ins : List S67} {pa lo si de : Int} {A4 : Option Addr} {c4 : Nat} {w : World} {go gi S2 S3 : Nat} {t dA : Int} {k0 : Nat} {v63 : Value} {i : Nat} {out todo : List Int} {v5 v6 : Value} {wr w6 : World} (h : Inside ins pa lo si de A4 c4 w go gi S2 S3 t dA k0 v63 i out todo v5 wr)
    {u e : Int} (hs : (stepsAt ins t dA)[i]? = some (u, e)) (hpos : ∀ u e, (u, e) ∈ stepsAt ins t dA → 0 ≤ u ∧ 0 ≤ e) (hu : u < ins.length) (hneg : at0 out u < 0) (he : e ≤ de) (hr : Reach ins t dA) (t0 : 0 ≤ t) (t1 : t < ins.length) (d0 : 0 ≤ dA) (hgs : go < S2)
    (hR : (Kd.int .i64).R 3 w6 w.heap.size (fun k => k ≠ go ∧ k ≠ w.heap.size ∧ k ≠ gi ∧ (k < S2 ∨ S3 ≤ k)) v6 (todo ++ [u])) (hB : Below w.heap.size w w6) (hG : (wr.setCell ⟨go, u.toNat, none⟩ (.int .i64 e)).grownBy w6 v5.ownBlock) :
    Inside ins pa lo si de A4 c4 w go gi S2 S3 t dA k0 v63 (i + 1) (out.set u.toNat e) (todo ++ [u]) v6 w6 := by
  obtain ⟨u0, e0⟩ := hpos u e (List.mem_of_getElem? hs)
  have hl := h.inv.len
  have hc := cnt_set (l := out) (u := u) (e := e) u0 (by omega) hneg e0
  have n1 : w.heap.size ≠ go := blk_ne h.box h.row (by decide)
  have n2 : gi ≠ go := blk_ne h.inb h.row (by decide)
  have o1 := h.list.1
  refine ⟨blk_grown (blk_far h.box n1 _) hG (fun q => (o1 _ q.symm).2.1 rfl), blk_grown (blk_put h.row u.toNat _ ?_) hG (fun q => (o1 _ q.symm).1 rfl), blk_grown (blk_far h.inb n2 _) hG (fun q => (o1 _ q.symm).2.2.1 rfl), hR, Kd.R_grown (Kd.R_far h.tgt (p := ⟨go, u.toNat, none⟩) (fun k hk => ?_) _) hG (fun k hk q => ?_), hB, ?_, h.inv.set u0 hu hneg e0 he (Reach.step hr (List.mem_of_getElem? hs)), ?_, ?_, ?_, ?_⟩
  · rw [List.setIfInBounds_toArray, List.map_set]
  · have h1 := blk_lt h.row
    rintro rfl
    exact absurd hk.1 (by omega)
  · rcases (o1 k q.symm).2.2.2 with z | z <;> omega
  · have h1 := hG.size
    have h2 := h.size
    simp at h1
    omega
  · rw [at0_keep u0 (by omega) hneg (by rw [h.now]; exact d0) t0, h.now]
  · intro j hj u2 e2 hj2
    by_cases q : j = i
    · subst q
      rw [hs] at hj2
      obtain ⟨rfl, rfl⟩ := Prod.mk.inj (Option.some.inj hj2)
      exact ⟨hu, he, by rw [at0_set u0 (by omega) u0, if_pos rfl]⟩
    · obtain ⟨a1, a2, a3⟩ := h.seen j (by omega) u2 e2 hj2
      obtain ⟨b1, b2⟩ := hpos u2 e2 (List.mem_of_getElem? hj2)
      exact ⟨a1, a2, by rw [at0_keep u0 (by omega) hneg (by omega) b1]; exact a3⟩
  · have := h.few
    rw [List.length_append]
    simp
    omega
  · have := h.less
    rw [List.length_append]
    simp
    omega
theorem Inside.next {ins : List S67} {pa lo si de : Int} {A4 : Option Addr} {c4 : Nat} {w : World} {go gi S2 S3 : Nat} {t dA : Int} {k0 : Nat} {v63 : Value} {i : Nat} {out todo : List Int} {v5 : Value} {wr : World} (h : Inside ins pa lo si de A4 c4 w go gi S2 S3 t dA k0 v63 i out todo v5 wr)
    {u e : Int} (hs : (stepsAt ins t dA)[i]? = some (u, e)) (hu : u < ins.length) (he : e ≤ de) (heq : at0 out u = e) : Inside ins pa lo si de A4 c4 w go gi S2 S3 t dA k0 v63 (i + 1) out todo v5 wr := by
  refine { h with seen := ?_ }
  intro j hj u' e' hj2
  by_cases q : j = i
  · subst q
    rw [hs] at hj2
    obtain ⟨rfl, rfl⟩ := Prod.mk.inj (Option.some.inj hj2)
    exact ⟨hu, he, heq⟩
  · exact h.seen j (by omega) u' e' hj2
theorem depths_no {ins : List S67} {de : Int} {w w' : World} (h : ¬ Good ins de) (hb : Below w.heap.size w w') : Depths2 ins de w (.returned (.tuple #[.slice none 0 0, .bool false])) w' :=
  ⟨_, false, rfl, fun h => by simp at h, fun _ => ⟨h, rfl⟩, hb⟩
set_option maxHeartbeats 16000000 in
set_option maxRecDepth 100000 in
theorem code_depths (pa lo si de : Int) (A4 : Option Addr) (c4 : Nat) (ins : List S67) (w : World) (hr : Kd.C k67 w A4 ins.length ins) (h1 : 1 ≤ ins.length) (h2 : ins.length ≤ 4000) (hd0 : 0 ≤ de) (hd1 : de ≤ 64) (hgo : Goes ins) :
    Calls Try.prog 88 #[.agg #[.int .i64 pa, .int .i64 lo, .int .i64 si, .int .i64 de, .slice A4 ins.length c4]] w (Depths2 ins de w) := by
  have h3 : (ins.length : Int) ≤ 4000 := by omega
  have h4 : (1 : Int) ≤ ins.length := by omega
  have HR := Aside0.mk hr
  clear hr
  go_enter Try.func88, Try.ntmps88
  go_wp2
  refine wp_scope_first 0 (SearchOn ins pa lo si de A4 c4 w) measure2 rfl ?_ ?_
  · rintro a wr ⟨go, hge, out, todo, v5, U, rfl, S⟩
    obtain ⟨A5, c5, hv5, hc5, hC5⟩ := Kd.R_reads S.list
    subst hv5
    have HS := Aside0.mk S
    have HC5 := Aside0.mk hC5
    have HL5 := Aside0.mk hc5
    have hlen := S.inv.len
    have hfew := S.few
    clear S hC5 hc5
    rcases List.eq_nil_or_concat todo with rfl | ⟨todo, t, rfl⟩
    · have hz : (([] : List Int).length == 0) = true := rfl
      go_wp2
      simp only [Exit.jump]
      go_ret2
      obtain ⟨hg, hd⟩ := HS.out.inv.finish hgo h1
      refine ⟨.slice (some ⟨go, 0, none⟩) ins.length ins.length, true, rfl, fun _ => ⟨hg, out, hd, ?_⟩, (fun h => by simp at h), HS.out.below⟩
      have hR := R_block wr out w.heap.size go HS.out.row (by omega) (by omega)
      rw [hlen] at hR
      exact hR
    · rw [List.concat_eq_append] at *
      have hm5 : (todo ++ [t]).length = todo.length + 1 := by simp
      rw [hm5] at HC5 HL5 hfew HS
      rw [hm5]
      obtain ⟨t0, t1, t2⟩ := HS.out.inv.marked t (by simp)
      have hrd : rd (todo ++ [t]) (todo.length : Int) = t := by
        unfold rd
        rw [Int.toNat_natCast, List.getD_eq_getElem?_getD, List.getElem?_append_right (Nat.le_refl _)]
        simp
      obtain ⟨ad5, e5, hx5⟩ := Kd.at_int HC5.out (todo.length : Int) (by omega) (by omega)
      rw [hrd, Int.toNat_natCast] at hx5
      subst e5
      have hfz := HS.out.box
      have hc0 := blk_cell hfz 0
      have hc3 := blk_cell hfz 3
      have hc4 := blk_cell hfz 4
      simp at hc0 hc3 hc4
      clear hfz hrd hm5 HC5
      obtain ⟨ad, e, hi0, hi1, hi2⟩ := at_T67 (Kd.C_below HR.out HS.out.below) t t0 t1
      obtain rfl := e
      have HI := Aside0.mk hi0
      have hz : (todo.length + 1 == 0) = false := rfl
      have hk : (todo.length : Int) ≤ 4000 := by omega
      have hk5 : todo.length + 1 ≤ c5 := HL5.out
      have hk0 : 0 ≤ (todo.length : Int) := by omega
      generalize hK : todo.length = k at *
      go_wp2_with fail
      refine (code_Effect _ _ _ _).mono ?_
      rintro e w2 ⟨rfl, hB2⟩
      have bx2 := Aside0.mk (blk_below (blk_alloc HS.out.box _) hB2)
      have go2 := Aside0.mk (blk_below (blk_alloc HS.out.row _) hB2)
      have in2 := Aside0.mk (blk_below (blk_new wr _) hB2)
      have ls2 := Aside0.mk (Kd.R_below (Kd.R_alloc HS.out.list _) hB2)
      have be2 := Aside0.mk (below_step (below_alloc HS.out.below _) hB2)
      have HB2 := Aside0.mk hB2
      clear hc0 hc3 hc4 hi0 hi1 hi2 hx5 hB2
      generalize hx : rd_T67 ins t = x at *
      have hc0 := blk_cell bx2.out 0
      have hc1 := blk_cell bx2.out 1
      have hc2 := blk_cell bx2.out 2
      have hc3 := blk_cell bx2.out 3
      have hc4 := blk_cell bx2.out 4
      have hi0 := blk_cell in2.out 0
      have ho := blk_cell go2.out t.toNat
      have hov : ((out.map (Value.int .i64)).toArray)[t.toNat]? = some (.int .i64 (at0 out t)) := by
        unfold at0 rd
        rw [List.getElem?_toArray, List.getElem?_map, List.getD_eq_getElem?_getD, List.getElem?_eq_getElem (by omega)]
        rfl
      rw [hov] at ho
      simp at hc0 hc1 hc2 hc3 hc4 hi0
      clear hov
      have hb1 := effP_bd x.f0 x.f1
      have hb2 := effL_bd x.f0 x.f1
      have HX := Aside0.mk hx
      clear hx
      by_cases hp : effP x.f0 x.f1 ≤ at0 out t
      · have hp1 : decide (at0 out t < effP x.f0 x.f1) = false := by simp; omega
        have hd2 := (HS.out.inv.reach t t0 t1 t2).2
        have hp2 : decide (de < at0 out t) = false := by simp; omega
        go_wp2
        go_quiet (fail)
        go_wp2_with fail
        refine (code_Targets pa lo si de (some ad) c4 ins t _ (Kd.C_drewN (Kd.C_below HR.out be2.out) _) t0 t1 (by omega)).mono ?_
        rintro e w3 ⟨v63, rfl, hR63, hB3⟩
        have sz2 : wr.heap.size < w2.heap.size := blk_lt in2.out
        have sz3 : w2.heap.size ≤ w3.heap.size := hB3.size
        have gl : go < wr.heap.size := blk_lt HS.out.row
        have wl : w.heap.size < wr.heap.size := blk_lt HS.out.box
        rw [HX.out] at hR63
        have I0 : Inside ins pa lo si de (some ad) c4 w go wr.heap.size w2.heap.size w3.heap.size t (at0 out t) (2 * cnt out + k) v63 0 out todo (.slice (some ad5) k c5) w3 := by
          refine ⟨blk_below (w := w2.drewN _) bx2.out hB3, blk_below (w := w2.drewN _) go2.out hB3, ?_, ?_, ?_, below_step (pw_below_drewN be2.out _) hB3, Nat.le_refl _, ?_, rfl, fun j hj => absurd hj (Nat.not_lt_zero _), by omega, by omega⟩
          · rw [HX.out]; exact blk_below (w := w2.drewN _) in2.out hB3
          · have l1 := Kd.R_mono (Kd.R_bound HS.out.list) (ok' := fun k' => (k' ≠ go ∧ k' ≠ w.heap.size) ∧ k' < wr.heap.size) (fun k' hk' => ⟨hk'.1, hk'.2.2.1⟩)
            have l2 := Kd.R_below (Kd.R_drewN (Kd.R_below (Kd.R_alloc l1 _) HB2.out) _) hB3
            have l3 := Kd.R_take l2 (m := k) (by simp; omega)
            rw [List.take_left' hK] at l3
            exact Kd.R_mono l3 (fun k' hk' => ⟨hk'.1.1, hk'.1.2, by omega, by omega⟩)
          · rw [HX.out]
            exact Kd.R_mono (Kd.R_bound hR63) (fun k' hk' => ⟨hk'.2.1, hk'.2.2.1⟩)
          · exact HS.out.inv.pop
        obtain ⟨A63, c63, hv63, hc63, hC63⟩ := Kd.R_reads hR63
        subst hv63
        have II := Aside0.mk I0
        have HNEG := Aside0.mk (negs_of HS.out.row)
        have HHP := Aside0.mk hp
        clear I0 hR63 hB3 hC63 hc63 hc0 hc1 hc2 hc3 hc4 hi0 ho HS HB2 ls2 bx2 go2 in2 HI be2 HL5 hp1 hp2 hz hp
        have htl : (tgts x.f0 x.f1 t).length ≤ 2 := by unfold tgts; split <;> (try split) <;> (try split) <;> simp
        generalize hN : (tgts x.f0 x.f1 t).length = N at *
        have htl2 : (N : Int) ≤ 2 := by omega
        go_wp2
        obtain ⟨wo, hwo⟩ : ∃ wo : World, wo = wr := ⟨_, rfl⟩
        subst hwo
        go_loopw [2, 3, 5, 65] (fun v2 v3 v5 v65 wr' => ∃ (i : Nat) (out' todo' : List Int), i ≤ N ∧ v2 = .slice none 0 0 ∧ v3 = .bool false ∧ v65 = .int .i64 i ∧ Aside0 (Inside ins pa lo si de (some ad) c4 w go wo.heap.size w2.heap.size w3.heap.size t (at0 out t) (2 * cnt out + k) (.slice A63 N c63) i out' todo' v5 wr')) (fun _ _ _ v65 _ => N - (intOf v65).toNat)
        case atStart => exact ⟨0, out, todo, Nat.zero_le _, rfl, rfl, rfl, II⟩
        case round =>
          obtain ⟨i, out', todo', hi, rfl, rfl, rfl, IN⟩ := hrel
          have hst : ∀ (j : Nat) (hj : j < (tgts x.f0 x.f1 t).length), (stepsAt ins t (at0 out t))[j]? = some ((tgts x.f0 x.f1 t)[j], at0 out t - effP x.f0 x.f1 + effL x.f0 x.f1 + (if 0 < j ∧ (x.f0 = 24 ∨ x.f0 = 25) then 1 else 0)) := by
            intro j hj
            unfold stepsAt
            rw [HX.out]
            exact steps_get _ _ _ _ j hj
          have hsl : (stepsAt ins t (at0 out t)).length = N := by
            rw [← hN, ← steps_tgts x.f0 x.f1 t (at0 out t), List.length_map]
            unfold stepsAt
            rw [HX.out]
          by_cases hiN : i < N
          · have hltz : (i : Int) < (N : Int) := by omega
            have hz0 : 0 ≤ (i : Int) := by omega
            have hi2 : (i : Int) ≤ 2 := by omega
            obtain ⟨A6, c6, e6, _, hC6⟩ := Kd.R_reads IN.out.tgt
            rw [HX.out, hN] at e6 hC6
            injection e6 with e61 _ e62
            subst e61
            subst e62
            obtain ⟨ad6, e7, hx6⟩ := Kd.at_int hC6 (i : Int) (by omega) (by omega)
            subst e7
            have htg : rd (tgts x.f0 x.f1 t) (i : Int) = (tgts x.f0 x.f1 t)[i]'(by omega) := by
              unfold rd
              rw [Int.toNat_natCast, List.getD_eq_getElem?_getD, List.getElem?_eq_getElem (by omega)]
              rfl
            rw [htg, Int.toNat_natCast] at hx6
            have hsti := hst i (by omega)
            generalize hu : (tgts x.f0 x.f1 t)[i]'(by omega) = u at *
            have hmem := List.mem_of_getElem? hsti
            have hreach : Reach ins t (at0 out t) := by
              have := IN.out.inv.reach t t0 t1 (by rw [IN.out.now]; exact t2)
              rw [IN.out.now] at this
              exact this.1
            have hbd := stepsOf_bd hmem
            rw [HX.out] at hbd
            have hb1 := effP_bd x.f0 x.f1
            have hb2 := effL_bd x.f0 x.f1
            have hp9 := HHP.out
            have hpos : ∀ u e, (u, e) ∈ stepsAt ins t (at0 out t) → 0 ≤ u ∧ 0 ≤ e := by
              intro u e hm
              have hbd := stepsOf_bd hm
              rw [HX.out] at hbd
              refine ⟨?_, by omega⟩
              rcases hbd.2.2 with b | ⟨b1, b2, b3⟩
              · omega
              · have := hgo t t0 t1 (by rw [HX.out]; exact b1) (by rw [HX.out]; exact b2)
                rw [HX.out] at this
                omega
            have hu0 : 0 ≤ u := (hpos u _ hmem).1
            have HPOS := Aside0.mk hpos
            clear hpos
            have hbx := IN.out.box
            have hc3 := blk_cell hbx 3
            have hc4 := blk_cell hbx 4
            have hin := IN.out.inb
            rw [HX.out] at hin
            have hi0 := blk_cell hin 0
            simp at hc3 hc4 hi0
            clear hbx hin
            have hol := IN.out.inv.len
            have hov : ∀ z : Int, 0 ≤ z → z < ins.length → wr.cell? ⟨go, z.toNat, none⟩ = some (.int .i64 (at0 out' z)) := by
              intro z z0 z1
              rw [blk_cell IN.out.row z.toNat]
              unfold at0 rd
              rw [List.getElem?_toArray, List.getElem?_map, List.getD_eq_getElem?_getD, List.getElem?_eq_getElem (by omega)]
              rfl
            have hot := hov t t0 t1
            rw [IN.out.now] at hot
            have HOV := Aside0.mk hov
            clear hov htg hC6 hlen
            have HST := Aside0.mk hsti
            have HSTS := Aside0.mk hst
            have HMEM := Aside0.mk hmem
            have HNO := Aside0.mk IN.out.now
            clear hst hsti hmem
            have hb3 : at0 out t ≤ 64 := by
              have := (IN.out.inv.reach t t0 t1 (by rw [IN.out.now]; exact t2)).2
              rw [IN.out.now] at this
              omega
            by_cases hun : u < ins.length
            · have hun1 : decide (ins.length ≤ u) = false := by simp; omega
              have HCU := Aside0.mk (HOV.out u hu0 hun)
              have hfu := blk_frozen IN.out.row u.toNat
              have HUN := Aside0.mk hun
              have hun2 : u < (ins.length : Int) := hun
              clear hun
              by_cases hbu : 0 < i ∧ (x.f0 = 24 ∨ x.f0 = 25)
              · rw [if_pos hbu] at HST HMEM hbd
                have hz1 : decide (0 < (i : Int)) = true := by simp; omega
                have hz2 : 0 < i := by omega
                have hz3 : decide (0 < i) = true := by simpa using hz2
                obtain ⟨_, hop⟩ := hbu
                rcases hop with hop | hop
                · have hop1 : (x.f0 == 24) = true := by simpa using hop
                  clear hop
                  have hE0 : 0 ≤ at0 out t - effP x.f0 x.f1 + effL x.f0 x.f1 + 1 := by omega
                  by_cases cde : at0 out t - effP x.f0 x.f1 + effL x.f0 x.f1 + 1 ≤ de
                  · have cde1 : decide (de < at0 out t - effP x.f0 x.f1 + effL x.f0 x.f1 + 1) = false := by simp; omega
                    by_cases c0 : 0 ≤ at0 out' u
                    · have c01 : decide (0 ≤ at0 out' u) = true := by simpa using c0
                      by_cases ceq : at0 out' u = at0 out t - effP x.f0 x.f1 + effL x.f0 x.f1 + 1
                      · have ceq1 : (at0 out' u != at0 out t - effP x.f0 x.f1 + effL x.f0 x.f1 + 1) = false := by simpa using ceq
                        have c02 : decide (at0 out' u < 0) = false := by simp; omega
                        clear ceq c0 cde
                        replace HCU := HCU.out
                        go_wp2
                        go_roundw
                        case rel => exact ⟨i + 1, out', todo', by omega, rfl, rfl, by go_num, ⟨IN.out.next HST.out HUN.out (by simpa using cde1) (by simpa using ceq1)⟩⟩
                        case measure => simp [intOf]; omega
                      · have ceq1 : (at0 out' u != at0 out t - effP x.f0 x.f1 + effL x.f0 x.f1 + 1) = true := by simpa using ceq
                        have hng : ¬ Good ins de := not_good_two (IN.out.inv.reach u hu0 HUN.out c0).1 (Reach.step hreach HMEM.out) ceq
                        clear ceq c0 cde
                        replace HCU := HCU.out
                        go_wp2
                        (try simp only [Exit.jump])
                        go_ret2
                        exact depths_no hng IN.out.below
                    · have c01 : decide (0 ≤ at0 out' u) = false := by simpa using c0
                      have c02 : decide (at0 out' u < 0) = true := by simp; omega
                      have cx : at0 out' u < 0 := by omega
                      clear c0
                      replace HCU := HCU.out
                      go_wp2_with ((with_reducible refine gate_dst (N := 130) rfl ?_); go_loud (refine Kd.R_append (Kd.int .i64) (w0 := w) w.heap.size rfl (.tmp 127) (.tmp 129) 38 3 (.int .i64 0) 8 rfl Try.underlying38 info3 rfl (by decide) (by omega) u5 todo' u [.int .i64 u] (fun k => k ≠ go ∧ k ≠ w.heap.size ∧ k ≠ wo.heap.size ∧ (k < w2.heap.size ∨ w3.heap.size ≤ k)) (fun _ => False) rfl ?hs1 ?hp1 ?hokp1 ?hfresh1 ?HO1 ?HB1 ?hbase1 ?hl1 ?_; any_goals (intro v6 w6 hR6 hB6 hG6 hN6)))
                      case hp1 => rfl
                      case hfresh1 =>
                        intro k' hk'
                        have g1 := blk_lt IN.out.row
                        have g2 := blk_lt IN.out.box
                        have g3 := blk_lt IN.out.inb
                        have g4 := IN.out.size
                        have g5 : wr.heap.size ≤ k' := by simpa using hk'
                        exact ⟨by omega, by omega, by omega, by omega⟩
                      case HO1 => exact Kd.R_far IN.out.list (p := ⟨go, u.toNat, none⟩) (fun _ h => h.1) _
                      case HB1 => exact IN.out.below.setCell (p := ⟨go, u.toNat, none⟩) (by show w.heap.size ≤ go; omega) _
                      case hbase1 => have := IN.out.below.size; simpa using this
                      case hl1 => have := IN.out.few; omega
                      have IN6 := IN.out.push HST.out HPOS.out hun2 cx (by simpa using cde1) hreach t0 t1 t2 (by omega) hR6 hB6 hG6
                      go_wp2
                      go_roundw
                      case rel => exact ⟨i + 1, _, todo' ++ [u], by omega, rfl, rfl, by go_num, ⟨IN6⟩⟩
                      case measure => simp [intOf]; omega
                  · have cde1 : decide (de < at0 out t - effP x.f0 x.f1 + effL x.f0 x.f1 + 1) = true := by simp; omega
                    have hng : ¬ Good ins de := fun hG => cde ((hG.1 t _ hreach).2.2 u _ HMEM.out).2
                    clear cde
                    replace HCU := HCU.out
                    go_wp2
                    (try simp only [Exit.jump])
                    go_ret2
                    exact depths_no hng IN.out.below
                · have hop1 : (x.f0 == 24) = false := by rw [hop]; rfl
                  have hop2 : (x.f0 == 25) = true := by simpa using hop
                  clear hop
                  have hE0 : 0 ≤ at0 out t - effP x.f0 x.f1 + effL x.f0 x.f1 + 1 := by omega
                  by_cases cde : at0 out t - effP x.f0 x.f1 + effL x.f0 x.f1 + 1 ≤ de
                  · have cde1 : decide (de < at0 out t - effP x.f0 x.f1 + effL x.f0 x.f1 + 1) = false := by simp; omega
                    by_cases c0 : 0 ≤ at0 out' u
                    · have c01 : decide (0 ≤ at0 out' u) = true := by simpa using c0
                      by_cases ceq : at0 out' u = at0 out t - effP x.f0 x.f1 + effL x.f0 x.f1 + 1
                      · have ceq1 : (at0 out' u != at0 out t - effP x.f0 x.f1 + effL x.f0 x.f1 + 1) = false := by simpa using ceq
                        have c02 : decide (at0 out' u < 0) = false := by simp; omega
                        clear ceq c0 cde
                        replace HCU := HCU.out
                        go_wp2
                        go_roundw
                        case rel => exact ⟨i + 1, out', todo', by omega, rfl, rfl, by go_num, ⟨IN.out.next HST.out HUN.out (by simpa using cde1) (by simpa using ceq1)⟩⟩
                        case measure => simp [intOf]; omega
                      · have ceq1 : (at0 out' u != at0 out t - effP x.f0 x.f1 + effL x.f0 x.f1 + 1) = true := by simpa using ceq
                        have hng : ¬ Good ins de := not_good_two (IN.out.inv.reach u hu0 HUN.out c0).1 (Reach.step hreach HMEM.out) ceq
                        clear ceq c0 cde
                        replace HCU := HCU.out
                        go_wp2
                        (try simp only [Exit.jump])
                        go_ret2
                        exact depths_no hng IN.out.below
                    · have c01 : decide (0 ≤ at0 out' u) = false := by simpa using c0
                      have c02 : decide (at0 out' u < 0) = true := by simp; omega
                      have cx : at0 out' u < 0 := by omega
                      clear c0
                      replace HCU := HCU.out
                      go_wp2_with ((with_reducible refine gate_dst (N := 130) rfl ?_); go_loud (refine Kd.R_append (Kd.int .i64) (w0 := w) w.heap.size rfl (.tmp 127) (.tmp 129) 38 3 (.int .i64 0) 8 rfl Try.underlying38 info3 rfl (by decide) (by omega) u5 todo' u [.int .i64 u] (fun k => k ≠ go ∧ k ≠ w.heap.size ∧ k ≠ wo.heap.size ∧ (k < w2.heap.size ∨ w3.heap.size ≤ k)) (fun _ => False) rfl ?hs2 ?hp2 ?hokp2 ?hfresh2 ?HO2 ?HB2 ?hbase2 ?hl2 ?_; any_goals (intro v6 w6 hR6 hB6 hG6 hN6)))
                      case hp2 => rfl
                      case hfresh2 =>
                        intro k' hk'
                        have g1 := blk_lt IN.out.row
                        have g2 := blk_lt IN.out.box
                        have g3 := blk_lt IN.out.inb
                        have g4 := IN.out.size
                        have g5 : wr.heap.size ≤ k' := by simpa using hk'
                        exact ⟨by omega, by omega, by omega, by omega⟩
                      case HO2 => exact Kd.R_far IN.out.list (p := ⟨go, u.toNat, none⟩) (fun _ h => h.1) _
                      case HB2 => exact IN.out.below.setCell (p := ⟨go, u.toNat, none⟩) (by show w.heap.size ≤ go; omega) _
                      case hbase2 => have := IN.out.below.size; simpa using this
                      case hl2 => have := IN.out.few; omega
                      have IN6 := IN.out.push HST.out HPOS.out hun2 cx (by simpa using cde1) hreach t0 t1 t2 (by omega) hR6 hB6 hG6
                      go_wp2
                      go_roundw
                      case rel => exact ⟨i + 1, _, todo' ++ [u], by omega, rfl, rfl, by go_num, ⟨IN6⟩⟩
                      case measure => simp [intOf]; omega
                  · have cde1 : decide (de < at0 out t - effP x.f0 x.f1 + effL x.f0 x.f1 + 1) = true := by simp; omega
                    have hng : ¬ Good ins de := fun hG => cde ((hG.1 t _ hreach).2.2 u _ HMEM.out).2
                    clear cde
                    replace HCU := HCU.out
                    go_wp2
                    (try simp only [Exit.jump])
                    go_ret2
                    exact depths_no hng IN.out.below
              · rw [if_neg hbu, Int.add_zero] at HST HMEM hbd
                by_cases hi9 : i = 0
                · have hz1 : decide (0 < (i : Int)) = false := by simp; omega
                  have hz2 : i ≤ 0 := by omega
                  have hz3 : decide (0 < i) = false := by simp; omega
                  clear hbu hi9
                  have hE0 : 0 ≤ at0 out t - effP x.f0 x.f1 + effL x.f0 x.f1 := by omega
                  by_cases cde : at0 out t - effP x.f0 x.f1 + effL x.f0 x.f1 ≤ de
                  · have cde1 : decide (de < at0 out t - effP x.f0 x.f1 + effL x.f0 x.f1) = false := by simp; omega
                    by_cases c0 : 0 ≤ at0 out' u
                    · have c01 : decide (0 ≤ at0 out' u) = true := by simpa using c0
                      by_cases ceq : at0 out' u = at0 out t - effP x.f0 x.f1 + effL x.f0 x.f1
                      · have ceq1 : (at0 out' u != at0 out t - effP x.f0 x.f1 + effL x.f0 x.f1) = false := by simpa using ceq
                        have c02 : decide (at0 out' u < 0) = false := by simp; omega
                        clear ceq c0 cde
                        replace HCU := HCU.out
                        go_wp2
                        go_roundw
                        case rel => exact ⟨i + 1, out', todo', by omega, rfl, rfl, by go_num, ⟨IN.out.next HST.out HUN.out (by simpa using cde1) (by simpa using ceq1)⟩⟩
                        case measure => simp [intOf]; omega
                      · have ceq1 : (at0 out' u != at0 out t - effP x.f0 x.f1 + effL x.f0 x.f1) = true := by simpa using ceq
                        have hng : ¬ Good ins de := not_good_two (IN.out.inv.reach u hu0 HUN.out c0).1 (Reach.step hreach HMEM.out) ceq
                        clear ceq c0 cde
                        replace HCU := HCU.out
                        go_wp2
                        (try simp only [Exit.jump])
                        go_ret2
                        exact depths_no hng IN.out.below
                    · have c01 : decide (0 ≤ at0 out' u) = false := by simpa using c0
                      have c02 : decide (at0 out' u < 0) = true := by simp; omega
                      have cx : at0 out' u < 0 := by omega
                      clear c0
                      replace HCU := HCU.out
                      go_wp2_with ((with_reducible refine gate_dst (N := 130) rfl ?_); go_loud (refine Kd.R_append (Kd.int .i64) (w0 := w) w.heap.size rfl (.tmp 127) (.tmp 129) 38 3 (.int .i64 0) 8 rfl Try.underlying38 info3 rfl (by decide) (by omega) u5 todo' u [.int .i64 u] (fun k => k ≠ go ∧ k ≠ w.heap.size ∧ k ≠ wo.heap.size ∧ (k < w2.heap.size ∨ w3.heap.size ≤ k)) (fun _ => False) rfl ?hs3 ?hp3 ?hokp3 ?hfresh3 ?HO3 ?HB3 ?hbase3 ?hl3 ?_; any_goals (intro v6 w6 hR6 hB6 hG6 hN6)))
                      case hp3 => rfl
                      case hfresh3 =>
                        intro k' hk'
                        have g1 := blk_lt IN.out.row
                        have g2 := blk_lt IN.out.box
                        have g3 := blk_lt IN.out.inb
                        have g4 := IN.out.size
                        have g5 : wr.heap.size ≤ k' := by simpa using hk'
                        exact ⟨by omega, by omega, by omega, by omega⟩
                      case HO3 => exact Kd.R_far IN.out.list (p := ⟨go, u.toNat, none⟩) (fun _ h => h.1) _
                      case HB3 => exact IN.out.below.setCell (p := ⟨go, u.toNat, none⟩) (by show w.heap.size ≤ go; omega) _
                      case hbase3 => have := IN.out.below.size; simpa using this
                      case hl3 => have := IN.out.few; omega
                      have IN6 := IN.out.push HST.out HPOS.out hun2 cx (by simpa using cde1) hreach t0 t1 t2 (by omega) hR6 hB6 hG6
                      go_wp2
                      go_roundw
                      case rel => exact ⟨i + 1, _, todo' ++ [u], by omega, rfl, rfl, by go_num, ⟨IN6⟩⟩
                      case measure => simp [intOf]; omega
                  · have cde1 : decide (de < at0 out t - effP x.f0 x.f1 + effL x.f0 x.f1) = true := by simp; omega
                    have hng : ¬ Good ins de := fun hG => cde ((hG.1 t _ hreach).2.2 u _ HMEM.out).2
                    clear cde
                    replace HCU := HCU.out
                    go_wp2
                    (try simp only [Exit.jump])
                    go_ret2
                    exact depths_no hng IN.out.below
                · have hz1 : decide (0 < (i : Int)) = true := by simp; omega
                  have hz2 : 0 < i := by omega
                  have hz3 : decide (0 < i) = true := by simpa using hz2
                  have hop1 : (x.f0 == 24) = false := by rw [beq_eq_false_iff_ne]; omega
                  have hop2 : (x.f0 == 25) = false := by rw [beq_eq_false_iff_ne]; omega
                  clear hbu hi9
                  have hE0 : 0 ≤ at0 out t - effP x.f0 x.f1 + effL x.f0 x.f1 := by omega
                  by_cases cde : at0 out t - effP x.f0 x.f1 + effL x.f0 x.f1 ≤ de
                  · have cde1 : decide (de < at0 out t - effP x.f0 x.f1 + effL x.f0 x.f1) = false := by simp; omega
                    by_cases c0 : 0 ≤ at0 out' u
                    · have c01 : decide (0 ≤ at0 out' u) = true := by simpa using c0
                      by_cases ceq : at0 out' u = at0 out t - effP x.f0 x.f1 + effL x.f0 x.f1
                      · have ceq1 : (at0 out' u != at0 out t - effP x.f0 x.f1 + effL x.f0 x.f1) = false := by simpa using ceq
                        have c02 : decide (at0 out' u < 0) = false := by simp; omega
                        clear ceq c0 cde
                        replace HCU := HCU.out
                        go_wp2
                        go_roundw
                        case rel => exact ⟨i + 1, out', todo', by omega, rfl, rfl, by go_num, ⟨IN.out.next HST.out HUN.out (by simpa using cde1) (by simpa using ceq1)⟩⟩
                        case measure => simp [intOf]; omega
                      · have ceq1 : (at0 out' u != at0 out t - effP x.f0 x.f1 + effL x.f0 x.f1) = true := by simpa using ceq
                        have hng : ¬ Good ins de := not_good_two (IN.out.inv.reach u hu0 HUN.out c0).1 (Reach.step hreach HMEM.out) ceq
                        clear ceq c0 cde
                        replace HCU := HCU.out
                        go_wp2
                        (try simp only [Exit.jump])
                        go_ret2
                        exact depths_no hng IN.out.below
                    · have c01 : decide (0 ≤ at0 out' u) = false := by simpa using c0
                      have c02 : decide (at0 out' u < 0) = true := by simp; omega
                      have cx : at0 out' u < 0 := by omega
                      clear c0
                      replace HCU := HCU.out
                      go_wp2_with ((with_reducible refine gate_dst (N := 130) rfl ?_); go_loud (refine Kd.R_append (Kd.int .i64) (w0 := w) w.heap.size rfl (.tmp 127) (.tmp 129) 38 3 (.int .i64 0) 8 rfl Try.underlying38 info3 rfl (by decide) (by omega) u5 todo' u [.int .i64 u] (fun k => k ≠ go ∧ k ≠ w.heap.size ∧ k ≠ wo.heap.size ∧ (k < w2.heap.size ∨ w3.heap.size ≤ k)) (fun _ => False) rfl ?hs4 ?hp4 ?hokp4 ?hfresh4 ?HO4 ?HB4 ?hbase4 ?hl4 ?_; any_goals (intro v6 w6 hR6 hB6 hG6 hN6)))
                      case hp4 => rfl
                      case hfresh4 =>
                        intro k' hk'
                        have g1 := blk_lt IN.out.row
                        have g2 := blk_lt IN.out.box
                        have g3 := blk_lt IN.out.inb
                        have g4 := IN.out.size
                        have g5 : wr.heap.size ≤ k' := by simpa using hk'
                        exact ⟨by omega, by omega, by omega, by omega⟩
                      case HO4 => exact Kd.R_far IN.out.list (p := ⟨go, u.toNat, none⟩) (fun _ h => h.1) _
                      case HB4 => exact IN.out.below.setCell (p := ⟨go, u.toNat, none⟩) (by show w.heap.size ≤ go; omega) _
                      case hbase4 => have := IN.out.below.size; simpa using this
                      case hl4 => have := IN.out.few; omega
                      have IN6 := IN.out.push HST.out HPOS.out hun2 cx (by simpa using cde1) hreach t0 t1 t2 (by omega) hR6 hB6 hG6
                      go_wp2
                      go_roundw
                      case rel => exact ⟨i + 1, _, todo' ++ [u], by omega, rfl, rfl, by go_num, ⟨IN6⟩⟩
                      case measure => simp [intOf]; omega
                  · have cde1 : decide (de < at0 out t - effP x.f0 x.f1 + effL x.f0 x.f1) = true := by simp; omega
                    have hng : ¬ Good ins de := fun hG => cde ((hG.1 t _ hreach).2.2 u _ HMEM.out).2
                    clear cde
                    replace HCU := HCU.out
                    go_wp2
                    (try simp only [Exit.jump])
                    go_ret2
                    exact depths_no hng IN.out.below
            · have hun1 : decide (ins.length ≤ u) = true := by simp; omega
              have hng : ¬ Good ins de := fun hG => hun ((hG.1 t _ hreach).2.2 u _ HMEM.out).1
              clear hun
              go_wp2
              all_goals
                (try simp only [Exit.jump])
                go_ret2
                exact depths_no hng IN.out.below
          · have hltz : ¬ (i : Int) < (N : Int) := by omega
            obtain ⟨A5', c5', hv5, _, _⟩ := Kd.R_reads IN.out.list
            subst hv5
            go_wp2
            go_step3
            refine ⟨rfl, ⟨go, hge, SearchAt.mk out' todo' _ rfl ⟨IN.out.box, IN.out.row, Kd.R_mono IN.out.list (fun _ h => ⟨h.1, h.2.1⟩), IN.out.below, ?_, IN.out.few⟩⟩, ?_⟩
            · refine IN.out.inv.close (by rw [IN.out.now, HX.out]; exact HHP.out) ?_
              intro u e hue
              rw [IN.out.now] at hue
              obtain ⟨j, hj, hje⟩ := List.getElem_of_mem hue
              exact IN.out.seen j (by omega) u e (by rw [List.getElem?_eq_getElem hj, hje])
            · have l1 := IN.out.less
              have l2 := negs_of IN.out.row
              have l3 := HNEG.out
              show 2 * negs wr go + todo'.length < 2 * negs wo go + (k + 1)
              rw [l2, l3]
              omega
      · have hp1 : decide (at0 out t < effP x.f0 x.f1) = true := by simp; omega
        have hng : ¬ Good ins de := not_good_at (HS.out.inv.reach t t0 t1 t2).1 (fun h => hp (by have := h.1; rwa [HX.out] at this))
        clear hp
        go_wp2
        go_quiet (fail)
        go_wp2
        (try simp only [Exit.jump])
        go_ret2
        exact depths_no hng (pw_below_drewN be2.out _)
  · intro hrest
    have HREST := Aside0.mk hrest
    clear hrest
    go_wp2_with fail
    refine (slices_Repeat _ _ _ _ ?h0 h1 (by omega)).mono ?_
    case h0 => simp
    rintro e w1 ⟨go, rfl, hR1, hge, hB1⟩
    have hge2 : w.heap.size + 2 ≤ go := by simpa using hge
    have hbox : w1.heap[w.heap.size]? = some (.cells #[.int .i64 pa, .int .i64 lo, .int .i64 si, .int .i64 de, .slice A4 ins.length c4] 52 (0, 0)) :=
      blk_below (blk_alloc (blk_new w _) _) hB1
    have hbel : Below w.heap.size w w1 := below_step (by repeat (first | (with_reducible first | exact Below.refl _ _ | apply below_alloc))) hB1
    obtain ⟨hc1, hf1⟩ := bcell hB1
    have HR1 := Aside0.mk hR1
    have hcg : w1.cell? ⟨go, 0, none⟩ = some (.int .i64 (-1)) := by
      rw [blk_cell hR1 0]
      have : 0 < ins.length := by omega
      simp [this]
    have hfg := blk_frozen hR1 0
    clear hR1
    have HBOX := Aside0.mk hbox
    have HBEL := Aside0.mk hbel
    clear hbox hbel
    go_wp2
    rename_i K hK
    refine wp_label ?_
    refine hK _ _ ?_
    refine HREST.out _ _ ?_
    refine ⟨go, hge2, SearchAt.mk ((List.replicate ins.length (-1)).set 0 0) [0] (.slice (some ⟨w1.heap.size, 0, none⟩) 1 1) ?_ ?_⟩
    · rfl
    · have h0 : ((List.replicate ins.length (-1 : Int)).set 0 0).map (Value.int .i64) = (((List.replicate ins.length (-1 : Int)).map (Value.int .i64)).set 0 (.int .i64 0)) := by simp [List.map_set]
      have hne : w.heap.size ≠ go := by omega
      refine ⟨blk_alloc (blk_far HBOX.out hne _) _, ?_, ?_, ?_, Inv.start ins de h1 hd0, ?_⟩
      · refine blk_alloc ?_ _
        rw [h0]
        refine blk_put HR1.out 0 _ ?_
        rw [List.setIfInBounds_toArray]
      · refine R_ints_ok _ [0] _ _ _ (by simp) ?_ ⟨?_, ?_⟩ (by simp)
        · have := HBEL.out.size; simpa using this
        · have := blk_lt HR1.out; omega
        · have := blk_lt HBOX.out; omega
      · repeat (first | (with_reducible first | exact HBEL.out | apply below_alloc | refine below_set ?_ (show w.heap.size ≤ go by omega)))
      · have h5 : cnt ((List.replicate ins.length (-1 : Int)).set (0 : Int).toNat 0) + 1 = cnt (List.replicate ins.length (-1 : Int)) := by
          refine cnt_set (by omega) (by simp; omega) ?_ (by omega)
          unfold at0 rd
          rw [List.getD_eq_getElem?_getD, List.getElem?_replicate, if_pos (by simp; omega)]
          decide
        have h6 : cnt (List.replicate ins.length (-1 : Int)) ≤ ins.length := by
          unfold cnt
          exact Nat.le_trans List.countP_le_length (by simp)
        rw [show (0 : Int).toNat = 0 from rfl] at h5
        show 1 + _ ≤ _
        omega
end Go.Proofs.Ytmifocbodfkeeaa.K
