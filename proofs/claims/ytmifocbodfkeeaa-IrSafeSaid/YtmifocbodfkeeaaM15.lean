import Derived.Test.YtmifocbodfkeeaaM14
import Derived.Test.YtmifocbodfkeeaaM13
namespace Go.Proofs.Ytmifocbodfkeeaa.K
open Go.RowKit Go.Proofs.YtmifocbodfkeeaaW.PrintWords Go.Proofs.YtmifocbodfkeeaaW.PrintLast Go.Proofs.YtmifocbodfkeeaaW.PrintMore
set_option linter.unusedVariables false
set_option linter.unusedSimpArgs false
/-- A program and a body as values, laid in boxes. -/
def pCells (p : Prg) (A1 : Option Addr) (c1 : Nat) (A2 : Option Addr) (c2 : Nat) : Array Value := #[.int .i64 p.g, .slice A1 p.pool.length c1, .slice A2 p.codes.length c2]
def bCells (b : Bdy) (A5 : Option Addr) (c5 : Nat) (A6 : Option Addr) (c6 : Nat) (A7 : Option Addr) (c7 : Nat) : Array Value := #[.int .i64 b.f, .int .i64 b.regs, .slice A5 b.consts.length c5, .slice A6 b.ops.length c6, .slice A7 b.deps.length c7]
structure Boxes (w : World) (p : Prg) (b : Bdy) (A1 : Option Addr) (c1 : Nat) (A2 : Option Addr) (c2 : Nat) (A5 : Option Addr) (c5 : Nat) (A6 : Option Addr) (c6 : Nat) (A7 : Option Addr) (c7 : Nat) (W : World) : Prop where
  bp : W.heap[w.heap.size]? = some (.cells (pCells p A1 c1 A2 c2) 25 (0, 0))
  bb : W.heap[w.heap.size + 1]? = some (.cells (bCells b A5 c5 A6 c6 A7 c7) 30 (0, 0))
  below : Below w.heap.size w W
section
variable {w W W1 : World} {p : Prg} {b : Bdy} {A1 : Option Addr} {c1 : Nat} {A2 : Option Addr} {c2 : Nat} {A5 : Option Addr} {c5 : Nat} {A6 : Option Addr} {c6 : Nat} {A7 : Option Addr} {c7 : Nat}
theorem Boxes.next (h : Boxes w p b A1 c1 A2 c2 A5 c5 A6 c6 A7 c7 W) (hb : Below W.heap.size W W1) : Boxes w p b A1 c1 A2 c2 A5 c5 A6 c6 A7 c7 W1 := ⟨blk_below h.bp hb, blk_below h.bb hb, below_step h.below hb⟩
theorem Boxes.start : Boxes w p b A1 c1 A2 c2 A5 c5 A6 c6 A7 c7 ((w.alloc (.cells (pCells p A1 c1 A2 c2) 25)).alloc (.cells (bCells b A5 c5 A6 c6 A7 c7) 30)) := by
  refine ⟨blk_alloc (blk_new w _) _, ?_, below_alloc (below_alloc (Below.refl _ _) _) _⟩
  have := blk_new (w.alloc (.cells (pCells p A1 c1 A2 c2) 25)) (.cells (bCells b A5 c5 A6 c6 A7 c7) 30)
  rw [show (w.alloc (.cells (pCells p A1 c1 A2 c2) 25)).heap.size = w.heap.size + 1 by simp] at this
  exact this
theorem Boxes.cells (h : Boxes w p b A1 c1 A2 c2 A5 c5 A6 c6 A7 c7 W) :
    W.cell? ⟨w.heap.size, 0, none⟩ = some (.int .i64 p.g) ∧ W.cell? ⟨w.heap.size, 1, none⟩ = some (.slice A1 p.pool.length c1) ∧ W.cell? ⟨w.heap.size, 2, none⟩ = some (.slice A2 p.codes.length c2) ∧
    W.cell? ⟨w.heap.size + 1, 0, none⟩ = some (.int .i64 b.f) ∧ W.cell? ⟨w.heap.size + 1, 1, none⟩ = some (.int .i64 b.regs) ∧ W.cell? ⟨w.heap.size + 1, 2, none⟩ = some (.slice A5 b.consts.length c5) ∧ W.cell? ⟨w.heap.size + 1, 3, none⟩ = some (.slice A6 b.ops.length c6) ∧ W.cell? ⟨w.heap.size + 1, 4, none⟩ = some (.slice A7 b.deps.length c7) := by
  refine ⟨?_, ?_, ?_, ?_, ?_, ?_, ?_, ?_⟩
  · exact (blk_cell h.bp 0).trans rfl
  · exact (blk_cell h.bp 1).trans rfl
  · exact (blk_cell h.bp 2).trans rfl
  · exact (blk_cell h.bb 0).trans rfl
  · exact (blk_cell h.bb 1).trans rfl
  · exact (blk_cell h.bb 2).trans rfl
  · exact (blk_cell h.bb 3).trans rfl
  · exact (blk_cell h.bb 4).trans rfl
theorem Short.lists {most : Int} (h : Short b most) : ∀ t : Int, 0 ≤ t → t < b.ops.length → (rd_T42 b.ops t).f5.length ≤ 1000000 ∧ (rd_T42 b.ops t).f6.length ≤ 1000000 ∧ (rd_T42 b.ops t).f8.length ≤ 1000000 := by
  intro t h0 h1
  obtain ⟨a, c, d⟩ := h.2.2.2 t h0 h1
  omega
end
set_option maxHeartbeats 16000000 in
set_option maxRecDepth 100000 in
theorem irSafe_walk {vp vb : Value} {p : Prg} {b : Bdy} {w : World} (hp : PrgAt w vp p) (hb : BdyAt w vb b) (hsz : ∀ s ∈ p.pool, s.size ≤ 9223372036854775807) (hcz : ∀ v ∈ b.consts, v.f2.size ≤ 9223372036854775807) :
    Calls Try.prog 4 #[vp, vb] w fun e w' => e = .returned (.bool true) ∧ Below w.heap.size w w' := by
  have HP := Aside0.mk hp
  have HBD := Aside0.mk hb
  have HSZ := Aside0.mk hsz
  have HCZ := Aside0.mk hcz
  obtain ⟨A1, c1, A2, c2, rfl, _, _, h1, h2⟩ := hp
  obtain ⟨A5, c5, A6, c6, A7, c7, rfl, h5, h6, h7⟩ := hb
  have H2 := Aside0.mk h2
  have H5 := Aside0.mk h5
  have H6 := Aside0.mk h6
  clear h1 h2 h5 h6 h7 hsz hcz
  have X0 := Aside0.mk (Boxes.start (w := w) (p := p) (b := b) (A1 := A1) (c1 := c1) (A2 := A2) (c2 := c2) (A5 := A5) (c5 := c5) (A6 := A6) (c6 := c6) (A7 := A7) (c7 := c7))
  go_enter Try.func4, Try.ntmps4
  go_wp2_with fail
  refine (few_prog p A1 c1 A2 c2 300 _ (Kd.C_below H2.out X0.out.below) (by decide) (by decide)).mono ?_
  rintro e w1 ⟨q1, rfl, _, hb1⟩
  have X1 := Aside0.mk (X0.out.next hb1)
  clear X0 hb1
  obtain ⟨kc0, kc1, kc2, oc0, oc1, oc2, oc3, oc4⟩ := X1.out.cells
  cases q1
  · go_wp2_with (go_at_call 13; refine (works20 _).mono ?_; rintro e w2 ⟨rfl, hb2⟩)
    go_ret
    exact ⟨rfl, below_step X1.out.below hb2⟩
  · go_wp2_with fail
    refine (few_body b A5 c5 A6 c6 A7 c7 300 _ (Kd.C_below H5.out X1.out.below) (Kd.C_below H6.out X1.out.below) HCZ.out (by decide) (by decide)).mono ?_
    rintro e w2 ⟨q2, rfl, hsh, hb2⟩
    have X2 := Aside0.mk (X1.out.next hb2)
    clear X1 hb2 kc0 kc1 kc2 oc0 oc1 oc2 oc3 oc4
    obtain ⟨kc0, kc1, kc2, oc0, oc1, oc2, oc3, oc4⟩ := X2.out.cells
    cases q2
    · clear hsh
      go_wp2_with (go_at_call 13; refine (works20 _).mono ?_; rintro e w3 ⟨rfl, hb3⟩)
      go_ret
      exact ⟨rfl, below_step X2.out.below hb3⟩
    · have HSH := Aside0.mk (hsh rfl)
      clear hsh
      have hck := ir_Check_at (HP.out.below X2.out.below) (HBD.out.below X2.out.below) HSZ.out HCZ.out HSH.out.lists
      by_cases hcb : CheckB p b
      · rw [said_yes hcb] at hck
        have HCB := Aside0.mk hcb
        have HCK := Aside0.mk hck
        clear hck hcb
        go_wp2_with (go_at_call 14; refine HCK.out.mono ?_; rintro e w3 ⟨rfl, hb3⟩)
        have X3 := Aside0.mk (X2.out.next hb3)
        clear X2 hb3 kc0 kc1 kc2 oc0 oc1 oc2 oc3 oc4 HCK
        go_wp2
        go_loopw [4, 5] (fun v4 v5 wr => ∃ k : Nat, k ≤ b.ops.length ∧ v4 = .bool false ∧ v5 = .int .i64 k ∧ Aside0 (Boxes w p b A1 c1 A2 c2 A5 c5 A6 c6 A7 c7 wr)) (fun _ v5 _ => b.ops.length - (intOf v5).toNat)
        case atStart => exact ⟨0, Nat.zero_le _, rfl, rfl, X3⟩
        case round =>
          clear X3
          obtain ⟨k, hk, rfl, rfl, X⟩ := hrel
          obtain ⟨kc0, kc1, kc2, oc0, oc1, oc2, oc3, oc4⟩ := X.out.cells
          have hlo := HSH.out.1
          have hk9 : (k : Int) ≤ 300 := by omega
          have hk0 : 0 ≤ (k : Int) := by omega
          by_cases hin : k < b.ops.length
          · have hin2 : (k : Int) < b.ops.length := by omega
            have HIN := Aside0.mk hin
            obtain ⟨ad, B5, d5, B6, d6, B8, d8, e, hx0, hx1, hx2, hx3, hx4, hx5, hx6, hx7, hx8, m5, hr5, m6, hr6, m8, hr8⟩ := at_T42 (Kd.C_below H6.out X.out.below) k hk0 hin2
            subst e
            rw [Int.toNat_natCast] at hx0 hx1 hx2 hx3 hx4 hx5 hx6 hx7 hx8
            have HU := Aside0.mk (fun x hx => safe_uses (x := x) HCB.out hk0 hin2 hx)
            have HDF := Aside0.mk (safe_def HCB.out hk0 hin2)
            have HTG := Aside0.mk (fun u hu => safe_tgts (u := u) HCB.out hk0 hin2 hu)
            have HLL := Aside0.mk (HSH.out.2.2.2 k hk0 hin2)
            have HR5 := Aside0.mk hr5
            have HR8 := Aside0.mk hr8
            generalize hxx : rd_T42 b.ops (k : Int) = x at *
            have HXX := Aside0.mk hxx
            clear hxx
            have HUL := Aside0.mk (show (usesO x.f0 x.f1 x.f2 x.f3 x.f4 x.f5).length ≤ 30 from by
              have := usesN_len x.f0 x.f1 x.f2 x.f3 x.f4 (fieldsS x.f0).size
              have h2 := fieldsS_size x.f0
              have h3 := HLL.out.1
              unfold usesO
              rw [List.length_append]
              omega)
            have h5l : x.f5.length ≤ 1000000 := by have := HLL.out.1; omega
            clear hr5 hr6 hr8 m5 m6 m8 hin
            have KEEP := Aside0.mk (show ∀ W' : World, Below wr.heap.size wr W' → (W'.cell? ⟨w.heap.size + 1, 3, none⟩ = some (.slice (some ad) b.ops.length c6) ∧ W'.cell? (ad.add (k * 9)) = some (.int .i64 x.f0) ∧ W'.cell? ⟨(ad.add (k * 9)).block, (ad.add (k * 9)).off + 1, none⟩ = some (.int .i64 x.f1) ∧ W'.cell? ⟨(ad.add (k * 9)).block, (ad.add (k * 9)).off + 2, none⟩ = some (.int .i64 x.f2) ∧ W'.cell? ⟨(ad.add (k * 9)).block, (ad.add (k * 9)).off + 3, none⟩ = some (.int .i64 x.f3) ∧ W'.cell? ⟨(ad.add (k * 9)).block, (ad.add (k * 9)).off + 4, none⟩ = some (.int .i64 x.f4) ∧ W'.cell? ⟨(ad.add (k * 9)).block, (ad.add (k * 9)).off + 5, none⟩ = some (.slice B5 x.f5.length d5) ∧ W'.cell? ⟨(ad.add (k * 9)).block, (ad.add (k * 9)).off + 6, none⟩ = some (.slice B6 x.f6.length d6) ∧ W'.cell? ⟨(ad.add (k * 9)).block, (ad.add (k * 9)).off + 7, none⟩ = some (.int .i64 x.f7) ∧ W'.cell? ⟨(ad.add (k * 9)).block, (ad.add (k * 9)).off + 8, none⟩ = some (.slice B8 x.f8.length d8) ∧ Below wr.heap.size wr W') from fun W' hb => ⟨cell_later hb oc3, cell_later hb hx0, cell_later hb hx1, cell_later hb hx2, cell_later hb hx3, cell_later hb hx4, cell_later hb hx5, cell_later hb hx6, cell_later hb hx7, cell_later hb hx8, hb⟩)
            go_wp2
            refine wp_region_noPanic ?_
            refine wp_region_held_drew (S := (fun W' => W'.cell? ⟨w.heap.size + 1, 3, none⟩ = some (.slice (some ad) b.ops.length c6) ∧ W'.cell? (ad.add (k * 9)) = some (.int .i64 x.f0) ∧ W'.cell? ⟨(ad.add (k * 9)).block, (ad.add (k * 9)).off + 1, none⟩ = some (.int .i64 x.f1) ∧ W'.cell? ⟨(ad.add (k * 9)).block, (ad.add (k * 9)).off + 2, none⟩ = some (.int .i64 x.f2) ∧ W'.cell? ⟨(ad.add (k * 9)).block, (ad.add (k * 9)).off + 3, none⟩ = some (.int .i64 x.f3) ∧ W'.cell? ⟨(ad.add (k * 9)).block, (ad.add (k * 9)).off + 4, none⟩ = some (.int .i64 x.f4) ∧ W'.cell? ⟨(ad.add (k * 9)).block, (ad.add (k * 9)).off + 5, none⟩ = some (.slice B5 x.f5.length d5) ∧ W'.cell? ⟨(ad.add (k * 9)).block, (ad.add (k * 9)).off + 6, none⟩ = some (.slice B6 x.f6.length d6) ∧ W'.cell? ⟨(ad.add (k * 9)).block, (ad.add (k * 9)).off + 7, none⟩ = some (.int .i64 x.f7) ∧ W'.cell? ⟨(ad.add (k * 9)).block, (ad.add (k * 9)).off + 8, none⟩ = some (.slice B8 x.f8.length d8) ∧ Below wr.heap.size wr W')) (by kernel_rfl) (KEEP.out _ (below_drew1 (Below.refl _ _))) (fun hHeld => ?_)
            refine wpAnyH_take (i := 1) (v := ?_) rfl (by kernel_rfl) (by kernel_rfl) (by kernel_rfl) (fun _ _ _ h => h) (Or.inl ⟨by rfl, ?_⟩) (by assumption) ?_
            rotate_left
            · intro w hSw; (try dsimp only at hSw); go_simp; (try with_reducible rfl)
            try simp only [Act.put, List.setIfInBounds_toArray, List.set_cons_zero, List.set_cons_succ]
            refine wpAnyH_take (i := 2) (v := ?_) rfl (by kernel_rfl) (by kernel_rfl) (by kernel_rfl) (fun _ _ _ h => h) (Or.inl ⟨by rfl, ?_⟩) (by assumption) ?_
            rotate_left
            · intro w hSw; (try dsimp only at hSw); go_simp; (try with_reducible rfl)
            try simp only [Act.put, List.setIfInBounds_toArray, List.set_cons_zero, List.set_cons_succ]
            refine wpAnyH_take (i := 3) (v := ?_) rfl (by kernel_rfl) (by kernel_rfl) (by kernel_rfl) (fun _ _ _ h => h) (Or.inl ⟨by rfl, ?_⟩) (by assumption) ?_
            rotate_left
            · intro w hSw; (try dsimp only at hSw); go_simp; (try with_reducible rfl)
            try simp only [Act.put, List.setIfInBounds_toArray, List.set_cons_zero, List.set_cons_succ]
            refine wpAnyH_take (i := 4) (v := ?_) rfl (by kernel_rfl) (by kernel_rfl) (by kernel_rfl) (fun _ _ _ h => h) (Or.inl ⟨by rfl, ?_⟩) (by assumption) ?_
            rotate_left
            · intro w hSw; (try dsimp only at hSw); go_simp; (try with_reducible rfl)
            try simp only [Act.put, List.setIfInBounds_toArray, List.set_cons_zero, List.set_cons_succ]
            refine wpAnyH_take (i := 5) (v := ?_) rfl (by kernel_rfl) (by kernel_rfl) (by kernel_rfl) (fun _ _ _ h => h) (Or.inl ⟨by rfl, ?_⟩) (by assumption) ?_
            rotate_left
            · intro w hSw; (try dsimp only at hSw); go_simp; (try with_reducible rfl)
            try simp only [Act.put, List.setIfInBounds_toArray, List.set_cons_zero, List.set_cons_succ]
            refine wpAnyH_take (i := 8) (v := ?_) rfl (by kernel_rfl) (by kernel_rfl) (by kernel_rfl) (fun _ _ _ h => h) (Or.inl ⟨by rfl, ?_⟩) (by assumption) ?_
            rotate_left
            · intro w hSw; (try dsimp only at hSw); go_simp; (try with_reducible rfl)
            try simp only [Act.put, List.setIfInBounds_toArray, List.set_cons_zero, List.set_cons_succ]
            refine wpAnyH_take (i := 9) (v := ?_) rfl (by kernel_rfl) (by kernel_rfl) (by kernel_rfl) (fun _ _ _ h => h) (Or.inl ⟨by rfl, ?_⟩) (by assumption) ?_
            rotate_left
            · intro w hSw; (try dsimp only at hSw); go_simp; (try with_reducible rfl)
            try simp only [Act.put, List.setIfInBounds_toArray, List.set_cons_zero, List.set_cons_succ]
            refine wpAnyH_take (i := 10) (v := ?_) rfl (by kernel_rfl) (by kernel_rfl) (by kernel_rfl) (fun _ _ _ h => h) (Or.inl ⟨by rfl, ?_⟩) (by assumption) ?_
            rotate_left
            · intro w hSw; (try dsimp only at hSw); go_simp; (try with_reducible rfl)
            try simp only [Act.put, List.setIfInBounds_toArray, List.set_cons_zero, List.set_cons_succ]
            refine wpAnyH_take (i := 11) (v := ?_) rfl (by kernel_rfl) (by kernel_rfl) (by kernel_rfl) (fun _ _ _ h => h) (Or.inl ⟨by rfl, ?_⟩) (by assumption) ?_
            rotate_left
            · intro w hSw; (try dsimp only at hSw); go_simp; (try with_reducible rfl)
            try simp only [Act.put, List.setIfInBounds_toArray, List.set_cons_zero, List.set_cons_succ]
            refine wpAnyH_take (i := 12) (v := ?_) rfl (by kernel_rfl) (by kernel_rfl) (by kernel_rfl) (fun _ _ _ h => h) (Or.inl ⟨by rfl, ?_⟩) (by assumption) ?_
            rotate_left
            · intro w hSw; (try dsimp only at hSw); go_simp; (try with_reducible rfl)
            try simp only [Act.put, List.setIfInBounds_toArray, List.set_cons_zero, List.set_cons_succ]
            refine wpAnyH_take (i := 13) (v := ?_) rfl (by kernel_rfl) (by kernel_rfl) (by kernel_rfl) (fun _ _ _ h => h) (Or.inl ⟨by rfl, ?_⟩) (by assumption) ?_
            rotate_left
            · intro w hSw; (try dsimp only at hSw); go_simp; (try with_reducible rfl)
            try simp only [Act.put, List.setIfInBounds_toArray, List.set_cons_zero, List.set_cons_succ]
            refine wpAnyH_ready (rs := [0, 6]) (by kernel_rfl) (by simp) ?_
            refine AllReadyH.cons rfl (fun K hK => ?_) (AllReadyH.cons rfl (fun K hK => ?_) AllReadyH.nil)
            go_simp
            refine hK.out _ _ ?_ (fun hHeld => ?_)
            · exact KEEP.out _ (below_drew1 (below_alloc (Below.refl wr.heap.size wr) _))
            clear hK K
            try simp only [Act.put, List.setIfInBounds_toArray, List.set_cons_zero, List.set_cons_succ]
            refine wpAnyH_ready (rs := [6]) (by kernel_rfl) (by simp) ?_
            refine AllReadyH.cons rfl (fun K hK => ?_) AllReadyH.nil
            go_simp
            refine (ir_Uses x.f0 x.f1 x.f2 x.f3 x.f4 B5 d5 x.f5 (.slice B6 x.f6.length d6) x.f7 (.slice B8 x.f8.length d8) _ (Kd.C_below HR5.out (below_drew1 (below_alloc (Below.refl wr.heap.size wr) _))) h5l).mono ?_
            rintro e w4 ⟨v, rfl, hR4, hb4⟩
            obtain ⟨A38, c38, rfl, hc38, hC38⟩ := Kd.R_reads hR4
            go_simp
            refine hK.out _ _ ?_ (fun hHeld => ?_)
            · exact KEEP.out _ (below_step (below_drew1 (below_alloc (Below.refl wr.heap.size wr) _)) hb4)
            clear hK K
            try simp only [Act.put, List.setIfInBounds_toArray, List.set_cons_zero, List.set_cons_succ]
            refine wpAnyH_ready (rs := [7]) (by kernel_rfl) (by simp) ?_
            refine AllReadyH.cons (o := { dst := some 39, op := .call { callee := .builtin .append, args := #[.tmp 32, .tmp 38], argTypes := #[38, 38] }, type := 38, pos := _, after := _, guard := none }) rfl (fun K hK => ?_) AllReadyH.nil
            refine Kd.R_append_rows_step (Kd.int .i64) (Rr := fun y cs => cs = [Value.int .i64 y]) (w0 := wr) wr.heap.size rfl (.tmp 32) (.tmp 38) 38 3 (.int .i64 0) 8 rfl Try.underlying38 info3 rfl (by decide) (by omega) (.slice (some ⟨wr.heap.size, 0, none⟩) 0 0) [] (usesO x.f0 x.f1 x.f2 x.f3 x.f4 x.f5) A38 (usesO x.f0 x.f1 x.f2 x.f3 x.f4 x.f5).length c38 (fun _ => True) (fun _ => False) rfl rfl (Kd.R_below (w := (wr.alloc (.cells #[] 3)).drew) (Kd.R_below (R_ints_ok wr [] wr.heap.size wr.heap.size _ rfl (Nat.le_refl _) trivial (by decide)) (below_drew1 (Below.refl _ _))) hb4) (hC38) (fun _ _ h => h) (fun _ h => h.elim) (fun _ _ => trivial) (below_step (below_drew1 (below_alloc (Below.refl wr.heap.size wr) _)) hb4) (below_step (below_drew1 (below_alloc (Below.refl wr.heap.size wr) _)) hb4).size (by have := HUL.out; simp only [List.length_nil]; omega) ?_
            intro v1 w5 hR5' hB5 hG5 hN5
            refine hK.out _ _ ?_ (fun hHeld => ?_)
            · exact KEEP.out _ (hB5)
            clear hK K
            try simp only [Act.put, List.setIfInBounds_toArray, List.set_cons_zero, List.set_cons_succ]
            refine wpAnyH_ready (rs := [14]) (by kernel_rfl) (by simp) ?_
            refine AllReadyH.cons (o := { dst := some 46, op := .call { callee := .builtin .append, args := #[.tmp 39, .tmp 45], argTypes := #[38, 38] }, type := 38, pos := _, after := _, guard := none }) rfl (fun K hK => ?_) AllReadyH.nil
            refine Kd.R_append_rows_step (Kd.int .i64) (Rr := fun y cs => cs = [Value.int .i64 y]) (w0 := wr) wr.heap.size rfl (.tmp 39) (.tmp 45) 38 3 (.int .i64 0) 8 rfl Try.underlying38 info3 rfl (by decide) (by omega) v1 ([] ++ (usesO x.f0 x.f1 x.f2 x.f3 x.f4 x.f5)) x.f8 B8 x.f8.length d8 (fun _ => True) (fun _ => False) rfl rfl hR5' (Kd.C_below HR8.out hB5) (fun _ _ h => h) (fun _ h => h.elim) (fun _ _ => trivial) hB5 hB5.size (by have := HUL.out; have := HLL.out.2.1; simp only [List.nil_append]; omega) ?_
            intro v2 w6 hR6' hB6 hG6 hN6
            refine hK.out _ _ ?_ (fun hHeld => ?_)
            · exact KEEP.out _ (hB6)
            clear hK K
            try simp only [Act.put, List.setIfInBounds_toArray, List.set_cons_zero, List.set_cons_succ]
            refine wpAnyH_ready (rs := [15]) (by kernel_rfl) (by simp) ?_
            refine AllReadyH.cons rfl (fun K hK => ?_) AllReadyH.nil
            go_simp
            refine hK.out _ _ ?_ (fun hHeld => ?_)
            · exact KEEP.out _ hB6
            clear hK K
            try simp only [Act.put, List.setIfInBounds_toArray, List.set_cons_zero, List.set_cons_succ]
            refine wpAnyH_done (by kernel_rfl) ?_ _
            refine NoPanic.normal ?_
            have X6 := Aside0.mk (X.out.next hB6)
            have HL6 := Aside0.mk hR6'
            clear hR6' hB6 hG6 hN6 hR5' hB5 hG5 hN5 hR4 hb4 hc38 hC38 hHeld
            rotate_left
            go_simp
            refine (ir_Uses x.f0 x.f1 x.f2 x.f3 x.f4 B5 d5 x.f5 (.slice B6 x.f6.length d6) x.f7 (.slice B8 x.f8.length d8) _ (Kd.C_below HR5.out (below_drew1 (Below.refl wr.heap.size wr))) h5l).mono ?_
            rintro e w4 ⟨v, rfl, hR4, hb4⟩
            obtain ⟨A38, c38, rfl, hc38, hC38⟩ := Kd.R_reads hR4
            go_simp
            refine hK.out _ _ ?_ (fun hHeld => ?_)
            · exact KEEP.out _ (below_step (below_drew1 (Below.refl wr.heap.size wr)) hb4)
            clear hK K
            try simp only [Act.put, List.setIfInBounds_toArray, List.set_cons_zero, List.set_cons_succ]
            refine wpAnyH_ready (rs := [0]) (by kernel_rfl) (by simp) ?_
            refine AllReadyH.cons rfl (fun K hK => ?_) AllReadyH.nil
            go_simp
            refine hK.out _ _ ?_ (fun hHeld => ?_)
            · exact KEEP.out _ (below_alloc (below_step (below_drew1 (Below.refl wr.heap.size wr)) hb4) _)
            clear hK K
            try simp only [Act.put, List.setIfInBounds_toArray, List.set_cons_zero, List.set_cons_succ]
            refine wpAnyH_ready (rs := [7]) (by kernel_rfl) (by simp) ?_
            refine AllReadyH.cons (o := { dst := some 39, op := .call { callee := .builtin .append, args := #[.tmp 32, .tmp 38], argTypes := #[38, 38] }, type := 38, pos := _, after := _, guard := none }) rfl (fun K hK => ?_) AllReadyH.nil
            refine Kd.R_append_rows_step (Kd.int .i64) (Rr := fun y cs => cs = [Value.int .i64 y]) (w0 := wr) wr.heap.size rfl (.tmp 32) (.tmp 38) 38 3 (.int .i64 0) 8 rfl Try.underlying38 info3 rfl (by decide) (by omega) (.slice (some ⟨w4.heap.size, 0, none⟩) 0 0) [] (usesO x.f0 x.f1 x.f2 x.f3 x.f4 x.f5) A38 (usesO x.f0 x.f1 x.f2 x.f3 x.f4 x.f5).length c38 (fun _ => True) (fun _ => False) rfl rfl (R_ints_ok w4 [] wr.heap.size w4.heap.size _ rfl (below_step (below_drew1 (Below.refl wr.heap.size wr)) hb4).size trivial (by decide)) (Kd.C_alloc hC38 _) (fun _ _ h => h) (fun _ h => h.elim) (fun _ _ => trivial) (below_alloc (below_step (below_drew1 (Below.refl wr.heap.size wr)) hb4) _) (below_alloc (below_step (below_drew1 (Below.refl wr.heap.size wr)) hb4) _).size (by have := HUL.out; simp only [List.length_nil]; omega) ?_
            intro v1 w5 hR5' hB5 hG5 hN5
            refine hK.out _ _ ?_ (fun hHeld => ?_)
            · exact KEEP.out _ (hB5)
            clear hK K
            try simp only [Act.put, List.setIfInBounds_toArray, List.set_cons_zero, List.set_cons_succ]
            refine wpAnyH_ready (rs := [14]) (by kernel_rfl) (by simp) ?_
            refine AllReadyH.cons (o := { dst := some 46, op := .call { callee := .builtin .append, args := #[.tmp 39, .tmp 45], argTypes := #[38, 38] }, type := 38, pos := _, after := _, guard := none }) rfl (fun K hK => ?_) AllReadyH.nil
            refine Kd.R_append_rows_step (Kd.int .i64) (Rr := fun y cs => cs = [Value.int .i64 y]) (w0 := wr) wr.heap.size rfl (.tmp 39) (.tmp 45) 38 3 (.int .i64 0) 8 rfl Try.underlying38 info3 rfl (by decide) (by omega) v1 ([] ++ (usesO x.f0 x.f1 x.f2 x.f3 x.f4 x.f5)) x.f8 B8 x.f8.length d8 (fun _ => True) (fun _ => False) rfl rfl hR5' (Kd.C_below HR8.out hB5) (fun _ _ h => h) (fun _ h => h.elim) (fun _ _ => trivial) hB5 hB5.size (by have := HUL.out; have := HLL.out.2.1; simp only [List.nil_append]; omega) ?_
            intro v2 w6 hR6' hB6 hG6 hN6
            refine hK.out _ _ ?_ (fun hHeld => ?_)
            · exact KEEP.out _ (hB6)
            clear hK K
            try simp only [Act.put, List.setIfInBounds_toArray, List.set_cons_zero, List.set_cons_succ]
            refine wpAnyH_ready (rs := [15]) (by kernel_rfl) (by simp) ?_
            refine AllReadyH.cons rfl (fun K hK => ?_) AllReadyH.nil
            go_simp
            refine hK.out _ _ ?_ (fun hHeld => ?_)
            · exact KEEP.out _ hB6
            clear hK K
            try simp only [Act.put, List.setIfInBounds_toArray, List.set_cons_zero, List.set_cons_succ]
            refine wpAnyH_done (by kernel_rfl) ?_ _
            refine NoPanic.normal ?_
            have X6 := Aside0.mk (X.out.next hB6)
            have HL6 := Aside0.mk hR6'
            clear hR6' hB6 hG6 hN6 hR5' hB5 hG5 hN5 hR4 hb4 hc38 hC38 hHeld
            all_goals
              obtain ⟨A46, c46, hv2, hc46, hC46⟩ := Kd.R_reads HL6.out
              subst hv2
              have HC46 := Aside0.mk hC46
              have HUS := Aside0.mk (show ∀ y ∈ ([] ++ usesO x.f0 x.f1 x.f2 x.f3 x.f4 x.f5 ++ x.f8), 0 ≤ y ∧ y < b.regs from fun y hy => HU.out y (by simpa using hy))
              have HLM := Aside0.mk (show ([] ++ usesO x.f0 x.f1 x.f2 x.f3 x.f4 x.f5 ++ x.f8).length ≤ 200 from by have := HUL.out; have := HLL.out.2.1; simp only [List.nil_append, List.length_append]; omega)
              clear hc46 hC46 HL6 X KEEP HR5 HR8 hx0 hx1 hx2 hx3 hx4 hx5 hx6 hx7 hx8 kc0 kc1 kc2 oc0 oc1 oc2 oc3 oc4 HU HUL h5l
              try clear hHeld
              generalize ([] ++ usesO x.f0 x.f1 x.f2 x.f3 x.f4 x.f5 ++ x.f8) = L at *
              have hLM := HLM.out
              have hLM2 : (L.length : Int) ≤ 200 := by omega
              clear hLM
              go_wp2
              obtain ⟨wo, hwo⟩ : ∃ wo : World, wo = wr := ⟨_, rfl⟩
              subst hwo
              go_loopw [4, 7] (fun v4 v7 wr' => ∃ j : Nat, j ≤ L.length ∧ v4 = .bool false ∧ v7 = .int .i64 j ∧ Aside0 (Boxes w p b A1 c1 A2 c2 A5 c5 (some ad) c6 A7 c7 wr') ∧ Aside0 ((Kd.int .i64).C wr' A46 L.length L)) (fun _ v7 _ => L.length - (intOf v7).toNat)
              case atStart => exact ⟨0, Nat.zero_le _, rfl, rfl, X6, HC46⟩
              case round =>
                clear X6 HC46
                obtain ⟨j, hj, rfl, rfl, X, HCL⟩ := hrel
                obtain ⟨kc0, kc1, kc2, oc0, oc1, oc2, oc3, oc4⟩ := X.out.cells
                have hj0 : 0 ≤ (j : Int) := by omega
                by_cases hjn : j < L.length
                · have hj2 : (j : Int) < L.length := by omega
                  have HJ := Aside0.mk hjn
                  obtain ⟨ad6, e6, hy⟩ := Kd.at_int HCL.out j hj0 hj2
                  subst e6
                  rw [Int.toNat_natCast] at hy
                  have hmem : rd L (j : Int) ∈ L := by
                    unfold rd
                    rw [Int.toNat_natCast, List.getD_eq_getElem?_getD, List.getElem?_eq_getElem hjn]
                    exact List.getElem_mem _
                  obtain ⟨z0, z1⟩ := HUS.out _ hmem
                  generalize rd L (j : Int) = z at *
                  have q1 : decide (z < 0) = false := decide_eq_false (by omega)
                  have q2 : decide (b.regs ≤ z) = false := decide_eq_false (by omega)
                  clear hmem hjn
                  go_wp2
                  go_quiet (fail)
                  go_wp2_with fail
                  go_roundw
                  case rel => exact ⟨j + 1, HJ.out, rfl, by go_num, ⟨X.out.next (pw_below_drewN (Below.refl _ _) _)⟩, ⟨Kd.C_drewN HCL.out _⟩⟩
                  case measure => have := HJ.out; simp [intOf]; omega
                · have hj2 : ¬ (j : Int) < L.length := by omega
                  obtain rfl : j = L.length := by omega
                  obtain ⟨ad', B5, d5, B6, d6, B8, d8, e, hx0, hx1, hx2, hx3, hx4, hx5, hx6, hx7, hx8, m5, hr5, m6, hr6, m8, hr8⟩ := at_T42 (Kd.C_below H6.out X.out.below) k hk0 hin2
                  obtain rfl : ad = ad' := (by injection e)
                  rw [Int.toNat_natCast] at hx0 hx1 hx2 hx3 hx4 hx5 hx6 hx7 hx8
                  rw [HXX.out] at hx0 hx1 hx2 hx3 hx4 hx5 hx6 hx7 hx8
                  have KEEP := Aside0.mk (show ∀ W' : World, Below wr.heap.size wr W' → (W'.cell? ⟨w.heap.size + 1, 3, none⟩ = some (.slice (some ad) b.ops.length c6) ∧ W'.cell? ⟨w.heap.size + 1, 1, none⟩ = some (.int .i64 b.regs) ∧ W'.cell? (ad.add (k * 9)) = some (.int .i64 x.f0) ∧ W'.cell? ⟨(ad.add (k * 9)).block, (ad.add (k * 9)).off + 1, none⟩ = some (.int .i64 x.f1) ∧ W'.cell? ⟨(ad.add (k * 9)).block, (ad.add (k * 9)).off + 2, none⟩ = some (.int .i64 x.f2) ∧ W'.cell? ⟨(ad.add (k * 9)).block, (ad.add (k * 9)).off + 3, none⟩ = some (.int .i64 x.f3) ∧ W'.cell? ⟨(ad.add (k * 9)).block, (ad.add (k * 9)).off + 4, none⟩ = some (.int .i64 x.f4) ∧ W'.cell? ⟨(ad.add (k * 9)).block, (ad.add (k * 9)).off + 5, none⟩ = some (.slice B5 x.f5.length d5) ∧ W'.cell? ⟨(ad.add (k * 9)).block, (ad.add (k * 9)).off + 6, none⟩ = some (.slice B6 x.f6.length d6) ∧ W'.cell? ⟨(ad.add (k * 9)).block, (ad.add (k * 9)).off + 7, none⟩ = some (.int .i64 x.f7) ∧ W'.cell? ⟨(ad.add (k * 9)).block, (ad.add (k * 9)).off + 8, none⟩ = some (.slice B8 x.f8.length d8) ∧ Below wr.heap.size wr W') from fun W' hb => ⟨cell_later hb oc3, cell_later hb oc1, cell_later hb hx0, cell_later hb hx1, cell_later hb hx2, cell_later hb hx3, cell_later hb hx4, cell_later hb hx5, cell_later hb hx6, cell_later hb hx7, cell_later hb hx8, hb⟩)
                  clear hr5 hr6 hr8 m5 m6 m8 hjn e hj2
                  have q3 : decide (b.regs ≤ defO x.f0 x.f1) = false := decide_eq_false (by have := HDF.out; omega)
                  go_wp2
                  refine wp_region_noPanic ?_
                  refine wp_region_held_drew (S := (fun W' => W'.cell? ⟨w.heap.size + 1, 3, none⟩ = some (.slice (some ad) b.ops.length c6) ∧ W'.cell? ⟨w.heap.size + 1, 1, none⟩ = some (.int .i64 b.regs) ∧ W'.cell? (ad.add (k * 9)) = some (.int .i64 x.f0) ∧ W'.cell? ⟨(ad.add (k * 9)).block, (ad.add (k * 9)).off + 1, none⟩ = some (.int .i64 x.f1) ∧ W'.cell? ⟨(ad.add (k * 9)).block, (ad.add (k * 9)).off + 2, none⟩ = some (.int .i64 x.f2) ∧ W'.cell? ⟨(ad.add (k * 9)).block, (ad.add (k * 9)).off + 3, none⟩ = some (.int .i64 x.f3) ∧ W'.cell? ⟨(ad.add (k * 9)).block, (ad.add (k * 9)).off + 4, none⟩ = some (.int .i64 x.f4) ∧ W'.cell? ⟨(ad.add (k * 9)).block, (ad.add (k * 9)).off + 5, none⟩ = some (.slice B5 x.f5.length d5) ∧ W'.cell? ⟨(ad.add (k * 9)).block, (ad.add (k * 9)).off + 6, none⟩ = some (.slice B6 x.f6.length d6) ∧ W'.cell? ⟨(ad.add (k * 9)).block, (ad.add (k * 9)).off + 7, none⟩ = some (.int .i64 x.f7) ∧ W'.cell? ⟨(ad.add (k * 9)).block, (ad.add (k * 9)).off + 8, none⟩ = some (.slice B8 x.f8.length d8) ∧ Below wr.heap.size wr W')) (by kernel_rfl) (KEEP.out _ (below_drew1 (Below.refl _ _))) (fun hHeld => ?_)
                  refine wpAnyH_take (i := 0) (v := ?_) rfl (by kernel_rfl) (by kernel_rfl) (by kernel_rfl) (fun _ _ _ h => h) (Or.inl ⟨by rfl, ?_⟩) (by assumption) ?_
                  rotate_left
                  · intro w hSw; (try dsimp only at hSw); go_simp; (try with_reducible rfl)
                  try simp only [Act.put, List.setIfInBounds_toArray, List.set_cons_zero, List.set_cons_succ]
                  refine wpAnyH_take (i := 1) (v := ?_) rfl (by kernel_rfl) (by kernel_rfl) (by kernel_rfl) (fun _ _ _ h => h) (Or.inl ⟨by rfl, ?_⟩) (by assumption) ?_
                  rotate_left
                  · intro w hSw; (try dsimp only at hSw); go_simp; (try with_reducible rfl)
                  try simp only [Act.put, List.setIfInBounds_toArray, List.set_cons_zero, List.set_cons_succ]
                  refine wpAnyH_take (i := 2) (v := ?_) rfl (by kernel_rfl) (by kernel_rfl) (by kernel_rfl) (fun _ _ _ h => h) (Or.inl ⟨by rfl, ?_⟩) (by assumption) ?_
                  rotate_left
                  · intro w hSw; (try dsimp only at hSw); go_simp; (try with_reducible rfl)
                  try simp only [Act.put, List.setIfInBounds_toArray, List.set_cons_zero, List.set_cons_succ]
                  refine wpAnyH_take (i := 3) (v := ?_) rfl (by kernel_rfl) (by kernel_rfl) (by kernel_rfl) (fun _ _ _ h => h) (Or.inl ⟨by rfl, ?_⟩) (by assumption) ?_
                  rotate_left
                  · intro w hSw; (try dsimp only at hSw); go_simp; (try with_reducible rfl)
                  try simp only [Act.put, List.setIfInBounds_toArray, List.set_cons_zero, List.set_cons_succ]
                  refine wpAnyH_take (i := 4) (v := ?_) rfl (by kernel_rfl) (by kernel_rfl) (by kernel_rfl) (fun _ _ _ h => h) (Or.inl ⟨by rfl, ?_⟩) (by assumption) ?_
                  rotate_left
                  · intro w hSw; (try dsimp only at hSw); go_simp; (try with_reducible rfl)
                  try simp only [Act.put, List.setIfInBounds_toArray, List.set_cons_zero, List.set_cons_succ]
                  refine wpAnyH_take (i := 6) (v := ?_) rfl (by kernel_rfl) (by kernel_rfl) (by kernel_rfl) (fun _ _ _ h => h) (Or.inl ⟨by rfl, ?_⟩) (by assumption) ?_
                  rotate_left
                  · intro w hSw; (try dsimp only at hSw); go_simp; (try with_reducible rfl)
                  try simp only [Act.put, List.setIfInBounds_toArray, List.set_cons_zero, List.set_cons_succ]
                  refine wpAnyH_take (i := 7) (v := ?_) rfl (by kernel_rfl) (by kernel_rfl) (by kernel_rfl) (fun _ _ _ h => h) (Or.inl ⟨by rfl, ?_⟩) (by assumption) ?_
                  rotate_left
                  · intro w hSw; (try dsimp only at hSw); go_simp; (try with_reducible rfl)
                  try simp only [Act.put, List.setIfInBounds_toArray, List.set_cons_zero, List.set_cons_succ]
                  refine wpAnyH_ready (rs := [5]) (by kernel_rfl) (by simp) ?_
                  refine AllReadyH.cons rfl (fun K hK => ?_) AllReadyH.nil
                  go_simp
                  refine (ir_Def x.f0 x.f1 x.f2 x.f3 x.f4 (.slice B5 x.f5.length d5) (.slice B6 x.f6.length d6) x.f7 (.slice B8 x.f8.length d8) _).mono ?_
                  rintro e w8 ⟨rfl, hb8⟩
                  go_simp
                  refine hK.out _ _ ?_ (fun hHeld => ?_)
                  · exact KEEP.out _ (below_step (below_drew1 (Below.refl _ _)) hb8)
                  clear hK K
                  try simp only [Act.put, List.setIfInBounds_toArray, List.set_cons_zero, List.set_cons_succ]
                  refine wpAnyH_ready (rs := [8]) (by kernel_rfl) (by simp) ?_
                  refine AllReadyH.cons rfl (fun K hK => ?_) AllReadyH.nil
                  go_simp
                  refine hK.out _ _ ?_ (fun hHeld => ?_)
                  · exact KEEP.out _ (below_step (below_drew1 (Below.refl _ _)) hb8)
                  clear hK K
                  try simp only [Act.put, List.setIfInBounds_toArray, List.set_cons_zero, List.set_cons_succ]
                  refine wpAnyH_done (by kernel_rfl) ?_ _
                  refine NoPanic.normal ?_
                  have X8 := Aside0.mk (X.out.next (below_step (below_drew1 (Below.refl _ _)) hb8))
                  clear hHeld KEEP hb8 X HCL hx0 hx1 hx2 hx3 hx4 hx5 hx6 hx7 hx8 kc0 kc1 kc2 oc0 oc1 oc2 oc3 oc4
                  obtain ⟨kc0, kc1, kc2, oc0, oc1, oc2, oc3, oc4⟩ := X8.out.cells
                  go_wp2_with fail
                  refine (ir_Targets b.f b.regs A5 b.consts.length c5 (some ad) c6 b.ops A7 b.deps.length c7 k _ (Kd.C_below H6.out X8.out.below) hk0 hin2 (by omega)).mono ?_
                  rintro e w9 ⟨v8, rfl, hR9, hb9⟩
                  rw [HXX.out] at hR9
                  obtain ⟨A8, c8, hv8, hc8, hC8⟩ := Kd.R_reads hR9
                  subst hv8
                  have hTL : (tgtsO x.f0 x.f1 k).length ≤ 2 := by unfold tgtsO; split <;> (try split) <;> (try split) <;> simp
                  have hTL2 : ((tgtsO x.f0 x.f1 k).length : Int) ≤ 2 := by omega
                  have X9 := Aside0.mk (X8.out.next hb9)
                  have HC9 := Aside0.mk hC8
                  clear hR9 hc8 hC8 hb9 X8 hTL kc0 kc1 kc2 oc0 oc1 oc2 oc3 oc4
                  generalize tgtsO x.f0 x.f1 k = TG at *
                  go_wp2
                  obtain ⟨wo2, hwo2⟩ : ∃ wo2 : World, wo2 = wr := ⟨_, rfl⟩
                  subst hwo2
                  go_loopw [4, 9] (fun v4 v9 wr' => ∃ i : Nat, i ≤ TG.length ∧ v4 = .bool false ∧ v9 = .int .i64 i ∧ Aside0 (Boxes w p b A1 c1 A2 c2 A5 c5 (some ad) c6 A7 c7 wr') ∧ Aside0 ((Kd.int .i64).C wr' A8 TG.length TG)) (fun _ v9 _ => TG.length - (intOf v9).toNat)
                  case atStart => exact ⟨0, Nat.zero_le _, rfl, rfl, X9, HC9⟩
                  case round =>
                    clear X9 HC9
                    obtain ⟨i, hi, rfl, rfl, X, HCT⟩ := hrel
                    obtain ⟨kc0, kc1, kc2, oc0, oc1, oc2, oc3, oc4⟩ := X.out.cells
                    have hi0 : 0 ≤ (i : Int) := by omega
                    by_cases hin3 : i < TG.length
                    · have hi2 : (i : Int) < TG.length := by omega
                      have HI3 := Aside0.mk hin3
                      obtain ⟨ad8, e8, hy⟩ := Kd.at_int HCT.out i hi0 hi2
                      subst e8
                      rw [Int.toNat_natCast] at hy
                      have hmem : rd TG (i : Int) ∈ TG := by
                        unfold rd
                        rw [Int.toNat_natCast, List.getD_eq_getElem?_getD, List.getElem?_eq_getElem hin3]
                        exact List.getElem_mem _
                      obtain ⟨u0, u1, u2⟩ := HTG.out _ hmem
                      generalize rd TG (i : Int) = u at *
                      obtain ⟨ad', _, _, _, _, _, _, e, hz0, _⟩ := at_T42 (Kd.C_below H6.out X.out.below) u u0 u1
                      obtain rfl : ad = ad' := (by injection e)
                      have q1 : decide (u < 0) = false := decide_eq_false (by omega)
                      have q2 : decide ((b.ops.length : Int) ≤ u) = false := decide_eq_false (by omega)
                      clear hmem hin3 e
                      generalize rd_T42 b.ops u = y at *
                      by_cases hu : u ≤ (k : Int)
                      · have q4 : decide (u ≤ (k : Int)) = true := decide_eq_true hu
                        have q5 : (y.f0 != 1) = false := by simpa using u2 hu
                        clear u2 hu
                        go_wp2
                        go_quiet (fail)
                        go_wp2_with fail
                        go_roundw
                        case rel => exact ⟨i + 1, HI3.out, rfl, by go_num, ⟨X.out.next (pw_below_drewN (Below.refl _ _) _)⟩, ⟨Kd.C_drewN HCT.out _⟩⟩
                        case measure => have := HI3.out; simp [intOf]; omega
                      · have q4 : decide (u ≤ (k : Int)) = false := decide_eq_false hu
                        clear u2 hu
                        go_wp2
                        go_quiet (fail)
                        go_wp2_with fail
                        go_roundw
                        case rel => exact ⟨i + 1, HI3.out, rfl, by go_num, ⟨X.out.next (pw_below_drewN (Below.refl _ _) _)⟩, ⟨Kd.C_drewN HCT.out _⟩⟩
                        case measure => have := HI3.out; simp [intOf]; omega
                    · have hi2 : ¬ (i : Int) < TG.length := by omega
                      clear hin3
                      go_wp2
                      go_roundw
                      case rel => exact ⟨k + 1, HIN.out, rfl, by go_num, X⟩
                      case measure => have := HIN.out; simp [intOf]; omega
          · have hin2 : ¬ (k : Int) < b.ops.length := by omega
            clear hin
            go_wp2_with (go_at_call 13; refine (works20 _).mono ?_; rintro e w4 ⟨rfl, hb4⟩)
            go_ret
            exact ⟨rfl, below_step X.out.below hb4⟩
      · rw [said_no hcb] at hck
        have HCK := Aside0.mk hck
        clear hck hcb
        go_wp2_with (first | (go_at_call 14; refine HCK.out.mono ?_; rintro e w3 ⟨rfl, hb3⟩) | (go_at_call 13; refine (works20 _).mono ?_; rintro e w4 ⟨rfl, hb4⟩))
        go_ret
        exact ⟨rfl, below_step (below_step X2.out.below hb3) hb4⟩
end Go.Proofs.Ytmifocbodfkeeaa.K
