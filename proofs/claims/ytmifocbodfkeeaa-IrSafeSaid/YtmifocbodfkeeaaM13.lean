import Derived.Test.YtmifocbodfkeeaaM10
import Derived.ProofKit
import Derived.Deep.Slices
/-! What came in, opened: an argument's reading gives the kind's word on its cells. -/
namespace Go.Proofs.Ytmifocbodfkeeaa.K
open Go.RowKit Go.Proofs.YtmifocbodfkeeaaW.PrintWords Go.Proofs.YtmifocbodfkeeaaW.PrintLast Go.Proofs.YtmifocbodfkeeaaW.PrintMore
set_option linter.unusedVariables false
set_option linter.unusedSimpArgs false
/-- Whatever reads as of a type is of the kind. -/
def Opens (P : Program) (T : TypeId) {α : Type} (d : Kd α) (Φ : α → Prop) : Prop :=
  ∀ (H : Type) (enc : TypeId × Value → H) (w : World) (base : Nat) (spare : Nat → Bool) (held : Bool) (fuel : Nat) (cs : List Value) (x : DataW H × List MemPlace), DataW.trod enc P w base spare held fuel T cs = some x → ∃ a, d.K w a cs ∧ Φ a
theorem Opens.int {P : Program} {T : TypeId} {k : IntKind} (ht : P.underlying T = some (.int k)) : Opens P T (Kd.int k) (fun _ => True) := by
  intro H enc w base spare held fuel cs x h
  obtain ⟨n, rfl, _, _⟩ := DataW.trod_int ht h
  exact ⟨n, rfl, trivial⟩
theorem Opens.str {P : Program} {T : TypeId} (ht : P.underlying T = some .string) : Opens P T Kd.string (fun s => s.size ≤ 9223372036854775807) := by
  intro H enc w base spare held fuel cs x h
  obtain ⟨s, rfl, _, hs⟩ := DataW.trod_string ht h
  exact ⟨s, rfl, hs⟩
theorem Opens.imp {P : Program} {T : TypeId} {α : Type} {d : Kd α} {Φ Ψ : α → Prop} (h : Opens P T d Φ) (hi : ∀ a, Φ a → Ψ a) : Opens P T d Ψ := by
  intro H enc w base spare held fuel cs x hx
  obtain ⟨a, h1, h2⟩ := h H enc w base spare held fuel cs x hx
  exact ⟨a, h1, hi a h2⟩
theorem Opens.iso {P : Program} {T : TypeId} {α β : Type} {d : Kd α} {Φ : α → Prop} (h : Opens P T d Φ) (f : β → α) (g : α → β) (hfg : ∀ a, f (g a) = a) : Opens P T (Kd.iso d f) (fun b => Φ (f b)) := by
  intro H enc w base spare held fuel cs x hx
  obtain ⟨a, h1, h2⟩ := h H enc w base spare held fuel cs x hx
  refine ⟨g a, ?_, by show Φ (f (g a)); rw [hfg]; exact h2⟩
  show d.K w (f (g a)) cs
  rw [hfg]
  exact h1
theorem Opens.slice {P : Program} {T e : TypeId} {α : Type} {d : Kd α} {Φ : α → Prop} (ht : P.underlying T = some (.slice e)) (hc : P.cellsOf e = d.sz) (h : Opens P e d Φ) : Opens P T (Kd.slice e d) (fun xs => ∀ x ∈ xs, Φ x) := by
  intro H enc w base spare held fuel cs x hx
  rcases Deep.open_slice ht hx with ⟨rfl, rfl⟩ | ⟨a, len, cap, m, n, D, Pl, rfl, hb, hl, hm, hmm, rfl, hi⟩
  · exact ⟨[], ⟨none, 0, rfl, Nat.le_refl _, rfl, by simp, fun q => absurd q (Nat.lt_irrefl 0)⟩, fun x hx => by simp at hx⟩
  · have hle : len ≤ m := by subst hmm; split <;> omega
    have key : ∀ k, k ≤ len → ∃ xs : List α, xs.length = k ∧ ∀ j p, xs[j]? = some p → Φ p ∧ ∃ c, c.length = d.sz ∧ d.K w p c ∧ ∀ i u, c[i]? = some u → w.cell? (a.add (j * d.sz + i)) = some u := by
      intro k
      induction k with
      | zero => exact fun _ => ⟨[], rfl, fun j p q => by simp at q⟩
      | succ k ih =>
        intro hk
        obtain ⟨xs, hxl, hxs⟩ := ih (by omega)
        obtain ⟨cs', h1, h2⟩ := hi k (by omega)
        obtain ⟨p, hp, hphi⟩ := h H enc w base spare held n cs' _ h2
        obtain ⟨_, hlen, hcell⟩ := World.cells?_some h1
        refine ⟨xs ++ [p], by simp [hxl], fun j q hq => ?_⟩
        rcases Nat.lt_or_ge j xs.length with hj | hj
        · rw [List.getElem?_append_left hj] at hq
          exact hxs j q hq
        · obtain rfl : j = k := by
            have := (List.getElem?_eq_some_iff.1 hq).1
            simp at this
            omega
          rw [List.getElem?_append_right hj, hxl, Nat.sub_self] at hq
          obtain rfl : p = q := by simpa using hq
          refine ⟨hphi, cs', d.K_len hp, hp, fun i u hu => ?_⟩
          have hlt : i < P.cellsOf e := by have := (List.getElem?_eq_some_iff.1 hu).1; omega
          have := hcell i hlt
          rw [Deep.add_add, hc] at this
          rw [this]
          exact hu
    obtain ⟨xs, hxl, hxs⟩ := key len (Nat.le_refl _)
    refine ⟨xs, ⟨some a, cap, by rw [hxl], by rw [hxl]; exact hl, rfl, ?_, fun _ => ⟨a, rfl, fun j p hj => (hxs j p hj).2⟩⟩, fun x hx => ?_⟩
    · have : cap ≤ 9223372036854775807 := hm
      omega
    · obtain ⟨j, hj, rfl⟩ := List.getElem_of_mem hx
      exact (hxs j _ (List.getElem?_eq_getElem hj)).1
/-- The same of a run of a struct's fields, from a cell on. -/
def OpensAt (P : Program) (fs : List Field) (off : Nat) {α : Type} (d : Kd α) (Φ : α → Prop) : Prop :=
  ∀ (H : Type) (enc : TypeId × Value → H) (w : World) (base : Nat) (spare : Nat → Bool) (held : Bool) (fuel : Nat) (cs : List Value),
    (∀ f ∈ fs, ∃ x, DataW.trod enc P w base spare held fuel f.type ((cs.drop f.offset).take (P.cellsOf f.type)) = some x) → ∃ a, d.K w a ((cs.drop off).take d.sz) ∧ Φ a
theorem OpensAt.last {P : Program} {f : Field} {off : Nat} {α : Type} {d : Kd α} {Φ : α → Prop} (ho : f.offset = off) (hc : P.cellsOf f.type = d.sz) (h : Opens P f.type d Φ) : OpensAt P [f] off d Φ := by
  intro H enc w base spare held fuel cs hx
  obtain ⟨x, hx⟩ := hx f (by simp)
  rw [ho, hc] at hx
  exact h H enc w base spare held fuel _ x hx
theorem OpensAt.cons {P : Program} {f : Field} {fs : List Field} {off : Nat} {α β : Type} {d : Kd α} {d2 : Kd β} {Φ : α → Prop} {Ψ : β → Prop} (ho : f.offset = off) (hc : P.cellsOf f.type = d.sz) (h : Opens P f.type d Φ)
    (h2 : OpensAt P fs (off + d.sz) d2 Ψ) : OpensAt P (f :: fs) off (Kd.pair d d2) (fun x => Φ x.1 ∧ Ψ x.2) := by
  intro H enc w base spare held fuel cs hx
  obtain ⟨x, hx1⟩ := hx f (by simp)
  rw [ho, hc] at hx1
  obtain ⟨a, a1, a2⟩ := h H enc w base spare held fuel _ x hx1
  obtain ⟨b, b1, b2⟩ := h2 H enc w base spare held fuel cs (fun g hg => hx g (by simp [hg]))
  refine ⟨(a, b), ⟨_, _, ?_, a1, b1⟩, a2, b2⟩
  show (cs.drop off).take (d.sz + d2.sz) = _
  rw [List.take_add, List.drop_drop]
theorem Opens.struct {P : Program} {T : TypeId} {fs : Array Field} {α : Type} {d : Kd α} {Φ : α → Prop} (ht : P.underlying T = some (.struct fs)) (hc : P.cellsOf T = d.sz) (h : OpensAt P fs.toList 0 d Φ) : Opens P T d Φ := by
  intro H enc w base spare held fuel cs x hx
  obtain ⟨xs, n, rfl, _, hl, hxl, hf⟩ := DataW.trod_struct ht hx
  obtain ⟨a, a1, a2⟩ := h H enc w base spare held n cs (fun f hm => by
    obtain ⟨i, hi, he⟩ := List.getElem_of_mem hm
    have hi' : i < fs.size := by simpa using hi
    have := hf i f (by rw [Array.getElem?_eq_getElem hi']; rw [← he]; simp)
    rw [List.getElem?_eq_getElem (by omega)] at this
    exact ⟨_, this⟩)
  refine ⟨a, ?_, a2⟩
  rw [List.drop_zero, ← hc, ← hl, List.take_length] at a1
  exact a1
theorem opens67 : Opens Try.prog 67 k67 (fun _ => True) :=
  ((Opens.struct (d := Kd.pair (Kd.int .i64) (Kd.pair (Kd.int .i64) (Kd.int .i64))) Try.underlying67 (by kernel_rfl) (OpensAt.cons rfl (by kernel_rfl) (Opens.int Try.underlying3) (OpensAt.cons rfl (by kernel_rfl) (Opens.int Try.underlying3) (OpensAt.last rfl (by kernel_rfl) (Opens.int Try.underlying3))))).iso
    (fun x : S67 => (x.f0, x.f1, x.f2)) (fun a => ⟨a.1, a.2.1, a.2.2⟩) (fun _ => rfl)).imp fun _ _ => trivial
theorem opens116 : Opens Try.prog 116 k116 (fun _ => True) :=
  ((Opens.struct (d := Kd.pair (Kd.int .i64) (Kd.pair (Kd.int .i64) (Kd.int .i64))) Try.underlying116 (by kernel_rfl) (OpensAt.cons rfl (by kernel_rfl) (Opens.int Try.underlying3) (OpensAt.cons rfl (by kernel_rfl) (Opens.int Try.underlying3) (OpensAt.last rfl (by kernel_rfl) (Opens.int Try.underlying3))))).iso
    (fun x : S116 => (x.f0, x.f1, x.f2)) (fun a => ⟨a.1, a.2.1, a.2.2⟩) (fun _ => rfl)).imp fun _ _ => trivial
theorem opens74 : Opens Try.prog 74 k74 (fun _ => True) :=
  ((Opens.struct (d := Kd.pair (Kd.int .i64) (Kd.int .i64)) Try.underlying74 (by kernel_rfl) (OpensAt.cons rfl (by kernel_rfl) (Opens.int Try.underlying3) (OpensAt.last rfl (by kernel_rfl) (Opens.int Try.underlying3)))).iso
    (fun x : S74 => (x.f0, x.f1)) (fun a => ⟨a.1, a.2⟩) (fun _ => rfl)).imp fun _ _ => trivial
theorem opens65 : Opens Try.prog 65 k65 (fun x => x.f2.size ≤ 9223372036854775807) :=
  ((Opens.struct (d := Kd.pair (Kd.int .i64) (Kd.pair (Kd.int .i64) (Kd.string))) Try.underlying65 (by kernel_rfl) (OpensAt.cons rfl (by kernel_rfl) (Opens.int Try.underlying3) (OpensAt.cons rfl (by kernel_rfl) (Opens.int Try.underlying3) (OpensAt.last rfl (by kernel_rfl) (Opens.str Try.underlying9))))).iso
    (fun x : S65 => (x.f0, x.f1, x.f2)) (fun a => ⟨a.1, a.2.1, a.2.2⟩) (fun _ => rfl)).imp fun _ h => h.2.2
theorem opens52 : Opens Try.prog 52 k52 (fun _ => True) :=
  ((Opens.struct (d := Kd.pair (Kd.int .i64) (Kd.pair (Kd.int .i64) (Kd.pair (Kd.int .i64) (Kd.pair (Kd.int .i64) (Kd.slice 67 k67))))) Try.underlying52 (by kernel_rfl) (OpensAt.cons rfl (by kernel_rfl) (Opens.int Try.underlying3) (OpensAt.cons rfl (by kernel_rfl) (Opens.int Try.underlying3) (OpensAt.cons rfl (by kernel_rfl) (Opens.int Try.underlying3) (OpensAt.cons rfl (by kernel_rfl) (Opens.int Try.underlying3) (OpensAt.last rfl (by kernel_rfl) (Opens.slice (T := 50) Try.underlying50 (by kernel_rfl) (opens67)))))))).iso
    (fun x : S52 => (x.f0, x.f1, x.f2, x.f3, x.f4)) (fun a => ⟨a.1, a.2.1, a.2.2.1, a.2.2.2.1, a.2.2.2.2⟩) (fun _ => rfl)).imp fun _ _ => trivial
theorem opens42 : Opens Try.prog 42 k42 (fun _ => True) :=
  ((Opens.struct (d := Kd.pair (Kd.int .i64) (Kd.pair (Kd.int .i64) (Kd.pair (Kd.int .i64) (Kd.pair (Kd.int .i64) (Kd.pair (Kd.int .i64) (Kd.pair (Kd.slice 3 (Kd.int .i64)) (Kd.pair (Kd.slice 116 k116) (Kd.pair (Kd.int .i64) (Kd.slice 3 (Kd.int .i64)))))))))) Try.underlying42 (by kernel_rfl) (OpensAt.cons rfl (by kernel_rfl) (Opens.int Try.underlying3) (OpensAt.cons rfl (by kernel_rfl) (Opens.int Try.underlying3) (OpensAt.cons rfl (by kernel_rfl) (Opens.int Try.underlying3) (OpensAt.cons rfl (by kernel_rfl) (Opens.int Try.underlying3) (OpensAt.cons rfl (by kernel_rfl) (Opens.int Try.underlying3) (OpensAt.cons rfl (by kernel_rfl) (Opens.slice (T := 38) Try.underlying38 (by kernel_rfl) (Opens.int Try.underlying3)) (OpensAt.cons rfl (by kernel_rfl) (Opens.slice (T := 40) Try.underlying40 (by kernel_rfl) (opens116)) (OpensAt.cons rfl (by kernel_rfl) (Opens.int Try.underlying3) (OpensAt.last rfl (by kernel_rfl) (Opens.slice (T := 38) Try.underlying38 (by kernel_rfl) (Opens.int Try.underlying3)))))))))))).iso
    (fun x : S42 => (x.f0, x.f1, x.f2, x.f3, x.f4, x.f5, x.f6, x.f7, x.f8)) (fun a => ⟨a.1, a.2.1, a.2.2.1, a.2.2.2.1, a.2.2.2.2.1, a.2.2.2.2.2.1, a.2.2.2.2.2.2.1, a.2.2.2.2.2.2.2.1, a.2.2.2.2.2.2.2.2⟩) (fun _ => rfl)).imp fun _ _ => trivial
def kPrg : Kd Prg := Kd.iso (Kd.pair (Kd.int .i64) (Kd.pair (Kd.slice 9 Kd.string) (Kd.slice 52 k52))) (fun x : Prg => (x.g, x.pool, x.codes))
theorem opens25 : Opens Try.prog 25 kPrg (fun p => ∀ s ∈ p.pool, s.size ≤ 9223372036854775807) :=
  ((Opens.struct (d := Kd.pair (Kd.int .i64) (Kd.pair (Kd.slice 9 Kd.string) (Kd.slice 52 k52))) Try.underlying25 (by kernel_rfl) (OpensAt.cons rfl (by kernel_rfl) (Opens.int Try.underlying3) (OpensAt.cons rfl (by kernel_rfl) (Opens.slice (T := 22) Try.underlying22 (by kernel_rfl) (Opens.str Try.underlying9)) (OpensAt.last rfl (by kernel_rfl) (Opens.slice (T := 23) Try.underlying23 (by kernel_rfl) (opens52)))))).iso
    (fun x : Prg => (x.g, x.pool, x.codes)) (fun a => ⟨a.1, a.2.1, a.2.2⟩) (fun _ => rfl)).imp fun _ h => h.2.1
def kBdy : Kd Bdy := Kd.iso (Kd.pair (Kd.int .i64) (Kd.pair (Kd.int .i64) (Kd.pair (Kd.slice 65 k65) (Kd.pair (Kd.slice 42 k42) (Kd.slice 74 k74))))) (fun x : Bdy => (x.f, x.regs, x.consts, x.ops, x.deps))
theorem opens30 : Opens Try.prog 30 kBdy (fun b => ∀ v ∈ b.consts, v.f2.size ≤ 9223372036854775807) :=
  ((Opens.struct (d := Kd.pair (Kd.int .i64) (Kd.pair (Kd.int .i64) (Kd.pair (Kd.slice 65 k65) (Kd.pair (Kd.slice 42 k42) (Kd.slice 74 k74))))) Try.underlying30 (by kernel_rfl) (OpensAt.cons rfl (by kernel_rfl) (Opens.int Try.underlying3) (OpensAt.cons rfl (by kernel_rfl) (Opens.int Try.underlying3) (OpensAt.cons rfl (by kernel_rfl) (Opens.slice (T := 26) Try.underlying26 (by kernel_rfl) (opens65)) (OpensAt.cons rfl (by kernel_rfl) (Opens.slice (T := 27) Try.underlying27 (by kernel_rfl) (opens42)) (OpensAt.last rfl (by kernel_rfl) (Opens.slice (T := 28) Try.underlying28 (by kernel_rfl) (opens74)))))))).iso
    (fun x : Bdy => (x.f, x.regs, x.consts, x.ops, x.deps)) (fun a => ⟨a.1, a.2.1, a.2.2.1, a.2.2.2.1, a.2.2.2.2⟩) (fun _ => rfl)).imp fun _ h => h.2.2.1
/-- A body as a value. -/
def BdyAt (w : World) (v : Value) (b : Bdy) : Prop := ∃ A5 c5 A6 c6 A7 c7, v = .agg #[.int .i64 b.f, .int .i64 b.regs, .slice A5 b.consts.length c5, .slice A6 b.ops.length c6, .slice A7 b.deps.length c7] ∧ k65.C w A5 b.consts.length b.consts ∧ k42.C w A6 b.ops.length b.ops ∧ k74.C w A7 b.deps.length b.deps
section
variable {H : Type} {enc : TypeId × Value → H} {w : World} {base b0 : Nat} {spare : Nat → Bool} {held : Bool} {r : Go.Reach}
set_option maxRecDepth 100000 in
theorem open_prg {v : Value} {d : DataW H} {ps : List MemPlace} (hv : Value.okWide Try.prog w r b0 25 v) (h : DataW.Trod enc Try.prog w base spare held 25 v d ps) :
    ∃ p : Prg, PrgAt w v p ∧ ∀ s ∈ p.pool, s.size ≤ 9223372036854775807 := by
  obtain ⟨cs, rfl, _⟩ := WideShapes.okWide_struct Try.underlying25 hv
  obtain ⟨fuel, hf⟩ := h
  obtain ⟨p, hk, hp⟩ := opens25 H enc w base spare held fuel _ _ hf
  obtain ⟨_, _, e, rfl, _, _, rfl, ⟨A1, c1, rfl, l1, g1⟩, ⟨A2, c2, rfl, l2, g2⟩⟩ := hk
  refine ⟨p, ⟨A1, c1, A2, c2, ?_, l1, l2, g1, g2⟩, hp⟩
  have e2 : cs.toList = [.int .i64 p.g, .slice A1 p.pool.length c1, .slice A2 p.codes.length c2] := e
  congr 1
  exact Array.toList_inj.1 e2
set_option maxRecDepth 100000 in
theorem open_bdy {v : Value} {d : DataW H} {ps : List MemPlace} (hv : Value.okWide Try.prog w r b0 30 v) (h : DataW.Trod enc Try.prog w base spare held 30 v d ps) :
    ∃ b : Bdy, BdyAt w v b ∧ ∀ v ∈ b.consts, v.f2.size ≤ 9223372036854775807 := by
  obtain ⟨cs, rfl, _⟩ := WideShapes.okWide_struct Try.underlying30 hv
  obtain ⟨fuel, hf⟩ := h
  obtain ⟨b, hk, hp⟩ := opens30 H enc w base spare held fuel _ _ hf
  obtain ⟨_, _, e, rfl, _, _, rfl, rfl, _, _, rfl, ⟨A1, c1, rfl, l1, g1⟩, _, _, rfl, ⟨A2, c2, rfl, l2, g2⟩, ⟨A3, c3, rfl, l3, g3⟩⟩ := hk
  refine ⟨b, ⟨A1, c1, A2, c2, A3, c3, ?_, g1, g2, g3⟩, hp⟩
  have e2 : cs.toList = [.int .i64 b.f, .int .i64 b.regs, .slice A1 b.consts.length c1, .slice A2 b.ops.length c2, .slice A3 b.deps.length c3] := e
  congr 1
  exact Array.toList_inj.1 e2
end
end Go.Proofs.Ytmifocbodfkeeaa.K
/-! Few: has a program, has a body at most so much? -/
namespace Go.Proofs.Ytmifocbodfkeeaa.K
open Go.RowKit Go.Proofs.YtmifocbodfkeeaaW.PrintWords Go.Proofs.YtmifocbodfkeeaaW.PrintLast Go.Proofs.YtmifocbodfkeeaaW.PrintMore
set_option linter.unusedVariables false
set_option linter.unusedSimpArgs false
/-- Some bool is told. -/
def SaidBool (Φ : Bool → Prop) (w : World) (e : Ending) (w' : World) : Prop := ∃ b : Bool, e = .returned (.bool b) ∧ Φ b ∧ Below w.heap.size w w'
set_option maxHeartbeats 4000000 in
set_option maxRecDepth 100000 in
theorem few_prog (p : Prg) (A1 : Option Addr) (c1 : Nat) (A2 : Option Addr) (c2 : Nat) (most : Int) (w : World) (hr : k52.C w A2 p.codes.length p.codes) (h0 : 0 ≤ most) (h1 : most ≤ 1000000) :
    Calls Try.prog 11 #[.agg #[.int .i64 p.g, .slice A1 p.pool.length c1, .slice A2 p.codes.length c2], .int .i64 most] w (SaidBool (fun _ => True) w) := by
  have HB := Aside0.mk (Below.refl w.heap.size w)
  have HR := Aside0.mk hr
  have b1 := Aside0.mk (below_alloc (Below.refl w.heap.size w) (.cells #[.int .i64 p.g, .slice A1 p.pool.length c1, .slice A2 p.codes.length c2] 25))
  have hm : (p.codes.length : Int) ≤ 9223372036854775807 := by have := hr.2.1; omega
  have n1 : 0 ≤ (p.codes.length : Int) := by omega
  have n2 : 0 ≤ (p.pool.length : Int) := by omega
  clear hr
  by_cases hc : 40 < (p.codes.length : Int)
  · have hcb := decide_eq_true hc
    clear hc
    go_enter Try.func11, Try.ntmps11
    go_wp2
    go_ret
    exact ⟨false, rfl, trivial, b1.out⟩
  · by_cases hp : 130 < (p.pool.length : Int)
    · have hcb := decide_eq_false hc
      have hpb := decide_eq_true hp
      clear hc hp
      go_enter Try.func11, Try.ntmps11
      go_wp2
      go_ret
      exact ⟨false, rfl, trivial, b1.out⟩
    · have hcb := decide_eq_false hc
      have hpb := decide_eq_false hp
      clear hp
      have hc2 : (p.codes.length : Int) ≤ 40 := by omega
      clear hc
      go_enter Try.func11, Try.ntmps11
      go_wp2
      clear hcb hpb
      go_loop [1, 4, 5] (fun v1 v4 v5 => ∃ (k : Nat) (m : Int), k ≤ p.codes.length ∧ 0 ≤ m ∧ m ≤ 1000000 ∧ v1 = .int .i64 m ∧ v4 = .bool false ∧ v5 = .int .i64 k) (fun _ _ v5 => p.codes.length - (intOf v5).toNat)
      case atStart => exact ⟨0, most, Nat.zero_le _, h0, h1, rfl, rfl, rfl⟩
      case round =>
        obtain ⟨k, m, hk, m0, m1, rfl, rfl, rfl⟩ := hrel
        have hk9 : (k : Int) ≤ 40 := by omega
        have hk0 : 0 ≤ (k : Int) := by omega
        have hmb : decide (0 ≤ m) = true := decide_eq_true m0
        by_cases hin : k < p.codes.length
        · have hin2 : (k : Int) < p.codes.length := by omega
          obtain ⟨ad, A4, c4, e, _, _, _, _, hx4, hl4, _⟩ := at_T52 (Kd.C_below HR.out b1.out) k hk0 hin2
          subst e
          rw [Int.toNat_natCast] at hx4
          generalize rd_T52 p.codes (k : Int) = x at *
          have nl : 0 ≤ (x.f4.length : Int) := by omega
          have HIN := Aside0.mk hin
          by_cases hl : m < (x.f4.length : Int)
          · have hlb := decide_eq_true hl
            clear hl hin
            go_wp2
            go_ret
            exact ⟨false, rfl, trivial, b1.out⟩
          · have hlb := decide_eq_false hl
            have hl2 : (x.f4.length : Int) ≤ m := by omega
            clear hl hin
            go_wp2
            go_round
            case rel => exact ⟨k + 1, m - x.f4.length, HIN.out, by omega, by omega, by go_num, rfl, by go_num⟩
            case measure => have := HIN.out; simp [intOf]; omega
        · have hin2 : ¬ (k : Int) < p.codes.length := by omega
          clear hin
          go_wp2
          go_ret
          exact ⟨true, rfl, trivial, b1.out⟩
end Go.Proofs.Ytmifocbodfkeeaa.K
namespace Go.Proofs.Ytmifocbodfkeeaa.K
open Go.RowKit Go.Proofs.YtmifocbodfkeeaaW.PrintWords Go.Proofs.YtmifocbodfkeeaaW.PrintLast Go.Proofs.YtmifocbodfkeeaaW.PrintMore
set_option linter.unusedVariables false
set_option linter.unusedSimpArgs false
/-- Short lists. -/
def Short (b : Bdy) (most : Int) : Prop := (b.ops.length : Int) ≤ most ∧ (b.consts.length : Int) ≤ 200 ∧ (b.deps.length : Int) ≤ 250 ∧ ∀ t : Int, 0 ≤ t → t < b.ops.length → ((rd_T42 b.ops t).f5.length : Int) ≤ 20 ∧ ((rd_T42 b.ops t).f8.length : Int) ≤ 80 ∧ ((rd_T42 b.ops t).f6.length : Int) ≤ 20
set_option maxHeartbeats 8000000 in
set_option maxRecDepth 100000 in
theorem few_body (b : Bdy) (A5 : Option Addr) (c5 : Nat) (A6 : Option Addr) (c6 : Nat) (A7 : Option Addr) (c7 : Nat) (most : Int) (w : World) (hco : k65.C w A5 b.consts.length b.consts) (hops : k42.C w A6 b.ops.length b.ops) (hcz : ∀ v ∈ b.consts, v.f2.size ≤ 9223372036854775807) (h0 : 0 ≤ most) (h1 : most ≤ 1000000) :
    Calls Try.prog 12 #[.agg #[.int .i64 b.f, .int .i64 b.regs, .slice A5 b.consts.length c5, .slice A6 b.ops.length c6, .slice A7 b.deps.length c7], .int .i64 most] w (SaidBool (fun r => r = true → Short b most) w) := by
  have HB := Aside0.mk (Below.refl w.heap.size w)
  have HO := Aside0.mk hops
  have HC := Aside0.mk hco
  have HZ := Aside0.mk hcz
  have b1 := Aside0.mk (below_alloc (Below.refl w.heap.size w) (.cells #[.int .i64 b.f, .int .i64 b.regs, .slice A5 b.consts.length c5, .slice A6 b.ops.length c6, .slice A7 b.deps.length c7] 30))
  have n1 : 0 ≤ (b.ops.length : Int) := by omega
  have n2 : 0 ≤ (b.consts.length : Int) := by omega
  have n3 : 0 ≤ (b.deps.length : Int) := by omega
  clear hops hco hcz
  by_cases hc : most < (b.ops.length : Int)
  · have hcb := decide_eq_true hc
    clear hc
    go_enter Try.func12, Try.ntmps12
    go_wp2
    go_ret
    exact ⟨false, rfl, (fun h => by cases h), b1.out⟩
  · have hcb := decide_eq_false hc
    have hc2 : (b.ops.length : Int) ≤ most := by omega
    clear hc
    by_cases hp : 200 < (b.consts.length : Int)
    · have hpb := decide_eq_true hp
      clear hp
      go_enter Try.func12, Try.ntmps12
      go_wp2
      go_ret
      exact ⟨false, rfl, (fun h => by cases h), b1.out⟩
    · have hpb := decide_eq_false hp
      have hp2 : (b.consts.length : Int) ≤ 200 := by omega
      clear hp
      by_cases hd : 250 < (b.deps.length : Int)
      · have hdb := decide_eq_true hd
        clear hd
        go_enter Try.func12, Try.ntmps12
        go_wp2
        go_ret
        exact ⟨false, rfl, (fun h => by cases h), b1.out⟩
      · have hdb := decide_eq_false hd
        have hd2 : (b.deps.length : Int) ≤ 250 := by omega
        clear hd
        go_enter Try.func12, Try.ntmps12
        go_wp2
        clear hcb hpb hdb
        go_loop [4, 5] (fun v4 v5 => ∃ (k : Nat), k ≤ b.ops.length ∧ v4 = .bool false ∧ v5 = .int .i64 k ∧ Aside0 (∀ t : Int, 0 ≤ t → t < k → ((rd_T42 b.ops t).f5.length : Int) ≤ 20 ∧ ((rd_T42 b.ops t).f8.length : Int) ≤ 80 ∧ ((rd_T42 b.ops t).f6.length : Int) ≤ 20)) (fun _ v5 => b.ops.length - (intOf v5).toNat)
        case atStart => exact ⟨0, Nat.zero_le _, rfl, rfl, ⟨fun t a c => by omega⟩⟩
        case round =>
          obtain ⟨k, hk, rfl, rfl, HI⟩ := hrel
          have hk9 : (k : Int) ≤ 1000000 := by omega
          have hk0 : 0 ≤ (k : Int) := by omega
          by_cases hin : k < b.ops.length
          · have hin2 : (k : Int) < b.ops.length := by omega
            obtain ⟨ad, A5', d5, A6', d6, A8', d8, e, _, _, _, _, _, hx5, hx6, _, hx8, _⟩ := at_T42 (Kd.C_below HO.out b1.out) k hk0 hin2
            subst e
            rw [Int.toNat_natCast] at hx5 hx6 hx8
            have HX : Aside0 (∃ x, rd_T42 b.ops (k : Int) = x) := ⟨⟨_, rfl⟩⟩
            obtain ⟨x, hx⟩ := HX.out
            rw [hx] at hx5 hx6 hx8
            have HXX := Aside0.mk hx
            clear hx HX
            have n5 : 0 ≤ (x.f5.length : Int) := by omega
            have n6 : 0 ≤ (x.f6.length : Int) := by omega
            have n8 : 0 ≤ (x.f8.length : Int) := by omega
            have HIN := Aside0.mk hin
            clear hin
            by_cases q5 : 20 < (x.f5.length : Int)
            · have q5b := decide_eq_true q5
              clear q5
              go_wp2
              go_ret
              exact ⟨false, rfl, (fun h => by cases h), b1.out⟩
            · have q5b := decide_eq_false q5
              have q52 : (x.f5.length : Int) ≤ 20 := by omega
              clear q5
              by_cases q8 : 80 < (x.f8.length : Int)
              · have q8b := decide_eq_true q8
                clear q8
                go_wp2
                go_ret
                exact ⟨false, rfl, (fun h => by cases h), b1.out⟩
              · have q8b := decide_eq_false q8
                have q82 : (x.f8.length : Int) ≤ 80 := by omega
                clear q8
                by_cases q6 : 20 < (x.f6.length : Int)
                · have q6b := decide_eq_true q6
                  clear q6
                  go_wp2
                  go_ret
                  exact ⟨false, rfl, (fun h => by cases h), b1.out⟩
                · have q6b := decide_eq_false q6
                  have q62 : (x.f6.length : Int) ≤ 20 := by omega
                  clear q6
                  have HNX := Aside0.mk (show ∀ t : Int, 0 ≤ t → t < ((k + 1 : Nat) : Int) → ((rd_T42 b.ops t).f5.length : Int) ≤ 20 ∧ ((rd_T42 b.ops t).f8.length : Int) ≤ 80 ∧ ((rd_T42 b.ops t).f6.length : Int) ≤ 20 from fun t a c => by
                    by_cases q : t = k
                    · rw [q, HXX.out]; exact ⟨q52, q82, q62⟩
                    · exact HI.out t a (by omega))
                  go_wp2
                  go_round
                  case rel => exact ⟨k + 1, HIN.out, rfl, by go_num, HNX⟩
                  case measure => have := HIN.out; simp [intOf]; omega
          · have hin2 : ¬ (k : Int) < b.ops.length := by omega
            obtain rfl : k = b.ops.length := by omega
            have HS := Aside0.mk (show Short b most from ⟨hc2, hp2, hd2, HI.out⟩)
            clear hin
            go_wp2
            go_loop [4, 6] (fun v4 v6 => ∃ (k : Nat), k ≤ b.consts.length ∧ v4 = .bool false ∧ v6 = .int .i64 k) (fun _ v6 => b.consts.length - (intOf v6).toNat)
            case atStart => exact ⟨0, Nat.zero_le _, rfl, rfl⟩
            case round =>
              obtain ⟨k, hk, rfl, rfl⟩ := hrel
              have hk9 : (k : Int) ≤ 200 := by omega
              have hk0 : 0 ≤ (k : Int) := by omega
              by_cases hin : k < b.consts.length
              · have hin2 : (k : Int) < b.consts.length := by omega
                obtain ⟨ad, e, _, _, hx2⟩ := at_T65 (Kd.C_below HC.out b1.out) k hk0 hin2
                subst e
                rw [Int.toNat_natCast] at hx2
                have hsz : (rd_T65 b.consts (k : Int)).f2.size ≤ 9223372036854775807 := by
                  refine HZ.out _ ?_
                  unfold rd_T65
                  rw [Int.toNat_natCast, List.getD_eq_getElem?_getD, List.getElem?_eq_getElem hin]
                  exact List.getElem_mem _
                generalize rd_T65 b.consts (k : Int) = x at *
                have HIN := Aside0.mk hin
                have ns : 0 ≤ (x.f2.size : Int) := by omega
                by_cases q : 300 < (x.f2.size : Int)
                · have qb := decide_eq_true q
                  clear q hin
                  go_wp2
                  go_ret
                  exact ⟨false, rfl, (fun h => by cases h), b1.out⟩
                · have qb := decide_eq_false q
                  clear q hin
                  go_wp2
                  go_round
                  case rel => exact ⟨k + 1, HIN.out, rfl, by go_num⟩
                  case measure => have := HIN.out; simp [intOf]; omega
              · have hin2 : ¬ (k : Int) < b.consts.length := by omega
                clear hin
                go_wp2
                go_ret
                exact ⟨true, rfl, fun _ => HS.out, b1.out⟩
end Go.Proofs.Ytmifocbodfkeeaa.K
/-! What a body that may be does: it reads and writes its own registers, and comes to its own operations, back only to a Tick. -/
namespace Go.Proofs.Ytmifocbodfkeeaa.K
open Go.RowKit Go.Proofs.YtmifocbodfkeeaaW.PrintWords Go.Proofs.YtmifocbodfkeeaaW.PrintLast Go.Proofs.YtmifocbodfkeeaaW.PrintMore
set_option linter.unusedVariables false
set_option linter.unusedSimpArgs false
/-- May the operation at a place be, of a body that may be? -/
theorem CheckB.op {p : Prg} {b : Bdy} (h : CheckB p b) {t : Int} (h0 : 0 ≤ t) (h1 : t < b.ops.length) :
    ∃ out : List Int, DepthsOf (rd_T52 p.codes b.f).f4 out ∧ opB p.g p.pool.length (rd_T52 p.codes b.f).f2 b.regs b.consts.length b.ops out t = true := by
  have hr := h.1.2.2.2.2.2.2 b.f h.2.1.1.1 h.2.1.1.2
  have key : ∃ out, DepthsOf (rd_T52 p.codes b.f).f4 out := by
    have hg := hr.2.2
    have hgo := goes_of_instr hr.2.1
    refine ⟨(List.range (rd_T52 p.codes b.f).f4.length).map (fun i : Nat => open Classical in if hq : ∃ d, 0 ≤ d ∧ Reach (rd_T52 p.codes b.f).f4 (i : Int) d then Classical.choose hq else -1), by simp, fun t t0 t1 => ?_⟩
    have e : at0 ((List.range (rd_T52 p.codes b.f).f4.length).map (fun i : Nat => open Classical in if hq : ∃ d, 0 ≤ d ∧ Reach (rd_T52 p.codes b.f).f4 (i : Int) d then Classical.choose hq else -1)) t = (open Classical in if hq : ∃ d, 0 ≤ d ∧ Reach (rd_T52 p.codes b.f).f4 t d then Classical.choose hq else -1) := by
      unfold at0 rd
      rw [List.getD_eq_getElem?_getD, List.getElem?_map, List.getElem?_range (by omega)]
      simp only [Option.map_some, Option.getD_some]
      rw [Int.toNat_of_nonneg t0]
    rw [e]
    by_cases hq : ∃ d, 0 ≤ d ∧ Reach (rd_T52 p.codes b.f).f4 t d
    · rw [dif_pos hq]
      exact .inl ⟨(Classical.choose_spec hq).1, (Classical.choose_spec hq).2⟩
    · rw [dif_neg hq]
      refine .inr ⟨rfl, fun d hd => hq ⟨d, ?_, hd⟩⟩
      have hb := hg.1 t d hd
      have := effP_bd (rd_T67 (rd_T52 p.codes b.f).f4 t).f0 (rd_T67 (rd_T52 p.codes b.f).f4 t).f1
      have := hb.1
      omega
  obtain ⟨out, ho⟩ := key
  exact ⟨out, ho, h.2.2.2.2.1 out ho t h0 h1⟩
theorem opB_parts {g np sites regs nc : Int} {ops : List S42} {ds : List Int} {t : Int} (h : opB g np sites regs nc ops ds t = true) :
    (1 ≤ (rd_T42 ops t).f0 ∧ (rd_T42 ops t).f0 ≤ 30) ∧ listsB regs (rd_T42 ops t).f0 (rd_T42 ops t).f3 (rd_T42 ops t).f5 (rd_T42 ops t).f6 = true ∧
    lettersB g np sites regs nc ops.length (rd_T42 ops t).f0 (rd_T42 ops t).f1 (rd_T42 ops t).f2 (rd_T42 ops t).f3 (rd_T42 ops t).f4 (fieldsS (rd_T42 ops t).f0).size = true ∧ tailB regs ops ds (rd_T42 ops t) t = true := by
  unfold opB at h
  rw [Bool.and_eq_true, Bool.and_eq_true, Bool.and_eq_true] at h
  exact ⟨of_decide_eq_true h.1.1.1, h.1.1.2, h.1.2, h.2⟩
theorem usesN_mem {k a b c d x : Int} {n : Nat} (h : x ∈ usesN k a b c d n) : ∃ i, i < n ∧ letter k i = 114 ∧ x = partO a b c d i := by
  induction n with
  | zero => simp [usesN] at h
  | succ n ih =>
    simp only [usesN] at h
    rcases List.mem_append.1 h with h | h
    · obtain ⟨i, a, b⟩ := ih h
      exact ⟨i, by omega, b⟩
    · split at h
      · rename_i q
        exact ⟨n, by omega, q, by simpa using h⟩
      · simp at h
theorem regsB_mem {regs x : Int} {l : List Int} (h : regsB regs l = true) (hx : x ∈ l) : 0 ≤ x ∧ x < regs := by
  unfold regsB at h
  rw [List.all_eq_true] at h
  simpa using h x hx
theorem safe_uses {p : Prg} {b : Bdy} (h : CheckB p b) {t : Int} (h0 : 0 ≤ t) (h1 : t < b.ops.length) {x : Int}
    (hx : x ∈ usesO (rd_T42 b.ops t).f0 (rd_T42 b.ops t).f1 (rd_T42 b.ops t).f2 (rd_T42 b.ops t).f3 (rd_T42 b.ops t).f4 (rd_T42 b.ops t).f5 ++ (rd_T42 b.ops t).f8) : 0 ≤ x ∧ x < b.regs := by
  obtain ⟨out, _, ho⟩ := h.op h0 h1
  obtain ⟨hk, hl, hle, ht⟩ := opB_parts ho
  rcases List.mem_append.1 hx with hx | hx
  · unfold usesO at hx
    rcases List.mem_append.1 hx with hx | hx
    · obtain ⟨i, hi, hr, rfl⟩ := usesN_mem hx
      have := letters_mono hle i hi
      rw [hr] at this
      simpa [partB] using this
    · unfold listsB at hl
      rw [Bool.and_eq_true, Bool.and_eq_true] at hl
      exact regsB_mem hl.1.2 hx
  · unfold tailB at ht
    rw [Bool.and_eq_true, Bool.and_eq_true] at ht
    exact regsB_mem ht.1.2 hx
theorem defB_letter {k : Int} (h : defB k = true) : letter k 0 = 82 ∧ 1 ≤ (fieldsS k).size := by
  unfold defB at h
  have h := of_decide_eq_true h
  rcases h with rfl | rfl | rfl | rfl | rfl | rfl | rfl | rfl | rfl | rfl | rfl | rfl | rfl | rfl | rfl
  all_goals decide +kernel
theorem regs_pos {p : Prg} {b : Bdy} (h : CheckB p b) : 0 ≤ b.regs := by
  have hr := (h.1.2.2.2.2.2.2 b.f h.2.1.1.1 h.2.1.1.2).1
  have h2 := h.2.1.2.1
  unfold HeadC at hr
  omega
theorem safe_def {p : Prg} {b : Bdy} (h : CheckB p b) {t : Int} (h0 : 0 ≤ t) (h1 : t < b.ops.length) : defO (rd_T42 b.ops t).f0 (rd_T42 b.ops t).f1 < b.regs := by
  unfold defO
  split
  · rename_i hd
    obtain ⟨out, _, ho⟩ := h.op h0 h1
    obtain ⟨hk, hl, hle, ht⟩ := opB_parts ho
    obtain ⟨e, hs⟩ := defB_letter hd
    have := letters_mono hle 0 hs
    rw [e] at this
    have h2 : 0 ≤ (rd_T42 b.ops t).f1 ∧ (rd_T42 b.ops t).f1 < b.regs := by simpa [partB, partO] using this
    exact h2.2
  · have := regs_pos h
    omega
theorem safe_tgts {p : Prg} {b : Bdy} (h : CheckB p b) {t : Int} (h0 : 0 ≤ t) (h1 : t < b.ops.length) {u : Int} (hu : u ∈ tgtsO (rd_T42 b.ops t).f0 (rd_T42 b.ops t).f1 t) : 0 ≤ u ∧ u < b.ops.length ∧ (u ≤ t → (rd_T42 b.ops u).f0 = 1) := by
  obtain ⟨out, _, ho⟩ := h.op h0 h1
  obtain ⟨hk, hl, hle, ht⟩ := opB_parts ho
  have hgo : 17 ≤ (rd_T42 b.ops t).f0 ∧ (rd_T42 b.ops t).f0 ≤ 19 → 0 ≤ (rd_T42 b.ops t).f1 ∧ (rd_T42 b.ops t).f1 < b.ops.length ∧ ((rd_T42 b.ops t).f1 ≤ t → (rd_T42 b.ops (rd_T42 b.ops t).f1).f0 = 1) := by
    intro hg
    obtain ⟨a0, a1⟩ := letters_goes hle hg
    refine ⟨a0, a1, fun hle2 => ?_⟩
    unfold tailB at ht
    rw [Bool.and_eq_true] at ht
    have h3 := ht.2
    rw [decide_eq_true hg, decide_eq_false (show ¬ t < (rd_T42 b.ops t).f1 by omega)] at h3
    simpa using h3
  have hnext : ¬ (rd_T42 b.ops t).f0 = 17 → ¬ (rd_T42 b.ops t).f0 = 24 → t + 1 < b.ops.length := by
    intro n1 n2
    apply Classical.byContradiction
    intro hn
    have e : t = (b.ops.length : Int) - 1 := by omega
    have hlast := h.2.2.2.2.2
    unfold LastB at hlast
    rw [← e] at hlast
    rcases hlast with q | q
    · exact n1 q
    · exact n2 q
  unfold tgtsO at hu
  split at hu
  · simp at hu
  · rename_i n24
    split at hu
    · rename_i e17
      obtain rfl : u = (rd_T42 b.ops t).f1 := by simpa using hu
      exact hgo (by omega)
    · rename_i n17
      have hn := hnext n17 n24
      split at hu
      · rename_i hg
        simp at hu
        rcases hu with rfl | rfl
        · exact ⟨by omega, hn, fun q => by omega⟩
        · exact hgo hg
      · obtain rfl : u = t + 1 := by simpa using hu
        exact ⟨by omega, hn, fun q => by omega⟩
end Go.Proofs.Ytmifocbodfkeeaa.K
