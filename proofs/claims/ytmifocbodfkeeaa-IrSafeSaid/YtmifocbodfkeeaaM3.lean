import Derived.Test.YtmifocbodfkeeaaM2
import Derived.Laws.MathBits
import Derived.Laws.CopyOwn
import Derived.Deep.RegionLaw
import Derived.Test.YtmifocbodfkeeaaM1
/-! The search for a code's depths, in plain words: what can be come to, what a good code is, and what holds at each turn of the search. -/
namespace Go.Proofs.Ytmifocbodfkeeaa.K
open Go.RowKit Go.Proofs.YtmifocbodfkeeaaW.PrintWords Go.Proofs.YtmifocbodfkeeaaW.PrintLast Go.Proofs.YtmifocbodfkeeaaW.PrintMore
set_option linter.unusedVariables false
set_option linter.unusedSimpArgs false
theorem effP_bd (op a : Int) : 0 ≤ effP op a ∧ effP op a ≤ 8 := by
  have : 0 ≤ built2 a ∧ built2 a ≤ 2 := by
    by_cases h : 1 ≤ a ∧ a ≤ 7
    · have := built2_pos a h; omega
    · have := built2_zero a h; omega
  unfold effP
  repeat' split
  all_goals omega
theorem effL_bd (op a : Int) : 0 ≤ effL op a ∧ effL op a ≤ 2 := by
  unfold effL
  repeat' split
  all_goals omega
/-- The number at a place. -/
def at0 (l : List Int) (i : Int) : Int := rd l i
/-- How many numbers are below 0. -/
def cnt (l : List Int) : Nat := l.countP (fun x => decide (x < 0))
theorem at0_set {l : List Int} {u e t : Int} (u0 : 0 ≤ u) (hu : u < l.length) (t0 : 0 ≤ t) : at0 (l.set u.toNat e) t = if t = u then e else at0 l t := by
  unfold at0 rd
  rw [List.getD_eq_getElem?_getD, List.getElem?_set, List.getD_eq_getElem?_getD]
  by_cases h : t = u
  · subst h
    rw [if_pos rfl, if_pos rfl, if_pos (by omega)]
    rfl
  · rw [if_neg (by omega), if_neg h]
theorem at0_keep {l : List Int} {u e t : Int} (u0 : 0 ≤ u) (hu : u < l.length) (hneg : at0 l u < 0) (h : 0 ≤ at0 l t) (t0 : 0 ≤ t) : at0 (l.set u.toNat e) t = at0 l t := by
  rw [at0_set u0 hu t0, if_neg]
  rintro rfl
  omega
theorem cnt_set {l : List Int} {u e : Int} (u0 : 0 ≤ u) (hu : u < l.length) (hneg : at0 l u < 0) (e0 : 0 ≤ e) : cnt (l.set u.toNat e) + 1 = cnt l := by
  have hlt : u.toNat < l.length := by omega
  have hv : at0 l u = l[u.toNat] := by
    unfold at0 rd
    rw [List.getD_eq_getElem?_getD, List.getElem?_eq_getElem hlt]
    rfl
  rw [hv] at hneg
  clear hv hu
  unfold cnt
  generalize u.toNat = k at *
  induction l generalizing k with
  | nil => simp at hlt
  | cons x l ih =>
    cases k with
    | zero =>
      simp only [List.getElem_cons_zero] at hneg
      have h1 : decide (e < 0) = false := by simp; omega
      have h2 : decide (x < 0) = true := by simpa using hneg
      rw [List.set_cons_zero, List.countP_cons, List.countP_cons, h1, h2]
      simp
    | succ k =>
      simp only [List.getElem_cons_succ] at hneg
      have := ih k (by simpa using hlt) hneg
      rw [List.set_cons_succ, List.countP_cons, List.countP_cons]
      omega
/-- What goes, goes to a place from 0 on. -/
def Goes (ins : List S67) : Prop := ∀ t : Int, 0 ≤ t → t < ins.length → 22 ≤ (rd_T67 ins t).f0 → (rd_T67 ins t).f0 ≤ 25 → 0 ≤ (rd_T67 ins t).f1
/-- Where one comes from an instruction, and with which depth. -/
def stepsOf (op a t d : Int) : List (Int × Int) := (tgts op a t).mapIdx fun j u => (u, d - effP op a + effL op a + (if 0 < j ∧ (op = 24 ∨ op = 25) then 1 else 0))
def stepsAt (ins : List S67) (t d : Int) : List (Int × Int) := stepsOf (rd_T67 ins t).f0 (rd_T67 ins t).f1 t d
theorem steps_tgts (op a t d : Int) : (stepsOf op a t d).map Prod.fst = tgts op a t := by
  unfold stepsOf
  refine List.ext_getElem (by simp) fun i h1 h2 => ?_
  simp
theorem steps_get (op a t d : Int) (j : Nat) (hj : j < (tgts op a t).length) : (stepsOf op a t d)[j]? = some ((tgts op a t)[j], d - effP op a + effL op a + (if 0 < j ∧ (op = 24 ∨ op = 25) then 1 else 0)) := by
  unfold stepsOf
  rw [List.getElem?_mapIdx, List.getElem?_eq_getElem hj]
  rfl
theorem stepsOf_bd {op a t d u e : Int} (h : (u, e) ∈ stepsOf op a t d) : d - effP op a + effL op a ≤ e ∧ e ≤ d - effP op a + effL op a + 1 ∧ (u = t + 1 ∨ 22 ≤ op ∧ op ≤ 25 ∧ u = a) := by
  unfold stepsOf at h
  obtain ⟨j, hj, he⟩ := List.getElem_of_mem h
  rw [List.getElem_mapIdx] at he
  obtain ⟨h1, h2⟩ := Prod.mk.inj he
  refine ⟨?_, ?_, ?_⟩
  · split at h2 <;> omega
  · split at h2 <;> omega
  · have hm : u ∈ tgts op a t := by rw [← h1]; exact List.getElem_mem _
    unfold tgts at hm
    split at hm
    · simp at hm
    · split at hm
      · right; simp at hm; omega
      · split at hm
        · simp at hm
          rcases hm with q | q
          · exact .inl q
          · right; omega
        · left; simpa using hm
/-- What can be come to, and with which depth. -/
inductive Reach (ins : List S67) : Int → Int → Prop
  | start : Reach ins 0 0
  | step {t d u e : Int} (h : Reach ins t d) (hs : (u, e) ∈ stepsAt ins t d) : Reach ins u e
/-- Is all right where one is? -/
def OkAt (ins : List S67) (de t d : Int) : Prop := effP (rd_T67 ins t).f0 (rd_T67 ins t).f1 ≤ d ∧ d ≤ de ∧ ∀ u e, (u, e) ∈ stepsAt ins t d → u < ins.length ∧ e ≤ de
/-- Is a code's stack right wherever one comes, and the same whichever way one came? -/
def Good (ins : List S67) (de : Int) : Prop := (∀ t d, Reach ins t d → OkAt ins de t d) ∧ ∀ t d e, Reach ins t d → Reach ins t e → d = e
/-- The depths of a code: -1 where nobody comes. -/
def DepthsOf (ins : List S67) (out : List Int) : Prop :=
  out.length = ins.length ∧ ∀ t : Int, 0 ≤ t → t < ins.length → (0 ≤ at0 out t ∧ Reach ins t (at0 out t)) ∨ (at0 out t = -1 ∧ ∀ d, ¬ Reach ins t d)
theorem not_good_at {ins : List S67} {de t d : Int} (h : Reach ins t d) (hn : ¬ OkAt ins de t d) : ¬ Good ins de := fun hG => hn (hG.1 t d h)
theorem not_good_two {ins : List S67} {de t d e : Int} (h : Reach ins t d) (h2 : Reach ins t e) (hne : d ≠ e) : ¬ Good ins de := fun hG => hne (hG.2 t d e h h2)
/-- Is an instruction done: it and what comes behind it? -/
def Closed (ins : List S67) (de : Int) (out : List Int) (t : Int) : Prop :=
  effP (rd_T67 ins t).f0 (rd_T67 ins t).f1 ≤ at0 out t ∧ ∀ u e, (u, e) ∈ stepsAt ins t (at0 out t) → u < ins.length ∧ e ≤ de ∧ at0 out u = e
/-- What holds in the search. -/
structure Inv (ins : List S67) (de : Int) (out todo : List Int) (P : Int → Prop) : Prop where
  len : out.length = ins.length
  zero : at0 out 0 = 0
  least : ∀ t : Int, 0 ≤ t → t < ins.length → at0 out t < 0 → at0 out t = -1
  marked : ∀ t ∈ todo, 0 ≤ t ∧ t < ins.length ∧ 0 ≤ at0 out t
  reach : ∀ t : Int, 0 ≤ t → t < ins.length → 0 ≤ at0 out t → Reach ins t (at0 out t) ∧ at0 out t ≤ de
  done : ∀ t : Int, 0 ≤ t → t < ins.length → 0 ≤ at0 out t → t ∈ todo ∨ P t ∨ Closed ins de out t
theorem at0_neg {l : List Int} {u : Int} (h : u ≤ 0) : at0 l u = at0 l 0 := by
  unfold at0 rd
  rw [show u.toNat = (0 : Int).toNat by omega]
theorem Inv.start (ins : List S67) (de : Int) (h1 : 1 ≤ ins.length) (hd : 0 ≤ de) : Inv ins de ((List.replicate ins.length (-1)).set 0 0) [0] fun _ => False := by
  have hz : at0 ((List.replicate ins.length (-1)).set 0 0) 0 = 0 := by
    unfold at0 rd
    rw [List.getD_eq_getElem?_getD, List.getElem?_set]
    rw [if_pos (by rfl), if_pos (by simp; omega)]
    rfl
  have ho : ∀ t : Int, 0 < t → t < ins.length → at0 ((List.replicate ins.length (-1)).set 0 0) t = -1 := by
    intro t t0 t1
    unfold at0 rd
    rw [List.getD_eq_getElem?_getD, List.getElem?_set, if_neg (by omega), List.getElem?_replicate, if_pos (by omega)]
    rfl
  refine ⟨by simp, hz, ?_, ?_, ?_, ?_⟩
  · intro t t0 t1 h
    by_cases e : t = 0
    · subst e; omega
    · exact ho t (by omega) t1
  · intro t ht
    obtain rfl : t = 0 := by simpa using ht
    exact ⟨by omega, by omega, by omega⟩
  · intro t t0 t1 h
    by_cases e : t = 0
    · subst e; rw [hz]; exact ⟨.start, hd⟩
    · have := ho t (by omega) t1; omega
  · intro t t0 t1 h
    by_cases e : t = 0
    · subst e; exact .inl (by simp)
    · have := ho t (by omega) t1; omega
theorem Inv.pop {ins : List S67} {de : Int} {out todo : List Int} {t : Int} (h : Inv ins de out (todo ++ [t]) fun _ => False) : Inv ins de out todo fun u => u = t := by
  refine ⟨h.len, h.zero, h.least, fun u hu => h.marked u (by simp [hu]), h.reach, fun u u0 u1 hu => ?_⟩
  rcases h.done u u0 u1 hu with q | q | q
  · rcases List.mem_append.1 q with q | q
    · exact .inl q
    · exact .inr (.inl (by simpa using q))
  · exact q.elim
  · exact .inr (.inr q)
theorem Closed.keep {ins : List S67} {de : Int} {out : List Int} {t u e : Int} (h : Closed ins de out t) (hz : at0 out 0 = 0) (u0 : 0 ≤ u) (hu : u < out.length) (hneg : at0 out u < 0) (t0 : 0 ≤ t) (ht : 0 ≤ at0 out t) : Closed ins de (out.set u.toNat e) t := by
  have hk := at0_keep (e := e) u0 hu hneg ht t0
  unfold Closed at h ⊢
  rw [hk]
  refine ⟨h.1, fun v f hv => ?_⟩
  obtain ⟨a1, a2, a3⟩ := h.2 v f hv
  refine ⟨a1, a2, ?_⟩
  have hb := stepsOf_bd hv
  have hl := effL_bd (rd_T67 ins t).f0 (rd_T67 ins t).f1
  have := h.1
  by_cases v0 : 0 ≤ v
  · rw [at0_keep u0 hu hneg (by omega) v0]; exact a3
  · rw [at0_neg (by omega), at0_keep u0 hu hneg (by omega) (by omega), ← at0_neg (u := v) (by omega)]; exact a3
theorem Inv.set {ins : List S67} {de : Int} {out todo : List Int} {P : Int → Prop} (h : Inv ins de out todo P) {u e : Int} (u0 : 0 ≤ u) (hu : u < ins.length) (hneg : at0 out u < 0) (e0 : 0 ≤ e) (he : e ≤ de) (hr : Reach ins u e) : Inv ins de (out.set u.toNat e) (todo ++ [u]) P := by
  have hl := h.len
  have hu2 : u < out.length := by omega
  have hs : ∀ t : Int, 0 ≤ t → at0 (out.set u.toNat e) t = if t = u then e else at0 out t := fun t t0 => at0_set u0 hu2 t0
  refine ⟨by rw [List.length_set]; exact hl, ?_, ?_, ?_, ?_, ?_⟩
  · rw [at0_keep u0 hu2 hneg (by rw [h.zero]; omega) (by omega)]; exact h.zero
  · intro t t0 t1 ht
    rw [hs t t0] at ht ⊢
    split at ht
    · omega
    · rename_i q; rw [if_neg q]; exact h.least t t0 t1 ht
  · intro t ht
    rcases List.mem_append.1 ht with q | q
    · obtain ⟨a, b, c⟩ := h.marked t q
      exact ⟨a, b, by rw [at0_keep u0 hu2 hneg c a]; exact c⟩
    · obtain rfl : t = u := by simpa using q
      exact ⟨u0, hu, by rw [hs t u0, if_pos rfl]; exact e0⟩
  · intro t t0 t1 ht
    rw [hs t t0] at ht ⊢
    by_cases q : t = u
    · rw [if_pos q]; subst q; exact ⟨hr, he⟩
    · rw [if_neg q] at ht ⊢; exact h.reach t t0 t1 ht
  · intro t t0 t1 ht
    by_cases q : t = u
    · exact .inl (by simp [q])
    · rw [hs t t0, if_neg q] at ht
      rcases h.done t t0 t1 ht with c | c | c
      · exact .inl (by simp [c])
      · exact .inr (.inl c)
      · exact .inr (.inr (c.keep h.zero u0 hu2 hneg t0 ht))
theorem Inv.close {ins : List S67} {de : Int} {out todo : List Int} {t : Int} (h : Inv ins de out todo fun u => u = t) (hp : effP (rd_T67 ins t).f0 (rd_T67 ins t).f1 ≤ at0 out t) (hs : ∀ u e, (u, e) ∈ stepsAt ins t (at0 out t) → u < ins.length ∧ e ≤ de ∧ at0 out u = e) : Inv ins de out todo fun _ => False := by
  refine ⟨h.len, h.zero, h.least, h.marked, h.reach, fun u u0 u1 hu => ?_⟩
  rcases h.done u u0 u1 hu with q | q | q
  · exact .inl q
  · subst q; exact .inr (.inr ⟨hp, hs⟩)
  · exact .inr (.inr q)
theorem Inv.all {ins : List S67} {de : Int} {out : List Int} (h : Inv ins de out [] fun _ => False) (hg : Goes ins) (h1 : 1 ≤ ins.length) {t d : Int} (hr : Reach ins t d) : 0 ≤ t ∧ t < ins.length ∧ 0 ≤ d ∧ at0 out t = d := by
  induction hr with
  | start => exact ⟨by omega, by omega, by omega, h.zero⟩
  | @step t d u e hr hs ih =>
    obtain ⟨t0, t1, d0, td⟩ := ih
    have hc : Closed ins de out t := by
      rcases h.done t t0 t1 (by omega) with q | q | q
      · simp at q
      · exact q.elim
      · exact q
    rw [← td] at hs
    obtain ⟨a1, a2, a3⟩ := hc.2 u e hs
    have hb := stepsOf_bd hs
    have hl := effL_bd (rd_T67 ins t).f0 (rd_T67 ins t).f1
    have := hc.1
    refine ⟨?_, a1, by omega, a3⟩
    rcases hb.2.2 with b | ⟨b1, b2, b3⟩
    · omega
    · have := hg t t0 t1 b1 b2; omega
theorem Inv.finish {ins : List S67} {de : Int} {out : List Int} (h : Inv ins de out [] fun _ => False) (hg : Goes ins) (h1 : 1 ≤ ins.length) : Good ins de ∧ DepthsOf ins out := by
  refine ⟨⟨?_, ?_⟩, h.len, ?_⟩
  · intro t d hr
    obtain ⟨t0, t1, d0, td⟩ := h.all hg h1 hr
    have hc : Closed ins de out t := by
      rcases h.done t t0 t1 (by omega) with q | q | q
      · simp at q
      · exact q.elim
      · exact q
    have hr2 := h.reach t t0 t1 (by omega)
    rw [td] at hr2
    refine ⟨by rw [← td]; exact hc.1, hr2.2, fun u e hue => ?_⟩
    rw [← td] at hue
    obtain ⟨a1, a2, _⟩ := hc.2 u e hue
    exact ⟨a1, a2⟩
  · intro t d e hd he
    obtain ⟨_, _, _, a⟩ := h.all hg h1 hd
    obtain ⟨_, _, _, b⟩ := h.all hg h1 he
    omega
  · intro t t0 t1
    by_cases q : 0 ≤ at0 out t
    · exact .inl ⟨q, (h.reach t t0 t1 q).1⟩
    · refine .inr ⟨h.least t t0 t1 (by omega), fun d hr => ?_⟩
      obtain ⟨_, _, d0, td⟩ := h.all hg h1 hr
      omega
end Go.Proofs.Ytmifocbodfkeeaa.K
namespace Go.Proofs.Ytmifocbodfkeeaa.K
open Go.RowKit Go.Proofs.YtmifocbodfkeeaaW.PrintWords Go.Proofs.YtmifocbodfkeeaaW.PrintLast Go.Proofs.YtmifocbodfkeeaaW.PrintMore
set_option linter.unusedVariables false
set_option linter.unusedSimpArgs false
/-! ### bits_Mul64: function 144 -/
def bits_Mul64.f (a0 : Int) (a1 : Int) : Option (Int × Int) := some (IntKind.u64.wrap ((IntKind.u64.wrap ((IntKind.u64.wrap ((a0 / 4294967296) * (a1 / 4294967296))) + ((IntKind.u64.wrap ((IntKind.u64.wrap ((a0 / 4294967296) * (Go.bits .and .u64 a1 4294967295))) + ((IntKind.u64.wrap ((Go.bits .and .u64 a0 4294967295) * (Go.bits .and .u64 a1 4294967295))) / 4294967296))) / 4294967296))) + ((IntKind.u64.wrap ((Go.bits .and .u64 (IntKind.u64.wrap ((IntKind.u64.wrap ((a0 / 4294967296) * (Go.bits .and .u64 a1 4294967295))) + ((IntKind.u64.wrap ((Go.bits .and .u64 a0 4294967295) * (Go.bits .and .u64 a1 4294967295))) / 4294967296))) 4294967295) + (IntKind.u64.wrap ((Go.bits .and .u64 a0 4294967295) * (a1 / 4294967296))))) / 4294967296)), IntKind.u64.wrap (a0 * a1))
set_option maxHeartbeats 8000000 in
set_option maxRecDepth 100000 in
theorem bits_Mul64.calls (a0 : Int) (a1 : Int) (r1 : Int) (r2 : Int) (w : World) (h : bits_Mul64.f a0 a1 = some (r1, r2)) :
    Calls Try.prog 144 #[.int .u64 a0, .int .u64 a1] w fun e w' => e = .returned (.tuple #[.int .u64 r1, .int .u64 r2]) ∧ Drawn0 w w' := by
  have H : (some (IntKind.u64.wrap ((IntKind.u64.wrap ((IntKind.u64.wrap ((a0 / 4294967296) * (a1 / 4294967296))) + ((IntKind.u64.wrap ((IntKind.u64.wrap ((a0 / 4294967296) * (Go.bits .and .u64 a1 4294967295))) + ((IntKind.u64.wrap ((Go.bits .and .u64 a0 4294967295) * (Go.bits .and .u64 a1 4294967295))) / 4294967296))) / 4294967296))) + ((IntKind.u64.wrap ((Go.bits .and .u64 (IntKind.u64.wrap ((IntKind.u64.wrap ((a0 / 4294967296) * (Go.bits .and .u64 a1 4294967295))) + ((IntKind.u64.wrap ((Go.bits .and .u64 a0 4294967295) * (Go.bits .and .u64 a1 4294967295))) / 4294967296))) 4294967295) + (IntKind.u64.wrap ((Go.bits .and .u64 a0 4294967295) * (a1 / 4294967296))))) / 4294967296)), IntKind.u64.wrap (a0 * a1))) = some (r1, r2) := h
  clear h
  simp only [Option.some.injEq, Prod.mk.injEq] at H
  obtain ⟨rfl, rfl⟩ := H
  go_enter Try.func144, Try.ntmps144
  go_wp2
  go_ret2
  exact ⟨by first | rfl | (simp; done) | (simp [*]; done), by repeat (first | exact Drawn0.refl _ | apply Drawn0.step)⟩

/-! ### bits_Mul: function 140 -/
def bits_Mul.f (a0 : Int) (a1 : Int) : Option (Int × Int) := (bits_Mul64.f a0 a1).bind fun bt109 => (some (bt109.1, bt109.2))
set_option maxHeartbeats 8000000 in
set_option maxRecDepth 100000 in
theorem bits_Mul.calls (a0 : Int) (a1 : Int) (r1 : Int) (r2 : Int) (w : World) (h : bits_Mul.f a0 a1 = some (r1, r2)) :
    Calls Try.prog 140 #[.int .u64 a0, .int .u64 a1] w fun e w' => e = .returned (.tuple #[.int .u64 r1, .int .u64 r2]) ∧ Drawn0 w w' := by
  have H : ((bits_Mul64.f a0 a1).bind fun bt109 => (some (bt109.1, bt109.2))) = some (r1, r2) := h
  clear h
  replace H := Option.bind_eq_some_iff.mp H
  obtain ⟨⟨t109, t110⟩, A30, H⟩ := H
  replace H : (some (t109, t110)) = some (r1, r2) := H
  have A3 := Aside0.mk A30
  clear A30
  simp only [Option.some.injEq, Prod.mk.injEq] at H
  obtain ⟨rfl, rfl⟩ := H
  go_enter Try.func140, Try.ntmps140
  go_wp2_with (first | ((with_reducible refine gate_callee (f := 144) rfl ?_); refine goesL_ (some 25) rfl rfl Try.func144 (by kernel_rfl) rfl #[.int .u64 a0, .int .u64 a1] rfl (by (try simp only [List.map_toArray, List.map_cons, List.map_nil]); first | done | rfl | (simp only [List.length_drop, List.length_take]; rfl)) ?_; (with_reducible refine (bits_Mul64.calls a0 a1 t109 t110 _ A3.out).mono ?_); rintro e w' ⟨rfl, ⟨nd, rfl⟩⟩; refine ⟨_, rfl, ?_⟩))
  go_ret2
  exact ⟨by first | rfl | (simp; done) | (simp [*]; done), by repeat (first | exact Drawn0.refl _ | apply Drawn0.step)⟩

-- NOT PRINTED: function 116 (slices_Repeat_int_int)


theorem mul_one (n : Int) (h0 : 0 ≤ n) (h1 : n ≤ 1000000) : bits_Mul.f 1 n = some (0, n) := by
  have e1 : Go.bits .and .u64 1 4294967295 = 1 := by rw [and_low32 1 (by omega) (by omega)]; rfl
  have e2 : Go.bits .and .u64 n 4294967295 = n := by rw [and_low32 n (by omega) (by omega)]; omega
  have w0 : ∀ z : Int, 0 ≤ z → z ≤ 1000000 → IntKind.u64.wrap z = z := fun z a b => by simp [IntKind.wrap, IntKind.bits, IntKind.signed]; omega
  have d0 : (1 : Int) / 4294967296 = 0 := by decide
  have d1 : n / 4294967296 = 0 := by omega
  have z0 : IntKind.u64.wrap 0 = 0 := by decide
  have z1 : Go.bits .and .u64 0 4294967295 = 0 := by rw [and_low32 0 (by omega) (by omega)]; rfl
  simp only [bits_Mul.f, bits_Mul64.f, e1, e2, d0, d1, Int.zero_mul, Int.one_mul, Int.mul_zero, z0, Int.zero_add, Int.add_zero, z1, w0 n h0 h1, Option.bind_some, Int.zero_ediv]
/-- How the row lies, when so many are filled. -/
def repl (kk n : Nat) : List Value := List.replicate kk (.int .i64 (-1)) ++ List.replicate (n - kk) (.int .i64 0)
theorem splice_repl (kk m n : Nat) (h : kk + m ≤ n) : splice (repl kk n) kk (List.replicate m (.int .i64 (-1))) = repl (kk + m) n := by
  unfold splice repl
  rw [List.take_left' (by simp), List.length_replicate, List.drop_append, List.drop_of_length_le (by simp), List.drop_replicate, ← List.append_assoc, List.replicate_append_replicate]
  simp
  omega
theorem make_ints (n : Nat) (h : n ≤ 1000000) (W : World) : (Instr.makeSlice 38 (.int .i64 n) (.int .i64 n)).run Try.prog W = .ok (.slice (some ⟨W.heap.size, 0, none⟩) n n) (W.alloc (.cells (repl 0 n).toArray 3)) := by
  obtain ⟨i0, hi, hzz⟩ := Option.map_eq_some_iff.1 info3
  simp only [Prod.mk.injEq] at hzz
  obtain ⟨hz0, hz1, hz2⟩ := hzz
  have hr := run_make (P := Try.prog) (w := W) 38 3 i0 (.int .i64 0) Try.underlying38 hi hz0 .i64 .i64 (n : Int) (n : Int) (by omega) (by omega) (by rw [hz2]; omega) (by omega)
  rw [hr, hz1]
  have e : madeCells (Value.int .i64 0).cells ((n : Int).toNat * 1) = (repl 0 n).toArray := by
    apply Array.toList_inj.1
    rw [show (Value.int .i64 0).cells = #[Value.int .i64 0] from rfl, toList_madeCells_one]
    simp [repl]
  rw [e, Int.toNat_natCast]
theorem reps_ints (W : World) (base : Nat) (ok : Nat → Prop) (xs : List Int) : Reps ((Kd.int .i64).M W base ok) (Kd.int .i64).sz xs (xs.map (Value.int .i64)) := by
  have : ∀ l m : List Int, Reps ((Kd.int .i64).M W base ok) (Kd.int .i64).sz l (l.map (Value.int .i64)) → Reps ((Kd.int .i64).M W base ok) (Kd.int .i64).sz (l ++ m) ((l ++ m).map (Value.int .i64)) := by
    intro l m
    induction m generalizing l with
    | nil => intro h; simpa using h
    | cons x m ih =>
      intro h
      have h2 := ih (l ++ [x]) (by rw [List.map_append]; exact h.snoc (p := x) (c := [.int .i64 x]) rfl rfl)
      simpa using h2
  exact this [] xs (Reps.none _ _)
/-- A row of whole numbers that fills a block. -/
theorem R_block (W : World) (xs : List Int) (base g : Nat) (h : W.heap[g]? = some (.cells (xs.map (Value.int .i64)).toArray 3 (0, 0))) (hb : base ≤ g) (hm : xs.length ≤ 9223372036854775807) :
    (Kd.int .i64).R 3 W base (fun _ => True) (.slice (some ⟨g, 0, none⟩) xs.length xs.length) xs := by
  refine ⟨fun k hk => trivial, xs.map (Value.int .i64), ⟨?_, .inr ⟨g, xs.length, _, rfl, hb, h, Nat.le_refl _, ?_, ?_, ?_⟩⟩, reps_ints _ _ _ _⟩
  · rw [List.length_map]
    exact (Nat.mul_one _).symm
  · unfold maxLen; omega
  · rw [List.size_toArray, List.length_map]
    exact (Nat.mul_one _).symm
  · rw [show xs.length * (Kd.int .i64).sz = (xs.map (Value.int .i64)).length by rw [List.length_map]; exact Nat.mul_one _]
    exact List.take_length
set_option maxHeartbeats 1000000 in
set_option maxRecDepth 100000 in
theorem slices_Repeat (b c n : Nat) (w : World) (h : w.cell? ⟨b, 0, none⟩ = some (.int .i64 (-1))) (h1 : 1 ≤ n) (h2 : n ≤ 1000000) :
    Calls Try.prog 116 #[.slice (some ⟨b, 0, none⟩) 1 c, .int .i64 n] w fun e w' => ∃ g : Nat, e = .returned (.slice (some ⟨g, 0, none⟩) n n) ∧ w'.heap[g]? = some (.cells ((List.replicate n (-1)).map (Value.int .i64)).toArray 3 (0, 0)) ∧ w.heap.size ≤ g ∧ Below w.heap.size w w' := by
  have h3 : (n : Int) ≤ 1000000 := by omega
  have h4 : (1 : Int) ≤ n := by omega
  have H := Aside0.mk h
  have hlt := World.block_lt_of_cell? w _ h
  clear h
  go_enter Try.func116, Try.ntmps116
  go_wp2_with fail
  refine (bits_Mul.calls _ _ _ _ _ (mul_one n (by omega) (by omega))).mono ?_
  rintro e w' ⟨rfl, hd⟩
  obtain ⟨q, rfl⟩ := hd.out
  clear hd
  have hmk := make_ints n h2
  have hsz1 : (Try.prog.info? 3).map (·.size) = some 1 := by
    obtain ⟨i0, hi, hzz⟩ := Option.map_eq_some_iff.1 info3
    simp only [Prod.mk.injEq] at hzz
    rw [hi, Option.map_some, hzz.2.1]
  have HS := Aside0.mk hsz1
  clear hsz1
  have hsrc : ∀ (o : Obj) (j : Nat) (v : Value), [Value.int .i64 (-1)][j]? = some v → ((w.drewN q).alloc o).cell? ⟨b, j, none⟩ = some v := by
    intro o j v hj
    rcases j with _ | j
    · obtain rfl := Option.some.inj hj
      refine cell1 ?_ o
      simpa using H.out
    · simp at hj
  have HC := Aside0.mk hsrc
  clear hsrc
  go_wp2_with ((with_reducible refine gate_dst (N := 33) rfl ?_); refine wpList_copy_splice rfl (.tmp 31) (.tmp 32) 38 38 rfl 3 Try.underlying38 HS.out _ _ n n 1 c rfl rfl w.heap.size 0 (repl 0 n) 3 ?ca [.int .i64 (-1)] ?cb ?cc ?cd ?ce w.heap.size w ?cf (Nat.le_refl _) ?_; rotate_left 6; intro w4 hg4 hb4)
  case ca => simpa using heap_alloc_new (w.drewN q) (.cells (repl 0 n).toArray 3)
  case cb => show 1 = min 1 n; omega
  case cc => exact fun j v hj => HC.out _ j v hj
  case cd => simp [repl]; omega
  case ce => simp [Value.oneCell']
  case cf => repeat (first | (with_reducible first | exact Below.refl _ _ | apply below_alloc | apply pw_below_drewN | apply below_drew1))
  have HG := Aside0.mk hg4.out
  have HB := Aside0.mk hb4
  rw [show [Value.int .i64 (-1)] = List.replicate 1 (Value.int .i64 (-1)) from rfl, splice_repl 0 1 n (by omega)] at HG
  clear hg4 hb4 HC H
  generalize hg : w.heap.size = g at *
  go_loopw [8] (fun v8 wr => ∃ kk : Nat, 1 ≤ kk ∧ kk ≤ n ∧ v8 = .int .i64 kk ∧ Aside0 (wr.heap[g]? = some (.cells (repl kk n).toArray 3 (0, 0))) ∧ Aside0 (Below g w wr)) (fun v8 _ => n - (intOf v8).toNat)
  case atStart => exact ⟨1, by omega, h1, rfl, HG, HB⟩
  case round =>
    clear HG HB
    obtain ⟨kk, hk1, hk2, rfl, HG, HB⟩ := hrel
    by_cases hlt2 : kk < n
    · have hltz : (kk : Int) < (n : Int) := by omega
      have hk3 : (kk : Int) ≤ 1000000 := by omega
      have hk4 : (1 : Int) ≤ kk := by omega
      have hk5 : kk ≤ n := by omega
      go_wp2
      have hne : ¬ n = kk := by omega
      obtain ⟨m, hm⟩ : ∃ m, Nat.min kk (n - kk) = m := ⟨_, rfl⟩
      have hm1 : 1 ≤ m := by have : Nat.min kk (n - kk) = min kk (n - kk) := rfl; omega
      have hm2 : kk + m ≤ n := by have : Nat.min kk (n - kk) = min kk (n - kk) := rfl; omega
      have hm5 : m ≤ kk := by have : Nat.min kk (n - kk) = min kk (n - kk) := rfl; omega
      have hm3 : (1 : Int) ≤ m := by omega
      have hm4 : (m : Int) ≤ 1000000 := by omega
      have hwr : IntKind.i64.wrap ((kk : Int) + m) = kk + m := by rw [IntKind.wrap_i64]; omega
      have HW := Aside0.mk hwr
      clear hwr
      have s1 : wr.drew.heap[g]? = some (.cells (repl kk n).toArray 3 (0, 0)) := HG.out
      have s2 : ∀ j v, (List.replicate (m) (Value.int .i64 (-1)))[j]? = some v → wr.drew.cell? ((⟨g, 0, none⟩ : Addr).add j) = some v := by
        intro j v hj
        rw [List.getElem?_replicate] at hj
        split at hj
        · obtain rfl := Option.some.inj hj
          rw [show (⟨g, 0, none⟩ : Addr).add j = ⟨g, j, none⟩ by simp [Addr.add]; omega, blk_cell s1 j]
          have hj2 : j < kk := by omega
          simp [repl, List.getElem?_append, List.getElem?_replicate, hj2]
        · exact absurd hj (by simp)
      have s3 : kk + (List.replicate (m) (Value.int .i64 (-1))).length ≤ (repl kk n).length := by simp [repl]; omega
      have s4 : ∀ v ∈ List.replicate (m) (Value.int .i64 (-1)), v.oneCell' = true := by
        intro v hv
        obtain ⟨_, rfl⟩ := List.mem_replicate.1 hv
        rfl
      have s5 : Below g w wr.drew := HB.out.drew
      have s6 : (List.replicate (m) (Value.int .i64 (-1))).length = Nat.min kk (n - kk) := by rw [List.length_replicate, hm]
      clear hm
      replace s1 := Aside0.mk s1
      replace s2 := Aside0.mk s2
      replace s3 := Aside0.mk s3
      replace s4 := Aside0.mk s4
      replace s5 := Aside0.mk s5
      replace s6 := Aside0.mk s6
      go_region_law (refine step_copy_splice rfl (.tmp 41) (.tmp 44) 38 38 rfl 3 Try.underlying38 HS.out (some ⟨g, kk, none⟩) (some ⟨g, 0, none⟩) (n - kk) (n - kk) kk n (by simp [Act.eval, Act.put]) (by simp [Act.eval, Act.put]) g kk (repl kk n) 3 s1.out (List.replicate (m) (.int .i64 (-1))) s6.out (fun _ => ⟨rfl, _, rfl, s2.out⟩) s3.out s4.out g w s5.out (Nat.le_refl _) ?_; intro w5 hg5 hb5)
      have HG5 := Aside0.mk hg5.out
      have HB5 := Aside0.mk hb5
      clear hg5 hb5
      rw [splice_repl kk _ n (by omega)] at HG5
      rw [HW.out]
      go_simp
      go_roundw
      case rel =>
        repeat apply Exists.intro
        refine ⟨?_, rfl⟩
        exact ⟨kk + m, by omega, by omega, by go_num, HG5, HB5⟩
      case measure => simp [intOf]; omega
    · have hltz : ¬ (kk : Int) < (n : Int) := by omega
      obtain rfl : kk = n := by omega
      go_wp2
      go_ret
      subst hg
      exact ⟨w.heap.size, rfl, by rw [HG.out]; simp [repl], Nat.le_refl _, HB.out⟩
end Go.Proofs.Ytmifocbodfkeeaa.K
/-! Codes and programs that may be: the specification, and the walks of code.right and code.Check over the search's contract. -/
namespace Go.Proofs.Ytmifocbodfkeeaa.K
open Go.RowKit Go.Proofs.YtmifocbodfkeeaaW.PrintWords Go.Proofs.YtmifocbodfkeeaaW.PrintLast Go.Proofs.YtmifocbodfkeeaaW.PrintMore
set_option linter.unusedVariables false
set_option linter.unusedSimpArgs false
/-- A program. -/
structure Prg where
  g : Int
  pool : List ByteArray
  codes : List S52
/-- A program as a value. -/
def PrgAt (w : World) (v : Value) (p : Prg) : Prop := ∃ A1 c1 A2 c2, v = .agg #[.int .i64 p.g, .slice A1 p.pool.length c1, .slice A2 p.codes.length c2] ∧ p.pool.length ≤ c1 ∧ p.codes.length ≤ c2 ∧ Kd.string.C w A1 p.pool.length p.pool ∧ k52.C w A2 p.codes.length p.codes
/-- May a code be: its numbers. -/
def HeadC (c : S52) (f : Int) : Prop :=
  0 ≤ c.f0 ∧ c.f0 ≤ 6 ∧ c.f0 ≤ c.f1 ∧ c.f1 ≤ 24 ∧ 0 ≤ c.f2 ∧ c.f2 ≤ 4000 ∧ 0 ≤ c.f3 ∧ c.f3 ≤ 64 ∧ 1 ≤ (c.f4.length : Int) ∧ (c.f4.length : Int) ≤ 4000 ∧ (f = 0 → c.f1 ≤ 0)
/-- May a code be: its instructions. -/
def BodyC (p : Prg) (c : S52) : Prop := (∀ t : Int, 0 ≤ t → t < c.f4.length → instrB p.g p.pool.length p.codes.length c.f1 c.f2 c.f4 t = true) ∧ Good c.f4 c.f3
/-- May a code be? -/
def RightC (p : Prg) (f : Int) : Prop := HeadC (rd_T52 p.codes f) f ∧ BodyC p (rd_T52 p.codes f)
/-- May a program be? -/
def CheckP (p : Prg) : Prop :=
  0 ≤ p.g ∧ p.g ≤ 24 ∧ 1 ≤ p.codes.length ∧ p.codes.length ≤ 32 ∧ p.pool.length ≤ 120 ∧ (∀ i : Nat, i < p.pool.length → (rdOf ByteArray.empty p.pool (i : Int)).size ≤ 256) ∧ ∀ f : Int, 0 ≤ f → f < p.codes.length → RightC p f
theorem goes_of_instr {g np nc lo si : Int} {ins : List S67} (h : ∀ t : Int, 0 ≤ t → t < ins.length → instrB g np nc lo si ins t = true) : Goes ins := by
  intro t h0 h1 a b
  have := h t h0 h1
  unfold instrB at this
  rw [Bool.and_eq_true, Bool.and_eq_true, argB_goes ⟨a, b⟩] at this
  have := this.1.1
  simp at this
  exact this.1
open Classical in
/-- The word of a check. -/
noncomputable def said (P : Prop) : Int := if P then 0 else 16
theorem said_yes {P : Prop} (h : P) : said P = 0 := if_pos h
theorem said_no {P : Prop} (h : ¬ P) : said P = 16 := if_neg h
open Classical in
noncomputable def tells (P : Prop) : Bool := decide P
theorem tells_yes {P : Prop} (h : P) : tells P = true := by unfold tells; simp [h]
theorem tells_no {P : Prop} (h : ¬ P) : tells P = false := by unfold tells; simp [h]
/-- What the search tells (its own text proves it). -/
def Depths2 (ins : List S67) (de : Int) (w : World) (e : Ending) (w' : World) : Prop :=
  ∃ (v : Value) (b : Bool), e = .returned (.tuple #[v, .bool b]) ∧ (b = true → Good ins de ∧ ∃ out, DepthsOf ins out ∧ (Kd.int .i64).R 3 w' w.heap.size (fun _ => True) v out) ∧ (b = false → ¬ Good ins de ∧ v = .slice none 0 0) ∧ Below w.heap.size w w'
end Go.Proofs.Ytmifocbodfkeeaa.K
