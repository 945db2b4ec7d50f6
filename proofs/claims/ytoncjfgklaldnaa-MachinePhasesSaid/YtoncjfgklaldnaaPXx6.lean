-- Written by a program of this session (hyb.py), which runs the print over the translation with contracts of its own added; it is not the print itself. Lean checks it.
import Derived.Test.YtoncjfgklaldnaaPXx0
import Derived.Test.YtoncjfgklaldnaaPXx3
import Derived.Test.YtoncjfgklaldnaaPXx5
namespace Go.Proofs.Ytoncjfgklaldnaa.PX
open Go.RowKit Go.Proofs.YtoncjfgklaldnaaW.PrintWords Go.Proofs.YtoncjfgklaldnaaW.PrintLast Go.Proofs.YtoncjfgklaldnaaW.PrintMore
attribute [local go_sem] max2_int min2_int max_two min_two max_three min_three max_four min_four   -- for this text's walks alone
set_option linter.unusedVariables false
set_option linter.unusedSimpArgs false

/-! ### machine_State: function 16 -/
/-- The state behind an act, and the error. -/
def nx (x0 x1 : Int) : Int × Int :=
  if x0 < 0 then (0, 1) else if x0 > 4 then (0, 1) else (if x1 = 1 then (if x0 = 0 then (1, 0) else (0, 13)) else (if x1 = 2 then (if x0 = 1 then (2, 0) else (0, 13)) else (if x1 = 3 then (if x0 = 1 then (3, 0) else (if x0 = 2 then (3, 0) else (0, 13))) else (if x1 = 4 then (if x0 = 3 then (0, 0) else (0, 13)) else (if x1 = 5 then (if x0 = 4 then (0, 13) else (4, 0)) else (if x1 = 6 then (if x0 = 4 then (0, 0) else (0, 13)) else (0, 17)))))))
theorem next_some (k : Nat) (s a : Int) : machine_Next.f (k + 1) s a = some (nx s a) := by
  unfold machine_Next.f nx
  simp only [machine_Next.j0]
  by_cases h0 : s < 0
  · simp [h0]
  · by_cases h4 : s > 4
    · simp [h0, h4]
    · simp only [h0, h4, if_false, decide_false, Bool.false_eq_true]
      repeat (first | rfl | split)
def mom (t : Int) : Bool := if t ≥ 0 then decide (t ≤ 2147483647) else false
theorem mom_some (t : Int) : machine_moment.f t = some (mom t) := by unfold machine_moment.f mom; split <;> rfl
theorem mom_bd {t : Int} (h : mom t = true) : 0 ≤ t ∧ t ≤ 2147483647 := by
  unfold mom at h
  split at h
  · exact ⟨by omega, of_decide_eq_true h⟩
  · cases h
def erl (th cl a0 a1 b : Int) : Bool := if a0 = 2 then decide (a1 < wrap64 (b + th)) else if a0 = 4 then decide (a1 < wrap64 (b + cl)) else false
theorem erl_some (th cl a0 a1 b : Int) : machine_early.f th cl a0 a1 b = some (erl th cl a0 a1 b) := by unfold machine_early.f erl; repeat (first | rfl | split)
/-- The first error of acts, from a state and a moment on. -/
def wk (th cl : Int) : List S35 → Int → Int → Int
  | [], _, _ => 0
  | x :: l, s, b => if mom x.f1 = false then 1 else if x.f1 < b then 9 else if (nx s x.f0).2 = 0 then (if erl th cl x.f0 x.f1 b = true then 36 else wk th cl l (nx s x.f0).1 x.f1) else (nx s x.f0).2
theorem wk_cons {th cl : Int} {x : S35} {l : List S35} {s b : Int} (h : wk th cl (x :: l) s b = 0) : mom x.f1 = true ∧ ¬ x.f1 < b ∧ (nx s x.f0).2 = 0 ∧ erl th cl x.f0 x.f1 b = false ∧ wk th cl l (nx s x.f0).1 x.f1 = 0 := by
  simp only [wk] at h
  cases hm : mom x.f1 with
  | false => rw [if_pos hm] at h; omega
  | true =>
    rw [if_neg (by simp [hm])] at h
    by_cases hb : x.f1 < b
    · rw [if_pos hb] at h; omega
    · rw [if_neg hb] at h
      by_cases hn : (nx s x.f0).2 = 0
      · rw [if_pos hn] at h
        cases he : erl th cl x.f0 x.f1 b with
        | true => rw [if_pos he] at h; omega
        | false => rw [if_neg (by simp [he])] at h; exact ⟨rfl, hb, hn, rfl, h⟩
      · rw [if_neg hn] at h; exact absurd h hn
theorem rd_drop (l : List S35) (i : Nat) (h : i < l.length) : l.drop i = rd_T35 l i :: l.drop (i + 1) := by
  rw [List.drop_eq_getElem_cons h]
  congr 1
  unfold rd_T35
  rw [Int.toNat_natCast, List.getD_eq_getElem?_getD, List.getElem?_eq_getElem h]
  rfl
theorem next_any (s a n : Int) (e : Int) (hn : nx s a = (n, e)) (w : World) : Calls Try.prog 11 #[.int .i64 s, .int .i64 a] w fun e' w' => e' = .returned (.tuple #[.int .i64 n, .int .i64 e]) ∧ Drawn0 w w' := machine_Next.calls 1 s a n e w (by rw [next_some, hn])
/-- Check's answer. -/
def chk (th cl : Int) (l : List S35) : Int := if th < 0 then 1 else if th > 86400 then 1 else if cl < 0 then 1 else if cl > 86400 then 1 else if (l.length : Int) > 512 then 8 else wk th cl l 0 0
theorem wrap_small {i : Int} (h0 : 0 ≤ i) (h : i ≤ 512) : wrap64 (i + 1) = i + 1 := by unfold wrap64; omega
theorem walk_eq (th cl : Int) (l : List S35) (hl : l.length ≤ 512) : ∀ (k i : Nat) (s b r : Int), i ≤ l.length → machine_walk.l0 k s b 0 l (l.length : Int) (i : Int) th cl = some r → r = wk th cl (l.drop i) s b := by
  intro k
  induction k with
  | zero => intro i s b r _ h; simp [machine_walk.l0] at h
  | succ k ih =>
    intro i s b r hi h
    simp only [machine_walk.l0] at h
    by_cases hlt : i < l.length
    · rw [if_pos (by omega), if_pos (by omega), if_pos (by omega)] at h
      rw [rd_drop l i hlt]
      simp only [wk]
      obtain ⟨⟨n, e⟩, hn, h⟩ := Option.bind_eq_some_iff.mp h
      have hn' : nx s (rd_T35 l (i : Int)).f0 = (n, e) := by
        cases k with
        | zero => unfold machine_Next.f at hn; split at hn <;> simp [machine_Next.j0] at hn
        | succ k => rw [next_some] at hn; exact Option.some.inj hn
      rw [mom_some, Option.bind_some] at h
      cases hm : mom (rd_T35 l (i : Int)).f1 with
      | false => rw [hm, if_neg (by decide)] at h; rw [if_pos rfl]; exact (Option.some.inj h).symm
      | true =>
        rw [hm, if_pos rfl] at h
        rw [if_neg (by decide)]
        by_cases hb : (rd_T35 l (i : Int)).f1 < b
        · rw [if_pos hb] at h ⊢; exact (Option.some.inj h).symm
        · rw [if_neg hb] at h ⊢
          rw [hn']
          by_cases he : e = 0
          · rw [if_pos he] at h ⊢
            rw [erl_some, Option.bind_some] at h
            cases hr : erl th cl (rd_T35 l (i : Int)).f0 (rd_T35 l (i : Int)).f1 b with
            | true => rw [hr, if_pos rfl] at h; rw [if_pos rfl]; exact (Option.some.inj h).symm
            | false =>
              rw [hr, if_neg (by decide), wrap_small (by omega) (by omega)] at h
              rw [if_neg (by decide)]
              exact ih (i + 1) n _ r (by omega) (by exact_mod_cast h)
          · rw [if_neg he] at h ⊢; exact (Option.some.inj h).symm
    · rw [if_neg (by omega)] at h
      rw [List.drop_eq_nil_of_le (by omega)]
      exact (Option.some.inj h).symm
theorem walk_ev (th cl : Int) (l : List S35) (hl : l.length ≤ 512) : ∀ (d k i : Nat) (s b : Int), i + d = l.length → d + 1 < k → machine_walk.l0 k s b 0 l (l.length : Int) (i : Int) th cl = some (wk th cl (l.drop i) s b) := by
  intro d
  induction d with
  | zero =>
    intro k i s b hi hk
    obtain ⟨k, rfl⟩ : ∃ m, k = m + 1 := ⟨k - 1, by omega⟩
    simp only [machine_walk.l0]
    rw [if_neg (by omega), List.drop_eq_nil_of_le (by omega)]
    rfl
  | succ d ih =>
    intro k i s b hi hk
    obtain ⟨k, rfl⟩ : ∃ m, k = m + 1 + 1 := ⟨k - 2, by omega⟩
    rw [machine_walk.l0]
    rw [if_pos (by omega), if_pos (by omega), if_pos (by omega), rd_drop l i (by omega), next_some, Option.bind_some, mom_some, Option.bind_some]
    simp only [wk]
    cases hm : mom (rd_T35 l (i : Int)).f1 with
    | false => simp
    | true =>
      simp only [if_true, Bool.true_eq_false, if_false]
      by_cases hb : (rd_T35 l (i : Int)).f1 < b
      · rw [if_pos hb, if_pos hb]
      · rw [if_neg hb, if_neg hb]
        by_cases he : (nx s (rd_T35 l (i : Int)).f0).2 = 0
        · rw [if_pos he, if_pos he, erl_some, Option.bind_some]
          cases hr : erl th cl (rd_T35 l (i : Int)).f0 (rd_T35 l (i : Int)).f1 b with
          | true => simp
          | false =>
            simp only [Bool.false_eq_true, if_false]
            rw [wrap_small (by omega) (by omega)]
            have := ih (k + 1) (i + 1) (nx s (rd_T35 l (i : Int)).f0).1 (rd_T35 l (i : Int)).f1 (by omega) (by omega)
            exact_mod_cast this
        · rw [if_neg he, if_neg he]
theorem chk_of {k : Nat} {th cl : Int} {l : List S35} {r : Int} (h : machine_Check.f k th cl l = some r) : r = chk th cl l := by
  unfold machine_Check.f at h
  unfold chk
  have hj : ∀ b, machine_Check.j0 k l b th cl = some r → r = (if b = true then 1 else if (l.length : Int) > 512 then 8 else wk th cl l 0 0) := by
    intro b hb
    cases k with
    | zero => simp [machine_Check.j0] at hb
    | succ k =>
      simp only [machine_Check.j0] at hb
      cases b with
      | true => rw [if_pos rfl] at hb; rw [if_pos rfl]; exact (Option.some.inj hb).symm
      | false =>
        rw [if_neg (by decide)] at hb ⊢
        by_cases hl : (l.length : Int) > 512
        · rw [if_pos hl] at hb ⊢; exact (Option.some.inj hb).symm
        · rw [if_neg hl] at hb ⊢
          obtain ⟨t, ht, hb⟩ := Option.bind_eq_some_iff.mp hb
          rw [← Option.some.inj hb]
          exact walk_eq th cl l (by omega) k 0 0 0 t (Nat.zero_le _) ht
  by_cases h1 : th < 0
  · rw [if_pos h1] at h ⊢; exact hj _ h
  · rw [if_neg h1] at h ⊢
    by_cases h2 : th > 86400
    · rw [if_pos h2] at h ⊢; exact hj _ h
    · rw [if_neg h2] at h ⊢
      by_cases h3 : cl < 0
      · rw [if_pos h3] at h ⊢; exact hj _ h
      · rw [if_neg h3] at h ⊢
        have := hj _ h
        by_cases h4 : cl > 86400
        · rw [if_pos h4]; rw [decide_eq_true h4, if_pos rfl] at this; exact this
        · rw [if_neg h4]; rw [decide_eq_false h4, if_neg (by decide)] at this; exact this
theorem chk_ev (th cl : Int) (l : List S35) : ∃ k, machine_Check.f k th cl l = some (chk th cl l) := by
  refine ⟨l.length + 4, ?_⟩
  have hj : ∀ b, machine_Check.j0 (l.length + 4) l b th cl = some (if b = true then 1 else if (l.length : Int) > 512 then 8 else wk th cl l 0 0) := by
    intro b
    rw [show l.length + 4 = l.length + 3 + 1 from rfl, machine_Check.j0]
    cases b with
    | true => rfl
    | false =>
      simp only [Bool.false_eq_true, if_false]
      by_cases hl : (l.length : Int) > 512
      · rw [if_pos hl, if_pos hl]
      · rw [if_neg hl, if_neg hl]
        unfold machine_walk.f
        have := walk_ev th cl l (by omega) l.length (l.length + 3) 0 0 0 (by omega) (by omega)
        rw [List.drop_zero] at this
        rw [show ((0 : Nat) : Int) = 0 from rfl] at this
        rw [this, Option.bind_some]
  unfold machine_Check.f chk
  simp only [hj]
  by_cases h1 : th < 0
  · simp [h1]
  · by_cases h2 : th > 86400
    · simp [h1, h2]
    · by_cases h3 : cl < 0
      · simp [h1, h2, h3]
      · by_cases h4 : cl > 86400
        · simp [h1, h2, h3, h4]
        · simp [h1, h2, h3, h4]
theorem chk_zero {th cl : Int} {l : List S35} (h : chk th cl l = 0) : 0 ≤ th ∧ th ≤ 86400 ∧ 0 ≤ cl ∧ cl ≤ 86400 ∧ l.length ≤ 512 ∧ wk th cl l 0 0 = 0 := by
  unfold chk at h
  repeat' split at h
  all_goals first | omega | exact ⟨by omega, by omega, by omega, by omega, by omega, h⟩

/-- The state after the acts that are at most at t. -/
def runTo (t : Int) : List S35 → Int → Int
  | [], s => s
  | x :: l, s => if x.f1 ≤ t then runTo t l (nx s x.f0).1 else s
/-- What State's closure shares: the moment (block gt) and the state (gn). Blocks Ls are others. -/
def StI (B gt gn : Nat) (Ls : List Nat) (w : World) (t st : Int) : Prop :=
  w.heap[gt]? = some (.cells #[.int .i64 t] 3 (0, 0)) ∧ w.heap[gn]? = some (.cells #[.int .i64 st] 3 (0, 0)) ∧ gt ≠ gn ∧ gt ∉ Ls ∧ gn ∉ Ls ∧ B ≤ gn
theorem StI.move {B gt gn : Nat} {Ls : List Nat} {w w1 : World} {t st : Int} (h : StI B gt gn Ls w t st) (hm : ∀ k, k < w.heap.size → k ∉ Ls → w1.heap[k]? = w.heap[k]?) : StI B gt gn Ls w1 t st := by
  obtain ⟨h1, h2, h3, h4, h5, h6⟩ := h
  exact ⟨(hm gt (blk_lt h1) h4).trans h1, (hm gn (blk_lt h2) h5).trans h2, h3, h4, h5, h6⟩
theorem StI.below {B gt gn : Nat} {Ls : List Nat} {w w1 : World} {t st : Int} (h : StI B gt gn Ls w t st) (hb : Below w.heap.size w w1) : StI B gt gn Ls w1 t st := h.move (fun k hk _ => hb.block k hk)
theorem StI.drewN {B gt gn : Nat} {Ls : List Nat} {w : World} {t st : Int} (h : StI B gt gn Ls w t st) (n : Nat) : StI B gt gn Ls (w.drewN n) t st := h.move (fun _ _ _ => rfl)
theorem StI.set' {B gt gn : Nat} {Ls : List Nat} {w : World} {t st : Int} (h : StI B gt gn Ls w t st) {g : Nat} (hg : g ∈ Ls) (j : Nat) (u : Value) : StI B gt gn Ls (w.setCell ⟨g, j, none⟩ u) t st :=
  h.move (fun k _ hk => Below.heap_setCell w ⟨g, j, none⟩ u k (fun e => hk ((show k = g from e) ▸ hg)))
theorem StI.more' {B gt gn g : Nat} {Ls : List Nat} {w w1 : World} {t st : Int} (h : StI B gt gn Ls w t st) (hg : g = w.heap.size) (hb : Below w.heap.size w w1) : StI B gt gn (g :: Ls) w1 t st := by
  obtain ⟨h1, h2, h3, h4, h5, h6⟩ := h.below hb
  have k1 := blk_lt h.1
  have k2 := blk_lt h.2.1
  refine ⟨h1, h2, h3, ?_, ?_, h6⟩
  · intro hm
    rcases List.mem_cons.1 hm with rfl | hm
    · omega
    · exact h4 hm
  · intro hm
    rcases List.mem_cons.1 hm with rfl | hm
    · omega
    · exact h5 hm
theorem StI.less {B gt gn g : Nat} {Ls : List Nat} {w : World} {t st : Int} (h : StI B gt gn (g :: Ls) w t st) : StI B gt gn Ls w t st := by
  obtain ⟨h1, h2, h3, h4, h5, h6⟩ := h
  exact ⟨h1, h2, h3, fun hm => h4 (List.mem_cons_of_mem _ hm), fun hm => h5 (List.mem_cons_of_mem _ hm), h6⟩
set_option maxHeartbeats 4000000 in
/-- State$1 at an act that is not too late. -/
theorem closure_yes (s' a0 a1 t st : Int) (gt gn : Nat) (Ls : List Nat) (w0 w : World) (hB : Below w0.heap.size w0 w) (hI : StI w0.heap.size gt gn Ls w t st) (c : a1 ≤ t) :
    Calls Try.prog 30 #[.int .i64 s', .agg #[.int .i64 a0, .int .i64 a1], .pointer (some ⟨gt, 0, none⟩), .pointer (some ⟨gn, 0, none⟩)] w fun e w' =>
      e = .returned (.bool true) ∧ Below w0.heap.size w0 w' ∧ StI w0.heap.size gt gn Ls w' t s' ∧ ∀ g ∈ Ls, ∀ o, w.heap[g]? = some o → w'.heap[g]? = some o := by
  have HB := Aside0.mk hB
  have HI := Aside0.mk hI
  have cb : decide (a1 ≤ t) = true := decide_eq_true c
  have hx1 := hI.2.2.1
  have hx2 : gn ≠ gt := fun h => hx1 h.symm
  have HX := Aside0.mk (show gt ≠ gn from hx1)
  clear hB hI c
  go_enter Try.func30, Try.ntmps30
  go_wp2_with (first | ((with_reducible refine gate_dst (N := 5) rfl ?_); go_must (refine box_event ?hg (N := 5) ?hd (cs := #[.int .i64 a0, .int .i64 a1]) (t := 35) ?hr ?_; (case hd => rfl); (case hg => rfl); (case hr => first | (go_simp; done) | (go_simp; rfl)); intro ga hg w4 hbox hb; have HB4 := Aside0.mk hb; have HI4 := Aside0.mk (HI.out.below hb); have hq0 := (blk_cell hbox 0).trans rfl; have hq1 := (blk_cell hbox 1).trans rfl; have ht0 := (blk_cell HI4.out.1 0).trans rfl; have hn0 := (blk_cell HI4.out.2.1 0).trans rfl; have hfn := blk_frozen HI4.out.2.1 0; clear hbox hb hg)))
  go_ret
  obtain ⟨h1, h2, h3, h4, h5, h6⟩ := HI4.out
  refine ⟨rfl, below_set (below_then HB.out HB.out.size HB4.out) h6, ⟨blk_far h1 HX.out _, blk_put h2 0 _ rfl, h3, h4, h5, h6⟩, fun g hg o h => ?_⟩
  exact (Below.heap_setCell w4 ⟨gn, 0, none⟩ _ g (fun e => h5 ((show g = gn from e) ▸ hg))).trans (blk_below h HB4.out)
set_option maxHeartbeats 4000000 in
/-- State$1 at an act that is too late. -/
theorem closure_no (s' a0 a1 t st : Int) (gt gn : Nat) (Ls : List Nat) (w0 w : World) (hB : Below w0.heap.size w0 w) (hI : StI w0.heap.size gt gn Ls w t st) (c : t < a1) :
    Calls Try.prog 30 #[.int .i64 s', .agg #[.int .i64 a0, .int .i64 a1], .pointer (some ⟨gt, 0, none⟩), .pointer (some ⟨gn, 0, none⟩)] w fun e w' =>
      e = .returned (.bool false) ∧ Below w0.heap.size w0 w' ∧ StI w0.heap.size gt gn Ls w' t st ∧ ∀ g ∈ Ls, ∀ o, w.heap[g]? = some o → w'.heap[g]? = some o := by
  have HB := Aside0.mk hB
  have HI := Aside0.mk hI
  have cb : decide (a1 ≤ t) = false := decide_eq_false (by omega)
  clear hB hI c
  go_enter Try.func30, Try.ntmps30
  go_wp2_with (first | ((with_reducible refine gate_dst (N := 5) rfl ?_); go_must (refine box_event ?hg (N := 5) ?hd (cs := #[.int .i64 a0, .int .i64 a1]) (t := 35) ?hr ?_; (case hd => rfl); (case hg => rfl); (case hr => first | (go_simp; done) | (go_simp; rfl)); intro ga hg w4 hbox hb; have HB4 := Aside0.mk hb; have HI4 := Aside0.mk (HI.out.below hb); have hq0 := (blk_cell hbox 0).trans rfl; have hq1 := (blk_cell hbox 1).trans rfl; have ht0 := (blk_cell HI4.out.1 0).trans rfl; clear hbox hb hg)))
  go_ret
  exact ⟨rfl, below_then HB.out HB.out.size HB4.out, HI4.out, fun g hg o h => blk_below h HB4.out⟩
theorem neq_func (f : Fn) (a b : Array Value) (w : World) : Sem.run Try.prog (binOp .neq 59 (.func f a b) .nilFunc) w = .ok (.bool true) w := by
  have h := Try.underlying59
  first | rfl | kernel_rfl | (simp [binOp, h])
theorem neq_func30 (a b : Array Value) (w : World) : Sem.run Try.prog (binOp .neq 59 (.func (.func 30) a b) .nilFunc) w = .ok (.bool true) w := neq_func _ a b w
set_option maxHeartbeats 8000000 in
set_option maxRecDepth 100000 in
attribute [local go_sem] neq_func30 in
/-- walk with State's closure, over valid acts. -/
theorem walkT_calls (th cl t : Int) (A1 : Option Addr) (c1 : Nat) (l1 : List S35) (p : Int) (gt gn : Nat) (w0 w : World) (hB : Below w0.heap.size w0 w) (hI : StI w0.heap.size gt gn [] w t 0) (hr1 : Kd.C k35 w0 A1 l1.length l1) (hc1 : l1.length ≤ c1) (hl : l1.length ≤ 512) (hv : wk th cl l1 0 0 = 0) (hp : runTo t l1 0 = p) :
    Calls Try.prog 27 #[.agg #[.int .i64 th, .int .i64 cl], .slice A1 l1.length c1, .func (.func 30) #[] #[.pointer (some ⟨gt, 0, none⟩), .pointer (some ⟨gn, 0, none⟩)]] w fun e w' => e = .returned (.int .i64 0) ∧ Below w0.heap.size w0 w' ∧ StI w0.heap.size gt gn [] w' t p := by
  have HB := Aside0.mk hB
  have HI := Aside0.mk hI
  have HR1 := Aside0.mk hr1
  have HC1 := Aside0.mk hc1
  have HV := Aside0.mk hv
  have HP := Aside0.mk hp
  have HL := Aside0.mk hl
  clear hB hI hr1 hc1 hv hp hl
  go_enter Try.func27, Try.ntmps27
  go_wp2_with (first | ((with_reducible refine gate_dst (N := 3) rfl ?_); go_must (refine box_event ?hg (N := 3) ?hd (cs := #[.int .i64 th, .int .i64 cl]) (t := 28) ?hr ?_; (case hd => rfl); (case hg => rfl); (case hr => first | (go_simp; done) | (go_simp; rfl)); intro gr hg w3 hbox hb; have HG := Aside0.mk hg; have BR := Aside0.mk hbox; have HB3 := Aside0.mk (below_then HB.out HB.out.size hb); have HI3 := Aside0.mk (HI.out.more' hg hb); have HGE := Aside0.mk (show w0.heap.size ≤ gr from hg ▸ HB.out.size); clear hbox hb hg)))
  go_step3
  go_wp2
  go_step3
  go_wp2
  go_loopg [7, 8, 9, 16] l1.length (fun kq v7 v8 v9 v16 w' => ∃ (i : Nat) (st fr : Int), v7 = .int .i64 st ∧ v8 = .int .i64 fr ∧ v9 = .int .i64 0 ∧ v16 = .int .i64 i ∧ Aside0 (kq + i = l1.length) ∧ Aside0 (runTo t (l1.drop i) st = p) ∧ Aside0 (wk th cl (l1.drop i) st fr = 0) ∧ Aside0 (w'.heap[gr]? = some (.cells #[.int .i64 th, .int .i64 cl] 28 (0, 0))) ∧ Aside0 (Below w0.heap.size w0 w') ∧ Aside0 (StI w0.heap.size gt gn [gr] w' t st))
  case atStart => exact ⟨0, 0, 0, rfl, rfl, rfl, rfl, ⟨rfl⟩, HP, HV, BR, HB3, HI3⟩
  case round =>
    obtain ⟨i, st, fr, rfl, rfl, rfl, rfl, HN, HQ, HW, BR', HB', HI'⟩ := hrel
    clear HI HI3 HB HB3 BR HP HV
    by_cases hi : i < l1.length
    · obtain ⟨k1, rfl⟩ : ∃ k1, gk = k1 + 1 := ⟨gk - 1, by have := HN.out; omega⟩
      have hd := rd_drop l1 i hi
      obtain ⟨hm, hnb, hn2, her, hwk⟩ := wk_cons (hd ▸ HW.out)
      obtain ⟨ad, e, hx0, hx1⟩ := at_T35 HR1.out (i : Int) (by omega) (by omega)
      cases e
      have hQ' : (if (rd_T35 l1 (i : Int)).f1 ≤ t then runTo t (l1.drop (i + 1)) (nx st (rd_T35 l1 (i : Int)).f0).1 else st) = p := by have := HQ.out; rw [hd] at this; exact this
      rw [Int.toNat_natCast] at hx0 hx1
      generalize hx : rd_T35 l1 (i : Int) = x at *
      obtain ⟨x0, x1⟩ := x
      simp only at hm hnb hn2 her hwk hx0 hx1 hQ'
      replace hx0 := (HB'.out.cell (World.block_lt_of_cell? w0 _ hx0)).trans hx0
      replace hx1 := (HB'.out.cell (World.block_lt_of_cell? w0 _ hx1)).trans hx1
      obtain ⟨n, hn⟩ : ∃ n, (nx st x0).1 = n := ⟨_, rfl⟩
      have HN2 := Aside0.mk (show nx st x0 = (n, 0) from Prod.ext hn hn2)
      have HM := Aside0.mk (show machine_moment.f x1 = some true by rw [mom_some, hm])
      have HE := Aside0.mk (show machine_early.f th cl x0 x1 fr = some false by rw [erl_some, her])
      have HW1 := Aside0.mk (show wk th cl (l1.drop (i + 1)) n x1 = 0 by rw [← hn]; exact hwk)
      have HQ1 := Aside0.mk (show (if x1 ≤ t then runTo t (l1.drop (i + 1)) n else st) = p by rw [← hn]; exact hQ')
      have hlt : decide (x1 < fr) = false := decide_eq_false hnb
      have hit : decide ((i : Int) < (l1.length : Int)) = true := decide_eq_true (by omega)
      have hi1 : (i : Int) < (l1.length : Int) := by omega
      have hi0 : 0 ≤ (i : Int) := by omega
      have h512 : (l1.length : Int) ≤ 512 := by have := HL.out; omega
      clear hm hn2 her hwk hQ' hn hx hd hnb HQ HW
      go_wp2_with (first
        | ((with_reducible refine gate_dst (N := 11) rfl ?_); go_must (refine box_event ?hg (N := 11) ?hd (cs := #[.int .i64 0, .int .i64 0]) (t := 35) ?hr ?_; (case hd => rfl); (case hg => rfl); (case hr => first | (go_simp; done) | (go_simp; rfl)); intro ga hg w11 hbox hb; have HG' := Aside0.mk hg; have BA := Aside0.mk hbox; have BR1 := Aside0.mk (blk_below BR'.out hb); have HB1 := Aside0.mk (below_then HB'.out HB'.out.size hb); have HI1 := Aside0.mk (HI'.out.more' hg hb); have HGA := Aside0.mk (show w0.heap.size ≤ ga from hg ▸ HB'.out.size); have hne : gr ≠ ga := (by rw [hg]; exact Nat.ne_of_lt (blk_lt BR'.out)); have hne' : ga ≠ gr := fun e => hne e.symm; have hz0 := (blk_cell BA.out 0).trans rfl; have hz1 := (blk_cell BA.out 1).trans rfl; have hf0 := blk_frozen BA.out 0; have hf1 := blk_frozen BA.out 1; clear hbox hb hg; have hr0 := (blk_cell BR1.out 0).trans rfl; have hr1 := (blk_cell BR1.out 1).trans rfl))
        | (go_at_call 11; go_must (refine (next_any st x0 n 0 HN2.out _).mono ?_; rintro e w' ⟨rfl, ⟨nd, rfl⟩⟩))
        | (go_at_call 29; go_must (refine (machine_moment.calls x1 true _ HM.out).mono ?_; rintro e w' ⟨rfl, ⟨nd2, rfl⟩⟩))
        | (go_at_call 37; go_must (refine (machine_early.calls th cl x0 x1 fr false _ HE.out).mono ?_; rintro e w26 ⟨rfl, hb⟩; have hba := blk_below (g := ga) (o := .cells #[.int .i64 x0, .int .i64 x1] 35 (0, 0)) (by (with_reducible repeat refine blk_drewN ?_ _); refine blk_put (cs := #[.int .i64 x0, .int .i64 0]) ?_ 1 _ rfl; (with_reducible repeat refine blk_drewN ?_ _); refine blk_put (cs := #[.int .i64 0, .int .i64 0]) ?_ 0 _ rfl; exact BA.out) hb; have BR2 := Aside0.mk (blk_below (g := gr) (o := .cells #[.int .i64 th, .int .i64 cl] 28 (0, 0)) (by (with_reducible repeat (first | refine blk_drewN ?_ _ | refine blk_far ?_ hne _)); exact BR1.out) hb); have HB2 := Aside0.mk (below_then (B := w0.heap.size) (w := w0) (by (with_reducible repeat (first | apply pw_below_drewN | refine below_set ?_ HGA.out)); exact HB1.out) (by (with_reducible repeat (first | apply pw_below_drewN | refine below_set ?_ HGA.out)); exact (below_set (j := 1) (v := .int .i64 x1) (below_set (j := 0) (v := .int .i64 x0) HB1.out HGA.out) HGA.out).size) hb); have HI2 := Aside0.mk (StI.below (B := w0.heap.size) (gt := gt) (gn := gn) (Ls := [ga, gr]) (t := t) (st := st) (by (with_reducible repeat (first | refine StI.drewN ?_ _ | refine StI.set' ?_ List.mem_cons_self _ _)); exact HI1.out) hb); have BA2 := Aside0.mk hba; have hz0' := (blk_cell hba 0).trans rfl; have hz1' := (blk_cell hba 1).trans rfl; clear hba hb)))
      go_quiet (fail)
      by_cases ht : x1 ≤ t
      · have HT := Aside0.mk ht
        have HQ2 := Aside0.mk (show runTo t (l1.drop (i + 1)) n = p by have := HQ1.out; rwa [if_pos ht] at this)
        clear ht HQ1
        go_wp2_with (first | (go_at_call 30; go_must (refine (closure_yes n x0 x1 t st gt gn [ga, gr] w0 _ ?sB ?sI HT.out).mono ?_; (case sB => (with_reducible repeat apply pw_below_drewN); exact HB2.out); (case sI => (with_reducible repeat refine StI.drewN ?_ _); exact HI2.out); rintro e w27 ⟨rfl, hb7, hI7, hk7⟩; have HB7 := Aside0.mk hb7; have HI7 := Aside0.mk hI7; have BR7 := Aside0.mk (hk7 gr (List.mem_cons_of_mem _ List.mem_cons_self) _ (blk_drewN BR2.out _)); clear hb7 hI7 hk7)))
        go_roundg k1
        case measure => have := HN.out; omega
        case rel => exact ⟨i + 1, n, x1, rfl, rfl, rfl, by go_num, ⟨by have := HN.out; omega⟩, HQ2, HW1, BR7, HB7, ⟨HI7.out.less⟩⟩
      · have HT := Aside0.mk (show t < x1 by omega)
        have HQ2 := Aside0.mk (show st = p by have := HQ1.out; rwa [if_neg ht] at this)
        clear ht HQ1
        go_wp2_with (first | (go_at_call 30; go_must (refine (closure_no n x0 x1 t st gt gn [ga, gr] w0 _ ?sB ?sI HT.out).mono ?_; (case sB => (with_reducible repeat apply pw_below_drewN); exact HB2.out); (case sI => (with_reducible repeat refine StI.drewN ?_ _); exact HI2.out); rintro e w27 ⟨rfl, hb7, hI7, hk7⟩; have HB7 := Aside0.mk hb7; have HI7 := Aside0.mk hI7; have BR7 := Aside0.mk (hk7 gr (List.mem_cons_of_mem _ List.mem_cons_self) _ (blk_drewN BR2.out _)); clear hb7 hI7 hk7)))
        try simp only [Exit.noGoto]
        go_ret
        refine ⟨rfl, HB7.out, ?_⟩
        rw [← HQ2.out]
        exact HI7.out.less.less
    · have hit : decide (i < l1.length) = false := decide_eq_false (by omega)
      have hQ' : st = p := by have := HQ.out; rw [List.drop_eq_nil_of_le (by omega)] at this; exact this
      have HQ1 := Aside0.mk hQ'
      have HI1 := Aside0.mk hi
      clear hQ' hi HQ
      go_wp2
      try simp only [Exit.noGoto]
      go_ret
      refine ⟨rfl, HB'.out, ?_⟩
      rw [← HQ1.out]
      exact HI'.out.less

set_option maxHeartbeats 4000000 in
set_option maxRecDepth 100000 in
theorem State_bad (k : Nat) (th cl : Int) (A1 : Option Addr) (c1 : Nat) (l1 : List S35) (a2 : Int) (er : Int) (w : World) (hr1 : Kd.C k35 w A1 l1.length l1) (hc1 : l1.length ≤ c1) (he : machine_Check.f k th cl l1 = some er) (h0 : er ≠ 0) :
    Calls Try.prog 16 #[.agg #[.int .i64 th, .int .i64 cl], .slice A1 l1.length c1, .int .i64 a2] w fun e w' => e = .returned (.tuple #[.int .i64 0, .int .i64 er]) ∧ Below w.heap.size w w' := by
  have HR1 := Aside0.mk hr1
  have HC1 := Aside0.mk hc1
  have HE := Aside0.mk he
  clear hr1 hc1 he
  have c0b : (er == 0) = false := beq_eq_false_iff_ne.mpr h0
  have c0c : (er != 0) = true := bne_iff_ne.mpr h0
  clear h0
  go_enter Try.func16, Try.ntmps16
  go_wp2_with (first | ((with_reducible refine gate_dst (N := 3) rfl ?_); go_must (refine box_event ?hg (N := 3) ?hd (cs := #[.int .i64 th, .int .i64 cl]) (t := 28) ?hr ?_; (case hd => rfl); (case hg => rfl); (case hr => first | (go_simp; done) | (go_simp; rfl)); intro gr hg w3 hbox hb; have BR := Aside0.mk hbox; have HB := Aside0.mk hb; clear hbox hb hg)) | ((with_reducible refine gate_dst (N := 5) rfl ?_); go_must (refine box_event ?hg (N := 5) ?hd (cs := #[.int .i64 a2]) (t := 3) ?hr ?_; (case hd => rfl); (case hg => rfl); (case hr => first | (go_simp; done) | (go_simp; rfl)); intro gt hg w5 hbox hb; have BT := Aside0.mk hbox; have BR5 := Aside0.mk (blk_below BR.out hb); have HB5 := Aside0.mk (below_step HB.out hb); have HGT := Aside0.mk (show w.heap.size ≤ gt from hg ▸ HB.out.size); have hr0 := (blk_cell BR5.out 0).trans rfl; have hr1 := (blk_cell BR5.out 1).trans rfl; clear hbox hb hg)) | (go_at_call 14; go_must (refine (machine_Check.calls k th cl _ c1 l1 er _ (Kd.C_below HR1.out HB5.out) HC1.out HE.out).mono ?_; rintro e_ w6 ⟨rfl, hb⟩; have BR6 := Aside0.mk (blk_below BR5.out hb); have BT6 := Aside0.mk (blk_below BT.out hb); have HB6 := Aside0.mk (below_step HB5.out hb); have ht0 := (blk_cell BT6.out 0).trans rfl; have hq0 := (blk_cell BR6.out 0).trans rfl; have hq1 := (blk_cell BR6.out 1).trans rfl; clear hb)))
  go_ret2
  exact ⟨rfl, HB6.out⟩
set_option maxHeartbeats 4000000 in
set_option maxRecDepth 100000 in
theorem State_off (k : Nat) (th cl : Int) (A1 : Option Addr) (c1 : Nat) (l1 : List S35) (a2 : Int) (w : World) (hr1 : Kd.C k35 w A1 l1.length l1) (hc1 : l1.length ≤ c1) (he : machine_Check.f k th cl l1 = some 0) (h0 : mom a2 = false) :
    Calls Try.prog 16 #[.agg #[.int .i64 th, .int .i64 cl], .slice A1 l1.length c1, .int .i64 a2] w fun e w' => e = .returned (.tuple #[.int .i64 0, .int .i64 1]) ∧ Below w.heap.size w w' := by
  have HR1 := Aside0.mk hr1
  have HC1 := Aside0.mk hc1
  have HE := Aside0.mk he
  clear hr1 hc1 he
  have HM := Aside0.mk (show machine_moment.f a2 = some false by rw [mom_some, h0])
  clear h0
  go_enter Try.func16, Try.ntmps16
  go_wp2_with (first | ((with_reducible refine gate_dst (N := 3) rfl ?_); go_must (refine box_event ?hg (N := 3) ?hd (cs := #[.int .i64 th, .int .i64 cl]) (t := 28) ?hr ?_; (case hd => rfl); (case hg => rfl); (case hr => first | (go_simp; done) | (go_simp; rfl)); intro gr hg w3 hbox hb; have BR := Aside0.mk hbox; have HB := Aside0.mk hb; clear hbox hb hg)) | ((with_reducible refine gate_dst (N := 5) rfl ?_); go_must (refine box_event ?hg (N := 5) ?hd (cs := #[.int .i64 a2]) (t := 3) ?hr ?_; (case hd => rfl); (case hg => rfl); (case hr => first | (go_simp; done) | (go_simp; rfl)); intro gt hg w5 hbox hb; have BT := Aside0.mk hbox; have BR5 := Aside0.mk (blk_below BR.out hb); have HB5 := Aside0.mk (below_step HB.out hb); have HGT := Aside0.mk (show w.heap.size ≤ gt from hg ▸ HB.out.size); have hr0 := (blk_cell BR5.out 0).trans rfl; have hr1 := (blk_cell BR5.out 1).trans rfl; clear hbox hb hg)) | (go_at_call 14; go_must (refine (machine_Check.calls k th cl _ c1 l1 0 _ (Kd.C_below HR1.out HB5.out) HC1.out HE.out).mono ?_; rintro e_ w6 ⟨rfl, hb⟩; have BR6 := Aside0.mk (blk_below BR5.out hb); have BT6 := Aside0.mk (blk_below BT.out hb); have HB6 := Aside0.mk (below_step HB5.out hb); have ht0 := (blk_cell BT6.out 0).trans rfl; have hq0 := (blk_cell BR6.out 0).trans rfl; have hq1 := (blk_cell BR6.out 1).trans rfl; clear hb)) | (go_at_call 29; go_must (refine (machine_moment.calls a2 false _ HM.out).mono ?_; rintro e_ w' ⟨rfl, ⟨nd, rfl⟩⟩; skip)))
  go_ret2
  exact ⟨rfl, pw_below_drewN HB6.out _⟩
set_option maxHeartbeats 4000000 in
set_option maxRecDepth 100000 in
theorem State_ok (k : Nat) (th cl : Int) (A1 : Option Addr) (c1 : Nat) (l1 : List S35) (a2 : Int) (w : World) (hr1 : Kd.C k35 w A1 l1.length l1) (hc1 : l1.length ≤ c1) (he : machine_Check.f k th cl l1 = some 0) (h0 : mom a2 = true) (hl : l1.length ≤ 512) (hw : wk th cl l1 0 0 = 0) :
    Calls Try.prog 16 #[.agg #[.int .i64 th, .int .i64 cl], .slice A1 l1.length c1, .int .i64 a2] w fun e w' => e = .returned (.tuple #[.int .i64 (runTo a2 l1 0), .int .i64 0]) ∧ Below w.heap.size w w' := by
  have HR1 := Aside0.mk hr1
  have HC1 := Aside0.mk hc1
  have HE := Aside0.mk he
  clear hr1 hc1 he
  have HM := Aside0.mk (show machine_moment.f a2 = some true by rw [mom_some, h0])
  have HL := Aside0.mk hl
  have HW := Aside0.mk hw
  clear h0 hl hw
  go_enter Try.func16, Try.ntmps16
  go_wp2_with (first | ((with_reducible refine gate_dst (N := 3) rfl ?_); go_must (refine box_event ?hg (N := 3) ?hd (cs := #[.int .i64 th, .int .i64 cl]) (t := 28) ?hr ?_; (case hd => rfl); (case hg => rfl); (case hr => first | (go_simp; done) | (go_simp; rfl)); intro gr hg w3 hbox hb; have BR := Aside0.mk hbox; have HB := Aside0.mk hb; clear hbox hb hg)) | ((with_reducible refine gate_dst (N := 5) rfl ?_); go_must (refine box_event ?hg (N := 5) ?hd (cs := #[.int .i64 a2]) (t := 3) ?hr ?_; (case hd => rfl); (case hg => rfl); (case hr => first | (go_simp; done) | (go_simp; rfl)); intro gt hg w5 hbox hb; have BT := Aside0.mk hbox; have BR5 := Aside0.mk (blk_below BR.out hb); have HB5 := Aside0.mk (below_step HB.out hb); have HGT := Aside0.mk (show w.heap.size ≤ gt from hg ▸ HB.out.size); have hr0 := (blk_cell BR5.out 0).trans rfl; have hr1 := (blk_cell BR5.out 1).trans rfl; clear hbox hb hg)) | (go_at_call 14; go_must (refine (machine_Check.calls k th cl _ c1 l1 0 _ (Kd.C_below HR1.out HB5.out) HC1.out HE.out).mono ?_; rintro e_ w6 ⟨rfl, hb⟩; have BR6 := Aside0.mk (blk_below BR5.out hb); have BT6 := Aside0.mk (blk_below BT.out hb); have HB6 := Aside0.mk (below_step HB5.out hb); have ht0 := (blk_cell BT6.out 0).trans rfl; have hq0 := (blk_cell BR6.out 0).trans rfl; have hq1 := (blk_cell BR6.out 1).trans rfl; clear hb)) | (go_at_call 29; go_must (refine (machine_moment.calls a2 true _ HM.out).mono ?_; rintro e_ w' ⟨rfl, ⟨nd, rfl⟩⟩; skip)) | ((with_reducible refine gate_dst (N := 9) rfl ?_); go_must (refine box_event ?hg (N := 9) ?hd (cs := #[.int .i64 0]) (t := 3) ?hr ?_; (case hd => rfl); (case hg => rfl); (case hr => first | (go_simp; done) | (go_simp; rfl)); intro gn hg w9 hbox hb; have BN := Aside0.mk hbox; have HG9 := Aside0.mk hg; have BR9 := Aside0.mk (blk_below (blk_drewN BR6.out _) hb); have BT9 := Aside0.mk (blk_below (blk_drewN BT6.out _) hb); have HB9 := Aside0.mk (below_step (pw_below_drewN HB6.out _) hb); have HGN := Aside0.mk (show w.heap.size ≤ gn from hg ▸ (pw_below_drewN HB6.out _).size); have hn1 : gr ≠ gn := (by rw [hg]; exact Nat.ne_of_lt (blk_lt (blk_drewN BR6.out _))); have hn1' : gn ≠ gr := (fun e => hn1 e.symm); have hn2 : gt ≠ gn := (by rw [hg]; exact Nat.ne_of_lt (blk_lt (blk_drewN BT6.out _))); have hn2' : gn ≠ gt := (fun e => hn2 e.symm); have hz0 := (blk_cell BN.out 0).trans rfl; have hf0 := blk_frozen BN.out 0; have hp0 := (blk_cell BR9.out 0).trans rfl; have hp1 := (blk_cell BR9.out 1).trans rfl; clear hbox hb hg)) | (go_at_call 27; go_must (refine (walkT_calls th cl a2 _ c1 l1 _ gt gn w _ (below_set HB9.out HGN.out) (show StI w.heap.size gt gn [] _ a2 0 from ⟨blk_far BT9.out hn2 _, blk_put BN.out 0 _ rfl, hn2, List.not_mem_nil, List.not_mem_nil, HGN.out⟩) HR1.out HC1.out HL.out HW.out rfl).mono ?_; rintro e_ w12 ⟨rfl, hb, hI⟩; have HB12 := Aside0.mk hb; have hm12 := (blk_cell hI.2.1 0).trans rfl; clear hb hI)))
  go_ret2
  exact ⟨rfl, HB12.out⟩
/-- What State answers behind Check. -/
def sto (e : Int) (l : List S35) (t : Int) : Int × Int := if e = 0 then (if mom t = true then (runTo t l 0, 0) else (0, 1)) else (0, e)
def machine_State.f (k : Nat) (a0_0 : Int) (a0_1 : Int) (l1 : List (S35)) (a2 : Int) : Option (Int × Int) := (machine_Check.f k a0_0 a0_1 l1).bind fun e => some (sto e l1 a2)
theorem machine_State.mono : ∀ a0 a1 a2 a3 k, LeO (machine_State.f k a0 a1 a2 a3) (machine_State.f (k + 1) a0 a1 a2 a3) := by
  intro a0 a1 a2 a3 k
  unfold machine_State.f
  exact LeO.bind (machine_Check.mono _ _ _ _) (fun _ => LeO.refl _)
theorem machine_State.calls (k : Nat) (a0_0 : Int) (a0_1 : Int) (A1 : Option Addr) (c1 : Nat) (l1 : List (S35)) (a2 : Int) (r1 : Int) (r2 : Int) (w : World) (hr1 : Kd.C k35 w A1 l1.length l1) (hc1 : l1.length ≤ c1) (h : machine_State.f k a0_0 a0_1 l1 a2 = some (r1, r2)) :
    Calls Try.prog 16 #[.agg #[.int .i64 a0_0, .int .i64 a0_1], .slice A1 l1.length c1, .int .i64 a2] w fun e w' => e = .returned (.tuple #[.int .i64 r1, .int .i64 r2]) ∧ Below w.heap.size w w' := by
  unfold machine_State.f at h
  obtain ⟨e, he, h⟩ := Option.bind_eq_some_iff.mp h
  replace h := Option.some.inj h
  unfold sto at h
  by_cases h0 : e = 0
  · rw [if_pos h0] at h
    subst h0
    obtain ⟨_, _, _, _, hl, hw⟩ := chk_zero (chk_of he).symm
    by_cases h1 : mom a2 = true
    · rw [if_pos h1] at h
      cases h
      exact State_ok k a0_0 a0_1 A1 c1 l1 a2 w hr1 hc1 he h1 hl hw
    · rw [if_neg h1] at h
      cases h
      exact State_off k a0_0 a0_1 A1 c1 l1 a2 w hr1 hc1 he (by simpa using h1)
  · rw [if_neg h0] at h
    cases h
    exact State_bad k a0_0 a0_1 A1 c1 l1 a2 _ w hr1 hc1 he h0

end Go.Proofs.Ytoncjfgklaldnaa.PX
