/- The stretches of a course: the iterator. No condition. -/
import Derived.Test.YtebifddfgimnlaaProg
import Derived.RangeFuncNested
import Derived.RangeFuncBound
import Derived.RangeFuncCalls
import Derived.RangeFuncLeaves
import Derived.RangeFuncBox
import Derived.Shelf.Abstract
import Derived.Shelf.AbstractIn
import Derived.Shelf.RegionOpen
import Derived.WalkKit
import Derived.OwnWalkIn
import Derived.TacticsInMore
import Derived.LoopNIn
import Derived.LoopIn
import Derived.Deep.RegionHeld3
import Derived.Test.YtebifddfgimnlaaP3
import Derived.Test.YtebifddfgimnlaaWLast
import Derived.Deep.DeepMust
import Derived.BigRegion
import Derived.StillTailTactics
import Derived.BigQuiet
import Derived.Deep.QuietTactic
import Derived.Deep.DeepCutAuto
import Derived.Laws.EntriesVeiled
import Derived.Deep.RegionLaw
section
/- A round of a range over a function: what a list of operations does outside a round it does inside one, where no operation is a defer. -/
namespace Go.Proofs.Ytebifddfgimnlaa.Rd
open Go.RowKit
/-- The operation is no defer. -/
def noDefer (o : Oper) : Bool := match o.op with | .defer _ => false | _ => true
theorem semAt_noDefer {o : Oper} (h : noDefer o = true) (ro : Option Nat) (ρ : Operand → Value) : Oper.semAt ro ρ o = execOp ρ o := by
  cases ro with
  | none => rfl
  | some l =>
    refine Oper.semAt_some l ρ o (fun c hc => ?_)
    unfold noDefer at h
    rw [hc] at h
    cases h
/-- A fence that lets all functions by, without a bound on the frames, in a round or not. -/
abbrev wideAt (ro : Option Nat) : Fence := { Fence.wide with round := ro }
theorem rowsIn_wide {n : Nat} {P : Program} {ro : Option Nat} {row : String} {args : Array Value} {w : World} {R : Value → World → Prop} (h : Rows P row args w R) : RowsIn (wideAt ro) n P row args w R := by
  intro c cs _
  obtain ⟨v, w', r, s⟩ := h c cs
  exact ⟨v, w', r, stepsIn_wide.2 s⟩
theorem callsIn_at {n : Nat} {P : Program} {ro : Option Nat} {f : FuncId} {args : Array Value} {w : World} {R : Ending → World → Prop} (h : Calls P f args w R) : CallsIn (wideAt ro) n P f args w R := (callsIn_wide (n := n)).2 h
theorem operIn {P : Program} {o : Oper} {a : Act} {w : World} {next next' : Act → World → Prop} {Q : Exit → Act → World → Prop} (ro : Option Nat) (n : Nat) (hd : noDefer o = true) (hn : ∀ a w, next a w → next' a w) (h : o.wp P a w next Q) : o.wpIn (wideAt ro) n P a w next' Q := by
  refine ⟨fun _ _ => trivial, ?_⟩
  unfold Oper.wp at h
  rw [semAt_noDefer hd]
  generalize (execOp a.eval o).run P w = r at h
  cases r with
  | ok nx w' =>
    cases nx with
    | value v => exact hn _ _ h
    | skip => exact hn _ _ h
    | defer d => exact hn _ _ h
    | enter f args =>
      have h1 : Calls P f args w' _ := h
      refine ⟨fun h_ => (by cases h_), callsIn_at (h1.mono (fun e w2 h2 => ?_))⟩
      cases e with
      | returned v => exact hn _ _ h2
      | panicked c => exact h2
      | outgrown => exact h2
    | row r args =>
      have h1 : Rows P r args w' _ := h
      exact ⟨fun h_ => (by cases h_), rowsIn_wide (h1.mono (fun v w2 h2 => hn _ _ h2))⟩
    | _ => exact (h : False).elim
  | halt x w' =>
    cases x with
    | panic v => exact h
    | _ => exact (h : False).elim
theorem listIn {P : Program} {ops : Array Oper} {Q : Exit → Act → World → Prop} (ro : Option Nat) (n : Nat) (hno : ¬ LetsOut Q) : ∀ (l : List Oper) (a : Act) (w : World), l.all noDefer = true → wpList P ops Q l a w → wpListIn (wideAt ro) n P ops Q l a w := by
  intro l
  induction l with
  | nil => intro a w _ h; exact h
  | cons o l ih =>
    intro a w hd h
    rw [List.all_cons, Bool.and_eq_true] at hd
    unfold wpList at h
    unfold wpListIn
    split
    · rename_i hw
      rw [if_pos hw] at h
      rcases h with h | h
      · exact operIn ro n hd.1 (fun a w h2 => ih a w hd.2 h2) h
      · exact absurd h.2 hno
    · rename_i hw
      rw [if_neg hw] at h
      exact ⟨fun _ _ => trivial, ih _ _ hd.2 h⟩
/-- An operation is taken first, its own words known before all else. -/
theorem tk_ {P : Program} {ops : Array Oper} {Q : Exit → Act → World → Prop} {md : Region.Mode} {S : World → Prop} {i : Nat} {oi : Oper} {fuel : Nat} {listed : Array Bool} {a : Act} {w : World} (hi : ops[i]? = some oi)
    (h : Region.noSelect ops = true ∧ Region.free md ops listed i = true ∧ (Region.ready md ops listed).contains i = true ∧ (∀ (v : Value) (c : _) (a : Act) (w : World), Q (.panic c) (a.put oi.dst v) w → Q (.panic c) a w) ∧ ∃ v, YieldsIf P ops S oi v a ∧ S w ∧ wpAnyH P md ops Q S fuel (listed.setIfInBounds i true) (a.put oi.dst v) w) : wpAnyH P md ops Q S (fuel + 1) listed a w := by
  obtain ⟨h1, h2, h3, h4, v, h5, h6, h7⟩ := h
  exact wpAnyH_take hi h1 h2 h3 (h4 v) h5 h6 h7
end Go.Proofs.Ytebifddfgimnlaa.Rd
end
section
/- The attributes and the speed at a moment, told by folds. Plain law over the printed functions; lists of at most 1000. -/
namespace Go.Proofs.Ytebifddfgimnlaa.Rl
open Go.RowKit Go.Proofs.Ytebifddfgimnlaa.PX Go.Proofs.YtebifddfgimnlaaW.PrintWords Go.Proofs.YtebifddfgimnlaaW.PrintLast
set_option linter.unusedVariables false
set_option linter.unusedSimpArgs false
/-- A course. -/
structure Cs where
  th : Int
  cl : Int
  acts : List S50
  pac : List S52
  sw : List S54
  en : Int
/-- The state of the machine and the phase at a moment: the last phase that holds it. -/
def stP (t : Int) : List S77 → Int → Int × Int → Int × Int
  | [], _, r => r
  | p :: l, i, r => stP t l (i + 1) (if p.f1 ≤ t ∧ t < p.f2 then (p.f0, i) else r)
/-- The kind and the grade at a moment. -/
def swK (t : Int) : List S54 → Int × Int → Int × Int
  | [], r => r
  | x :: l, r => swK t l (if x.f0 > t then r else if wrap64 (t - x.f0) < x.f2 then (2, x.f1) else (1, x.f1))
def spP (t : Int) : List S52 → Int → Int
  | [], r => r
  | p :: l, r => spP t l (if p.f0 ≤ t then p.f1 else r)
/-- The attributes: kind, grade, phase; and whether paper is made. -/
def atr (c : Cs) (P : List S77) (t : Int) : S45 × Bool :=
  let s := stP t P 0 (0, 0)
  let g := swK t c.sw (3, -1)
  (⟨0, 0, if s.1 = 1 then 3 else g.1, g.2, s.2⟩, if s.1 = 1 then true else s.1 == 2)
def spd (c : Cs) (t : Int) : Int := spP t c.pac 0
theorem wrap_i {i n : Nat} (h : i ≤ n) (hn : n ≤ 1000) : wrap64 ((i : Int) + 1) = ((i + 1 : Nat) : Int) := by unfold wrap64; omega
theorem drop77 (l : List S77) (i : Nat) (h : i < l.length) : l.drop i = rd_T77 l i :: l.drop (i + 1) := by
  rw [List.drop_eq_getElem_cons h]
  congr 1
  unfold rd_T77
  rw [Int.toNat_natCast, List.getD_eq_getElem?_getD, List.getElem?_eq_getElem h]
  rfl
theorem drop54 (l : List S54) (i : Nat) (h : i < l.length) : l.drop i = rd_T54 l i :: l.drop (i + 1) := by
  rw [List.drop_eq_getElem_cons h]
  congr 1
  unfold rd_T54
  rw [Int.toNat_natCast, List.getD_eq_getElem?_getD, List.getElem?_eq_getElem h]
  rfl
theorem drop52 (l : List S52) (i : Nat) (h : i < l.length) : l.drop i = rd_T52 l i :: l.drop (i + 1) := by
  rw [List.drop_eq_getElem_cons h]
  congr 1
  unfold rd_T52
  rw [Int.toNat_natCast, List.getD_eq_getElem?_getD, List.getElem?_eq_getElem h]
  rfl
theorem at_l1 (t st a b ph : Int) (l : List S54) (hl : l.length ≤ 1000) : ∀ (d i k : Nat) (kd gr : Int), i + d = l.length →
    course_attributes.l1 (k + d + 1) t st l (l.length : Int) (i : Int) a b kd gr ph = some (a, b, if st = 1 then 3 else (swK t (l.drop i) (kd, gr)).1, (swK t (l.drop i) (kd, gr)).2, ph, if st = 1 then true else st == 2) := by
  intro d
  induction d with
  | zero =>
    intro i k kd gr h
    rw [show i = l.length by omega, List.drop_length]
    unfold course_attributes.l1
    rw [if_neg (by omega)]
    unfold swK
    by_cases c : st = 1
    · rw [if_pos c, if_pos c, if_pos c]
    · rw [if_neg c, if_neg c, if_neg c]
  | succ d ih =>
    intro i k kd gr h
    rw [drop54 l i (by omega), show k + (d + 1) + 1 = (k + d + 1) + 1 by omega]
    unfold course_attributes.l1
    rw [if_pos (by omega), if_pos (by omega), if_pos (by omega), wrap_i (by omega) hl]
    unfold swK
    by_cases c1 : (rd_T54 l (i : Int)).f0 > t
    · rw [if_pos c1, if_pos c1]
      exact ih (i + 1) k kd gr (by omega)
    · rw [if_neg c1, if_neg c1]
      by_cases c2 : wrap64 (t - (rd_T54 l (i : Int)).f0) < (rd_T54 l (i : Int)).f2
      · rw [if_pos c2, if_pos c2]
        exact ih (i + 1) k 2 _ (by omega)
      · rw [if_neg c2, if_neg c2]
        exact ih (i + 1) k 1 _ (by omega)
theorem at_l0 (t a b : Int) (l : List S77) (sw : List S54) (x0 x1 : Int) (x2 : List S50) (x3 : List S52) (x5 : Int) (hl : l.length ≤ 1000) (hs : sw.length ≤ 1000) : ∀ (d i k : Nat) (st ph : Int), i + d = l.length →
    course_attributes.l0 (k + sw.length + 1 + d + 1) t st l (l.length : Int) (i : Int) x0 x1 x2 x3 sw x5 a b 3 (-1) ph =
      some (a, b, if (stP t (l.drop i) i (st, ph)).1 = 1 then 3 else (swK t sw (3, -1)).1, (swK t sw (3, -1)).2, (stP t (l.drop i) i (st, ph)).2, if (stP t (l.drop i) i (st, ph)).1 = 1 then true else (stP t (l.drop i) i (st, ph)).1 == 2) := by
  intro d
  induction d with
  | zero =>
    intro i k st ph h
    rw [show i = l.length by omega, List.drop_length]
    unfold course_attributes.l0
    rw [if_neg (by omega)]
    unfold stP
    exact at_l1 t st a b ph sw hs sw.length 0 k 3 (-1) (by omega)
  | succ d ih =>
    intro i k st ph h
    rw [drop77 l i (by omega), show k + sw.length + 1 + (d + 1) + 1 = (k + sw.length + 1 + d + 1) + 1 by omega]
    unfold course_attributes.l0
    rw [if_pos (by omega), if_pos (by omega), if_pos (by omega), wrap_i (by omega) hl]
    by_cases c1 : (rd_T77 l (i : Int)).f1 ≤ t
    · rw [if_pos c1]
      by_cases c2 : t < (rd_T77 l (i : Int)).f2
      · rw [if_pos c2, show stP t (rd_T77 l (i : Int) :: l.drop (i + 1)) i (st, ph) = stP t (l.drop (i + 1)) ((i + 1 : Nat) : Int) ((rd_T77 l (i : Int)).f0, (i : Int)) from by rw [stP, if_pos ⟨c1, c2⟩]; rfl]
        exact ih (i + 1) k _ _ (by omega)
      · rw [if_neg c2, show stP t (rd_T77 l (i : Int) :: l.drop (i + 1)) i (st, ph) = stP t (l.drop (i + 1)) ((i + 1 : Nat) : Int) (st, ph) from by rw [stP, if_neg (fun h => c2 h.2)]; rfl]
        exact ih (i + 1) k _ _ (by omega)
    · rw [if_neg c1, show stP t (rd_T77 l (i : Int) :: l.drop (i + 1)) i (st, ph) = stP t (l.drop (i + 1)) ((i + 1 : Nat) : Int) (st, ph) from by rw [stP, if_neg (fun h => c1 h.1)]; rfl]
      exact ih (i + 1) k _ _ (by omega)
theorem atr_some (c : Cs) (P : List S77) (t : Int) (hl : P.length ≤ 1000) (hs : c.sw.length ≤ 1000) : ∃ k, course_attributes.f k c.th c.cl c.acts c.pac c.sw c.en P t = some ((atr c P t).1.f0, (atr c P t).1.f1, (atr c P t).1.f2, (atr c P t).1.f3, (atr c P t).1.f4, (atr c P t).2) :=
  ⟨_, at_l0 t 0 0 P c.sw c.th c.cl c.acts c.pac c.en hl hs P.length 0 0 0 0 (by omega)⟩
theorem sp_l0 (t : Int) (l : List S52) (hl : l.length ≤ 1000) : ∀ (d i k : Nat) (r : Int), i + d = l.length → course_speed.l0 (k + d + 1) t r l (l.length : Int) (i : Int) = some (spP t (l.drop i) r) := by
  intro d
  induction d with
  | zero =>
    intro i k r h
    rw [show i = l.length by omega, List.drop_length]
    unfold course_speed.l0
    rw [if_neg (by omega)]
    rfl
  | succ d ih =>
    intro i k r h
    rw [drop52 l i (by omega), show k + (d + 1) + 1 = (k + d + 1) + 1 by omega]
    unfold course_speed.l0
    rw [if_pos (by omega), if_pos (by omega), if_pos (by omega), wrap_i (by omega) hl]
    unfold spP
    by_cases c1 : (rd_T52 l (i : Int)).f0 ≤ t
    · rw [if_pos c1, if_pos c1]
      exact ih (i + 1) k _ (by omega)
    · rw [if_neg c1, if_neg c1]
      exact ih (i + 1) k _ (by omega)
theorem spd_some (c : Cs) (t : Int) (hl : c.pac.length ≤ 1000) : ∃ k, course_speed.f k c.th c.cl c.acts c.pac c.sw c.en t = some (spd c t) :=
  ⟨_, sp_l0 t c.pac hl c.pac.length 0 0 0 (by omega)⟩
end Go.Proofs.Ytebifddfgimnlaa.Rl
end
section
/- The stretches of a course: what the iterator yields. -/
namespace Go.Proofs.Ytebifddfgimnlaa.Rl
open Go.RowKit Go.Proofs.Ytebifddfgimnlaa.PX Go.Proofs.Ytebifddfgimnlaa.Rd Go.Proofs.YtebifddfgimnlaaW.PrintWords Go.Proofs.YtebifddfgimnlaaW.PrintLast
set_option linter.unusedVariables false
set_option linter.unusedSimpArgs false
/-- A stretch: moments, attributes, speed. -/
structure Str where
  fr : Int
  to_ : Int
  p : S45
  sp : Int
def encS (x : Str) : Array Value := #[.agg #[.int .i64 x.fr, .int .i64 x.to_, .int .i64 x.p.f0, .int .i64 x.p.f1, .int .i64 x.p.f2, .int .i64 x.p.f3, .int .i64 x.p.f4, .int .i64 x.sp]]
/-- What is made from one change to the next one. -/
def pcF (c : Cs) (P : List S77) (t t' : Int) : List Str := if (atr c P t).2 = true ∧ 0 < spd c t then [⟨t, t', (atr c P t).1, spd c t⟩] else []
def upS (c : Cs) (P : List S77) (ch : List Int) (k : Nat) : List Str := (List.range k).flatMap (fun i => pcF c P (ch.getD i 0) (ch.getD (i + 1) 0))
theorem upS_succ (c : Cs) (P : List S77) (ch : List Int) (k : Nat) : upS c P ch (k + 1) = upS c P ch k ++ pcF c P (ch.getD k 0) (ch.getD (k + 1) 0) := by simp [upS, List.range_succ]
theorem upS_pre (c : Cs) (P : List S77) (ch : List Int) (k d : Nat) : upS c P ch k <+: upS c P ch (k + d) := by
  induction d with
  | zero => exact List.prefix_refl _
  | succ d ih => rw [show k + (d + 1) = (k + d) + 1 by omega, upS_succ]; exact ih.trans (List.prefix_append _ _)
/-- A course in memory. -/
structure CsA where
  A2 : Option Addr
  c2 : Nat
  A3 : Option Addr
  c3 : Nat
  A4 : Option Addr
  c4 : Nat
def csV (c : Cs) (a : CsA) : Array Value := #[.int .i64 c.th, .int .i64 c.cl, .slice a.A2 c.acts.length a.c2, .slice a.A3 c.pac.length a.c3, .slice a.A4 c.sw.length a.c4, .int .i64 c.en]
def CsC (w : World) (c : Cs) (a : CsA) : Prop := Kd.C k50 w a.A2 c.acts.length c.acts ∧ c.acts.length ≤ a.c2 ∧ Kd.C k52 w a.A3 c.pac.length c.pac ∧ c.pac.length ≤ a.c3 ∧ Kd.C k54 w a.A4 c.sw.length c.sw ∧ c.sw.length ≤ a.c4
theorem CsC.below {w w' : World} {c : Cs} {a : CsA} (h : CsC w c a) (hb : Below w.heap.size w w') : CsC w' c a := ⟨Kd.C_below h.1 hb, h.2.1, Kd.C_below h.2.2.1 hb, h.2.2.2.1, Kd.C_below h.2.2.2.2.1 hb, h.2.2.2.2.2⟩
def PhC (w : World) (P : List S77) (A : Option Addr) (cp : Nat) : Prop := Kd.C k77 w A P.length P ∧ P.length ≤ cp
theorem PhC.below {w w' : World} {P : List S77} {A : Option Addr} {cp : Nat} (h : PhC w P A cp) (hb : Below w.heap.size w w') : PhC w' P A cp := ⟨Kd.C_below h.1 hb, h.2⟩
/-- What the closure of stretches has: the changes, the course, the phases. -/
def StC (w : World) (gh gc gp : Nat) (c : Cs) (a : CsA) (P : List S77) (Ap : Option Addr) (cp : Nat) (ch : List Int) (Ah : Option Addr) (chc : Nat) : Prop :=
  w.heap[gh]? = some (.cells #[.slice Ah ch.length chc] 29 (0, 0)) ∧ w.heap[gc]? = some (.cells (csV c a) 28 (0, 0)) ∧ w.heap[gp]? = some (.cells #[.slice Ap P.length cp] 55 (0, 0)) ∧
    CsC w c a ∧ PhC w P Ap cp ∧ Kd.C (Kd.int .i64) w Ah ch.length ch
theorem StC.below {w w' : World} {gh gc gp : Nat} {c : Cs} {a : CsA} {P : List S77} {Ap : Option Addr} {cp : Nat} {ch : List Int} {Ah : Option Addr} {chc : Nat} (h : StC w gh gc gp c a P Ap cp ch Ah chc) (hb : Below w.heap.size w w') : StC w' gh gc gp c a P Ap cp ch Ah chc :=
  ⟨blk_below h.1 hb, blk_below h.2.1 hb, blk_below h.2.2.1 hb, h.2.2.2.1.below hb, h.2.2.2.2.1.below hb, Kd.C_below h.2.2.2.2.2 hb⟩
theorem attr_calls (c : Cs) (a : CsA) (P : List S77) (Ap : Option Addr) (cp : Nat) (t : Int) (w : World) (hc : CsC w c a) (hp : PhC w P Ap cp) (hl : P.length ≤ 1000) (hs : c.sw.length ≤ 1000) :
    Calls Try.prog 17 #[.agg (csV c a), .slice Ap P.length cp, .int .i64 t] w fun e w' => e = .returned (.tuple #[.agg #[.int .i64 (atr c P t).1.f0, .int .i64 (atr c P t).1.f1, .int .i64 (atr c P t).1.f2, .int .i64 (atr c P t).1.f3, .int .i64 (atr c P t).1.f4], .bool (atr c P t).2]) ∧ Below w.heap.size w w' := by
  obtain ⟨k, hk⟩ := atr_some c P t hl hs
  exact course_attributes.calls k c.th c.cl a.A2 a.c2 c.acts a.A3 a.c3 c.pac a.A4 a.c4 c.sw c.en Ap cp P t _ _ _ _ _ _ w hc.1 hc.2.1 hc.2.2.1 hc.2.2.2.1 hc.2.2.2.2.1 hc.2.2.2.2.2 hp.1 hp.2 hk
theorem speed_calls (c : Cs) (a : CsA) (t : Int) (w : World) (hc : CsC w c a) (hl : c.pac.length ≤ 1000) :
    Calls Try.prog 25 #[.agg (csV c a), .int .i64 t] w fun e w' => e = .returned (.int .i64 (spd c t)) ∧ Below w.heap.size w w' := by
  obtain ⟨k, hk⟩ := spd_some c t hl
  exact course_speed.calls k c.th c.cl a.A2 a.c2 c.acts a.A3 a.c3 c.pac a.A4 a.c4 c.sw c.en t _ w hc.1 hc.2.1 hc.2.2.1 hc.2.2.2.1 hc.2.2.2.2.1 hc.2.2.2.2.2 hk
theorem key_at {w : World} {A : Option Addr} {l : List Int} (h : Kd.C (Kd.int .i64) w A l.length l) (i : Nat) (hi : i < l.length) : ∃ ad, A = some ad ∧ w.cell? (ad.add i) = some (.int .i64 (l.getD i 0)) := by
  obtain ⟨ad, c, e, _, hK, hc0⟩ := Kd.C_get h 0 (i : Int) (by omega) (by omega)
  have hK : c = [.int .i64 (l.getD ((i : Int).toNat) 0)] := hK
  subst hK
  simp only [Int.toNat_natCast] at hc0
  have h0 := hc0 0 _ rfl
  have h0 : w.cell? (ad.add (i * 1)) = some (.int .i64 (l.getD i 0)) := h0
  rw [Nat.mul_one] at h0
  exact ⟨ad, e, h0⟩
theorem put_five {w : World} {g t : Nat} {a b c d e a' b' c' d' e' : Value} (h : w.heap[g]? = some (.cells #[a, b, c, d, e] t (0, 0))) : (((((w.setCell ⟨g, 0, none⟩ a').setCell ⟨g, 1, none⟩ b').setCell ⟨g, 2, none⟩ c').setCell ⟨g, 3, none⟩ d').setCell ⟨g, 4, none⟩ e').heap[g]? = some (.cells #[a', b', c', d', e'] t (0, 0)) :=
  blk_put (blk_put (blk_put (blk_put (blk_put h 0 _ rfl) 1 _ rfl) 2 _ rfl) 3 _ rfl) 4 _ rfl
set_option maxHeartbeats 4000000 in
theorem put_eight {w : World} {g t : Nat} {a b c d e f i j a' b' c' d' e' f' i' j' : Value} (h : w.heap[g]? = some (.cells #[a, b, c, d, e, f, i, j] t (0, 0))) : ((((((((w.setCell ⟨g, 0, none⟩ a').setCell ⟨g, 1, none⟩ b').setCell ⟨g, 2, none⟩ c').setCell ⟨g, 3, none⟩ d').setCell ⟨g, 4, none⟩ e').setCell ⟨g, 5, none⟩ f').setCell ⟨g, 6, none⟩ i').setCell ⟨g, 7, none⟩ j').heap[g]? = some (.cells #[a', b', c', d', e', f', i', j'] t (0, 0)) := by
  have h0 : (w.setCell ⟨g, 0, none⟩ a').heap[g]? = some (.cells #[a', b, c, d, e, f, i, j] t (0, 0)) := blk_put h 0 _ rfl
  have h1 : ((w.setCell ⟨g, 0, none⟩ a').setCell ⟨g, 1, none⟩ b').heap[g]? = some (.cells #[a', b', c, d, e, f, i, j] t (0, 0)) := blk_put h0 1 _ rfl
  generalize (w.setCell ⟨g, 0, none⟩ a').setCell ⟨g, 1, none⟩ b' = w1 at h1 ⊢
  have h2 : (w1.setCell ⟨g, 2, none⟩ c').heap[g]? = some (.cells #[a', b', c', d, e, f, i, j] t (0, 0)) := blk_put h1 2 _ rfl
  have h3 : ((w1.setCell ⟨g, 2, none⟩ c').setCell ⟨g, 3, none⟩ d').heap[g]? = some (.cells #[a', b', c', d', e, f, i, j] t (0, 0)) := blk_put h2 3 _ rfl
  generalize (w1.setCell ⟨g, 2, none⟩ c').setCell ⟨g, 3, none⟩ d' = w2 at h3 ⊢
  have h4 : (w2.setCell ⟨g, 4, none⟩ e').heap[g]? = some (.cells #[a', b', c', d', e', f, i, j] t (0, 0)) := blk_put h3 4 _ rfl
  have h5 : ((w2.setCell ⟨g, 4, none⟩ e').setCell ⟨g, 5, none⟩ f').heap[g]? = some (.cells #[a', b', c', d', e', f', i, j] t (0, 0)) := blk_put h4 5 _ rfl
  generalize (w2.setCell ⟨g, 4, none⟩ e').setCell ⟨g, 5, none⟩ f' = w3 at h5 ⊢
  have h6 : (w3.setCell ⟨g, 6, none⟩ i').heap[g]? = some (.cells #[a', b', c', d', e', f', i', j] t (0, 0)) := blk_put h5 6 _ rfl
  exact blk_put h6 7 _ rfl
/-- What a round keeps that goes on: enough for the closure. -/
def KqOk (Kq : World → World → Prop) (w : World) (gh gc gp : Nat) (c : Cs) (a : CsA) (P : List S77) (Ap : Option Addr) (cp : Nat) (ch : List Int) (Ah : Option Addr) (chc : Nat) : Prop :=
  (∀ W', Kq w W' → StC W' gh gc gp c a P Ap cp ch Ah chc) ∧ (∀ {A B C}, Kq A B → Kq B C → Kq A C) ∧ (∀ {A B}, Below w.heap.size A B → Kq A B) ∧ (∀ {A B}, Kq A B → A.heap.size ≤ B.heap.size)
theorem grown_of {w w' : World} (h : Below w.heap.size w w') : w.grownBy w' none := ⟨h.os, h.tape, h.output, h.size, fun k hk _ => h.block k hk⟩
set_option maxHeartbeats 4000000 in
set_option maxRecDepth 100000 in
/-- stretches$1. -/
theorem str_in (n l : Nat) (w : World) (gh gc gp : Nat) (c : Cs) (a : CsA) (P : List S77) (Ap : Option Addr) (cp : Nat) (ch : List Int) (Ah : Option Addr) (chc : Nat) (hlp : P.length ≤ 1000) (hls : c.sw.length ≤ 1000) (hlq : c.pac.length ≤ 1000) (hlh : ch.length ≤ 1000) (h0h : 0 < ch.length) (hS : StC w gh gc gp c a P Ap cp ch Ah chc)
    (J Jx : List Str → World → Prop) (W : World) (hW : Below w.heap.size w W) (Kq : World → World → Prop) (hKq : KqOk Kq w gh gc gp c a P Ap cp ch Ah chc) (hJ : AbidesFrom W.heap.size J)
    (hY : ∀ pre x W1, J pre W1 → pre.length < (upS c P ch (ch.length - 1)).length → 0 < x.sp → YieldAt Fence.wide (n - 1) Try.prog l (encS x) W1 fun e W' =>
      (e = .returned (.bool true) ∧ J (pre ++ [x]) W' ∧ Kq W1 W') ∨ (e = .returned (.bool false) ∧ Jx (pre ++ [x]) W')) (h0 : J [] W) :
    CallsIn Fence.wide n Try.prog 24 #[.func (.yield l) #[] #[], .pointer (some ⟨gh, 0, none⟩), .pointer (some ⟨gc, 0, none⟩), .pointer (some ⟨gp, 0, none⟩)] W fun e W' => (∃ v, e = .returned v) ∧
      ((∃ ys, ys = upS c P ch (ch.length - 1) ∧ J ys W') ∨ (∃ pre, pre <+: upS c P ch (ch.length - 1) ∧ Jx pre W')) := by
  have HSW := Aside0.mk hS
  have HLP := Aside0.mk hlp
  have HLS := Aside0.mk hls
  have HLQ := Aside0.mk hlq
  have HLH := Aside0.mk (show ch.length ≤ 1000 ∧ 0 < ch.length from ⟨hlh, h0h⟩)
  have HY := Aside0.mk hY
  have HJ := Aside0.mk hJ
  have HKQ := Aside0.mk hKq
  have HW := Aside0.mk (hKq.2.2.1 hW)
  have HJ0 := Aside0.mk h0
  obtain ⟨m, hm⟩ : ∃ m, ch.length = m + 1 := ⟨ch.length - 1, by omega⟩
  have HM := Aside0.mk hm
  have HXS := Aside0.mk (show upS c P ch (ch.length - 1) = upS c P ch m from by rw [hm]; rfl)
  have f0 : W.cell? ⟨gh, 0, none⟩ = some (.slice Ah ch.length chc) := (blk_cell (HSW.out.below hW).1 0).trans rfl
  clear hS hlp hls hlq hlh h0h hY hJ hW h0 hm hKq
  refine callsIn_wide.2 ?_
  go_enter Try.func24, Try.ntmps24
  go_wp2
  clear f0
  go_loopg [5, 6, 7, 8, 9, 12] ch.length (fun kq v5 v6 v7 v8 v9 v12 wr => ∃ k : Nat, v12 = .int .i64 (k : Int) ∧ Aside0 (k ≤ m ∧ kq = ch.length - k) ∧ Aside0 (Kq w wr) ∧ Aside0 (J (upS c P ch k) wr) ∧ Aside0 (W.heap.size ≤ wr.heap.size))
  case atStart => exact ⟨0, rfl, ⟨by simp⟩, HW, HJ0, ⟨Nat.le_refl _⟩⟩
  case round =>
    clear HJ0
    obtain ⟨k, rfl, HI, HB, HJS, HSZ⟩ := hrel
    have HSR := Aside0.mk (HKQ.out.1 _ HB.out)
    have HS := Aside0.mk HSR.out
    have p1 := eq_true (show (k : Int) < (ch.length : Int) by have := HI.out; have := HM.out; omega)
    have p2 := eq_true (show k < ch.length by have := HI.out; have := HM.out; omega)
    have p3 : wrap64 ((k : Int) + 1) = ((k + 1 : Nat) : Int) := by have := HI.out; have := HM.out; have := HLH.out; unfold wrap64; omega
    have p4 : IntKind.i64.wrap ((k : Int) + 1) = ((k + 1 : Nat) : Int) := by rw [IntKind.wrap_i64]; have := HI.out; have := HM.out; have := HLH.out; omega
    have f0 : wr.cell? ⟨gh, 0, none⟩ = some (.slice Ah ch.length chc) := (blk_cell HS.out.1 0).trans rfl
    obtain ⟨ad, rfl, f1⟩ := key_at HS.out.2.2.2.2.2 k (by have := HI.out; have := HM.out; omega)
    obtain ⟨t, ht⟩ : ∃ t, ch.getD k 0 = t := ⟨_, rfl⟩
    have HT := Aside0.mk ht
    rw [ht] at f1
    clear ht
    by_cases hk : k = m
    · subst hk
      have d1 : (((k + 1 : Nat) : Int) == (ch.length : Int)) = true := by rw [HM.out]; simp
      go_wp2
      exact bodyPost_ret (results_none rfl _ _ _) rfl ⟨⟨_, rfl⟩, .inl ⟨_, rfl, by rw [HXS.out]; exact HJS.out⟩⟩
    · have HK := Aside0.mk (show k < m from by have := HI.out; omega)
      have d1 : (((k + 1 : Nat) : Int) == (ch.length : Int)) = false := by have := HM.out; rw [beq_eq_false_iff_ne]; omega
      have d2 : decide (k + 1 = ch.length) = false := decide_eq_false (by have := HM.out; omega)
      have d3 : (k + 1 == ch.length) = false := beq_eq_false_iff_ne.2 (by have := HM.out; omega)
      obtain ⟨q, hq⟩ : ∃ q, (atr c P t).1 = q := ⟨_, rfl⟩
      obtain ⟨md, hmd⟩ : ∃ md, (atr c P t).2 = md := ⟨_, rfl⟩
      have HQ := Aside0.mk (show atr c P t = (q, md) from by rw [← hq, ← hmd])
      have c0 : wr.cell? ⟨gp, 0, none⟩ = some (.slice Ap P.length cp) := (blk_cell HS.out.2.2.1 0).trans rfl
      have c1 : wr.cell? ⟨gc, 0, none⟩ = some (.int .i64 c.th) := (blk_cell HS.out.2.1 0).trans rfl
      have c2 : wr.cell? ⟨gc, 1, none⟩ = some (.int .i64 c.cl) := (blk_cell HS.out.2.1 1).trans rfl
      have c3 : wr.cell? ⟨gc, 2, none⟩ = some (.slice a.A2 c.acts.length a.c2) := (blk_cell HS.out.2.1 2).trans rfl
      have c4 : wr.cell? ⟨gc, 3, none⟩ = some (.slice a.A3 c.pac.length a.c3) := (blk_cell HS.out.2.1 3).trans rfl
      have c5 : wr.cell? ⟨gc, 4, none⟩ = some (.slice a.A4 c.sw.length a.c4) := (blk_cell HS.out.2.1 4).trans rfl
      have c6 : wr.cell? ⟨gc, 5, none⟩ = some (.int .i64 c.en) := (blk_cell HS.out.2.1 5).trans rfl
      clear hk hq hmd
      go_upto_region 5 with (first
        | (go_at_call 17; go_must (refine (attr_calls c a P Ap cp t _ HS.out.2.2.2.1 HS.out.2.2.2.2.1 HLP.out HLS.out).mono ?_; rw [HQ.out]; rintro e w2 ⟨rfl, hb⟩; have nHS := Aside0.mk (HS.out.below hb); have HB1 := Aside0.mk hb; clear HS hb; have HS := nHS; clear nHS))
        | ((with_reducible refine gate_dst (N := 7) rfl ?_); go_must (refine box_event ?hg (N := 7) ?hd (cs := #[.int .i64 0, .int .i64 0, .int .i64 0, .int .i64 0, .int .i64 0]) (t := 45) ?hr ?_; (case hd => rfl); (case hg => rfl); (case hr => first | (go_simp; done) | (go_simp; rfl)); intro g7 hg w3 hbox hb; have BK7 := Aside0.mk hbox; have HG7 := Aside0.mk (show wr.heap.size ≤ g7 from by rw [hg]; exact HB1.out.size); have nHS := Aside0.mk (HS.out.below hb); have nHB1 := Aside0.mk (below_step HB1.out hb); have y0 : w3.cell? ⟨g7, 0, none⟩ = some (.int .i64 0) := (blk_cell hbox 0).trans rfl; have z0 := blk_frozen hbox 0; have y1 : w3.cell? ⟨g7, 1, none⟩ = some (.int .i64 0) := (blk_cell hbox 1).trans rfl; have z1 := blk_frozen hbox 1; have y2 : w3.cell? ⟨g7, 2, none⟩ = some (.int .i64 0) := (blk_cell hbox 2).trans rfl; have z2 := blk_frozen hbox 2; have y3 : w3.cell? ⟨g7, 3, none⟩ = some (.int .i64 0) := (blk_cell hbox 3).trans rfl; have z3 := blk_frozen hbox 3; have y4 : w3.cell? ⟨g7, 4, none⟩ = some (.int .i64 0) := (blk_cell hbox 4).trans rfl; have z4 := blk_frozen hbox 4; clear HS; clear HB1; have HS := nHS; clear nHS; have HB1 := nHB1; clear nHB1; clear hbox hb hg))
        | ((with_reducible refine gate_store (t := 45) (p := 7) rfl ?_); go_must (refine store_event (t := 45) (p := 7) (v := ?vo_w4_7) (w1 := (((((w3.setCell ⟨g7, 0, none⟩ (.int .i64 q.f0)).setCell ⟨g7, 1, none⟩ (.int .i64 q.f1)).setCell ⟨g7, 2, none⟩ (.int .i64 q.f2)).setCell ⟨g7, 3, none⟩ (.int .i64 q.f3)).setCell ⟨g7, 4, none⟩ (.int .i64 q.f4))) ?hg ?ho ?hn ?hr ?_; (case ho => rfl); (case hg => rfl); (case hn => rfl); (case hr => first | (go_simp; done) | (go_simp; rfl)); intro w4 hw; have nBK7 := Aside0.mk (show w4.heap[g7]? = some (.cells #[.int .i64 q.f0, .int .i64 q.f1, .int .i64 q.f2, .int .i64 q.f3, .int .i64 q.f4] 45 (0, 0)) from (by rw [hw]; exact put_five BK7.out)); have nHB1 := Aside0.mk (show Below wr.heap.size wr w4 from (by rw [hw]; exact ((((HB1.out.setCell HG7.out _).setCell HG7.out _).setCell HG7.out _).setCell HG7.out _).setCell HG7.out _)); clear HS; have HS := Aside0.mk (HSR.out.below nHB1.out); clear BK7 HB1; have BK7 := nBK7; have HB1 := nHB1; clear nBK7 nHB1 hw y0 y1 y2 y3 y4 z0 z1 z2 z3 z4)))
      obtain ⟨t', ht'⟩ : ∃ t', ch.getD (k + 1) 0 = t' := ⟨_, rfl⟩
      have HT2 := Aside0.mk ht'
      have SB := Aside0.mk (show ∀ w', Below w4.heap.size w4 w' → ((fun w' => w'.cell? ⟨gh, 0, none⟩ = some (.slice (some ad) ch.length chc) ∧ w'.cell? ⟨ad.block, ad.off + (k + 1), none⟩ = some (.int .i64 t') ∧ w'.cell? ⟨g7, 0, none⟩ = some (.int .i64 q.f0) ∧ w'.cell? ⟨g7, 1, none⟩ = some (.int .i64 q.f1) ∧ w'.cell? ⟨g7, 2, none⟩ = some (.int .i64 q.f2) ∧ w'.cell? ⟨g7, 3, none⟩ = some (.int .i64 q.f3) ∧ w'.cell? ⟨g7, 4, none⟩ = some (.int .i64 q.f4) ∧ w'.cell? ⟨gc, 0, none⟩ = some (.int .i64 c.th) ∧ w'.cell? ⟨gc, 1, none⟩ = some (.int .i64 c.cl) ∧ w'.cell? ⟨gc, 2, none⟩ = some (.slice a.A2 c.acts.length a.c2) ∧ w'.cell? ⟨gc, 3, none⟩ = some (.slice a.A3 c.pac.length a.c3) ∧ w'.cell? ⟨gc, 4, none⟩ = some (.slice a.A4 c.sw.length a.c4) ∧ w'.cell? ⟨gc, 5, none⟩ = some (.int .i64 c.en)) : World → Prop) w' from fun w' hb => by
        have HS5 := HS.out.below hb
        obtain ⟨ad2, had, hx⟩ := key_at HS5.2.2.2.2.2 (k + 1) (by have := HK.out; have := HM.out; omega)
        obtain rfl := Option.some.inj had
        rw [ht'] at hx
        have hx : w'.cell? ⟨ad.block, ad.off + (k + 1), none⟩ = some (.int .i64 t') := by simpa [Addr.add] using hx
        have B7 := blk_below BK7.out hb
        exact ⟨(blk_cell HS5.1 0).trans rfl, hx, (blk_cell B7 0).trans rfl, (blk_cell B7 1).trans rfl, (blk_cell B7 2).trans rfl, (blk_cell B7 3).trans rfl, (blk_cell B7 4).trans rfl, (blk_cell HS5.2.1 0).trans rfl, (blk_cell HS5.2.1 1).trans rfl, (blk_cell HS5.2.1 2).trans rfl, (blk_cell HS5.2.1 3).trans rfl, (blk_cell HS5.2.1 4).trans rfl, (blk_cell HS5.2.1 5).trans rfl⟩)
      have p5 := eq_true (show (k : Int) + 1 < (ch.length : Int) by have := HK.out; have := HM.out; omega)
      have p6 := eq_true (show k + 1 < ch.length by have := HK.out; have := HM.out; omega)
      have p7 : wrap64 ((k : Int) + 1) = (k : Int) + 1 := p3
      have p8 : IntKind.i64.wrap ((k : Int) + 1) = (k : Int) + 1 := p4
      obtain ⟨sp, hsp⟩ : ∃ sp, spd c t = sp := ⟨_, rfl⟩
      have HSP := Aside0.mk hsp
      clear ht' hsp p3 p4 c0 c1 c2 c3 c4 c5 c6 f0 f1
      go_cut [9] from 29 to 40 (fun v9 wx => ∃ g9 : Nat, v9 = .pointer (some ⟨g9, 0, none⟩) ∧ Aside0 (wx.heap[g9]? = some (.cells #[.int .i64 t, .int .i64 t', .int .i64 q.f0, .int .i64 q.f1, .int .i64 q.f2, .int .i64 q.f3, .int .i64 q.f4, .int .i64 sp] 62 (0, 0)) ∧ Below wr.heap.size wr wx))
      case first =>
        refine wp_region_held_drew (S := (fun w' => w'.cell? ⟨gh, 0, none⟩ = some (.slice (some ad) ch.length chc) ∧ w'.cell? ⟨ad.block, ad.off + (k + 1), none⟩ = some (.int .i64 t') ∧ w'.cell? ⟨g7, 0, none⟩ = some (.int .i64 q.f0) ∧ w'.cell? ⟨g7, 1, none⟩ = some (.int .i64 q.f1) ∧ w'.cell? ⟨g7, 2, none⟩ = some (.int .i64 q.f2) ∧ w'.cell? ⟨g7, 3, none⟩ = some (.int .i64 q.f3) ∧ w'.cell? ⟨g7, 4, none⟩ = some (.int .i64 q.f4) ∧ w'.cell? ⟨gc, 0, none⟩ = some (.int .i64 c.th) ∧ w'.cell? ⟨gc, 1, none⟩ = some (.int .i64 c.cl) ∧ w'.cell? ⟨gc, 2, none⟩ = some (.slice a.A2 c.acts.length a.c2) ∧ w'.cell? ⟨gc, 3, none⟩ = some (.slice a.A3 c.pac.length a.c3) ∧ w'.cell? ⟨gc, 4, none⟩ = some (.slice a.A4 c.sw.length a.c4) ∧ w'.cell? ⟨gc, 5, none⟩ = some (.int .i64 c.en))) (by kernel_rfl) ?_ (fun hHeld => ?_)
        · exact SB.out _ (Below.refl _ _).drew
        refine' tk_ (i := 0) ?ho_0 ?more_0
        case ho_0 => simp only [List.getElem?_toArray, List.getElem?_cons_succ, List.getElem?_cons_zero]; rfl
        refine ⟨by kernel_rfl, by kernel_rfl, by kernel_rfl, fun _ _ _ _ h => h, ?v_0, Or.inl ⟨by rfl, ?hy_0⟩, by assumption, ?rest_0⟩
        case hy_0 => intro w hSw; (try dsimp only at hSw); (go_simp <;> rfl)
        simp only [Act.put, List.setIfInBounds_toArray, List.set_cons_zero, List.set_cons_succ]
        refine' tk_ (i := 1) ?ho_1 ?more_1
        case ho_1 => simp only [List.getElem?_toArray, List.getElem?_cons_succ, List.getElem?_cons_zero]; rfl
        refine ⟨by kernel_rfl, by kernel_rfl, by kernel_rfl, fun _ _ _ _ h => h, ?v_1, Or.inl ⟨by rfl, ?hy_1⟩, by assumption, ?rest_1⟩
        case hy_1 => intro w hSw; (try dsimp only at hSw); (go_simp <;> rfl)
        simp only [Act.put, List.setIfInBounds_toArray, List.set_cons_zero, List.set_cons_succ]
        refine' tk_ (i := 2) ?ho_2 ?more_2
        case ho_2 => simp only [List.getElem?_toArray, List.getElem?_cons_succ, List.getElem?_cons_zero]; rfl
        refine ⟨by kernel_rfl, by kernel_rfl, by kernel_rfl, fun _ _ _ _ h => h, ?v_2, Or.inl ⟨by rfl, ?hy_2⟩, by assumption, ?rest_2⟩
        case hy_2 => intro w hSw; (try dsimp only at hSw); (go_simp <;> rfl)
        simp only [Act.put, List.setIfInBounds_toArray, List.set_cons_zero, List.set_cons_succ]
        refine' tk_ (i := 3) ?ho_3 ?more_3
        case ho_3 => simp only [List.getElem?_toArray, List.getElem?_cons_succ, List.getElem?_cons_zero]; rfl
        refine ⟨by kernel_rfl, by kernel_rfl, by kernel_rfl, fun _ _ _ _ h => h, ?v_3, Or.inl ⟨by rfl, ?hy_3⟩, by assumption, ?rest_3⟩
        case hy_3 => intro w hSw; (try dsimp only at hSw); (go_simp <;> rfl)
        simp only [Act.put, List.setIfInBounds_toArray, List.set_cons_zero, List.set_cons_succ]
        refine' tk_ (i := 4) ?ho_4 ?more_4
        case ho_4 => simp only [List.getElem?_toArray, List.getElem?_cons_succ, List.getElem?_cons_zero]; rfl
        refine ⟨by kernel_rfl, by kernel_rfl, by kernel_rfl, fun _ _ _ _ h => h, ?v_4, Or.inl ⟨by rfl, ?hy_4⟩, by assumption, ?rest_4⟩
        case hy_4 => intro w hSw; (try dsimp only at hSw); (go_simp <;> rfl)
        simp only [Act.put, List.setIfInBounds_toArray, List.set_cons_zero, List.set_cons_succ]
        refine' tk_ (i := 5) ?ho_5 ?more_5
        case ho_5 => simp only [List.getElem?_toArray, List.getElem?_cons_succ, List.getElem?_cons_zero]; rfl
        refine ⟨by kernel_rfl, by kernel_rfl, by kernel_rfl, fun _ _ _ _ h => h, ?v_5, Or.inl ⟨by rfl, ?hy_5⟩, by assumption, ?rest_5⟩
        case hy_5 => intro w hSw; (try dsimp only at hSw); (go_simp <;> rfl)
        simp only [Act.put, List.setIfInBounds_toArray, List.set_cons_zero, List.set_cons_succ]
        refine' tk_ (i := 6) ?ho_6 ?more_6
        case ho_6 => simp only [List.getElem?_toArray, List.getElem?_cons_succ, List.getElem?_cons_zero]; rfl
        refine ⟨by kernel_rfl, by kernel_rfl, by kernel_rfl, fun _ _ _ _ h => h, ?v_6, Or.inl ⟨by rfl, ?hy_6⟩, by assumption, ?rest_6⟩
        case hy_6 => intro w hSw; (try dsimp only at hSw); (go_simp <;> rfl)
        simp only [Act.put, List.setIfInBounds_toArray, List.set_cons_zero, List.set_cons_succ]
        refine' tk_ (i := 7) ?ho_7 ?more_7
        case ho_7 => simp only [List.getElem?_toArray, List.getElem?_cons_succ, List.getElem?_cons_zero]; rfl
        refine ⟨by kernel_rfl, by kernel_rfl, by kernel_rfl, fun _ _ _ _ h => h, ?v_7, Or.inl ⟨by rfl, ?hy_7⟩, by assumption, ?rest_7⟩
        case hy_7 => intro w hSw; (try dsimp only at hSw); (go_simp <;> rfl)
        simp only [Act.put, List.setIfInBounds_toArray, List.set_cons_zero, List.set_cons_succ]
        refine' tk_ (i := 8) ?ho_8 ?more_8
        case ho_8 => simp only [List.getElem?_toArray, List.getElem?_cons_succ, List.getElem?_cons_zero]; rfl
        refine ⟨by kernel_rfl, by kernel_rfl, by kernel_rfl, fun _ _ _ _ h => h, ?v_8, Or.inl ⟨by rfl, ?hy_8⟩, by assumption, ?rest_8⟩
        case hy_8 => intro w hSw; (try dsimp only at hSw); (go_simp <;> rfl)
        simp only [Act.put, List.setIfInBounds_toArray, List.set_cons_zero, List.set_cons_succ]
        refine' tk_ (i := 9) ?ho_9 ?more_9
        case ho_9 => simp only [List.getElem?_toArray, List.getElem?_cons_succ, List.getElem?_cons_zero]; rfl
        refine ⟨by kernel_rfl, by kernel_rfl, by kernel_rfl, fun _ _ _ _ h => h, ?v_9, Or.inl ⟨by rfl, ?hy_9⟩, by assumption, ?rest_9⟩
        case hy_9 => intro w hSw; (try dsimp only at hSw); (go_simp <;> rfl)
        simp only [Act.put, List.setIfInBounds_toArray, List.set_cons_zero, List.set_cons_succ]
        refine wpAnyH_ready (rs := [10, 12]) (by kernel_rfl) (by simp) ?_
        refine' AllReadyH.cons ?hoA (fun K hK => ?stepA) (AllReadyH.cons ?hoB (fun K hK => ?stepB) (AllReadyH.nil))
        case hoA => simp only [List.getElem?_toArray, List.getElem?_cons_succ, List.getElem?_cons_zero]; rfl
        case hoB => simp only [List.getElem?_toArray, List.getElem?_cons_succ, List.getElem?_cons_zero]; rfl
        case stepA =>
          go_simp
          refine (speed_calls c a t _ (HS.out.2.2.2.1.below (Below.refl w4.heap.size w4).drew) HLQ.out).mono ?_
          rw [HSP.out]
          rintro e w5 ⟨rfl, hb⟩
          have Dw5 := Aside0.mk (show Below w4.heap.size w4 w5 from Below.trans (Below.refl w4.heap.size w4).drew (hb.mono (Below.size (Below.refl w4.heap.size w4).drew)))
          have hb7 := Aside0.mk hb
          clear hb
          refine hK.out _ _ (SB.out _ Dw5.out) (fun hHeld => ?_)
          clear hK K
          try simp only [Act.put, List.setIfInBounds_toArray, List.set_cons_zero, List.set_cons_succ]
          refine' tk_ (i := 11) ?ho_11 ?more_11
          case ho_11 => simp only [List.getElem?_toArray, List.getElem?_cons_succ, List.getElem?_cons_zero]; rfl
          refine ⟨by kernel_rfl, by kernel_rfl, by kernel_rfl, fun _ _ _ _ h => h, ?v_11, Or.inl ⟨by rfl, ?hy_11⟩, by assumption, ?rest_11⟩
          case hy_11 => intro w hSw; (try dsimp only at hSw); (go_simp <;> rfl)
          simp only [Act.put, List.setIfInBounds_toArray, List.set_cons_zero, List.set_cons_succ]
          refine wpAnyH_ready (rs := [12]) (by kernel_rfl) (by simp) ?_
          refine' AllReadyH.cons ?hoC (fun K hK => ?stepC) (AllReadyH.nil)
          case hoC => simp only [List.getElem?_toArray, List.getElem?_cons_succ, List.getElem?_cons_zero]; rfl
          case stepC =>
            go_simp
            obtain ⟨w6, hw6⟩ : ∃ w6, (w5.alloc (.cells #[.int .i64 0, .int .i64 0, .int .i64 0, .int .i64 0, .int .i64 0, .int .i64 0, .int .i64 0, .int .i64 0] 62 (0, 0))) = w6 := ⟨_, rfl⟩
            obtain ⟨g9, hg9⟩ : ∃ g9, w5.heap.size = g9 := ⟨_, rfl⟩
            have BK9 := Aside0.mk (show w6.heap[g9]? = some (.cells #[.int .i64 0, .int .i64 0, .int .i64 0, .int .i64 0, .int .i64 0, .int .i64 0, .int .i64 0, .int .i64 0] 62 (0, 0)) from by rw [← hw6, ← hg9]; exact heap_alloc_new _ _)
            have G9 := Aside0.mk (show w4.heap.size ≤ g9 from by rw [← hg9]; exact Below.size Dw5.out)
            have hD := Aside0.mk (show Below w4.heap.size w4 w6 from by rw [← hw6]; exact Dw5.out.alloc (Below.size Dw5.out) _)
            rw [hw6, hg9]
            clear hw6 hg9
            refine hK.out _ _ (SB.out _ hD.out) (fun hHeld => ?_)
            clear hK K
            try simp only [Act.put, List.setIfInBounds_toArray, List.set_cons_zero, List.set_cons_succ]
            refine wpAnyH_ready (rs := [13]) (by kernel_rfl) (by simp) ?_
            refine' AllReadyH.cons ?hoSw6 (fun K hK => ?stepSw6) (AllReadyH.nil)
            case hoSw6 => simp only [List.getElem?_toArray, List.getElem?_cons_succ, List.getElem?_cons_zero]; rfl
            case stepSw6 =>
              have y0 : w6.cell? ⟨g9, 0, none⟩ = some (.int .i64 0) := (blk_cell BK9.out 0).trans rfl
              have z0 := blk_frozen BK9.out 0
              have y1 : w6.cell? ⟨g9, 1, none⟩ = some (.int .i64 0) := (blk_cell BK9.out 1).trans rfl
              have z1 := blk_frozen BK9.out 1
              have y2 : w6.cell? ⟨g9, 2, none⟩ = some (.int .i64 0) := (blk_cell BK9.out 2).trans rfl
              have z2 := blk_frozen BK9.out 2
              have y3 : w6.cell? ⟨g9, 3, none⟩ = some (.int .i64 0) := (blk_cell BK9.out 3).trans rfl
              have z3 := blk_frozen BK9.out 3
              have y4 : w6.cell? ⟨g9, 4, none⟩ = some (.int .i64 0) := (blk_cell BK9.out 4).trans rfl
              have z4 := blk_frozen BK9.out 4
              have y5 : w6.cell? ⟨g9, 5, none⟩ = some (.int .i64 0) := (blk_cell BK9.out 5).trans rfl
              have z5 := blk_frozen BK9.out 5
              have y6 : w6.cell? ⟨g9, 6, none⟩ = some (.int .i64 0) := (blk_cell BK9.out 6).trans rfl
              have z6 := blk_frozen BK9.out 6
              have y7 : w6.cell? ⟨g9, 7, none⟩ = some (.int .i64 0) := (blk_cell BK9.out 7).trans rfl
              have z7 := blk_frozen BK9.out 7
              go_simp
              have hD8 := Aside0.mk (show Below w4.heap.size w4 ((((((((w6.setCell ⟨g9, 0, none⟩ (.int .i64 t)).setCell ⟨g9, 1, none⟩ (.int .i64 t')).setCell ⟨g9, 2, none⟩ (.int .i64 q.f0)).setCell ⟨g9, 3, none⟩ (.int .i64 q.f1)).setCell ⟨g9, 4, none⟩ (.int .i64 q.f2)).setCell ⟨g9, 5, none⟩ (.int .i64 q.f3)).setCell ⟨g9, 6, none⟩ (.int .i64 q.f4)).setCell ⟨g9, 7, none⟩ (.int .i64 sp)) from (Below.setCell (Below.setCell (Below.setCell (Below.setCell (Below.setCell (Below.setCell (Below.setCell (Below.setCell hD.out G9.out _) G9.out _) G9.out _) G9.out _) G9.out _) G9.out _) G9.out _) G9.out _))
              refine hK.out _ _ (SB.out _ hD8.out) (fun hHeld => ?_)
              clear hK K
              try simp only [Act.put, List.setIfInBounds_toArray, List.set_cons_zero, List.set_cons_succ]
              refine wpAnyH_done (by kernel_rfl) ?_ _
              go_wp2
              go_meet
              exact ⟨g9, rfl, ⟨put_eight BK9.out, HB1.out.trans (hD8.out.mono HB1.out.size)⟩⟩
        case stepB =>
          go_simp
          obtain ⟨w6, hw6⟩ : ∃ w6, (w4.alloc (.cells #[.int .i64 0, .int .i64 0, .int .i64 0, .int .i64 0, .int .i64 0, .int .i64 0, .int .i64 0, .int .i64 0] 62 (0, 0))).drew = w6 := ⟨_, rfl⟩
          obtain ⟨g9, hg9⟩ : ∃ g9, w4.heap.size = g9 := ⟨_, rfl⟩
          have BK9 := Aside0.mk (show w6.heap[g9]? = some (.cells #[.int .i64 0, .int .i64 0, .int .i64 0, .int .i64 0, .int .i64 0, .int .i64 0, .int .i64 0, .int .i64 0] 62 (0, 0)) from by rw [← hw6, ← hg9]; exact heap_alloc_new _ _)
          have G9 := Aside0.mk (show w4.heap.size ≤ g9 from by rw [← hg9]; exact Nat.le_refl _)
          have hD := Aside0.mk (show Below w4.heap.size w4 w6 from by rw [← hw6]; exact ((Below.refl w4.heap.size w4).alloc (Nat.le_refl _) _).drew)
          rw [hw6, hg9]
          clear hw6 hg9
          refine hK.out _ _ (SB.out _ hD.out) (fun hHeld => ?_)
          clear hK K
          try simp only [Act.put, List.setIfInBounds_toArray, List.set_cons_zero, List.set_cons_succ]
          refine wpAnyH_ready (rs := [10]) (by kernel_rfl) (by simp) ?_
          refine' AllReadyH.cons ?hoE (fun K hK => ?stepE) (AllReadyH.nil)
          case hoE => simp only [List.getElem?_toArray, List.getElem?_cons_succ, List.getElem?_cons_zero]; rfl
          case stepE =>
            go_simp
            refine (speed_calls c a t _ (HS.out.2.2.2.1.below hD.out) HLQ.out).mono ?_
            rw [HSP.out]
            rintro e w7 ⟨rfl, hb⟩
            have Dw7 := Aside0.mk (show Below w4.heap.size w4 w7 from Below.trans hD.out (hb.mono (Below.size hD.out)))
            have hb7 := Aside0.mk hb
            clear hb
            refine hK.out _ _ (SB.out _ Dw7.out) (fun hHeld => ?_)
            clear hK K
            try simp only [Act.put, List.setIfInBounds_toArray, List.set_cons_zero, List.set_cons_succ]
            have nBK9 := Aside0.mk (blk_below BK9.out hb7.out)
            clear BK9
            have BK9 := nBK9
            clear nBK9
            refine' tk_ (i := 11) ?ho_211 ?more_211
            case ho_211 => simp only [List.getElem?_toArray, List.getElem?_cons_succ, List.getElem?_cons_zero]; rfl
            refine ⟨by kernel_rfl, by kernel_rfl, by kernel_rfl, fun _ _ _ _ h => h, ?v_211, Or.inl ⟨by rfl, ?hy_211⟩, by assumption, ?rest_211⟩
            case hy_211 => intro w hSw; (try dsimp only at hSw); (go_simp <;> rfl)
            simp only [Act.put, List.setIfInBounds_toArray, List.set_cons_zero, List.set_cons_succ]
            refine wpAnyH_ready (rs := [13]) (by kernel_rfl) (by simp) ?_
            refine' AllReadyH.cons ?hoSw7 (fun K hK => ?stepSw7) (AllReadyH.nil)
            case hoSw7 => simp only [List.getElem?_toArray, List.getElem?_cons_succ, List.getElem?_cons_zero]; rfl
            case stepSw7 =>
              have y0 : w7.cell? ⟨g9, 0, none⟩ = some (.int .i64 0) := (blk_cell BK9.out 0).trans rfl
              have z0 := blk_frozen BK9.out 0
              have y1 : w7.cell? ⟨g9, 1, none⟩ = some (.int .i64 0) := (blk_cell BK9.out 1).trans rfl
              have z1 := blk_frozen BK9.out 1
              have y2 : w7.cell? ⟨g9, 2, none⟩ = some (.int .i64 0) := (blk_cell BK9.out 2).trans rfl
              have z2 := blk_frozen BK9.out 2
              have y3 : w7.cell? ⟨g9, 3, none⟩ = some (.int .i64 0) := (blk_cell BK9.out 3).trans rfl
              have z3 := blk_frozen BK9.out 3
              have y4 : w7.cell? ⟨g9, 4, none⟩ = some (.int .i64 0) := (blk_cell BK9.out 4).trans rfl
              have z4 := blk_frozen BK9.out 4
              have y5 : w7.cell? ⟨g9, 5, none⟩ = some (.int .i64 0) := (blk_cell BK9.out 5).trans rfl
              have z5 := blk_frozen BK9.out 5
              have y6 : w7.cell? ⟨g9, 6, none⟩ = some (.int .i64 0) := (blk_cell BK9.out 6).trans rfl
              have z6 := blk_frozen BK9.out 6
              have y7 : w7.cell? ⟨g9, 7, none⟩ = some (.int .i64 0) := (blk_cell BK9.out 7).trans rfl
              have z7 := blk_frozen BK9.out 7
              go_simp
              have hD8 := Aside0.mk (show Below w4.heap.size w4 ((((((((w7.setCell ⟨g9, 0, none⟩ (.int .i64 t)).setCell ⟨g9, 1, none⟩ (.int .i64 t')).setCell ⟨g9, 2, none⟩ (.int .i64 q.f0)).setCell ⟨g9, 3, none⟩ (.int .i64 q.f1)).setCell ⟨g9, 4, none⟩ (.int .i64 q.f2)).setCell ⟨g9, 5, none⟩ (.int .i64 q.f3)).setCell ⟨g9, 6, none⟩ (.int .i64 q.f4)).setCell ⟨g9, 7, none⟩ (.int .i64 sp)) from (Below.setCell (Below.setCell (Below.setCell (Below.setCell (Below.setCell (Below.setCell (Below.setCell (Below.setCell Dw7.out G9.out _) G9.out _) G9.out _) G9.out _) G9.out _) G9.out _) G9.out _) G9.out _))
              refine hK.out _ _ (SB.out _ hD8.out) (fun hHeld => ?_)
              clear hK K
              try simp only [Act.put, List.setIfInBounds_toArray, List.set_cons_zero, List.set_cons_succ]
              refine wpAnyH_done (by kernel_rfl) ?_ _
              go_wp2
              go_meet
              exact ⟨g9, rfl, ⟨put_eight BK9.out, HB1.out.trans (hD8.out.mono HB1.out.size)⟩⟩
      case rest =>
        clear HS BK7 SB HB1
        obtain ⟨g9, rfl, HC⟩ := hcut
        have e0 : wc.cell? ⟨g9, 0, none⟩ = some (.int .i64 t) := (blk_cell HC.out.1 0).trans rfl
        have e1 : wc.cell? ⟨g9, 1, none⟩ = some (.int .i64 t') := (blk_cell HC.out.1 1).trans rfl
        have e2 : wc.cell? ⟨g9, 2, none⟩ = some (.int .i64 q.f0) := (blk_cell HC.out.1 2).trans rfl
        have e3 : wc.cell? ⟨g9, 3, none⟩ = some (.int .i64 q.f1) := (blk_cell HC.out.1 3).trans rfl
        have e4 : wc.cell? ⟨g9, 4, none⟩ = some (.int .i64 q.f2) := (blk_cell HC.out.1 4).trans rfl
        have e5 : wc.cell? ⟨g9, 5, none⟩ = some (.int .i64 q.f3) := (blk_cell HC.out.1 5).trans rfl
        have e6 : wc.cell? ⟨g9, 6, none⟩ = some (.int .i64 q.f4) := (blk_cell HC.out.1 6).trans rfl
        have e7 : wc.cell? ⟨g9, 7, none⟩ = some (.int .i64 sp) := (blk_cell HC.out.1 7).trans rfl
        have HJC := Aside0.mk (HJ.out _ _ wc none HJS.out (grown_of HC.out.2) (fun _ h => by cases h))
        cases md with
        | false =>
          have HPN := Aside0.mk (show upS c P ch (k + 1) = upS c P ch k from by rw [upS_succ, pcF, HT.out, if_neg (fun h => by rw [HQ.out] at h; cases h.1), List.append_nil])
          go_wp2
          go_roundg (ch.length - (k + 1))
          case measure => have := HI.out; have := HM.out; have := HK.out; omega
          case rel => exact ⟨k + 1, rfl, ⟨by have := HK.out; omega⟩, ⟨(HKQ.out.2.1 HB.out (HKQ.out.2.2.1 (HC.out.2.mono (HKQ.out.2.2.2 HB.out))))⟩, ⟨by rw [HPN.out]; exact HJC.out⟩, ⟨Nat.le_trans HSZ.out HC.out.2.size⟩⟩
        | true =>
          by_cases hs0 : 0 < sp
          · have k1 : decide ((0 : Int) < sp) = true := decide_eq_true hs0
            have k2 := eq_true hs0
            have HPN := Aside0.mk (show upS c P ch (k + 1) = upS c P ch k ++ [⟨t, t', q, sp⟩] from by rw [upS_succ, pcF, HT.out, HT2.out, HQ.out, HSP.out, if_pos ⟨rfl, hs0⟩])
            have HLL := Aside0.mk (show (upS c P ch k).length < (upS c P ch (ch.length - 1)).length from by have h_ := (upS_pre c P ch (k + 1) (m - (k + 1))).length_le; rw [HPN.out, List.length_append, List.length_singleton, show k + 1 + (m - (k + 1)) = m by have := HK.out; omega] at h_; rw [HXS.out]; omega)
            obtain ⟨fn, tmps, assign, body, hy, hR⟩ := HY.out (upS c P ch k) ⟨t, t', q, sp⟩ wc HJC.out HLL.out hs0
            dsimp only [encS] at hy
            clear hs0
            go_upto_region 6 with (fail)
            refine (wpIn_wide (n := n)).1 ?_
            refine wpIn_region_list ?_
            gi_wp2
            refine ⟨fun h_ => (by cases h_), hR.mono ?_⟩
            rintro e W3 (⟨rfl, hJ3, hk3⟩ | ⟨rfl, hJx3⟩)
            · have HK3 := Aside0.mk hk3
              have HJ3 := Aside0.mk hJ3
              clear hk3 hJ3 hy hR
              gi_wp2
              go_wp2
              skip
              go_roundg (ch.length - (k + 1))
              case measure => have := HI.out; have := HM.out; have := HK.out; omega
              case rel => exact ⟨k + 1, rfl, ⟨by have := HK.out; omega⟩, ⟨(HKQ.out.2.1 (HKQ.out.2.1 HB.out (HKQ.out.2.2.1 (HC.out.2.mono (HKQ.out.2.2.2 HB.out)))) HK3.out)⟩, ⟨by rw [HPN.out]; exact HJ3.out⟩, ⟨Nat.le_trans HSZ.out (Nat.le_trans HC.out.2.size (HKQ.out.2.2.2 HK3.out))⟩⟩
            · have HJX3 := Aside0.mk hJx3
              clear hJx3 hy hR
              gi_wp2
              go_wp2
              exact bodyPost_ret (results_none rfl _ _ _) rfl ⟨⟨_, rfl⟩, .inr ⟨_, by rw [← HPN.out, HXS.out, show m = k + 1 + (m - (k + 1)) by have := HK.out; omega]; exact upS_pre c P ch (k + 1) _, HJX3.out⟩⟩
          · have k1 : decide ((0 : Int) < sp) = false := decide_eq_false hs0
            have k2 := eq_false hs0
            have HPN := Aside0.mk (show upS c P ch (k + 1) = upS c P ch k from by rw [upS_succ, pcF, HT.out, HSP.out, if_neg (fun h => hs0 h.2), List.append_nil])
            clear hs0
            go_wp2
            go_roundg (ch.length - (k + 1))
            case measure => have := HI.out; have := HM.out; have := HK.out; omega
            case rel => exact ⟨k + 1, rfl, ⟨by have := HK.out; omega⟩, ⟨(HKQ.out.2.1 HB.out (HKQ.out.2.2.1 (HC.out.2.mono (HKQ.out.2.2.2 HB.out))))⟩, ⟨by rw [HPN.out]; exact HJC.out⟩, ⟨Nat.le_trans HSZ.out HC.out.2.size⟩⟩
theorem str_stopsK (n : Nat) (w : World) (gh gc gp : Nat) (c : Cs) (a : CsA) (P : List S77) (Ap : Option Addr) (cp : Nat) (ch : List Int) (Ah : Option Addr) (chc : Nat) (hlp : P.length ≤ 1000) (hls : c.sw.length ≤ 1000) (hlq : c.pac.length ≤ 1000) (hlh : ch.length ≤ 1000) (h0h : 0 < ch.length) (hS : StC w gh gc gp c a P Ap cp ch Ah chc) (Kq : World → World → Prop) (hKq : KqOk Kq w gh gc gp c a P Ap cp ch Ah chc) :
    SeqStopsK Fence.wide n Try.prog 24 #[.pointer (some ⟨gh, 0, none⟩), .pointer (some ⟨gc, 0, none⟩), .pointer (some ⟨gp, 0, none⟩)] encS Kq (fun ys => ys = upS c P ch (ch.length - 1)) (fun pre => pre <+: upS c P ch (ch.length - 1)) (upS c P ch (ch.length - 1)).length w :=
  fun l J Jx W hW hJ _ hY h0 => str_in n l w gh gc gp c a P Ap cp ch Ah chc hlp hls hlq hlh h0h hS J Jx W hW Kq hKq hJ (fun pre x W1 h1 h2 _ => hY pre x W1 h1 h2) h0
/-- The same, where a round knows that the speed is positive. -/
abbrev StrP := { x : Str // 0 < x.sp }
theorem str_stopsP (n : Nat) (w : World) (gh gc gp : Nat) (c : Cs) (a : CsA) (P : List S77) (Ap : Option Addr) (cp : Nat) (ch : List Int) (Ah : Option Addr) (chc : Nat) (hlp : P.length ≤ 1000) (hls : c.sw.length ≤ 1000) (hlq : c.pac.length ≤ 1000) (hlh : ch.length ≤ 1000) (h0h : 0 < ch.length) (hS : StC w gh gc gp c a P Ap cp ch Ah chc) (Kq : World → World → Prop) (hKq : KqOk Kq w gh gc gp c a P Ap cp ch Ah chc) :
    SeqStopsK Fence.wide n Try.prog 24 #[.pointer (some ⟨gh, 0, none⟩), .pointer (some ⟨gc, 0, none⟩), .pointer (some ⟨gp, 0, none⟩)] (fun x : StrP => encS x.1) Kq (fun ys => ys.map (·.1) = upS c P ch (ch.length - 1)) (fun pre => pre.map (·.1) <+: upS c P ch (ch.length - 1)) (upS c P ch (ch.length - 1)).length w := by
  intro l J Jx W hW hJ _ hY h0
  refine (str_in n l w gh gc gp c a P Ap cp ch Ah chc hlp hls hlq hlh h0h hS (fun p W => ∃ q : List StrP, q.map (·.1) = p ∧ J q W) (fun p W => ∃ q : List StrP, q.map (·.1) = p ∧ Jx q W) W hW Kq hKq ?_ ?_ ⟨[], rfl, h0⟩).mono ?_
  · rintro s A B row ⟨q, hq, hj⟩ hg hr
    exact ⟨q, hq, hJ q A B row hj hg hr⟩
  · rintro pre x W1 ⟨q, hq, hj⟩ hlen hx
    refine (hY q ⟨x, hx⟩ W1 hj (by rw [← hq, List.length_map] at hlen; exact hlen)).mono ?_
    rintro e W' (⟨he, h1, h2⟩ | ⟨he, h1⟩)
    · exact .inl ⟨he, ⟨q ++ [⟨x, hx⟩], by rw [List.map_append, hq]; rfl, h1⟩, h2⟩
    · exact .inr ⟨he, ⟨q ++ [⟨x, hx⟩], by rw [List.map_append, hq]; rfl, h1⟩⟩
  · rintro e W' ⟨hv, ⟨ys, hys, q, hq, hj⟩ | ⟨pre, hp, q, hq, hj⟩⟩
    · exact ⟨hv, .inl ⟨q, hq.trans hys, hj⟩⟩
    · exact ⟨hv, .inr ⟨q, (show q.map (·.1) <+: _ from by rw [hq]; exact hp), hj⟩⟩
end Go.Proofs.Ytebifddfgimnlaa.Rl
end
section
/- The closure that stretches hands back. -/
namespace Go.Proofs.Ytebifddfgimnlaa.Rl
open Go.RowKit Go.Proofs.Ytebifddfgimnlaa.PX Go.Proofs.Ytebifddfgimnlaa.Rd Go.Proofs.YtebifddfgimnlaaW.PrintWords Go.Proofs.YtebifddfgimnlaaW.PrintLast
set_option linter.unusedVariables false
set_option linter.unusedSimpArgs false
theorem info3 : (Try.prog.info? 3).map (fun i => (i.zero, i.size, i.bytes)) = some (some (.int .i64 0), 1, 8) := by kernel_rfl
theorem kZ_KM {w : World} {base : Nat} {ok : Nat → Prop} (x : Int) (cs : List Value) (h : (Kd.int .i64).K w x cs) : (Kd.int .i64).M w base ok x cs := h
theorem kZ_mkM (w : World) (base : Nat) (ok : Nat → Prop) (x : Int) : (Kd.int .i64).M w base ok x [.int .i64 x] := rfl
section
variable {P : Program} {ops : Array Oper} {rest : List Oper} {o : Oper} {a : Act} {Q : Exit → Act → World → Prop}
theorem lit_event {W : World} (hgd : o.guard = none) {N : Tmp} (_hd : o.dst = some N) {cs : Array Value} {t : TypeId} {n : Nat}
    (hrun : (execOp a.eval o).run P W = .ok (.value (.slice (some ⟨W.heap.size, 0, none⟩) n n)) (W.alloc (.cells cs t (0, 0))))
    (h : ∀ g, g = W.heap.size → ∀ w1, w1.heap[g]? = some (.cells cs t (0, 0)) → Below W.heap.size W w1 → wpList P ops Q rest (a.put o.dst (.slice (some ⟨g, 0, none⟩) n n)) w1) : wpList P ops Q (o :: rest) a W :=
  Kd.event_run hgd hrun (h _ rfl _ (blk_new W _) (below_alloc (Below.refl _ _) _))
end
theorem lit_two {w : World} {B : Nat} {ok : Nat → Prop} {g : Nat} {x y : Int} (hg : w.heap[g]? = some (.cells #[.int .i64 x, .int .i64 y] 3 (0, 0))) (hB : B ≤ g) (hok : ok g) : Kd.R (Kd.int .i64) 3 w B ok (.slice (some ⟨g, 0, none⟩) 2 2) [x, y] := by
  refine Kd.R_of_own (enc := Value.int .i64) (h1 := fun _ => rfl) ?_ (fun k hk => ?_)
  · exact ⟨rfl, Or.inr ⟨g, 2, _, rfl, hB, hg, Nat.le_refl _, by decide, rfl, rfl⟩⟩
  · have : g = k := by simpa [Value.ownBlock] using hk
    exact this ▸ hok
theorem put_one {w : World} {g t : Nat} {a a' : Value} (h : w.heap[g]? = some (.cells #[a] t (0, 0))) : (w.setCell ⟨g, 0, none⟩ a').heap[g]? = some (.cells #[a'] t (0, 0)) := blk_put h 0 _ rfl
theorem put_three {w : World} {g t : Nat} {a b c a' b' c' : Value} (h : w.heap[g]? = some (.cells #[a, b, c] t (0, 0))) : (((w.setCell ⟨g, 0, none⟩ a').setCell ⟨g, 1, none⟩ b').setCell ⟨g, 2, none⟩ c').heap[g]? = some (.cells #[a', b', c'] t (0, 0)) := blk_put (blk_put (blk_put h 0 _ rfl) 1 _ rfl) 2 _ rfl
theorem put_two {w : World} {g t : Nat} {a b a' b' : Value} (h : w.heap[g]? = some (.cells #[a, b] t (0, 0))) : ((w.setCell ⟨g, 0, none⟩ a').setCell ⟨g, 1, none⟩ b').heap[g]? = some (.cells #[a', b'] t (0, 0)) := blk_put (blk_put h 0 _ rfl) 1 _ rfl
theorem two_C {w : World} {g : Nat} {x y : Int} (hg : w.heap[g]? = some (.cells #[.int .i64 x, .int .i64 y] 3 (0, 0))) : Kd.C (Kd.int .i64) w (some ⟨g, 0, none⟩) 2 [x, y] := by
  obtain ⟨A, c, e, _, hC⟩ := Kd.R_reads (lit_two (B := 0) (ok := fun _ => True) hg (Nat.zero_le _) trivial)
  obtain ⟨rfl, _, _⟩ := Value.slice.inj e
  exact hC
theorem take77 (l : List S77) (i : Nat) (h : i < l.length) : l.take (i + 1) = l.take i ++ [rd_T77 l (i : Int)] := by
  rw [List.take_succ_eq_append_getElem h]
  congr 1
  unfold rd_T77
  rw [Int.toNat_natCast, List.getD_eq_getElem?_getD, List.getElem?_eq_getElem h]
  rfl
theorem take52 (l : List S52) (i : Nat) (h : i < l.length) : l.take (i + 1) = l.take i ++ [rd_T52 l (i : Int)] := by
  rw [List.take_succ_eq_append_getElem h]
  congr 1
  unfold rd_T52
  rw [Int.toNat_natCast, List.getD_eq_getElem?_getD, List.getElem?_eq_getElem h]
  rfl
theorem take54 (l : List S54) (i : Nat) (h : i < l.length) : l.take (i + 1) = l.take i ++ [rd_T54 l (i : Int)] := by
  rw [List.take_succ_eq_append_getElem h]
  congr 1
  unfold rd_T54
  rw [Int.toNat_natCast, List.getD_eq_getElem?_getD, List.getElem?_eq_getElem h]
  rfl
/-- All changes, as they come. -/
def chP (c : Cs) (P : List S77) (k : Nat) : List Int := [0, c.en] ++ (P.take k).map (fun p => p.f1)
def chQ (c : Cs) (P : List S77) (k : Nat) : List Int := chP c P P.length ++ (c.pac.take k).map (fun p => p.f0)
def chS (c : Cs) (P : List S77) (k : Nat) : List Int := chQ c P c.pac.length ++ (c.sw.take k).flatMap (fun s => [s.f0, (min c.en (wrap64 (s.f0 + s.f2)))])
def chR (c : Cs) (P : List S77) : List Int := chS c P c.sw.length
theorem chP_succ (c : Cs) (P : List S77) (k : Nat) (h : k < P.length) : chP c P (k + 1) = chP c P k ++ [(rd_T77 P (k : Int)).f1] := by unfold chP; rw [take77 _ _ h, List.map_append, List.append_assoc]; rfl
theorem chQ_succ (c : Cs) (P : List S77) (k : Nat) (h : k < c.pac.length) : chQ c P (k + 1) = chQ c P k ++ [(rd_T52 c.pac (k : Int)).f0] := by unfold chQ; rw [take52 _ _ h, List.map_append, List.append_assoc]; rfl
theorem chS_succ (c : Cs) (P : List S77) (k : Nat) (h : k < c.sw.length) : chS c P (k + 1) = chS c P k ++ [(rd_T54 c.sw (k : Int)).f0, (min c.en (wrap64 ((rd_T54 c.sw (k : Int)).f0 + (rd_T54 c.sw (k : Int)).f2)))] := by unfold chS; rw [take54 _ _ h, List.flatMap_append, List.append_assoc]; rfl
end Go.Proofs.Ytebifddfgimnlaa.Rl
end
