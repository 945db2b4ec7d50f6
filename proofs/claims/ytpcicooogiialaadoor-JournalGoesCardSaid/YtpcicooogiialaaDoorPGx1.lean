-- Written by a program of this session (hyb.py), which runs the print over the translation with contracts of its own added; it is not the print itself. Lean checks it.
import Derived.Test.YtpcicooogiialaaDoorPGx0
namespace Go.Proofs.YtpcicooogiialaaDoor.PG
open Go.RowKit Go.Proofs.YtpcicooogiialaaDoorW.PrintWords Go.Proofs.YtpcicooogiialaaDoorW.PrintLast Go.Proofs.YtpcicooogiialaaDoorW.PrintMore
attribute [local go_sem] max2_int min2_int max_two min_two max_three min_three max_four min_four   -- for this text's walks alone
set_option linter.unusedVariables false
set_option linter.unusedSimpArgs false

/-! ### given: a slice whose capacity is its length, or a row of one's own; append to it -/
def encU : Nat → Int → List Int
  | 0, c => [c]
  | k + 1, c => if c ≥ 128 then (c % 128 + 128) :: encU k (c / 128) else [c]
def codeOf (n : Int) : Int := if n < 0 then -2 * n - 1 else 2 * n

/-- A slice whose capacity is its length, or a row of the call's own. -/
def Ap (w0 w : World) (v : Value) (xs : List Int) : Prop :=
  (∃ A, v = .slice A xs.length xs.length ∧ Kd.C (Kd.int .u8) w A xs.length xs) ∨ Kd.R (Kd.int .u8) 5 w w0.heap.size (fun _ => True) v xs
theorem Ap.slice {w0 w : World} {v : Value} {xs : List Int} (h : Ap w0 w v xs) : ∃ A c, v = .slice A xs.length c := by
  rcases h with ⟨A, rfl, _⟩ | h
  · exact ⟨A, _, rfl⟩
  · exact Kd.R_slice h
section
variable {ops : Array Oper} {rest : List Oper} {o : Oper} {a : Act} {Q : Exit → Act → World → Prop}
theorem ap_append {w0 W : World} (hgd : o.guard = none) (s x : Operand) (ho : o.op = .call { callee := .builtin .append, args := #[s, x], argTypes := #[28, 28] })
    (v : Value) (xs : List Int) (y : Int) (hs : a.eval s = v) (hx : a.eval x = .slice (some ⟨W.heap.size, 0, none⟩) 1 1)
    (HA : Ap w0 W v xs) (HB : Below w0.heap.size w0 W) (hl : xs.length + 1 ≤ 140737488355328)
    (h : ∀ v1 w1, Kd.R (Kd.int .u8) 5 w1 w0.heap.size (fun _ => True) v1 (xs ++ [y]) → Below w0.heap.size w0 w1 → wpList Tryd.prog ops Q rest (a.put o.dst v1) w1) :
    wpList Tryd.prog ops Q (o :: rest) a (W.alloc (.cells #[.int .u8 y] 5)) := by
  rcases HA with ⟨A, rfl, hr⟩ | HR
  · obtain ⟨i0, hi, hzz⟩ := Option.map_eq_some_iff.1 info5
    simp only [Prod.mk.injEq] at hzz
    obtain ⟨hz0, hz1, hz2⟩ := hzz
    have hr1 := Kd.reads_of_C (d := (0 : Int)) (Kd.C_below hr (below_alloc (Below.refl W.heap.size W) (.cells #[.int .u8 y] 5)))
    refine wpList_append_grows (W.alloc (.cells #[.int .u8 y] 5)) hgd s x 28 ho 5 i0 (.int .u8 0) 1 1 Tryd.underlying28 hi hz0 hz1 hz2 rfl (by decide) A xs.length xs.length (xs.map (Value.int .u8)) hs ?_ (by simp) ?_ ⟨W.heap.size, 0, none⟩ 1 1 [.int .u8 y] hx rfl
      (World.news_of_block (cs := #[.int .u8 y]) (t := 5) (fr := (0, 0)) (heap_alloc_new W _)) (by simp [Value.oneCell']) (by omega) (by simp only [maxLen]; omega) (by omega) ?_
    · intro hA
      rcases Nat.eq_zero_or_pos xs.length with h0 | h0
      · exact ⟨h0, h0⟩
      · obtain ⟨ad, he, _⟩ := hr1.2.2 h0
        rw [hA] at he
        cases he
    · intro b hb j u hu
      have hj : j < xs.length := by
        have := (List.getElem?_eq_some_iff.1 hu).1
        simpa using this
      obtain ⟨ad, he, hc⟩ := hr1.2.2 (by omega)
      rw [hb] at he
      injection he with he
      subst he
      rw [hc j hj]
      rw [List.getElem?_map, List.getElem?_eq_getElem hj] at hu
      rw [List.getD_eq_getElem?_getD, List.getElem?_eq_getElem hj]
      simpa using hu
    · intro v1 w1 hown hg
      have hs1 : w0.heap.size ≤ (W.alloc (.cells #[.int .u8 y] 5)).heap.size := by
        have := HB.size
        simp
        omega
      refine h v1 w1 (Kd.R_of_own (own_weaken (by simpa [encs] using hown) hs1) (fun _ _ => trivial)) ((below_alloc HB _).grown hg hs1 (by simp))
  · exact Kd.R_append (Kd.int .u8) w0.heap.size hgd s x 28 5 (.int .u8 0) 1 ho Tryd.underlying28 info5 rfl (by decide) (by decide) v xs y [.int .u8 y] (fun _ => True) (fun _ => False) hs hx rfl (fun _ hk => hk.elim) (fun _ _ => trivial) HR HB HB.size (by omega)
      (fun v1 w1 h1 h2 _ _ => h v1 w1 h1 h2)
end
open Go in
theorem or1 (x : Int) (h0 : 0 ≤ x) (h1 : x < 9223372036854775808) : Go.bits .or .u64 (x * 2) 1 = x * 2 + 1 := by
  rw [u64_or _ _ (by omega) (by omega) (by omega) (by omega), nat_join 1 _ _ (by omega) (by decide)]
  omega
def Fit : Nat → Int → Prop
  | 0, c => c < 128
  | k + 1, c => Fit k (c / 128)
theorem encU_end (m : Nat) (c : Int) (h : c < 128) : encU m c = [c] := by
  cases m with
  | zero => rfl
  | succ m => simp only [encU]; rw [if_neg (by omega)]
theorem or128 (x : Int) (h0 : 0 ≤ x) (h1 : x < 128) : Go.bits .or .u8 x 128 = x + 128 := by
  have : ∀ n : Nat, n < 128 → Go.bits .or .u8 (n : Int) 128 = (n : Int) + 128 := by decide
  obtain ⟨n, rfl⟩ := Int.eq_ofNat_of_zero_le h0
  exact this n (by omega)
/-! ### given: the table of crc -/
def crcTab : List Int := [0, 498536548, 997073096, 651767980, 1994146192, 1802195444, 1303535960, 1342533948, 3988292384, 4027552580, 3604390888, 3412177804, 2607071920, 2262029012, 2685067896, 3183342108]
def TabA : Option Addr := some ⟨0, 0, none⟩
def crcNib (x : Int) : Int := Go.bits .xor .u32 (x / 16) (rd crcTab (Go.bits .and .u32 x 15))
def crcByte (x c : Int) : Int := crcNib (crcNib (Go.bits .xor .u32 x (c % 4294967296)))
def crcRun (x : Int) (l : List Int) : Int := l.foldl crcByte x
theorem crcAnd15 (x : Int) : 0 ≤ Go.bits .and .u32 x 15 ∧ Go.bits .and .u32 x 15 < 16 := by
  unfold Go.bits
  simp only
  have h : (BitVec.ofInt 32 x &&& BitVec.ofInt 32 15).toNat ≤ 15 := by
    rw [BitVec.toNat_and]
    exact Nat.and_le_right
  show 0 ≤ IntKind.u32.wrap ((BitVec.ofInt 32 x &&& BitVec.ofInt 32 15).toNat : Int) ∧ IntKind.u32.wrap ((BitVec.ofInt 32 x &&& BitVec.ofInt 32 15).toNat : Int) < 16
  generalize (BitVec.ofInt 32 x &&& BitVec.ofInt 32 15).toNat = n at h
  rw [show IntKind.u32.wrap (n : Int) = (n : Int) from by rw [IntKind.wrap_u32]; omega]
  omega
theorem crcDrop (l : List Int) (k : Int) (h0 : 0 ≤ k) (h : k < (l.length : Int)) : l.drop k.toNat = rd l k :: l.drop (k.toNat + 1) := by
  rw [List.drop_eq_getElem_cons (by omega : k.toNat < l.length)]
  congr 1
  simp [rd, List.getElem?_eq_getElem (by omega : k.toNat < l.length)]
theorem add_zero_ (n : Nat) : Addr.add ⟨0, 0, none⟩ n = ⟨0, n, none⟩ := by simp [Addr.add]; exact Eq.symm

/-! ### papermilllaw61_great: function 11 -/
def papermilllaw61_great.l0 : Nat → List (S24) → Int → Option (Bool)
  | 0, _, _ => none
  | k + 1, x0, x3 => if x3 < (x0.length : Int) then (if 0 ≤ x3 then (if (((rd_T24 x0 x3).f6).length : Int) > 60 then (some true) else (papermilllaw61_great.l0 k x0 (wrap64 (x3 + 1)))) else (none)) else (some false)
def papermilllaw61_great.f (k : Nat) (l0 : List (S24)) : Option (Bool) := if (l0.length : Int) > 30 then (some true) else (papermilllaw61_great.l0 k l0 0)
theorem papermilllaw61_great.mono_l : ∀ k, (∀ y0 y1, LeO (papermilllaw61_great.l0 k y0 y1) (papermilllaw61_great.l0 (k + 1) y0 y1))
  | 0 => fun _ _ r h => by simp [papermilllaw61_great.l0] at h
  | k + 1 => by
    have ih0 := papermilllaw61_great.mono_l k
    · intro y0 y1
      unfold papermilllaw61_great.l0
      repeat' first
      | (with_reducible exact ih0 _ _)
      | (with_reducible exact LeO.refl _)
      | (with_reducible exact LeO.none _)
      | (with_reducible refine LeO.ite ?_ ?_)
      | (with_reducible refine LeO.bind ?_ (fun _ => ?_))
      | exact ih0 _ _
      | exact LeO.none _
      | refine LeO.ite ?_ ?_
      | refine LeO.bind ?_ (fun _ => ?_)
theorem papermilllaw61_great.mono : ∀ a0 k, LeO (papermilllaw61_great.f k a0) (papermilllaw61_great.f (k + 1) a0) := by
  intro a0 k
  have ih0 := papermilllaw61_great.mono_l k
  unfold papermilllaw61_great.f
  repeat' first
      | (with_reducible exact ih0 _ _)
      | (with_reducible exact LeO.refl _)
      | (with_reducible exact LeO.none _)
      | (with_reducible refine LeO.ite ?_ ?_)
      | (with_reducible refine LeO.bind ?_ (fun _ => ?_))
      | exact ih0 _ _
      | exact LeO.none _
      | refine LeO.ite ?_ ?_
      | refine LeO.bind ?_ (fun _ => ?_)
set_option maxHeartbeats 8000000 in
set_option maxRecDepth 100000 in
theorem papermilllaw61_great.calls (k : Nat) (A0 : Option Addr) (c0 : Nat) (l0 : List (S24)) (r : Bool) (w : World) (hr0 : Kd.C k24 w A0 l0.length l0) (hc0 : l0.length ≤ c0) (h : papermilllaw61_great.f k l0 = some r) :
    Calls Tryd.prog 11 #[.slice A0 l0.length c0] w fun e w' => e = .returned (.bool r) ∧ Drawn0 w w' := by
  have HR0 := Aside0.mk hr0
  have HC0 := Aside0.mk hc0
  clear hr0 hc0
  have H : (if (l0.length : Int) > 30 then (some true) else (papermilllaw61_great.l0 k l0 0)) = some r := h
  clear h
  by_cases c2 : (l0.length : Int) > 30
  ·rw [if_pos c2] at H
   have c2b0 : decide (30 < (l0.length : Int)) = true := decide_eq_true c2
   have c2b1 : decide (30 < l0.length) = true := decide_eq_true (by omega)
   clear c2
   obtain rfl := Option.some.inj H
   go_enter Tryd.func11, Tryd.ntmps11
   go_wp2
   go_ret
   exact ⟨by first | rfl | (simp; done) | (simp [*]; done), by repeat (first | exact Drawn0.refl _ | apply Drawn0.step)⟩
  ·rw [if_neg c2] at H
   have c2b0 : decide (30 < (l0.length : Int)) = false := decide_eq_false c2
   have c2b1 : decide (30 < l0.length) = false := decide_eq_false (by omega)
   clear c2
   have H' := Aside0.mk H
   clear H
   go_enter Tryd.func11, Tryd.ntmps11
   go_wp2
   go_loopg [3] k (fun kq v3 w' => ∃ (x3_1 : Int), v3 = .int .i64 x3_1 ∧ Aside0 (papermilllaw61_great.l0 kq l0 x3_1 = some r) ∧ Aside0 (kq ≤ k) ∧ Drawn0 w w')
   case atStart => exact ⟨(0), (by first | rfl | (simp; done) | (simp [*]; done)), H', ⟨Nat.le_refl _⟩, by repeat (first | exact Drawn0.refl _ | apply Drawn0.step)⟩
   case round =>
    clear H'
    try clear c1
    try clear c2
    try clear c2b0
    try clear c2b1
    try clear p2
    obtain ⟨x3_1, rfl, HA, HK1, ⟨m1, rfl⟩⟩ := hrel
    cases gk with
    | zero => exact absurd HA.out (by simp [papermilllaw61_great.l0])
    | succ k1 =>
     have H := HA.out
     clear HA
     simp only [papermilllaw61_great.l0] at H
     by_cases c3 : x3_1 < (l0.length : Int)
     ·rw [if_pos c3] at H
      have c3b0 : decide (x3_1 < (l0.length : Int)) = true := decide_eq_true c3
      clear c3
      by_cases c4 : 0 ≤ x3_1
      ·rw [if_pos c4] at H
       have c4b0 : decide (0 ≤ x3_1) = true := decide_eq_true c4
       clear c4
       by_cases c5 : (((rd_T24 l0 x3_1).f6).length : Int) > 60
       ·rw [if_pos c5] at H
        have c5b0 : decide (60 < (((rd_T24 l0 x3_1).f6).length : Int)) = true := decide_eq_true c5
        have c5b1 : decide (60 < ((rd_T24 l0 x3_1).f6).length) = true := decide_eq_true (by omega)
        clear c5
        obtain rfl := Option.some.inj H
        have p101 : 0 ≤ (x3_1 : Int) := of_decide_eq_true (by first | (with_reducible assumption) | assumption)
        have q101 : x3_1 < (l0.length : Int) := of_decide_eq_true (by first | (with_reducible assumption) | assumption)
        obtain ⟨ad101, A101_6, c101_6, e101, hx101_0, hx101_1, hx101_2, hx101_3, hx101_4, hx101_5, hx101_6, hl101_6, hi101_6⟩ := at_T24 HR0.out x3_1 p101 q101
        cases e101
        have HR101_6 := Aside0.mk hi101_6
        have HC101_6 := Aside0.mk hl101_6
        clear hi101_6 hl101_6
        replace p101 := eq_true p101
        replace q101 := eq_true q101
        go_wp2
        go_ret
        exact ⟨by first | rfl | (simp; done) | (simp [*]; done), by repeat (first | exact Drawn0.refl _ | apply Drawn0.step)⟩
       ·rw [if_neg c5] at H
        have c5b0 : decide (60 < (((rd_T24 l0 x3_1).f6).length : Int)) = false := decide_eq_false c5
        have c5b1 : decide (60 < ((rd_T24 l0 x3_1).f6).length) = false := decide_eq_false (by omega)
        clear c5
        have H' := Aside0.mk H
        clear H
        have p101 : 0 ≤ (x3_1 : Int) := of_decide_eq_true (by first | (with_reducible assumption) | assumption)
        have q101 : x3_1 < (l0.length : Int) := of_decide_eq_true (by first | (with_reducible assumption) | assumption)
        obtain ⟨ad101, A101_6, c101_6, e101, hx101_0, hx101_1, hx101_2, hx101_3, hx101_4, hx101_5, hx101_6, hl101_6, hi101_6⟩ := at_T24 HR0.out x3_1 p101 q101
        cases e101
        have HR101_6 := Aside0.mk hi101_6
        have HC101_6 := Aside0.mk hl101_6
        clear hi101_6 hl101_6
        replace p101 := eq_true p101
        replace q101 := eq_true q101
        go_wp2
        go_roundg k1
        case measure => have := HK1.out; omega
        case rel => exact ⟨(wrap64 (x3_1 + 1)), (by first | rfl | (simp; done) | (simp [*]; done)), H', ⟨by have := HK1.out; omega⟩, by repeat (first | exact Drawn0.refl _ | apply Drawn0.step)⟩
      ·rw [if_neg c4] at H
       exact absurd H (by simp)
     ·rw [if_neg c3] at H
      have c3b0 : decide (x3_1 < (l0.length : Int)) = false := decide_eq_false c3
      clear c3
      obtain rfl := Option.some.inj H
      go_wp2
      go_ret
      exact ⟨by first | rfl | (simp; done) | (simp [*]; done), by repeat (first | exact Drawn0.refl _ | apply Drawn0.step)⟩

/-! ### journal_within: function 32 -/
def journal_within.l0 : Nat → List Int → Int → Int → Option (Bool)
  | 0, _, _, _ => none
  | k + 1, x5, x6, x7 => if x7 < x6 then (if 0 ≤ x7 then (if x7 < (x5.length : Int) then (if (rd x5 x7) < (-1000000000000) then (some false) else (if (rd x5 x7) > 1000000000000 then (some false) else (journal_within.l0 k x5 x6 (wrap64 (x7 + 1))))) else (none)) else (none)) else (some true)
def journal_within.f (k : Nat) (l0 : List Int) : Option (Bool) := journal_within.l0 k l0 (l0.length : Int) 0
theorem journal_within.mono_l : ∀ k, (∀ y0 y1 y2, LeO (journal_within.l0 k y0 y1 y2) (journal_within.l0 (k + 1) y0 y1 y2))
  | 0 => fun _ _ _ r h => by simp [journal_within.l0] at h
  | k + 1 => by
    have ih0 := journal_within.mono_l k
    · intro y0 y1 y2
      unfold journal_within.l0
      repeat' first
      | (with_reducible exact ih0 _ _ _)
      | (with_reducible exact LeO.refl _)
      | (with_reducible exact LeO.none _)
      | (with_reducible refine LeO.ite ?_ ?_)
      | (with_reducible refine LeO.bind ?_ (fun _ => ?_))
      | exact ih0 _ _ _
      | exact LeO.none _
      | refine LeO.ite ?_ ?_
      | refine LeO.bind ?_ (fun _ => ?_)
theorem journal_within.mono : ∀ a0 k, LeO (journal_within.f k a0) (journal_within.f (k + 1) a0) := by
  intro a0 k
  have ih0 := journal_within.mono_l k
  unfold journal_within.f
  repeat' first
      | (with_reducible exact ih0 _ _ _)
      | (with_reducible exact LeO.refl _)
      | (with_reducible exact LeO.none _)
      | (with_reducible refine LeO.ite ?_ ?_)
      | (with_reducible refine LeO.bind ?_ (fun _ => ?_))
      | exact ih0 _ _ _
      | exact LeO.none _
      | refine LeO.ite ?_ ?_
      | refine LeO.bind ?_ (fun _ => ?_)
set_option maxHeartbeats 8000000 in
set_option maxRecDepth 100000 in
theorem journal_within.calls (k : Nat) (A0 : Option Addr) (c0 : Nat) (l0 : List Int) (r : Bool) (w : World) (hr0 : Kd.C (Kd.int .i64) w A0 l0.length l0) (hc0 : l0.length ≤ c0) (h : journal_within.f k l0 = some r) :
    Calls Tryd.prog 32 #[.slice A0 l0.length c0] w fun e w' => e = .returned (.bool r) ∧ Drawn0 w w' := by
  have HR0 := Aside0.mk hr0
  have HC0 := Aside0.mk hc0
  clear hr0 hc0
  have H : (journal_within.l0 k l0 (l0.length : Int) 0) = some r := h
  clear h
  have H' := Aside0.mk H
  clear H
  go_enter Tryd.func32, Tryd.ntmps32
  go_wp2
  go_loopg [7] k (fun kq v7 w' => ∃ (x7_1 : Int), v7 = .int .i64 x7_1 ∧ Aside0 (journal_within.l0 kq l0 (l0.length : Int) x7_1 = some r) ∧ Aside0 (kq ≤ k) ∧ Drawn0 w w')
  case atStart => exact ⟨(0), (by first | rfl | (simp; done) | (simp [*]; done)), H', ⟨Nat.le_refl _⟩, by repeat (first | exact Drawn0.refl _ | apply Drawn0.step)⟩
  case round =>
   clear H'
   obtain ⟨x7_1, rfl, HA, HK1, ⟨m1, rfl⟩⟩ := hrel
   cases gk with
   | zero => exact absurd HA.out (by simp [journal_within.l0])
   | succ k1 =>
    have H := HA.out
    clear HA
    simp only [journal_within.l0] at H
    by_cases c2 : x7_1 < (l0.length : Int)
    ·rw [if_pos c2] at H
     have c2b0 : decide (x7_1 < (l0.length : Int)) = true := decide_eq_true c2
     clear c2
     by_cases c3 : 0 ≤ x7_1
     ·rw [if_pos c3] at H
      have c3b0 : decide (0 ≤ x7_1) = true := decide_eq_true c3
      clear c3
      by_cases c4 : x7_1 < (l0.length : Int)
      ·rw [if_pos c4] at H
       have c4b0 : decide (x7_1 < (l0.length : Int)) = true := decide_eq_true c4
       clear c4
       by_cases c5 : (rd l0 x7_1) < (-1000000000000)
       ·rw [if_pos c5] at H
        have c5b0 : decide ((rd l0 x7_1) < (-1000000000000)) = true := decide_eq_true c5
        clear c5
        obtain rfl := Option.some.inj H
        have p102 : 0 ≤ (x7_1 : Int) := of_decide_eq_true (by first | (with_reducible assumption) | assumption)
        have q102 : x7_1 < (l0.length : Int) := of_decide_eq_true (by first | (with_reducible assumption) | assumption)
        obtain ⟨ad102, e102, hx102_0⟩ := Kd.at_int HR0.out x7_1 p102 q102
        cases e102
        replace p102 := eq_true p102
        replace q102 := eq_true q102
        go_wp2
        go_ret
        exact ⟨by first | rfl | (simp; done) | (simp [*]; done), by repeat (first | exact Drawn0.refl _ | apply Drawn0.step)⟩
       ·rw [if_neg c5] at H
        have c5b0 : decide ((rd l0 x7_1) < (-1000000000000)) = false := decide_eq_false c5
        clear c5
        by_cases c6 : (rd l0 x7_1) > 1000000000000
        ·rw [if_pos c6] at H
         have c6b0 : decide (1000000000000 < (rd l0 x7_1)) = true := decide_eq_true c6
         clear c6
         obtain rfl := Option.some.inj H
         have p102 : 0 ≤ (x7_1 : Int) := of_decide_eq_true (by first | (with_reducible assumption) | assumption)
         have q102 : x7_1 < (l0.length : Int) := of_decide_eq_true (by first | (with_reducible assumption) | assumption)
         obtain ⟨ad102, e102, hx102_0⟩ := Kd.at_int HR0.out x7_1 p102 q102
         cases e102
         replace p102 := eq_true p102
         replace q102 := eq_true q102
         go_wp2
         go_ret
         exact ⟨by first | rfl | (simp; done) | (simp [*]; done), by repeat (first | exact Drawn0.refl _ | apply Drawn0.step)⟩
        ·rw [if_neg c6] at H
         have c6b0 : decide (1000000000000 < (rd l0 x7_1)) = false := decide_eq_false c6
         clear c6
         have H' := Aside0.mk H
         clear H
         have p102 : 0 ≤ (x7_1 : Int) := of_decide_eq_true (by first | (with_reducible assumption) | assumption)
         have q102 : x7_1 < (l0.length : Int) := of_decide_eq_true (by first | (with_reducible assumption) | assumption)
         obtain ⟨ad102, e102, hx102_0⟩ := Kd.at_int HR0.out x7_1 p102 q102
         cases e102
         replace p102 := eq_true p102
         replace q102 := eq_true q102
         go_wp2
         go_roundg k1
         case measure => have := HK1.out; omega
         case rel => exact ⟨(wrap64 (x7_1 + 1)), (by first | rfl | (simp; done) | (simp [*]; done)), H', ⟨by have := HK1.out; omega⟩, by repeat (first | exact Drawn0.refl _ | apply Drawn0.step)⟩
      ·rw [if_neg c4] at H
       exact absurd H (by simp)
     ·rw [if_neg c3] at H
      exact absurd H (by simp)
    ·rw [if_neg c2] at H
     have c2b0 : decide (x7_1 < (l0.length : Int)) = false := decide_eq_false c2
     clear c2
     obtain rfl := Option.some.inj H
     go_wp2
     go_ret
     exact ⟨by first | rfl | (simp; done) | (simp [*]; done), by repeat (first | exact Drawn0.refl _ | apply Drawn0.step)⟩

end Go.Proofs.YtpcicooogiialaaDoor.PG
