-- Written by a program of this session (hyb.py), which runs the print over the translation with contracts of its own added; it is not the print itself. Lean checks it.
import Derived.Test.YtdnjbakhnnckbaaDoorPBx0
namespace Go.Proofs.YtdnjbakhnnckbaaDoor.PB
open Go.RowKit Go.Proofs.YtdnjbakhnnckbaaDoorW.PrintWords Go.Proofs.YtdnjbakhnnckbaaDoorW.PrintLast Go.Proofs.YtdnjbakhnnckbaaDoorW.PrintMore
attribute [local go_sem] max2_int min2_int max_two min_two max_three min_three max_four min_four   -- for this text's walks alone
set_option linter.unusedVariables false
set_option linter.unusedSimpArgs false

/-! ### given: a slice whose capacity is its length, or a row of one's own; append to it -/
def encU : Nat → Int → List Int
  | 0, c => [c]
  | k + 1, c => if c ≥ 128 then (c % 128 + 128) :: encU k (c / 128) else [c]
def codeOf (n : Int) : Int := if n < 0 then -2 * n - 1 else 2 * n

/-- A slice whose capacity is its length, or a row of the call's own. -/
def Ap (w0 w : World) (v : Value) (xs : List Int) : Prop :=
  (∃ A, v = .slice A xs.length xs.length ∧ Kd.C (Kd.int .u8) w A xs.length xs) ∨ Kd.R (Kd.int .u8) 5 w w0.heap.size (fun _ => True) v xs
theorem Ap.slice {w0 w : World} {v : Value} {xs : List Int} (h : Ap w0 w v xs) : ∃ A c, v = .slice A xs.length c := by
  rcases h with ⟨A, rfl, _⟩ | h
  · exact ⟨A, _, rfl⟩
  · exact Kd.R_slice h
section
variable {ops : Array Oper} {rest : List Oper} {o : Oper} {a : Act} {Q : Exit → Act → World → Prop}
theorem ap_append {w0 W : World} (hgd : o.guard = none) (s x : Operand) (ho : o.op = .call { callee := .builtin .append, args := #[s, x], argTypes := #[22, 22] })
    (v : Value) (xs : List Int) (y : Int) (hs : a.eval s = v) (hx : a.eval x = .slice (some ⟨W.heap.size, 0, none⟩) 1 1)
    (HA : Ap w0 W v xs) (HB : Below w0.heap.size w0 W) (hl : xs.length + 1 ≤ 140737488355328)
    (h : ∀ v1 w1, Kd.R (Kd.int .u8) 5 w1 w0.heap.size (fun _ => True) v1 (xs ++ [y]) → Below w0.heap.size w0 w1 → wpList Tryd.prog ops Q rest (a.put o.dst v1) w1) :
    wpList Tryd.prog ops Q (o :: rest) a (W.alloc (.cells #[.int .u8 y] 5)) := by
  rcases HA with ⟨A, rfl, hr⟩ | HR
  · obtain ⟨i0, hi, hzz⟩ := Option.map_eq_some_iff.1 info5
    simp only [Prod.mk.injEq] at hzz
    obtain ⟨hz0, hz1, hz2⟩ := hzz
    have hr1 := Kd.reads_of_C (d := (0 : Int)) (Kd.C_below hr (below_alloc (Below.refl W.heap.size W) (.cells #[.int .u8 y] 5)))
    refine wpList_append_grows (W.alloc (.cells #[.int .u8 y] 5)) hgd s x 22 ho 5 i0 (.int .u8 0) 1 1 Tryd.underlying22 hi hz0 hz1 hz2 rfl (by decide) A xs.length xs.length (xs.map (Value.int .u8)) hs ?_ (by simp) ?_ ⟨W.heap.size, 0, none⟩ 1 1 [.int .u8 y] hx rfl
      (World.news_of_block (cs := #[.int .u8 y]) (t := 5) (fr := (0, 0)) (heap_alloc_new W _)) (by simp [Value.oneCell']) (by omega) (by simp only [maxLen]; omega) (by omega) ?_
    · intro hA
      rcases Nat.eq_zero_or_pos xs.length with h0 | h0
      · exact ⟨h0, h0⟩
      · obtain ⟨ad, he, _⟩ := hr1.2.2 h0
        rw [hA] at he
        cases he
    · intro b hb j u hu
      have hj : j < xs.length := by
        have := (List.getElem?_eq_some_iff.1 hu).1
        simpa using this
      obtain ⟨ad, he, hc⟩ := hr1.2.2 (by omega)
      rw [hb] at he
      injection he with he
      subst he
      rw [hc j hj]
      rw [List.getElem?_map, List.getElem?_eq_getElem hj] at hu
      rw [List.getD_eq_getElem?_getD, List.getElem?_eq_getElem hj]
      simpa using hu
    · intro v1 w1 hown hg
      have hs1 : w0.heap.size ≤ (W.alloc (.cells #[.int .u8 y] 5)).heap.size := by
        have := HB.size
        simp
        omega
      refine h v1 w1 (Kd.R_of_own (own_weaken (by simpa [encs] using hown) hs1) (fun _ _ => trivial)) ((below_alloc HB _).grown hg hs1 (by simp))
  · exact Kd.R_append (Kd.int .u8) w0.heap.size hgd s x 22 5 (.int .u8 0) 1 ho Tryd.underlying22 info5 rfl (by decide) (by decide) v xs y [.int .u8 y] (fun _ => True) (fun _ => False) hs hx rfl (fun _ hk => hk.elim) (fun _ _ => trivial) HR HB HB.size (by omega)
      (fun v1 w1 h1 h2 _ _ => h v1 w1 h1 h2)
end
open Go in
theorem or1 (x : Int) (h0 : 0 ≤ x) (h1 : x < 9223372036854775808) : Go.bits .or .u64 (x * 2) 1 = x * 2 + 1 := by
  rw [u64_or _ _ (by omega) (by omega) (by omega) (by omega), nat_join 1 _ _ (by omega) (by decide)]
  omega
def Fit : Nat → Int → Prop
  | 0, c => c < 128
  | k + 1, c => Fit k (c / 128)
theorem encU_end (m : Nat) (c : Int) (h : c < 128) : encU m c = [c] := by
  cases m with
  | zero => rfl
  | succ m => simp only [encU]; rw [if_neg (by omega)]
theorem or128 (x : Int) (h0 : 0 ≤ x) (h1 : x < 128) : Go.bits .or .u8 x 128 = x + 128 := by
  have : ∀ n : Nat, n < 128 → Go.bits .or .u8 (n : Int) 128 = (n : Int) + 128 := by decide
  obtain ⟨n, rfl⟩ := Int.eq_ofNat_of_zero_le h0
  exact this n (by omega)
/-! ### given: the table of crc -/
def crcTab : List Int := [0, 498536548, 997073096, 651767980, 1994146192, 1802195444, 1303535960, 1342533948, 3988292384, 4027552580, 3604390888, 3412177804, 2607071920, 2262029012, 2685067896, 3183342108]
def TabA : Option Addr := some ⟨0, 0, none⟩
def crcNib (x : Int) : Int := Go.bits .xor .u32 (x / 16) (rd crcTab (Go.bits .and .u32 x 15))
def crcByte (x c : Int) : Int := crcNib (crcNib (Go.bits .xor .u32 x (c % 4294967296)))
def crcRun (x : Int) (l : List Int) : Int := l.foldl crcByte x
theorem crcAnd15 (x : Int) : 0 ≤ Go.bits .and .u32 x 15 ∧ Go.bits .and .u32 x 15 < 16 := by
  unfold Go.bits
  simp only
  have h : (BitVec.ofInt 32 x &&& BitVec.ofInt 32 15).toNat ≤ 15 := by
    rw [BitVec.toNat_and]
    exact Nat.and_le_right
  show 0 ≤ IntKind.u32.wrap ((BitVec.ofInt 32 x &&& BitVec.ofInt 32 15).toNat : Int) ∧ IntKind.u32.wrap ((BitVec.ofInt 32 x &&& BitVec.ofInt 32 15).toNat : Int) < 16
  generalize (BitVec.ofInt 32 x &&& BitVec.ofInt 32 15).toNat = n at h
  rw [show IntKind.u32.wrap (n : Int) = (n : Int) from by rw [IntKind.wrap_u32]; omega]
  omega
theorem crcDrop (l : List Int) (k : Int) (h0 : 0 ≤ k) (h : k < (l.length : Int)) : l.drop k.toNat = rd l k :: l.drop (k.toNat + 1) := by
  rw [List.drop_eq_getElem_cons (by omega : k.toNat < l.length)]
  congr 1
  simp [rd, List.getElem?_eq_getElem (by omega : k.toNat < l.length)]
theorem add_zero_ (n : Nat) : Addr.add ⟨0, 0, none⟩ n = ⟨0, n, none⟩ := by simp [Addr.add]; exact Eq.symm

/-! ### given: '[]byte("..")' of a constant: the row bears a mark behind its last cell, and reads as it is -/
theorem lit_C (w : World) (xs : List Int) (hl : xs.length ≤ 9223372036854775807) (fr : Nat × Nat) : Kd.C (Kd.int .u8) (w.alloc (.cells (xs.map (Value.int .u8)).toArray 5 fr)) (some ⟨w.heap.size, 0, none⟩) xs.length xs := by
  refine Kd.C_of_reads (d := (0 : Int)) ⟨rfl, hl, fun _ => ⟨_, rfl, fun j hj => ?_⟩⟩
  have ha : (⟨w.heap.size, 0, none⟩ : Addr).add j = ⟨w.heap.size, j, none⟩ := by simp [Addr.add]; exact Eq.symm
  rw [ha]
  have hb : (w.alloc (.cells (xs.map (Value.int .u8)).toArray 5 fr)).heap[w.heap.size]? = some (.cells (xs.map (Value.int .u8)).toArray 5 fr) := by
    show (w.heap.push _)[w.heap.size]? = _
    simp
  unfold World.cell?
  simp only [hb]
  simp [hj]
theorem conv_const (w : World) (C : Array Value) (n c : Nat) : Sem.run Tryd.prog (convert 22 22 (.slice (some ⟨w.heap.size, 0, none⟩) n c)) (w.alloc (.cells C 5)) = .ok (.slice (some ⟨w.heap.size, 0, none⟩) n c) (w.alloc (.cells C 5 (C.size, C.size + 1))) :=
  Go.Lib.run_convert_bytes_const w 22 5 C n c Tryd.underlying22 Tryd.underlying5

/-! ### crc_Extend: function 15 -/
def crc_Extend.f (sum : Int) (l1 : List Int) : Option Int := if l1.length ≤ 17592186044416 then some (Go.bits .xor .u32 IntKind.u32.max (crcRun (Go.bits .xor .u32 IntKind.u32.max sum) l1)) else none
set_option maxHeartbeats 4000000 in
theorem crc_Extend.calls (a0 : Int) (A1 : Option Addr) (c1 : Nat) (l1 : List Int) (r : Int) (w : World) (hr1 : Kd.C (Kd.int .u8) w A1 l1.length l1) (hc1 : l1.length ≤ c1) (hT : Kd.C (Kd.int .u32) w TabA crcTab.length crcTab) (h : crc_Extend.f a0 l1 = some r) :
    Calls Tryd.prog 15 #[.int .u32 a0, .slice A1 l1.length c1] w fun e w' => e = .returned (.int .u32 r) ∧ Drawn0 w w' := by
  have HR1 := Aside0.mk hr1
  have HC1 := Aside0.mk hc1
  have HT := Aside0.mk hT
  clear hr1 hc1 hT
  unfold crc_Extend.f at h
  split at h
  case isFalse => cases h
  rename_i hlen
  injection h with h
  have HLEN := Aside0.mk hlen
  have H := Aside0.mk h
  clear h hlen
  have hs32 : IntKind.u32.signed = false := rfl
  go_enter Tryd.func15, Tryd.ntmps15
  go_wp2
  repeat (go_quiet (fail); try go_wp2)
  go_loopg [5, 12] l1.length (fun kq v5 v12 w' => ∃ (X : Int) (k : Int), v5 = .int .u32 X ∧ v12 = .int .i64 k ∧ Aside0 (0 ≤ k ∧ k ≤ l1.length) ∧ Aside0 (kq = l1.length - k.toNat) ∧ Aside0 (crcRun (Go.bits .xor .u32 IntKind.u32.max a0) l1 = crcRun X (l1.drop k.toNat)) ∧ Drawn0 w w')
  case atStart => exact ⟨_, 0, rfl, rfl, ⟨by omega⟩, ⟨by simp⟩, ⟨by simp⟩, Drawn0.refl _⟩
  case round =>
    obtain ⟨X, k, rfl, rfl, HK, HG, HX, ⟨m1, rfl⟩⟩ := hrel
    by_cases c4 : k < (l1.length : Int)
    · have c4b0 : decide (k < (l1.length : Int)) = true := decide_eq_true c4
      have p138 : 0 ≤ k := HK.out.1
      obtain ⟨ad138, e138, hx138_0⟩ := Kd.at_int HR1.out k p138 c4
      cases e138
      replace p138 := eq_true p138
      replace c4 := eq_true c4
      have t1 := crcAnd15 (Go.bits .xor .u32 X (rd l1 k % 4294967296))
      have t2 := crcAnd15 (crcNib (Go.bits .xor .u32 X (rd l1 k % 4294967296)))
      obtain ⟨ad1, e1, hx1⟩ := Kd.at_int HT.out _ t1.1 t1.2
      obtain ⟨ad2, e2, hx2⟩ := Kd.at_int HT.out _ t2.1 t2.2
      obtain rfl : ad1 = ⟨0, 0, none⟩ := (Option.some.inj e1).symm
      obtain rfl : ad2 = ⟨0, 0, none⟩ := (Option.some.inj e2).symm
      clear e1 e2
      obtain ⟨t1a, t1b⟩ := t1
      obtain ⟨t2a, t2b⟩ := t2
      unfold crcNib at hx2 t2a t2b
      replace t1a := eq_true t1a
      replace t1b := eq_true t1b
      replace t2a := eq_true t2a
      replace t2b := eq_true t2b
      rw [add_zero_] at hx1 hx2
      go_wp2
      have hk0 := HK.out
      have hl0 := HLEN.out
      have c4' : k < (l1.length : Int) := of_eq_true c4
      have hgk := HG.out
      go_roundg (l1.length - (k.toNat + 1))
      case measure => omega
      case rel =>
        refine ⟨_, wrap64 (k + 1), rfl, rfl, ⟨by unfold wrap64; omega⟩, ⟨by unfold wrap64; omega⟩, ⟨?_⟩, by repeat (first | exact Drawn0.refl _ | apply Drawn0.step)⟩
        rw [HX.out, show (wrap64 (k + 1)).toNat = k.toNat + 1 by unfold wrap64; omega, crcDrop l1 k hk0.1 c4']
        simp only [crcRun, List.foldl_cons, crcByte, crcNib]
    · have c4b0 : decide (k < (l1.length : Int)) = false := decide_eq_false c4
      have hk0 := HK.out
      have hX := HX.out
      rw [List.drop_eq_nil_of_le (by omega)] at hX
      have HX' : Aside0 (Go.bits .xor .u32 IntKind.u32.max X = r) := ⟨by rw [← H.out, hX]; simp [crcRun]⟩
      clear hX
      go_wp2
      repeat (go_quiet (fail); try go_wp2)
      go_ret
      exact ⟨by simp; exact HX'.out, by repeat (first | exact Drawn0.refl _ | apply Drawn0.step)⟩

/-! ### crc_Sum: function 13 -/
def crc_Sum.f (l0 : List Int) : Option (Int) := (crc_Extend.f 0 l0).bind fun t101 => (some t101)
set_option maxHeartbeats 8000000 in
set_option maxRecDepth 100000 in
theorem crc_Sum.calls (A0 : Option Addr) (c0 : Nat) (l0 : List Int) (r : Int) (w : World) (hr0 : Kd.C (Kd.int .u8) w A0 l0.length l0) (hc0 : l0.length ≤ c0) (hT : Kd.C (Kd.int .u32) w TabA crcTab.length crcTab) (h : crc_Sum.f l0 = some r) :
    Calls Tryd.prog 13 #[.slice A0 l0.length c0] w fun e w' => e = .returned (.int .u32 r) ∧ Drawn0 w w' := by
  have HT := Aside0.mk hT
  clear hT
  have HR0 := Aside0.mk hr0
  have HC0 := Aside0.mk hc0
  clear hr0 hc0
  have H : ((crc_Extend.f 0 l0).bind fun t101 => (some t101)) = some r := h
  clear h
  replace H := Option.bind_eq_some_iff.mp H
  obtain ⟨t101, A20, H⟩ := H
  replace H : (some t101) = some r := H
  have A2 := Aside0.mk A20
  clear A20
  obtain rfl := Option.some.inj H
  go_enter Tryd.func13, Tryd.ntmps13
  go_wp2_with (first | ((with_reducible refine gate_callee (f := 15) rfl ?_); refine goesL_ (some 4) rfl rfl Tryd.func15 (by kernel_rfl) rfl #[.int .u32 0, .slice A0 l0.length c0] rfl (by (try simp only [List.map_toArray, List.map_cons, List.map_nil]); first | done | rfl | (simp only [List.length_drop, List.length_take]; rfl)) ?_; (with_reducible refine (crc_Extend.calls 0 _ _ l0 t101 _ ?side1 ?side2 ?sideT A2.out).mono ?_); (case sideT => repeat (first | exact HT.out | exact (Kd.C_below HT.out HB.out) | (with_reducible refine Kd.C_alloc ?_ _) | (with_reducible refine Kd.C_drewN ?_ _) | (with_reducible refine Kd.C_drew ?_))); (case side1 => repeat (first | exact HR0.out | (with_reducible refine Kd.C_alloc ?_ _) | (with_reducible refine Kd.C_drewN ?_ _) | (with_reducible refine Kd.C_drew ?_))); (case side2 => exact HC0.out); rintro e w' ⟨rfl, ⟨nd, rfl⟩⟩; refine ⟨_, rfl, ?_⟩))
  go_ret
  exact ⟨by first | rfl | (simp; done) | (simp [*]; done), by repeat (first | exact Drawn0.refl _ | apply Drawn0.step)⟩

/-! ### wire_appended: function 30 -/
set_option maxHeartbeats 400000 in
theorem wire_appended.pos (A0 : Option Addr) (c0 : Nat) (l0 : List Int) (a1 : Int) (w : World) (hr0 : Kd.C (Kd.int .u8) w A0 l0.length l0) (hc0 : l0.length ≤ c0)
    (ha : 0 ≤ a1) (hb : a1 < 9223372036854775808) (hl : l0.length ≤ 140737488355000) :
    Calls Tryd.prog 30 #[.slice A0 l0.length c0, .int .i64 a1] w fun e w' => ∃ v0_ : Value, e = .returned v0_ ∧ Kd.R (Kd.int .u8) 5 w' w.heap.size (fun _ => True) v0_ (l0 ++ encU 9 (codeOf a1)) ∧ Below w.heap.size w w' := by
  have hfit : Aside0 (Fit 9 (a1 * 2) ∧ codeOf a1 = a1 * 2) := ⟨by simp only [Fit]; omega, by unfold codeOf; rw [if_neg (by omega)]; omega⟩
  have hA0 : Aside0 (Ap w w (.slice A0 l0.length l0.length) l0) := ⟨.inl ⟨A0, rfl, hr0⟩⟩
  clear hr0
  go_enter Tryd.func30, Tryd.ntmps30
  go_wp2
  go_loopw [0, 5] (fun v u wr => ∃ (xs : List Int) (c : Int) (m : Nat), u = .int .u64 c ∧ 0 ≤ c ∧ c < 18446744073709551616 ∧ Aside0 (Fit m c) ∧ Aside0 (xs ++ encU m c = l0 ++ encU 9 (codeOf a1)) ∧ xs.length + m ≤ 140737488355100 ∧ Aside0 (Ap w wr v xs) ∧ Aside0 (Below w.heap.size w wr)) (fun _ u _ => (intOf u).toNat)
  case atStart => exact ⟨l0, a1 * 2, 9, rfl, by omega, by omega, ⟨hfit.out.1⟩, ⟨by rw [hfit.out.2]⟩, by omega, hA0, ⟨Below.refl _ _⟩⟩
  case round =>
    obtain ⟨xs, c, m, rfl, h0, h1, hf, heq, hlen, hA, hB⟩ := hrel
    by_cases hc : 128 ≤ c
    · have hor := or128 (c % 128) (by omega) (by omega)
      cases m with
      | zero => exact absurd hf.out (by simp only [Fit]; omega)
      | succ m =>
      have he : encU (m + 1) c = (c % 128 + 128) :: encU m (c / 128) := by simp only [encU]; rw [if_pos (by omega)]
      have heq' : Aside0 (xs ++ [c % 128 + 128] ++ encU m (c / 128) = l0 ++ encU 9 (codeOf a1)) := ⟨by rw [List.append_assoc, List.singleton_append, ← he]; exact heq.out⟩
      have hf' : Aside0 (Fit m (c / 128)) := ⟨hf.out⟩
      clear heq hf he
      go_wp2_with (first | (at_builtin; refine ap_append rfl (.tmp 25) (.tmp 30) rfl _ xs (c % 128 + 128) rfl rfl hA.out hB.out (by omega) ?_; intro v1 w1 hv1 hb1; have hv2 : Aside0 _ := ⟨hv1⟩; have hb2 : Aside0 _ := ⟨hb1⟩; clear hv1 hb1 hA hB))
      go_roundw
      case rel => exact ⟨_, c / 128, m, rfl, by omega, by omega, hf', heq', by simp; omega, ⟨.inr hv2.out⟩, hb2⟩
      case measure => simp [intOf]; omega
    · have he : encU m c = [c] := encU_end m c (by omega)
      have heq' : Aside0 (xs ++ [c] = l0 ++ encU 9 (codeOf a1)) := ⟨by rw [← he]; exact heq.out⟩
      clear heq hf he
      go_wp2_with (first | (at_builtin; refine ap_append rfl (.tmp 34) (.tmp 37) rfl _ xs c rfl rfl hA.out hB.out (by omega) ?_; intro v1 w1 hv1 hb1; have hv2 : Aside0 _ := ⟨hv1⟩; have hb2 : Aside0 _ := ⟨hb1⟩; clear hv1 hb1 hA hB))
      go_ret
      exact ⟨_, rfl, by rw [← heq'.out]; exact hv2.out, hb2.out⟩
set_option maxHeartbeats 400000 in
theorem wire_appended.neg (A0 : Option Addr) (c0 : Nat) (l0 : List Int) (a1 : Int) (w : World) (hr0 : Kd.C (Kd.int .u8) w A0 l0.length l0) (hc0 : l0.length ≤ c0)
    (ha : a1 < 0) (hb : -9223372036854775808 ≤ a1) (hl : l0.length ≤ 140737488355000) :
    Calls Tryd.prog 30 #[.slice A0 l0.length c0, .int .i64 a1] w fun e w' => ∃ v0_ : Value, e = .returned v0_ ∧ Kd.R (Kd.int .u8) 5 w' w.heap.size (fun _ => True) v0_ (l0 ++ encU 9 (codeOf a1)) ∧ Below w.heap.size w w' := by
  have hfit : Aside0 (Fit 9 (-(a1 + 1) * 2 + 1) ∧ codeOf a1 = -(a1 + 1) * 2 + 1) := ⟨by simp only [Fit]; omega, by unfold codeOf; rw [if_pos (by omega)]; omega⟩
  have hor1 := or1 (-(a1 + 1)) (by omega) (by omega)
  have hA0 : Aside0 (Ap w w (.slice A0 l0.length l0.length) l0) := ⟨.inl ⟨A0, rfl, hr0⟩⟩
  clear hr0
  go_enter Tryd.func30, Tryd.ntmps30
  go_wp2
  go_loopw [0, 5] (fun v u wr => ∃ (xs : List Int) (c : Int) (m : Nat), u = .int .u64 c ∧ 0 ≤ c ∧ c < 18446744073709551616 ∧ Aside0 (Fit m c) ∧ Aside0 (xs ++ encU m c = l0 ++ encU 9 (codeOf a1)) ∧ xs.length + m ≤ 140737488355100 ∧ Aside0 (Ap w wr v xs) ∧ Aside0 (Below w.heap.size w wr)) (fun _ u _ => (intOf u).toNat)
  case atStart => exact ⟨l0, -(a1 + 1) * 2 + 1, 9, rfl, by omega, by omega, ⟨hfit.out.1⟩, ⟨by rw [hfit.out.2]⟩, by omega, hA0, ⟨Below.refl _ _⟩⟩
  case round =>
    obtain ⟨xs, c, m, rfl, h0, h1, hf, heq, hlen, hA, hB⟩ := hrel
    by_cases hc : 128 ≤ c
    · have hor := or128 (c % 128) (by omega) (by omega)
      cases m with
      | zero => exact absurd hf.out (by simp only [Fit]; omega)
      | succ m =>
      have he : encU (m + 1) c = (c % 128 + 128) :: encU m (c / 128) := by simp only [encU]; rw [if_pos (by omega)]
      have heq' : Aside0 (xs ++ [c % 128 + 128] ++ encU m (c / 128) = l0 ++ encU 9 (codeOf a1)) := ⟨by rw [List.append_assoc, List.singleton_append, ← he]; exact heq.out⟩
      have hf' : Aside0 (Fit m (c / 128)) := ⟨hf.out⟩
      clear heq hf he
      go_wp2_with (first | (at_builtin; refine ap_append rfl (.tmp 25) (.tmp 30) rfl _ xs (c % 128 + 128) rfl rfl hA.out hB.out (by omega) ?_; intro v1 w1 hv1 hb1; have hv2 : Aside0 _ := ⟨hv1⟩; have hb2 : Aside0 _ := ⟨hb1⟩; clear hv1 hb1 hA hB))
      go_roundw
      case rel => exact ⟨_, c / 128, m, rfl, by omega, by omega, hf', heq', by simp; omega, ⟨.inr hv2.out⟩, hb2⟩
      case measure => simp [intOf]; omega
    · have he : encU m c = [c] := encU_end m c (by omega)
      have heq' : Aside0 (xs ++ [c] = l0 ++ encU 9 (codeOf a1)) := ⟨by rw [← he]; exact heq.out⟩
      clear heq hf he
      go_wp2_with (first | (at_builtin; refine ap_append rfl (.tmp 34) (.tmp 37) rfl _ xs c rfl rfl hA.out hB.out (by omega) ?_; intro v1 w1 hv1 hb1; have hv2 : Aside0 _ := ⟨hv1⟩; have hb2 : Aside0 _ := ⟨hb1⟩; clear hv1 hb1 hA hB))
      go_ret
      exact ⟨_, rfl, by rw [← heq'.out]; exact hv2.out, hb2.out⟩
def wire_appended.f (l0 : List Int) (a1 : Int) : Option (List Int) := if l0.length ≤ 140737488355000 ∧ -9223372036854775808 ≤ a1 ∧ a1 < 9223372036854775808 then some (l0 ++ encU 9 (codeOf a1)) else none
theorem wire_appended.calls (A0 : Option Addr) (c0 : Nat) (l0 : List Int) (a1 : Int) (r : List Int) (w : World) (hr0 : Kd.C (Kd.int .u8) w A0 l0.length l0) (hc0 : l0.length ≤ c0) (h : wire_appended.f l0 a1 = some r) :
    Calls Tryd.prog 30 #[.slice A0 l0.length c0, .int .i64 a1] w fun e w' => ∃ v0_ : Value, e = .returned v0_ ∧ Kd.R (Kd.int .u8) 5 w' w.heap.size (fun _ => True) v0_ r ∧ Below w.heap.size w w' := by
  unfold wire_appended.f at h
  split at h
  · rename_i hc
    injection h with h
    subst h
    by_cases ha : 0 ≤ a1
    · exact wire_appended.pos A0 c0 l0 a1 w hr0 hc0 ha hc.2.2 hc.1
    · exact wire_appended.neg A0 c0 l0 a1 w hr0 hc0 (by omega) hc.2.1 hc.1
  · cases h

/-! ### wire_PutInt: function 26 -/
def wire_PutInt.f (l0 : List Int) (a1 : Int) : Option (List Int) := (wire_appended.f l0 a1).bind fun t102 => (some t102)
set_option maxHeartbeats 8000000 in
set_option maxRecDepth 100000 in
theorem wire_PutInt.calls (A0 : Option Addr) (c0 : Nat) (l0 : List Int) (a1 : Int) (r : List Int) (w : World) (hr0 : Kd.C (Kd.int .u8) w A0 l0.length l0) (hc0 : l0.length ≤ c0) (h : wire_PutInt.f l0 a1 = some r) :
    Calls Tryd.prog 26 #[.slice A0 l0.length c0, .int .i64 a1] w fun e w' => ∃ v0_ : Value, e = .returned (v0_) ∧ Kd.R (Kd.int .u8) 5 w' w.heap.size (fun _ => True) v0_ r ∧ Below w.heap.size w w' := by
  have HR0 := Aside0.mk hr0
  have HC0 := Aside0.mk hc0
  clear hr0 hc0
  have HB := Aside0.mk (Below.refl w.heap.size w)
  have H : ((wire_appended.f l0 a1).bind fun t102 => (some t102)) = some r := h
  clear h
  replace H := Option.bind_eq_some_iff.mp H
  obtain ⟨t102, A30, H⟩ := H
  replace H : (some t102) = some r := H
  have A3 := Aside0.mk A30
  clear A30
  obtain rfl := Option.some.inj H
  go_enter Tryd.func26, Tryd.ntmps26
  go_wp2_with (first | ((with_reducible refine gate_callee (f := 30) rfl ?_); refine goesL_ (some 7) rfl rfl Tryd.func30 (by kernel_rfl) rfl #[.slice A0 l0.length c0, .int .i64 a1] rfl (by (try simp only [List.map_toArray, List.map_cons, List.map_nil]); first | done | rfl | (simp only [List.length_drop, List.length_take]; rfl)) ?_; (with_reducible refine (wire_appended.calls _ _ l0 a1 t102 _ ?side1 ?side2 A3.out).mono ?_); (case side1 => repeat (first | exact HR0.out | (with_reducible refine Kd.C_alloc ?_ _) | (with_reducible refine Kd.C_drewN ?_ _) | (with_reducible refine Kd.C_drew ?_))); (case side2 => exact HC0.out); rintro e w4 ⟨v103, rfl, ho0, hb⟩; refine ⟨_, rfl, ?_⟩; have n0_ := Aside0.mk (Kd.R_lower ho0 (below_size (by repeat (first | (with_reducible first | exact HB.out | apply below_alloc | apply pw_below_drewN | apply below_drew1) | exact HB.out)))); have n1_ := Aside0.mk (below_step (by repeat (first | (with_reducible first | exact HB.out | apply below_alloc | apply pw_below_drewN | apply below_drew1) | exact HB.out)) hb); clear HB; have HO104 := n0_; have HB := n1_; clear n0_ n1_; (try clear hb); (try clear hb2); (try clear hk); (try clear hi); (try clear ho0)))
  go_ret
  exact ⟨_, by first | rfl | (simp [errW_none, errW_some] <;> rfl) | (simp [*, errW_none, errW_some] <;> rfl), by (with_reducible repeat (first | apply Kd.R_alloc | apply Kd.R_drewN | apply Kd.R_drew)); exact HO104.out, by repeat (first | (with_reducible first | exact HB.out | apply below_alloc | apply pw_below_drewN | apply below_drew1) | exact HB.out)⟩

/-! ### crc_Frame: function 17 -/
def crc_Frame.f (l0 : List Int) : Option (List Int × Int) := if (l0.length : Int) > 65536 then (some (([] : List Int), 8)) else ((crc_Sum.f l0).bind fun t105 => ((wire_PutInt.f ([] : List Int) (l0.length : Int)).bind fun t106 => (if t106.length + l0.length < 140737488355328 then ((some (t106 ++ l0 : List Int)).bind fun y109 => ((some (([(t105 / 16777216) % 256, (t105 / 65536) % 256, (t105 / 256) % 256, (t105) % 256] : List Int) : List Int)).bind fun y112 => (if y109.length + y112.length < 140737488355328 then (some ((y109 ++ y112), 0)) else (none)))) else (none))))
set_option maxHeartbeats 8000000 in
set_option maxRecDepth 100000 in
theorem crc_Frame.calls (A0 : Option Addr) (c0 : Nat) (l0 : List Int) (r1 : List Int) (r2 : Int) (w : World) (hr0 : Kd.C (Kd.int .u8) w A0 l0.length l0) (hc0 : l0.length ≤ c0) (hT : Kd.C (Kd.int .u32) w TabA crcTab.length crcTab) (h : crc_Frame.f l0 = some (r1, r2)) :
    Calls Tryd.prog 17 #[.slice A0 l0.length c0] w fun e w' => ∃ v0_ : Value, e = .returned (.tuple #[v0_, .int .i64 r2]) ∧ Kd.R (Kd.int .u8) 5 w' w.heap.size (fun _ => True) v0_ r1 ∧ Below w.heap.size w w' := by
  have HT := Aside0.mk hT
  clear hT
  have HR0 := Aside0.mk hr0
  have HC0 := Aside0.mk hc0
  clear hr0 hc0
  have HB := Aside0.mk (Below.refl w.heap.size w)
  have H : (if (l0.length : Int) > 65536 then (some (([] : List Int), 8)) else ((crc_Sum.f l0).bind fun t105 => ((wire_PutInt.f ([] : List Int) (l0.length : Int)).bind fun t106 => (if t106.length + l0.length < 140737488355328 then ((some (t106 ++ l0 : List Int)).bind fun y109 => ((some (([(t105 / 16777216) % 256, (t105 / 65536) % 256, (t105 / 256) % 256, (t105) % 256] : List Int) : List Int)).bind fun y112 => (if y109.length + y112.length < 140737488355328 then (some ((y109 ++ y112), 0)) else (none)))) else (none))))) = some (r1, r2) := h
  clear h
  by_cases c2 : (l0.length : Int) > 65536
  ·rw [if_pos c2] at H
   have c2b0 : decide (65536 < (l0.length : Int)) = true := decide_eq_true c2
   have c2b1 : decide (65536 < l0.length) = true := decide_eq_true (by omega)
   clear c2
   simp only [Option.some.injEq, Prod.mk.injEq] at H
   obtain ⟨rfl, rfl⟩ := H
   go_enter Tryd.func17, Tryd.ntmps17
   go_wp2
   go_ret2
   exact ⟨_, by first | rfl | (simp [errW_none, errW_some] <;> rfl) | (simp [*, errW_none, errW_some] <;> rfl), by first | exact Kd.R_nil _ _ _ _ _ | exact Kd.N_nil _ _ _ _ _ | exact Kd.V_nil _ _ _ _ _ | exact Kd.Q_nil _ _ _ _ _ | exact Kd.S_nil _ _ _ _ _, by repeat (first | (with_reducible first | exact HB.out | apply below_alloc | apply pw_below_drewN | apply below_drew1) | exact HB.out)⟩
  ·rw [if_neg c2] at H
   have c2b0 : decide (65536 < (l0.length : Int)) = false := decide_eq_false c2
   have c2b1 : decide (65536 < l0.length) = false := decide_eq_false (by omega)
   clear c2
   replace H := Option.bind_eq_some_iff.mp H
   obtain ⟨t105, A30, H⟩ := H
   replace H : ((wire_PutInt.f ([] : List Int) (l0.length : Int)).bind fun t106 => (if t106.length + l0.length < 140737488355328 then ((some (t106 ++ l0 : List Int)).bind fun y109 => ((some (([(t105 / 16777216) % 256, (t105 / 65536) % 256, (t105 / 256) % 256, (t105) % 256] : List Int) : List Int)).bind fun y112 => (if y109.length + y112.length < 140737488355328 then (some ((y109 ++ y112), 0)) else (none)))) else (none))) = some (r1, r2) := H
   have A3 := Aside0.mk A30
   clear A30
   replace H := Option.bind_eq_some_iff.mp H
   obtain ⟨t106, A40, H⟩ := H
   replace H : (if t106.length + l0.length < 140737488355328 then ((some (t106 ++ l0 : List Int)).bind fun y109 => ((some (([(t105 / 16777216) % 256, (t105 / 65536) % 256, (t105 / 256) % 256, (t105) % 256] : List Int) : List Int)).bind fun y112 => (if y109.length + y112.length < 140737488355328 then (some ((y109 ++ y112), 0)) else (none)))) else (none)) = some (r1, r2) := H
   have A4 := Aside0.mk A40
   clear A40
   by_cases c5 : t106.length + l0.length < 140737488355328
   ·rw [if_pos c5] at H
    have LMc5 := Aside0.mk c5
    clear c5
    obtain ⟨y109, hy109⟩ : ∃ y_ : List Int, y_ = (t106 ++ l0) := ⟨_, rfl⟩
    replace H : ((some (([(t105 / 16777216) % 256, (t105 / 65536) % 256, (t105 / 256) % 256, (t105) % 256] : List Int) : List Int)).bind fun y112 => (if y109.length + y112.length < 140737488355328 then (some ((y109 ++ y112), 0)) else (none))) = some (r1, r2) := by first | (rw [hy109]; with_reducible exact H) | (have H2_ := (Option.bind_some _ _).symm.trans H; rw [hy109]; with_reducible exact H2_) | (have H2_ := (Option.bind_some _ _).symm.trans H; with_reducible exact H2_) | with_reducible exact H | (rw [hy109]; exact H) | exact H
    have Ny109 := Aside0.mk hy109
    clear hy109
    obtain ⟨y112, hy112⟩ : ∃ y_ : List Int, y_ = (([(t105 / 16777216) % 256, (t105 / 65536) % 256, (t105 / 256) % 256, (t105) % 256] : List Int)) := ⟨_, rfl⟩
    replace H : (if y109.length + y112.length < 140737488355328 then (some ((y109 ++ y112), 0)) else (none)) = some (r1, r2) := by first | (rw [hy112]; with_reducible exact H) | (have H2_ := (Option.bind_some _ _).symm.trans H; rw [hy112]; with_reducible exact H2_) | (have H2_ := (Option.bind_some _ _).symm.trans H; with_reducible exact H2_) | with_reducible exact H | (rw [hy112]; exact H) | exact H
    have Ny112 := Aside0.mk hy112
    clear hy112
    by_cases c6 : y109.length + y112.length < 140737488355328
    ·rw [if_pos c6] at H
     have LMc6 := Aside0.mk c6
     clear c6
     obtain ⟨y115, hy115⟩ : ∃ y_ : List Int, y_ = (y109 ++ y112) := ⟨_, rfl⟩
     replace H : (some (y115, 0)) = some (r1, r2) := by first | (rw [hy115]; with_reducible exact H) | (have H2_ := (Option.bind_some _ _).symm.trans H; rw [hy115]; with_reducible exact H2_) | (have H2_ := (Option.bind_some _ _).symm.trans H; with_reducible exact H2_) | with_reducible exact H | (rw [hy115]; exact H) | exact H
     have Ny115 := Aside0.mk hy115
     clear hy115
     simp only [Option.some.injEq, Prod.mk.injEq] at H
     obtain ⟨rfl, rfl⟩ := H
     go_enter Tryd.func17, Tryd.ntmps17
     go_wp2_with (first | ((with_reducible refine gate_callee (f := 13) rfl ?_); refine goesL_ (some 10) rfl rfl Tryd.func13 (by kernel_rfl) rfl #[.slice A0 l0.length c0] rfl (by (try simp only [List.map_toArray, List.map_cons, List.map_nil]); first | done | rfl | (simp only [List.length_drop, List.length_take]; rfl)) ?_; (with_reducible refine (crc_Sum.calls _ _ l0 t105 _ ?side1 ?side2 ?sideT A3.out).mono ?_); (case sideT => repeat (first | exact HT.out | exact (Kd.C_below HT.out HB.out) | (with_reducible refine Kd.C_alloc ?_ _) | (with_reducible refine Kd.C_drewN ?_ _) | (with_reducible refine Kd.C_drew ?_))); (case side1 => repeat (first | exact HR0.out | (with_reducible refine Kd.C_alloc ?_ _) | (with_reducible refine Kd.C_drewN ?_ _) | (with_reducible refine Kd.C_drew ?_))); (case side2 => exact HC0.out); rintro e w' ⟨rfl, ⟨nd, rfl⟩⟩; refine ⟨_, rfl, ?_⟩) | ((with_reducible refine gate_callee (f := 26) rfl ?_); refine goesL_ (some 13) rfl rfl Tryd.func26 (by kernel_rfl) rfl #[.slice none 0 0, .int .i64 (l0.length : Int)] rfl (by (try simp only [List.map_toArray, List.map_cons, List.map_nil]); first | done | rfl | (simp only [List.length_drop, List.length_take]; rfl)) ?_; (refine (wire_PutInt.calls _ _ ([] : List Int) (l0.length : Int) t106 _ ?side1 ?side2 A4.out).mono ?_); (case side1 => exact Kd.C_nil _ _); (case side2 => exact Nat.le_refl _); rintro e w7 ⟨v107, rfl, ho0, hb⟩; refine ⟨_, rfl, ?_⟩; have n0_ := Aside0.mk (Kd.R_lower ho0 (below_size (by repeat (first | (with_reducible first | exact HB.out | apply below_alloc | apply pw_below_drewN | apply below_drew1) | exact HB.out)))); have n1_ := Aside0.mk (below_step (by repeat (first | (with_reducible first | exact HB.out | apply below_alloc | apply pw_below_drewN | apply below_drew1) | exact HB.out)) hb); clear HB; have HO108 := n0_; have HB := n1_; clear n0_ n1_; (try clear hb); (try clear hb2); (try clear hk); (try clear hi); (try clear ho0)) | ((with_reducible refine gate_builtin (b := .append) (xs := #[.tmp 13, .tmp 14]) rfl ?_); at_builtin; refine Kd.R_append_rows (Kd.int .u8) (w0 := w) w.heap.size rfl (.tmp 13) (.tmp 14) 22 5 (.int .u8 0) 1 rfl Tryd.underlying22 info5 rfl (by decide) (by omega) v107 t106 l0 _ _ _ (fun _ => True) (fun _ => False) rfl rfl ?aO ?aR (fun _ _ h => h) (fun _ h => h.elim) ?aF ?aB ?aS ?aL ?_; (case aR => repeat (first | exact (Kd.C_below HR0.out HB.out) | (with_reducible refine Kd.C_alloc ?_ _) | (with_reducible refine Kd.C_drewN ?_ _) | (with_reducible refine Kd.C_drew ?_))); (case aB => exact (by repeat (first | (with_reducible first | exact HB.out | apply below_alloc | apply pw_below_drewN | apply below_drew1) | exact HB.out))); (case aF => exact (fun _ _ => trivial)); (case aO => exact (by (with_reducible repeat (first | apply Kd.R_alloc | apply Kd.R_drewN | apply Kd.R_drew)); exact HO108.out)); (case aS => exact (below_size (by repeat (first | (with_reducible first | exact HB.out | apply below_alloc | apply pw_below_drewN | apply below_drew1) | exact HB.out)))); (case aL => have := LMc5.out; omega); intro v110 w8 ho hb hg hat; rw [← Ny109.out] at ho; have n0_ := Aside0.mk (hb); have n1_ := Aside0.mk (ho); clear HB; clear HO108; have HB := n0_; have HO111 := n1_; clear n0_ n1_; clear ho hb hg hat) | ((with_reducible refine gate_dst (N := 28) rfl ?_); refine Kd.R_lit (Kd.int .u8) _ 5 ?hg (N := 28) ?hd (xs := ([(t105 / 16777216) % 256, (t105 / 65536) % 256, (t105 / 256) % 256, (t105) % 256] : List Int)) (inner := [.int .u8 ((t105 / 16777216) % 256), .int .u8 ((t105 / 65536) % 256), .int .u8 ((t105 / 256) % 256), .int .u8 ((t105) % 256)]) (ok := fun _ => True) (okp := fun _ => True) ?hr ?hp (fun _ hk => hk) trivial (Below.refl _ _) (Nat.le_refl _) (by simp) ?_; (case hd => rfl); (case hg => rfl); (case hr => first | (go_simp; done) | (go_simp; rfl)); (case hp => exact (Reps.one (show Kd.M (Kd.int .u8) _ _ _ ((t105 / 16777216) % 256) [.int .u8 ((t105 / 16777216) % 256)] from rfl) (Reps.one (show Kd.M (Kd.int .u8) _ _ _ ((t105 / 65536) % 256) [.int .u8 ((t105 / 65536) % 256)] from rfl) (Reps.one (show Kd.M (Kd.int .u8) _ _ _ ((t105 / 256) % 256) [.int .u8 ((t105 / 256) % 256)] from rfl) (Reps.one (show Kd.M (Kd.int .u8) _ _ _ ((t105) % 256) [.int .u8 ((t105) % 256)] from rfl) (Reps.none _ _)))))); intro v113 w9 ho10 hb hg_ hnew_; clear hg_ hnew_; (first | rw [← Ny112.out] at ho10 | (simp only [Int.reduceToNat] at ho10; rw [← Ny112.out] at ho10)); have n0_ := Aside0.mk (Kd.R_elder' (by (with_reducible repeat (first | apply Kd.R_alloc | apply Kd.R_drewN | apply Kd.R_drew)); exact HO111.out) (Kd.R_base ho10) hb); have n1_ := Aside0.mk (Kd.R_lower (Kd.R_new' ho10 (Kd.R_lt (by (with_reducible repeat (first | apply Kd.R_alloc | apply Kd.R_drewN | apply Kd.R_drew)); exact HO111.out))) (below_size (by repeat (first | (with_reducible first | exact HB.out | apply below_alloc | apply pw_below_drewN | apply below_drew1) | exact HB.out)))); have n2_ := Aside0.mk (below_step (by repeat (first | (with_reducible first | exact HB.out | apply below_alloc | apply pw_below_drewN | apply below_drew1) | exact HB.out)) hb); clear HO111; clear HB; have HO111 := n0_; have HO114 := n1_; have HB := n2_; clear n0_ n1_ n2_; clear hb ho10; obtain ⟨Ao12, co12, eo12⟩ := Kd.R_slice HO114.out; subst eo12) | ((with_reducible refine gate_builtin (b := .append) (xs := #[.tmp 16, .tmp 28]) rfl ?_); at_builtin; refine Kd.R_append_rows (Kd.int .u8) (w0 := w) w.heap.size rfl (.tmp 16) (.tmp 28) 22 5 (.int .u8 0) 1 rfl Tryd.underlying22 info5 rfl (by decide) (by omega) v110 y109 y112 _ _ _ (fun k_ => some k_ ≠ (.slice Ao12 y112.length co12 : Value).ownBlock) (fun _ => False) rfl rfl ?aO ?aR (fun _ _ h => h) (fun _ h => h.elim) ?aF ?aB ?aS ?aL ?_; (case aR => repeat (first | exact (Kd.R_reads' HO114.out).2.2 | (with_reducible refine Kd.C_alloc ?_ _) | (with_reducible refine Kd.C_drewN ?_ _) | (with_reducible refine Kd.C_drew ?_))); (case aB => exact (by repeat (first | (with_reducible first | exact HB.out | apply below_alloc | apply pw_below_drewN | apply below_drew1) | exact HB.out))); (case aF => exact (fun k_ hk => Kd.fresh' (Kd.R_lt (by (with_reducible repeat (first | apply Kd.R_alloc | apply Kd.R_drewN | apply Kd.R_drew)); exact HO114.out)) k_ hk)); (case aO => exact (by (with_reducible repeat (first | apply Kd.R_alloc | apply Kd.R_drewN | apply Kd.R_drew)); exact Kd.R_mono HO111.out (fun _ hk => hk.2))); (case aS => exact (below_size (by repeat (first | (with_reducible first | exact HB.out | apply below_alloc | apply pw_below_drewN | apply below_drew1) | exact HB.out)))); (case aL => have := LMc6.out; omega); intro v116 w11 ho hb hg hat; rw [← Ny115.out] at ho; have n0_ := Aside0.mk (Kd.R_after (ok := (fun _ => True)) (by (with_reducible repeat (first | apply Kd.R_alloc | apply Kd.R_drewN | apply Kd.R_drew)); exact HO114.out) hg hat); have n1_ := Aside0.mk (hb); have n2_ := Aside0.mk (ho); clear HO114; clear HB; clear HO111; have HO114 := n0_; have HB := n1_; have HO117 := n2_; clear n0_ n1_ n2_; clear ho hb hg hat))
     go_ret2
     exact ⟨_, by first | rfl | (simp [errW_none, errW_some] <;> rfl) | (simp [*, errW_none, errW_some] <;> rfl), by (with_reducible repeat (first | apply Kd.R_alloc | apply Kd.R_drewN | apply Kd.R_drew)); exact Kd.R_mono HO117.out (fun _ hk => trivial), by repeat (first | (with_reducible first | exact HB.out | apply below_alloc | apply pw_below_drewN | apply below_drew1) | exact HB.out)⟩
    ·rw [if_neg c6] at H
     exact absurd H (by simp)
   ·rw [if_neg c5] at H
    exact absurd H (by simp)

end Go.Proofs.YtdnjbakhnnckbaaDoor.PB
