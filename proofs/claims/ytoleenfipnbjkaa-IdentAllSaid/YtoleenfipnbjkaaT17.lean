/- The reference's table: what its functions answer. -/
import Derived.Test.YtoleenfipnbjkaaT16
namespace Go.Proofs.Ytoleenfipnbjkaa.Tab
open Go.RowKit Go.Maps Go.Proofs.Ytoleenfipnbjkaa.PX Go.Proofs.YtoleenfipnbjkaaW.PrintWords Go.Proofs.YtoleenfipnbjkaaW.PrintLast Go.Proofs.YtoleenfipnbjkaaW.PrintMore
set_option linter.unusedVariables false
set_option linter.unusedSimpArgs false
/-- The place of the first name that is s, or -1. -/
def findI (s : ByteArray) (l : List ByteArray) : Int := match idx s l with | some i => (i : Int) | none => -1
theorem find_loop (l : List ByteArray) (s : ByteArray) (hl : l.length ≤ 9223372036854775000) (d : Nat) : ∀ (i k : Nat), i + d = l.length → d + 1 ≤ k →
    papermillref06_find.l0 k l s (i : Int) = some (match idx s (l.drop i) with | some j => ((i + j : Nat) : Int) | none => -1) := by
  induction d with
  | zero =>
    intro i k h hk
    obtain ⟨k, rfl⟩ : ∃ m, k = m + 1 := ⟨k - 1, by omega⟩
    simp only [papermillref06_find.l0]
    rw [if_neg (by omega), List.drop_eq_nil_of_le (by omega)]
    rfl
  | succ d ih =>
    intro i k h hk
    obtain ⟨k, rfl⟩ : ∃ m, k = m + 1 := ⟨k - 1, by omega⟩
    simp only [papermillref06_find.l0]
    rw [if_pos (by omega), if_pos (by omega)]
    have hd : l.drop i = rdOf ByteArray.empty l (i : Int) :: l.drop (i + 1) := by have := drop_rd l (i : Int) (by omega) (by omega); simpa using this
    rw [hd]
    by_cases hy : rdOf ByteArray.empty l (i : Int) = s
    · rw [if_pos (by rw [hy])]
      simp [idx, hy]
    · rw [if_neg (tl_ne hy), show wrap64 ((i : Int) + 1) = ((i + 1 : Nat) : Int) by (rw [wrap64_id (by omega) (by omega)]; omega), ih (i + 1) k (by omega) (by omega)]
      simp only [idx, if_neg (fun e => hy (data_inj.1 e))]
      cases idx s (l.drop (i + 1)) with
      | none => rfl
      | some j => simp only [Option.map_some]; rw [show i + 1 + j = i + (j + 1) by omega]
theorem RFind29 (A0 : Option Addr) (c0 : Nat) (l0 : List ByteArray) (s : ByteArray) (w : World) (hr0 : Kd.C Kd.string w A0 l0.length l0) (hc0 : l0.length ≤ c0) (hl : l0.length ≤ 9223372036854775000) :
    Calls Try.prog 29 #[.slice A0 l0.length c0, .string s] w fun e w' => e = .returned (.int .i64 (findI s l0)) ∧ Below w.heap.size w w' := by
  have h := find_loop l0 s hl l0.length 0 (l0.length + 1) (by omega) (by omega)
  refine (papermillref06_find.calls (l0.length + 1) A0 c0 l0 s (findI s l0) w hr0 hc0 ?_).mono fun e w' ⟨h1, h2⟩ => ⟨h1, h2.below⟩
  rw [List.drop_zero] at h
  show papermillref06_find.l0 (l0.length + 1) l0 s ((0 : Nat) : Int) = _
  rw [h]
  unfold findI
  cases idx s l0 with
  | none => rfl
  | some i => simp
/-- The reference's table at the block g; its blocks are of F. -/
def RTabI (w : World) (base g : Nat) (F : Nat → Prop) (names : List ByteArray) : Prop :=
  (base ≤ g ∧ F g) ∧ names.length ≤ 512 ∧ ∃ v, w.heap[g]? = some (.cells #[v] 47 (0, 0)) ∧ Kd.R Kd.string 9 w base (fun k => k ≠ g ∧ F k) v names
theorem RTabI.lt {w : World} {base g : Nat} {F : Nat → Prop} {names : List ByteArray} (h : RTabI w base g F names) : g < w.heap.size ∧ base ≤ g := ⟨blk_lt h.2.2.choose_spec.1, h.1.1⟩
theorem RTabI.keep {w w' : World} {base g : Nat} {F : Nat → Prop} {names : List ByteArray} (h : RTabI w base g F names) (hB : ∀ k, k < w.heap.size → F k → w'.heap[k]? = w.heap[k]?) : RTabI w' base g F names := by
  obtain ⟨hb, hl, v, hg, hR⟩ := h
  exact ⟨hb, hl, v, (hB g (blk_lt hg) hb.2).trans hg, Kd.R_step hR (fun k hk hlt => hB k hlt hk.2)⟩
theorem RTabI.below {w w' : World} {base g : Nat} {F : Nat → Prop} {names : List ByteArray} (h : RTabI w base g F names) (hB : Below w.heap.size w w') : RTabI w' base g F names := h.keep (fun k hk _ => hB.block k hk)
theorem RTabI.narrow {w : World} {base g : Nat} {F F' : Nat → Prop} {names : List ByteArray} (h : RTabI w base g F names) (hF : ∀ k, k < w.heap.size → F k → F' k) : RTabI w base g F' names := by
  obtain ⟨hb, hl, v, hg, hR⟩ := h
  exact ⟨⟨hb.1, hF g (blk_lt hg) hb.2⟩, hl, v, hg, Kd.R_mono (Kd.R_bound hR) (fun k hk => ⟨hk.1.1, hF k hk.2.2.1 hk.1.2⟩)⟩
theorem RTabI.row {w : World} {base g : Nat} {F : Nat → Prop} {names : List ByteArray} (h : RTabI w base g F names) : ∃ A c, w.heap[g]? = some (.cells #[.slice A names.length c] 47 (0, 0)) ∧ names.length ≤ c ∧ Kd.C Kd.string w A names.length names := by
  obtain ⟨hb, hl, v, hg, hR⟩ := h
  obtain ⟨A, c, rfl, hc, hC⟩ := Kd.R_reads hR
  exact ⟨A, c, hg, hc, hC⟩
set_option maxHeartbeats 400000 in
theorem RLen_calls (base g : Nat) (F : Nat → Prop) (names : List ByteArray) (w : World) (h : RTabI w base g F names) :
    Calls Try.prog 23 #[.pointer (some ⟨g, 0, none⟩)] w fun e w' => e = .returned (.int .i64 names.length) ∧ w' = w := by
  obtain ⟨A, c, hg, hc, hC⟩ := h.row
  have c0 : w.cell? ⟨g, 0, none⟩ = some (.slice A names.length c) := (blk_cell hg 0).trans rfl
  clear h hg hC hc
  go_enter Try.func23, Try.ntmps23
  go_wp2
  go_ret
  exact ⟨rfl, rfl⟩
theorem RLen_nil (w : World) : Calls Try.prog 23 #[.pointer none] w fun e w' => e = .returned (.int .i64 0) ∧ w' = w := by
  go_enter Try.func23, Try.ntmps23
  go_wp2
  go_ret
  exact ⟨rfl, rfl⟩
set_option maxHeartbeats 400000 in
theorem RFind_calls (base g : Nat) (F : Nat → Prop) (names : List ByteArray) (s : ByteArray) (w : World) (h : RTabI w base g F names) :
    Calls Try.prog 21 #[.pointer (some ⟨g, 0, none⟩), .string s] w fun e w' => e = .returned (.tuple #[.int .i64 ((idx s names).getD 0 : Nat), .bool (idx s names).isSome]) ∧ Below w.heap.size w w' := by
  obtain ⟨A, c, hg, hc, hC⟩ := h.row
  have HG := Aside0.mk hg
  have HC := Aside0.mk hC
  have HCC := Aside0.mk hc
  have HL := Aside0.mk h.2.1
  have HB := Aside0.mk (Below.refl w.heap.size w)
  have c0 : w.cell? ⟨g, 0, none⟩ = some (.slice A names.length c) := (blk_cell hg 0).trans rfl
  clear h hg hC hc
  have hi : ∃ q, idx s names = q := ⟨_, rfl⟩
  obtain ⟨q, hi⟩ := hi
  cases q with
  | none =>
    have HF := Aside0.mk (show findI s names = -1 by unfold findI; rw [hi])
    rw [hi]
    clear hi
    go_enter Try.func21, Try.ntmps21
    go_wp2_with (first | (go_at_call 29; go_must (refine (RFind29 _ _ names s _ (Kd.C_below HC.out HB.out) HCC.out (by have := HL.out; omega)).mono ?_; rw [HF.out]; rintro e w1 ⟨rfl, hb⟩; have HBn := Aside0.mk (below_step HB.out hb); clear HB hb; have HB := HBn; clear HBn; have c1 : w1.cell? ⟨g, 0, none⟩ = some (.slice A names.length c) := (blk_cell (blk_below HG.out HB.out) 0).trans rfl)))
    go_ret2
    exact ⟨rfl, HB.out⟩
  | some i =>
    have HF := Aside0.mk (show findI s names = (i : Int) by unfold findI; rw [hi])
    have d1 : decide ((i : Int) < 0) = false := decide_eq_false (by omega)
    rw [hi]
    clear hi
    go_enter Try.func21, Try.ntmps21
    go_wp2_with (first | (go_at_call 29; go_must (refine (RFind29 _ _ names s _ (Kd.C_below HC.out HB.out) HCC.out (by have := HL.out; omega)).mono ?_; rw [HF.out]; rintro e w1 ⟨rfl, hb⟩; have HBn := Aside0.mk (below_step HB.out hb); clear HB hb; have HB := HBn; clear HBn; have c1 : w1.cell? ⟨g, 0, none⟩ = some (.slice A names.length c) := (blk_cell (blk_below HG.out HB.out) 0).trans rfl)))
    go_ret2
    exact ⟨rfl, HB.out⟩
theorem RFind_nil (s : ByteArray) (w : World) : Calls Try.prog 21 #[.pointer none, .string s] w fun e w' => e = .returned (.tuple #[.int .i64 0, .bool false]) ∧ w' = w := by
  go_enter Try.func21, Try.ntmps21
  go_wp2
  go_ret2
  exact ⟨rfl, rfl⟩
set_option maxHeartbeats 400000 in
theorem RName_calls (base g : Nat) (F : Nat → Prop) (names : List ByteArray) (i : Int) (w : World) (h : RTabI w base g F names) :
    Calls Try.prog 22 #[.pointer (some ⟨g, 0, none⟩), .int .i64 i] w fun e w' => e = .returned (.tuple #[.string (nameF names i).1, .bool (nameF names i).2]) ∧ w' = w := by
  obtain ⟨A, c, hg, hc, hC⟩ := h.row
  have c0 : w.cell? ⟨g, 0, none⟩ = some (.slice A names.length c) := (blk_cell hg 0).trans rfl
  by_cases hi : 0 ≤ i
  · by_cases hi2 : i < names.length
    · obtain ⟨ad, rfl, hx⟩ := Kd.at_string hC i hi hi2
      have he : nameF names i = (rdOf ByteArray.empty names i, true) := if_pos ⟨hi, hi2⟩
      generalize rdOf ByteArray.empty names i = s at hx he
      rw [he]
      have d1 : decide (i < 0) = false := decide_eq_false (by omega)
      have d2 : decide ((names.length : Int) ≤ i) = false := decide_eq_false (by omega)
      clear hg hC he h hc
      replace hi := eq_true hi
      replace hi2 := eq_true hi2
      go_enter Try.func22, Try.ntmps22
      go_wp2
      go_ret2
      exact ⟨rfl, rfl⟩
    · have he : nameF names i = (E0, false) := if_neg (fun h => hi2 h.2)
      rw [he]
      have d1 : decide (i < 0) = false := decide_eq_false (by omega)
      have d2 : decide ((names.length : Int) ≤ i) = true := decide_eq_true (by omega)
      clear hg hC he h hc
      go_enter Try.func22, Try.ntmps22
      go_wp2
      go_ret2
      exact ⟨rfl, rfl⟩
  · have he : nameF names i = (E0, false) := if_neg (fun h => hi h.1)
    rw [he]
    have d1 : decide (i < 0) = true := decide_eq_true (by omega)
    clear hg hC he h hc
    go_enter Try.func22, Try.ntmps22
    go_wp2
    go_ret2
    exact ⟨rfl, rfl⟩
theorem RName_nil (i : Int) (w : World) : Calls Try.prog 22 #[.pointer none, .int .i64 i] w fun e w' => e = .returned (.tuple #[.string E0, .bool false]) ∧ w' = w := by
  go_enter Try.func22, Try.ntmps22
  go_wp2
  go_ret2
  exact ⟨rfl, rfl⟩
theorem RAdd_nil (s : ByteArray) (w : World) : Calls Try.prog 20 #[.pointer none, .string s] w fun e w' => e = .returned (.tuple #[.int .i64 0, .int .i64 14]) ∧ w' = w := by
  go_enter Try.func20, Try.ntmps20
  go_wp2
  go_ret2
  exact ⟨rfl, rfl⟩
set_option maxHeartbeats 400000 in
theorem RAdd_bad (base g : Nat) (F : Nat → Prop) (names : List ByteArray) (s : ByteArray) (w : World) (h : RTabI w base g F names) (hv : validB s = false) :
    Calls Try.prog 20 #[.pointer (some ⟨g, 0, none⟩), .string s] w fun e w' => e = .returned (.tuple #[.int .i64 0, .int .i64 5]) ∧ RTabI w' base g F names ∧ Below w.heap.size w w' := by
  have HI := Aside0.mk h
  have HB := Aside0.mk (Below.refl w.heap.size w)
  have d0 := hv
  clear h
  go_enter Try.func20, Try.ntmps20
  go_wp2_with (first | (go_at_call 11; (with_reducible refine (RValid_calls s _).mono ?_); rintro e w1 ⟨rfl, hb⟩; have HIn := Aside0.mk (HI.out.below hb); have HBn := Aside0.mk (below_step HB.out hb); obtain ⟨A, c, hg, hc, hC⟩ := HIn.out.row; have HG := Aside0.mk hg; have HC := Aside0.mk hC; have HCC := Aside0.mk hc; have c0 : w1.cell? ⟨g, 0, none⟩ = some (.slice A names.length c) := (blk_cell hg 0).trans rfl; clear HI HB hb hg hC hc; have HI := HIn; have HB := HBn; clear HIn HBn) | (go_at_call 29; go_must (refine (RFind29 _ _ names s _ HC.out HCC.out (by have := HI.out.2.1; omega)).mono ?_; rw [HF.out]; rintro e w2 ⟨rfl, hb⟩; have HIn := Aside0.mk (HI.out.below hb); have HBn := Aside0.mk (below_step HB.out hb); have HGn := Aside0.mk (blk_below HG.out hb); have c02 : w2.cell? ⟨g, 0, none⟩ = some (.slice A names.length c) := (blk_cell HGn.out 0).trans rfl; clear HI HB hb HG HC c0; have HI := HIn; have HB := HBn; have HG := HGn; clear HIn HBn HGn)))
  go_ret2
  exact ⟨rfl, HI.out, HB.out⟩
set_option maxHeartbeats 400000 in
theorem RAdd_there (base g : Nat) (F : Nat → Prop) (names : List ByteArray) (s : ByteArray) (w : World) (h : RTabI w base g F names) (hv : validB s = true) (i : Nat) (hi : idx s names = some i) :
    Calls Try.prog 20 #[.pointer (some ⟨g, 0, none⟩), .string s] w fun e w' => e = .returned (.tuple #[.int .i64 0, .int .i64 6]) ∧ RTabI w' base g F names ∧ Below w.heap.size w w' := by
  have HI := Aside0.mk h
  have HB := Aside0.mk (Below.refl w.heap.size w)
  have HF := Aside0.mk (show findI s names = (i : Int) by unfold findI; rw [hi])
  have d1 : decide (0 ≤ (i : Int)) = true := decide_eq_true (by omega)
  clear hi
  clear h
  go_enter Try.func20, Try.ntmps20
  go_wp2_with (first | (go_at_call 11; (with_reducible refine (RValid_calls s _).mono ?_); rintro e w1 ⟨rfl, hb⟩; have HIn := Aside0.mk (HI.out.below hb); have HBn := Aside0.mk (below_step HB.out hb); obtain ⟨A, c, hg, hc, hC⟩ := HIn.out.row; have HG := Aside0.mk hg; have HC := Aside0.mk hC; have HCC := Aside0.mk hc; have c0 : w1.cell? ⟨g, 0, none⟩ = some (.slice A names.length c) := (blk_cell hg 0).trans rfl; clear HI HB hb hg hC hc; have HI := HIn; have HB := HBn; clear HIn HBn) | (go_at_call 29; go_must (refine (RFind29 _ _ names s _ HC.out HCC.out (by have := HI.out.2.1; omega)).mono ?_; rw [HF.out]; rintro e w2 ⟨rfl, hb⟩; have HIn := Aside0.mk (HI.out.below hb); have HBn := Aside0.mk (below_step HB.out hb); have HGn := Aside0.mk (blk_below HG.out hb); have c02 : w2.cell? ⟨g, 0, none⟩ = some (.slice A names.length c) := (blk_cell HGn.out 0).trans rfl; clear HI HB hb HG HC c0; have HI := HIn; have HB := HBn; have HG := HGn; clear HIn HBn HGn)))
  go_ret2
  exact ⟨rfl, HI.out, HB.out⟩
set_option maxHeartbeats 400000 in
theorem RAdd_full (base g : Nat) (F : Nat → Prop) (names : List ByteArray) (s : ByteArray) (w : World) (h : RTabI w base g F names) (hv : validB s = true) (hi : idx s names = none) (hf : 512 ≤ names.length) :
    Calls Try.prog 20 #[.pointer (some ⟨g, 0, none⟩), .string s] w fun e w' => e = .returned (.tuple #[.int .i64 0, .int .i64 8]) ∧ RTabI w' base g F names ∧ Below w.heap.size w w' := by
  have HI := Aside0.mk h
  have HB := Aside0.mk (Below.refl w.heap.size w)
  have HF := Aside0.mk (show findI s names = -1 by unfold findI; rw [hi])
  have d1 : decide ((512 : Int) ≤ (names.length : Int)) = true := decide_eq_true (by omega)
  clear hi hf
  clear h
  go_enter Try.func20, Try.ntmps20
  go_wp2_with (first | (go_at_call 11; (with_reducible refine (RValid_calls s _).mono ?_); rintro e w1 ⟨rfl, hb⟩; have HIn := Aside0.mk (HI.out.below hb); have HBn := Aside0.mk (below_step HB.out hb); obtain ⟨A, c, hg, hc, hC⟩ := HIn.out.row; have HG := Aside0.mk hg; have HC := Aside0.mk hC; have HCC := Aside0.mk hc; have c0 : w1.cell? ⟨g, 0, none⟩ = some (.slice A names.length c) := (blk_cell hg 0).trans rfl; clear HI HB hb hg hC hc; have HI := HIn; have HB := HBn; clear HIn HBn) | (go_at_call 29; go_must (refine (RFind29 _ _ names s _ HC.out HCC.out (by have := HI.out.2.1; omega)).mono ?_; rw [HF.out]; rintro e w2 ⟨rfl, hb⟩; have HIn := Aside0.mk (HI.out.below hb); have HBn := Aside0.mk (below_step HB.out hb); have HGn := Aside0.mk (blk_below HG.out hb); have c02 : w2.cell? ⟨g, 0, none⟩ = some (.slice A names.length c) := (blk_cell HGn.out 0).trans rfl; clear HI HB hb HG HC c0; have HI := HIn; have HB := HBn; have HG := HGn; clear HIn HBn HGn)))
  go_ret2
  exact ⟨rfl, HI.out, HB.out⟩
set_option maxHeartbeats 1000000 in
theorem RAdd_new (base g : Nat) (F : Nat → Prop) (names : List ByteArray) (s : ByteArray) (w : World) (h : RTabI w base g F names) (hF : ∀ k, w.heap.size ≤ k → F k) (hv : validB s = true) (hi : idx s names = none) (hf : names.length < 512) :
    Calls Try.prog 20 #[.pointer (some ⟨g, 0, none⟩), .string s] w fun e w' => e = .returned (.tuple #[.int .i64 (names.length : Nat), .int .i64 0]) ∧ RTabI w' base g F (names ++ [s]) ∧ Below base w w' ∧ Keeps F w w' := by
  have HI := Aside0.mk h
  have HX := Aside0.mk h.1
  have HI0 := Aside0.mk h.lt.1
  have HB := Aside0.mk (Below.refl w.heap.size w)
  have HFF := Aside0.mk hF
  have HN := Aside0.mk hf
  have HF := Aside0.mk (show findI s names = -1 by unfold findI; rw [hi])
  have d1 : decide ((512 : Int) ≤ (names.length : Int)) = false := decide_eq_false (by omega)
  obtain ⟨n2, hn2⟩ : ∃ n2 : Nat, (names ++ [s]).length = n2 := ⟨_, rfl⟩
  have HN2 := Aside0.mk hn2
  have e2 : wrap64 ((n2 : Int) - 1) = (names.length : Int) := by rw [← hn2, List.length_append]; simp; unfold wrap64; omega
  have e1 : IntKind.i64.wrap ((n2 : Int) - 1) = (names.length : Int) := by rw [← hn2, List.length_append]; simp; rw [IntKind.wrap_i64]; omega
  clear h hi hf hF hn2
  go_enter Try.func20, Try.ntmps20
  go_wp2_with (first
    | (go_at_call 11; (with_reducible refine (RValid_calls s _).mono ?_); rintro e w1 ⟨rfl, hb⟩; have HIn := Aside0.mk (HI.out.below hb); have HBn := Aside0.mk (below_step HB.out hb); obtain ⟨A, c, hg, hc, hC⟩ := HIn.out.row; have HG := Aside0.mk hg; have HC := Aside0.mk hC; have HCC := Aside0.mk hc; have c0 : w1.cell? ⟨g, 0, none⟩ = some (.slice A names.length c) := (blk_cell hg 0).trans rfl; clear HI HB hb hg hC hc; have HI := HIn; have HB := HBn; clear HIn HBn)
    | (go_at_call 29; go_must (refine (RFind29 _ _ names s _ HC.out HCC.out (by have := HI.out.2.1; omega)).mono ?_; rw [HF.out]; rintro e w2 ⟨rfl, hb⟩; have HIn := Aside0.mk (HI.out.below hb); have HBn := Aside0.mk (below_step HB.out hb); have HGn := Aside0.mk (blk_below HG.out hb); have c02 : w2.cell? ⟨g, 0, none⟩ = some (.slice A names.length c) := (blk_cell HGn.out 0).trans rfl; clear HI HB hb HG HC c0; have HI := HIn; have HB := HBn; have HG := HGn; clear HIn HBn HGn))
    | ((with_reducible refine gate_builtin (b := .append) (xs := #[.tmp 28, .tmp 30]) rfl ?_); go_must (at_builtin; obtain ⟨_, _, v_, hg_, hR_⟩ := HI.out; have hv_ : v_ = .slice A names.length c := (by have h_ := (blk_cell hg_ 0).trans rfl; rw [c02] at h_; exact (Option.some.inj h_).symm); subst hv_; have HR := Aside0.mk hR_; clear hg_ hR_; refine Kd.R_append Kd.string (w0 := w2) base rfl (.tmp 28) (.tmp 30) 24 9 (.string E0) 16 rfl Try.underlying24 infoS rfl (by decide) (by decide) (.slice A names.length c) names s [.string s] (fun k_ => k_ ≠ g ∧ F k_) (fun _ => False) rfl rfl ?aP ?aK ?aF HR.out (Below.refl _ _) ?aS ?aL ?_; (case aP => rfl); (case aK => exact fun _ h => h.elim); (case aF => exact fun k_ hk => ⟨fun e_ => absurd (blk_lt HG.out) (by omega), HFF.out k_ (Nat.le_trans HB.out.size hk)⟩); (case aS => exact Nat.le_trans HX.out.1 (Nat.le_of_lt (blk_lt HG.out))); (case aL => have := HN.out; omega); intro v3 w3 hr3 hb3 hg3 hat3; have hown := HR.out.1; have BK3 := Aside0.mk (blk_grown HG.out hg3 (fun e => (hown g e.symm).1 rfl)); obtain ⟨A3, cp3, hv3⟩ := Kd.R_slice hr3; rw [HN2.out] at hv3; subst hv3; have c30 : w3.cell? ⟨g, 0, none⟩ = some (.slice A names.length c) := (blk_cell BK3.out 0).trans rfl; have f30 := blk_frozen BK3.out 0; have HR3 := Aside0.mk hr3; have HK3 := Aside0.mk ((Keeps.below (F := F) HB.out).trans (Keeps.grown hg3 (fun k_ e_ => (hown k_ e_).2))); have HB3 := Aside0.mk ((HB.out.mono (Nat.le_trans HX.out.1 (Nat.le_of_lt HI0.out))).trans hb3); clear c02 hown hr3 hb3 hg3 hat3 HG HR HI HB))
    | ((with_reducible refine gate_store (t := 24) (p := 33) rfl ?_); go_must (refine store_event (t := 24) (p := 33) (v := ?vo_w4) (w1 := (w3.setCell ⟨g, 0, none⟩ (.slice A3 n2 cp3))) ?hg ?ho ?hn ?hr ?_; (case ho => rfl); (case hg => rfl); (case hn => rfl); (case hr => first | (go_simp; done) | (go_simp; rfl)); intro w4 hw; have BK4 := Aside0.mk (show w4.heap[g]? = some (.cells #[.slice A3 n2 cp3] 47 (0, 0)) from (by rw [hw]; exact blk_put BK3.out 0 _ rfl)); have HR4 := Aside0.mk (show Kd.R Kd.string 9 w4 base (fun k => k ≠ g ∧ F k) (.slice A3 n2 cp3) (names ++ [s]) from (by rw [hw]; exact Kd.R_far HR3.out (fun k hk e => hk.1 e) _)); have HK4 := Aside0.mk (show Keeps F w w4 from (by rw [hw]; exact HK3.out.trans (Keeps.setCell w3 HX.out.2 _))); have HB4 := Aside0.mk (show Below base w w4 from (by rw [hw]; exact HB3.out.setCell HX.out.1 _)); have c40 : w4.cell? ⟨g, 0, none⟩ = some (.slice A3 n2 cp3) := (blk_cell BK4.out 0).trans rfl; clear hw c30 f30 BK3 HR3 HK3 HB3)))
  go_ret2
  exact ⟨rfl, ⟨HX.out, by have := HN.out; simp; omega, _, BK4.out, HR4.out⟩, HB4.out, HK4.out⟩
theorem RAdd_calls (base g : Nat) (F : Nat → Prop) (names : List ByteArray) (s : ByteArray) (w : World) (h : RTabI w base g F names) (hF : ∀ k, w.heap.size ≤ k → F k) :
    Calls Try.prog 20 #[.pointer (some ⟨g, 0, none⟩), .string s] w fun e w' => e = .returned (.tuple #[.int .i64 (addF names s).1, .int .i64 (addF names s).2.1]) ∧ RTabI w' base g F (addF names s).2.2 ∧ Below base w w' ∧ Keeps F w w' := by
  have hle : base ≤ w.heap.size := Nat.le_trans h.lt.2 (Nat.le_of_lt h.lt.1)
  unfold addF
  split
  · rename_i hv
    exact (RAdd_bad base g F names s w h hv).mono fun e w' ⟨h1, h2, h3⟩ => ⟨h1, h2, h3.mono hle, Keeps.below h3⟩
  · rename_i hv
    have hv' : validB s = true := by simpa using hv
    cases hi : idx s names with
    | some i =>
      rw [if_pos (by rfl)]
      exact (RAdd_there base g F names s w h hv' i hi).mono fun e w' ⟨h1, h2, h3⟩ => ⟨h1, h2, h3.mono hle, Keeps.below h3⟩
    | none =>
      rw [if_neg (by simp)]
      split
      · rename_i hf
        exact (RAdd_full base g F names s w h hv' hi hf).mono fun e w' ⟨h1, h2, h3⟩ => ⟨h1, h2, h3.mono hle, Keeps.below h3⟩
      · rename_i hf
        exact RAdd_new base g F names s w h hF hv' hi (by omega)
end Go.Proofs.Ytoleenfipnbjkaa.Tab
