/- New of names that are valid. -/
import Derived.Test.YtoleenfipnbjkaaT6
namespace Go.Proofs.Ytoleenfipnbjkaa.Tab
open Go.RowKit Go.Maps Go.Proofs.Ytoleenfipnbjkaa.PX Go.Proofs.YtoleenfipnbjkaaW.PrintWords Go.Proofs.YtoleenfipnbjkaaW.PrintLast Go.Proofs.YtoleenfipnbjkaaW.PrintMore
set_option linter.unusedVariables false
set_option linter.unusedSimpArgs false
/-- The names added one by one: what it ends with. -/
def newL (acc : List ByteArray) : List ByteArray → Int × List ByteArray
  | [] => (0, acc)
  | s :: l => if (addF acc s).2.1 = 0 then newL (addF acc s).2.2 l else ((addF acc s).2.1, acc)
/-- What New hands back: a table of the names, or none. -/
def NewV (w0 : World) (c : Int) (names : List ByteArray) (v : Value) (w' : World) : Prop :=
  if c = 0 then ∃ g, v = .pointer (some ⟨g, 0, none⟩) ∧ TabI w' w0.heap.size g (fun k => w0.heap.size ≤ k) names else v = .pointer none
theorem NewV.no {w0 w' : World} {c : Int} {names : List ByteArray} (h : ¬ c = 0) : NewV w0 c names (.pointer none) w' := by unfold NewV; rw [if_neg h]
set_option maxHeartbeats 1000000 in
theorem New_good (A0 : Option Addr) (c0 : Nat) (l0 : List ByteArray) (w : World) (hr0 : Kd.C Kd.string w A0 l0.length l0) (hl : l0.length ≤ 512) (hv : l0.all validB = true) :
    Calls Try.prog 13 #[.slice A0 l0.length c0] w fun e w' => ∃ v, e = .returned (.tuple #[v, .int .i64 (newL [] l0).1]) ∧ NewV w (newL [] l0).1 (newL [] l0).2 v w' ∧ Below w.heap.size w w' := by
  have d1 : decide ((512 : Int) < (l0.length : Int)) = false := decide_eq_false (by omega)
  have HR0 := Aside0.mk hr0
  have HL := Aside0.mk hl
  have HV := Aside0.mk hv
  have hmm := @run_makeMap Try.prog
  clear hl hv hr0
  go_enter Try.func13, Try.ntmps13
  go_wp2
  go_loopg [5, 16] l0.length (fun kq v5 v16 wr => ∃ (K : Int), v16 = .int .i64 K ∧ Aside0 (0 ≤ K ∧ K ≤ l0.length ∧ kq = l0.length - K.toNat) ∧ Aside0 (Below w.heap.size w wr))
  case atStart => exact ⟨0, rfl, ⟨by simp⟩, ⟨Below.refl _ _⟩⟩
  case round =>
    obtain ⟨K, rfl, HK, HB⟩ := hrel
    by_cases c1 : K < l0.length
    · have p1 : 0 ≤ K := HK.out.1
      obtain ⟨ad, rfl, hx⟩ := Kd.at_string (Kd.C_below HR0.out HB.out) K p1 c1
      have hdrop : l0.drop K.toNat = rdOf ByteArray.empty l0 K :: l0.drop (K.toNat + 1) := drop_rd l0 K p1 c1
      generalize rdOf ByteArray.empty l0 K = s at hx hdrop
      have hv : validB s = true := List.all_eq_true.1 HV.out s (List.mem_of_mem_drop (i := K.toNat) (by rw [hdrop]; simp))
      have HL2 := Aside0.mk c1
      have hk1 : wrap64 (K + 1) = K + 1 := by have := HL.out; unfold wrap64; omega
      have d2 : decide (K < (l0.length : Int)) = true := decide_eq_true c1
      clear hdrop
      replace p1 := eq_true p1
      replace c1 := eq_true c1
      go_wp2_with (first | (go_at_call 10; (with_reducible refine (Valid_calls s _).mono ?_); rintro e w1 ⟨rfl, hb⟩; have HB1 := Aside0.mk (below_step HB.out hb); clear HB hb hx; have HB := HB1; clear HB1))
      go_roundg (l0.length - (K + 1).toNat)
      case measure => have := HK.out; have := HL2.out; omega
      case rel => exact ⟨K + 1, by first | rfl | simp [hk1], ⟨by have := HK.out; have := HL2.out; omega⟩, HB⟩
    · have d2 : decide (K < (l0.length : Int)) = false := decide_eq_false c1
      clear c1 HK
      have hmk := World.ownsMap_made (H := Unit) wr Try.prog 9 (plainElem Try.prog 3)
      have HMK := Aside0.mk hmk
      clear hmk
      go_wp2_with (first | ((with_reducible refine gate_dst (N := 26) rfl ?_); go_must (refine box_event ?hg (N := 26) ?hd (cs := #[.slice none 0 0, .map (some wr.heap.size)]) (t := 62) ?hr ?_; (case hd => rfl); (case hg => rfl); (case hr => first | (go_simp; done) | (go_simp; rfl)); intro gb hg w1 hbox hb; have BK := Aside0.mk hbox; have HG := Aside0.mk hg; have HB1 := Aside0.mk hb; clear hbox hb hg)))
      have HB2 : Aside0 (Below w.heap.size w w1) := ⟨below_step ((below_alloc HB.out _)) HB1.out⟩
      have HT : Aside0 (TabI w1 w.heap.size gb (fun k => w.heap.size ≤ k) []) := ⟨have hg0 : w.heap.size ≤ gb := (by rw [HG.out]; have := below_size HB.out; simp; omega); ⟨⟨hg0, hg0⟩, by simp, .slice none 0 0, wr.heap.size, 0, .map [], BK.out, ⟨below_size HB.out, below_size HB.out⟩, Kd.R_nil _ _ _ _ _, ownsMap_below HMK.out HB1.out, by simp, fun s => ⟨rfl, rfl⟩⟩⟩
      clear HB HB1 BK HG HMK
      go_loopg [8, 9, 10, 29] l0.length (fun kq v8 v9 v10 v29 wr2 => ∃ (K : Int) (acc : List ByteArray), v29 = .int .i64 K ∧ Aside0 (0 ≤ K ∧ K ≤ l0.length ∧ kq = l0.length - K.toNat) ∧ Aside0 (newL acc (l0.drop K.toNat) = newL [] l0) ∧ Aside0 (TabI wr2 w.heap.size gb (fun k => w.heap.size ≤ k) acc) ∧ Aside0 (Below w.heap.size w wr2))
      case atStart => exact ⟨0, [], rfl, ⟨by simp⟩, ⟨by simp⟩, HT, HB2⟩
      case round =>
        clear HT HB2
        obtain ⟨K, acc, rfl, HK, HN, HT, HB⟩ := hrel
        by_cases c1 : K < l0.length
        · have p1 : 0 ≤ K := HK.out.1
          obtain ⟨ad, rfl, hx⟩ := Kd.at_string (Kd.C_below HR0.out HB.out) K p1 c1
          have hdrop : l0.drop K.toNat = rdOf ByteArray.empty l0 K :: l0.drop (K.toNat + 1) := drop_rd l0 K p1 c1
          generalize rdOf ByteArray.empty l0 K = s at hx hdrop
          obtain ⟨y1, y2, y3, hadd⟩ : ∃ y1 y2 y3, addF acc s = (y1, y2, y3) := ⟨_, _, _, rfl⟩
          have hn := HN.out
          rw [hdrop] at hn
          simp only [newL, hadd] at hn
          have HN2 := Aside0.mk hn
          have HAD := Aside0.mk hadd
          have HL2 := Aside0.mk c1
          have hk1 : wrap64 (K + 1) = K + 1 := by have := HL.out; unfold wrap64; omega
          have d2 : decide (K < (l0.length : Int)) = true := decide_eq_true c1
          have d3 : decide (K < (l0.length : Int)) = true := d2
          clear hdrop hn HN
          replace p1 := eq_true p1
          replace c1 := eq_true c1
          by_cases hy : y2 = 0
          · subst hy
            have HN3 := Aside0.mk (show newL y3 (l0.drop (K + 1).toNat) = newL [] l0 from by have h := HN2.out; rw [if_pos rfl] at h; have hk := HK.out.1; rw [show (K + 1).toNat = K.toNat + 1 by omega]; exact h)
            clear HN2
            go_wp2_with (first | (go_at_call 17; go_must (refine (Add_calls w.heap.size gb (fun k => w.heap.size ≤ k) acc s _ HT.out (fun k hk => Nat.le_trans (below_size HB.out) hk)).mono ?_; rw [HAD.out]; rintro e w2 ⟨rfl, ht2, hb2, _⟩; have HT2 := Aside0.mk ht2; have HB2 := Aside0.mk (HB.out.trans hb2); clear HT HB hx ht2 hb2 HAD)))
            go_roundg (l0.length - (K + 1).toNat)
            case measure => have := HK.out; have := HL2.out; omega
            case rel => exact ⟨K + 1, y3, by first | rfl | simp [hk1], ⟨by have := HK.out; have := HL2.out; omega⟩, HN3, HT2, HB2⟩
          · have HN3 := Aside0.mk (show newL [] l0 = (y2, acc) from by have h := HN2.out; rw [if_neg hy] at h; exact h.symm)
            have HY := Aside0.mk hy
            have d4 : (y2 == 0) = false := by simpa using hy
            have d5 : (y2 != 0) = true := by simpa using hy
            clear HN2 hy
            go_wp2_with (first | (go_at_call 17; go_must (refine (Add_calls w.heap.size gb (fun k => w.heap.size ≤ k) acc s _ HT.out (fun k hk => Nat.le_trans (below_size HB.out) hk)).mono ?_; rw [HAD.out]; rintro e w2 ⟨rfl, ht2, hb2, _⟩; have HT2 := Aside0.mk ht2; have HB2 := Aside0.mk (HB.out.trans hb2); clear HT HB hx ht2 hb2 HAD)))
            go_ret2
            rw [HN3.out]
            exact ⟨.pointer none, rfl, NewV.no HY.out, HB2.out⟩
        · have d2 : decide (K < (l0.length : Int)) = false := decide_eq_false c1
          have hz : newL [] l0 = (0, acc) := by rw [← HN.out, List.drop_eq_nil_of_le (by have := HK.out; omega)]; rfl
          have HZ := Aside0.mk hz
          clear c1 HK HN hz
          go_wp2
          go_ret2
          rw [HZ.out]
          exact ⟨_, rfl, (by unfold NewV; rw [if_pos rfl]; exact ⟨gb, rfl, HT.out⟩), HB.out⟩
/-- What New answers, and the names of its table. -/
def newF (l : List ByteArray) : Int × List ByteArray := if 512 < l.length then (8, []) else if l.all validB = false then (5, []) else newL [] l
theorem New_calls (A0 : Option Addr) (c0 : Nat) (l0 : List ByteArray) (w : World) (hr0 : Kd.C Kd.string w A0 l0.length l0) :
    Calls Try.prog 13 #[.slice A0 l0.length c0] w fun e w' => ∃ v, e = .returned (.tuple #[v, .int .i64 (newF l0).1]) ∧ NewV w (newF l0).1 (newF l0).2 v w' ∧ Below w.heap.size w w' := by
  unfold newF
  by_cases h1 : 512 < l0.length
  · rw [if_pos h1]
    exact (New_full A0 c0 l0 w h1).mono fun e w' ⟨he, hw⟩ => ⟨_, he, rfl, hw ▸ Below.refl _ _⟩
  · rw [if_neg h1]
    by_cases h2 : l0.all validB = false
    · rw [if_pos h2]
      exact (New_bad A0 c0 l0 w hr0 (by omega) h2).mono fun e w' ⟨he, hw⟩ => ⟨_, he, rfl, hw⟩
    · rw [if_neg h2]
      exact New_good A0 c0 l0 w hr0 (by omega) (by simpa using h2)
end Go.Proofs.Ytoleenfipnbjkaa.Tab
