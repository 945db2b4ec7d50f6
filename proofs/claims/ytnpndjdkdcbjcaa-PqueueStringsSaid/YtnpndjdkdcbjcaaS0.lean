/- Items with their keys, numbered as they come, sorted: each stands behind the one before it, by its key or by its number. Plain lists, no program. -/
import Derived.Test.YtnpndjdkdcbjcaaR3
import Derived.Deep.RegionHeld3
namespace Go.Proofs.Ytnpndjdkdcbjcaa.Pq
open Go.RowKit Go.Proofs.Ytnpndjdkdcbjcaa.PX Go.Proofs.YtnpndjdkdcbjcaaW.PrintWords Go.Proofs.YtnpndjdkdcbjcaaW.PrintLast Go.Proofs.YtnpndjdkdcbjcaaW.PrintMore
set_option linter.unusedVariables false
set_option linter.unusedSimpArgs false
/-- The items of a list of keys. -/
abbrev mkK (k n : Int) : S27 := ⟨k, n⟩
def keyL (l : List Int) : List S27 := numS mkK 0 l
theorem numS_snoc {A E : Type} (mk : A → Int → E) (x : A) : ∀ (l : List A) (n : Int), numS mk n (l ++ [x]) = numS mk n l ++ [mk x (n + l.length)] := by
  intro l
  induction l with
  | nil => intro n; simp [numS]
  | cons y l ih =>
    intro n
    simp only [List.cons_append, numS, ih, List.length_cons]
    congr 3
    congr 1
    omega
theorem keyL_snoc (l : List Int) (x : Int) : keyL (l ++ [x]) = keyL l ++ [⟨x, (l.length : Int)⟩] := by
  unfold keyL
  rw [numS_snoc, Int.zero_add]
theorem keyL_len (l : List Int) : (keyL l).length = l.length := by
  have h := numS_map (fun a : S27 => a.f0) mkK (fun _ _ => rfl) l 0
  have h2 := congrArg List.length h
  rwa [List.length_map] at h2
/-- One item may stand before another one in the sorted list. -/
def rK (lt : S27 → S27 → Bool) (x y : S27) : Prop := lt y x = false ∧ (lt x y = false → x.f1 < y.f1)
theorem keyL_sorted (lt : S27 → S27 → Bool) (hs : Swo lt) (l : List Int) (f : Nat) (hf : l.length ≤ f + 1) : (srt lt f (keyL l)).Pairwise (rK lt) := by
  refine srt_sorted lt (rK lt) (fun a b => a.f1 < b.f1) (fun x y z h1 h2 => ⟨hs.ntr _ _ _ h2.1 h1.1, fun h3 => ?_⟩) (fun x y hxy => ⟨fun c => ⟨hs.asym _ _ c, fun d => ?_⟩, fun c => ⟨c, fun _ => hxy⟩⟩) f (keyL l) (by rw [keyL_len]; exact hf) (numS_inc (fun a : S27 => a.f1) mkK (fun _ _ => rfl) l 0)
  · have a1 := h1.2 (hs.ntr _ _ _ h3 h2.1)
    have a2 := h2.2 (hs.ntr _ _ _ h1.1 h3)
    omega
  · rw [c] at d
    cases d
theorem sorted_at {E : Type} {r : E → E → Prop} {s : List E} (d : E) (h : s.Pairwise r) (j : Nat) (hj : j + 1 < s.length) : r (s.getD j d) (s.getD (j + 1) d) := by
  rw [getD_lt d s (by omega), getD_lt d s hj]
  exact List.pairwise_iff_getElem.1 h j (j + 1) (by omega) hj (by omega)
theorem pops_all (lt : S27 → S27 → Bool) (hs : Swo lt) (l : List S27) : (popsS (bI lt) zI (pushL lt l).length (pushL lt l)).map Prod.fst = srt lt l.length l := by
  rw [pushL_len]
  obtain ⟨h1, h2, _, _⟩ := pops_srt (lt := lt) (v := (Prod.fst : S27 × Int → S27)) (no := Prod.snd) (mk := Prod.mk) (d := zI) hs (fun _ _ => rfl) (fun _ _ => rfl) l l.length (by omega)
  exact (congrArg (List.map Prod.fst) h1).trans h2
theorem pops_one (lt : S27 → S27 → Bool) (h : List (S27 × Int)) (s : List S27) (i : Nat) (h0 : 0 < h.length) (hp : (popsS (bI lt) zI h.length h).map Prod.fst = s.drop i) :
    i < s.length ∧ (h.getD 0 zI).1 = s.getD i z27 ∧ (popsS (bI lt) zI (popS (bI lt) zI h).length (popS (bI lt) zI h)).map Prod.fst = s.drop (i + 1) := by
  obtain ⟨m, hm⟩ : ∃ m, h.length = m + 1 := ⟨h.length - 1, by omega⟩
  rw [popS_len _ _ _ h0, show h.length - 1 = m by omega]
  rw [hm, popsS, List.map_cons] at hp
  have hi : i < s.length := by
    by_cases c : i < s.length
    · exact c
    · rw [List.drop_eq_nil_of_le (by omega)] at hp
      cases hp
  rw [List.drop_eq_getElem_cons hi] at hp
  obtain ⟨h1, h2⟩ := List.cons.inj hp
  exact ⟨hi, by rw [h1, getD_lt z27 s hi], h2⟩
theorem key_at {w : World} {A : Option Addr} {l : List Int} (h : (Kd.int .i64).C w A l.length l) (i : Nat) (hi : i < l.length) : ∃ ad, A = some ad ∧ w.cell? (ad.add i) = some (.int .i64 (l.getD i 0)) := by
  obtain ⟨ad, c, e, _, hK, hc0⟩ := Kd.C_get h 0 (i : Int) (by omega) (by omega)
  have hK : c = [.int .i64 (l.getD ((i : Int).toNat) 0)] := hK
  subst hK
  simp only [Int.toNat_natCast] at hc0
  have h0 := hc0 0 _ rfl
  have h0 : w.cell? (ad.add (i * 1)) = some (.int .i64 (l.getD i 0)) := h0
  rw [Nat.mul_one] at h0
  exact ⟨ad, e, h0⟩
theorem row_of {w : World} {B n c : Nat} {A : Option Addr} {ok : Nat → Prop} {l : List S27} (h : k27.R 27 w B ok (.slice A n c) l) (i : Nat) (hi : i < n) (hn : l.length = n) : ∃ ad : Addr, A = some ad ∧ ad.block < w.heap.size ∧ w.cell? (ad.add (i * 2)) = some (.int .i64 (l.getD i z27).f0) ∧ w.cell? ⟨(ad.add (i * 2)).block, (ad.add (i * 2)).off + 1, none⟩ = some (.int .i64 (l.getD i z27).f1) := by
  obtain ⟨A2, c2, e, _, hC⟩ := Kd.R_reads h
  obtain ⟨rfl, _, _⟩ := Value.slice.inj e
  obtain ⟨ad, e2, f1, f2⟩ := row_at hC i (by omega)
  refine ⟨ad, e2, ?_, f1, f2⟩
  subst e2
  exact ((Kd.R_bound h).1 ad.block rfl).2.2.1
/-- What the comparison reads: a box and two items of a row. -/
def Six (w : World) (g : Nat) (p q : Addr) (x a b : S27) : Prop := (g < w.heap.size ∧ p.block < w.heap.size ∧ q.block < w.heap.size) ∧ w.cell? ⟨g, 0, none⟩ = some (.int .i64 x.f0) ∧ w.cell? ⟨g, 1, none⟩ = some (.int .i64 x.f1) ∧ w.cell? p = some (.int .i64 a.f0) ∧ w.cell? ⟨p.block, p.off + 1, none⟩ = some (.int .i64 a.f1) ∧ w.cell? q = some (.int .i64 b.f0) ∧ w.cell? ⟨q.block, q.off + 1, none⟩ = some (.int .i64 b.f1)
theorem Six.below {w w' : World} {g : Nat} {p q : Addr} {x a b : S27} (h : Six w g p q x a b) (hb : Below w.heap.size w w') : Six w' g p q x a b := by
  obtain ⟨⟨h1, h2, h3⟩, f0, f1, f2, f3, f4, f5⟩ := h
  have hs := hb.size
  exact ⟨⟨by omega, by omega, by omega⟩, (Below.cell hb (p := ⟨g, 0, none⟩) h1).trans f0, (Below.cell hb (p := ⟨g, 1, none⟩) h1).trans f1, (Below.cell hb (p := p) h2).trans f2, (Below.cell hb (p := ⟨p.block, p.off + 1, none⟩) h2).trans f3, (Below.cell hb (p := q) h3).trans f4, (Below.cell hb (p := ⟨q.block, q.off + 1, none⟩) h3).trans f5⟩
theorem sort_vals (K : Nat) (lt : S27 → S27 → Bool) (HLE : LessI K lt) (A : Option Addr) (n c : Nat) (l : List S27) (w : World) (h : ∃ A' c', (Value.slice A n c) = .slice A' l.length c' ∧ l.length ≤ c' ∧ k27.C w A' l.length l) (hn : n ≤ 1000) (hln : l.length = n) :
    Calls Try.prog 21 #[.slice A n c, .func (.func K) #[] #[]] w fun e w' => ∃ A2 c2, e = .returned (.slice A2 n c2) ∧ k27.R 27 w' w.heap.size (fun k => w.heap.size ≤ k) (.slice A2 n c2) (srt lt n l) ∧ Below w.heap.size w w' := by
  subst hln
  obtain ⟨A', c', e, hc, hC⟩ := h
  obtain ⟨rfl, _, rfl⟩ := Value.slice.inj e
  refine (sort_calls K lt HLE l.length A c l w hC hc hn (by omega)).mono ?_
  rintro e2 w2 ⟨v, rfl, hr, hb⟩
  obtain ⟨A2, c2, rfl⟩ := Kd.R_slice hr
  rw [srt_len] at hr ⊢
  exact ⟨A2, c2, rfl, hr, hb⟩
/-- An operation is taken first, its own words known before all else. -/
theorem take_ {P : Program} {ops : Array Oper} {Q : Exit → Act → World → Prop} {md : Region.Mode} {S : World → Prop} {i : Nat} {oi : Oper} {fuel : Nat} {listed : Array Bool} {a : Act} {w : World} (hi : ops[i]? = some oi)
    (h : Region.noSelect ops = true ∧ Region.free md ops listed i = true ∧ (Region.ready md ops listed).contains i = true ∧ (∀ (v : Value) (c : _) (a : Act) (w : World), Q (.panic c) (a.put oi.dst v) w → Q (.panic c) a w) ∧ ∃ v, YieldsIf P ops S oi v a ∧ S w ∧ wpAnyH P md ops Q S fuel (listed.setIfInBounds i true) (a.put oi.dst v) w) : wpAnyH P md ops Q S (fuel + 1) listed a w := by
  obtain ⟨h1, h2, h3, h4, v, h5, h6, h7⟩ := h
  exact wpAnyH_take hi h1 h2 h3 (h4 v) h5 h6 h7
end Go.Proofs.Ytnpndjdkdcbjcaa.Pq
