-- Written by a program of this session (hyb.py), which runs the print over the translation with contracts of its own added; it is not the print itself. Lean checks it.
import Derived.Test.YtoncjfgklaldnaaPXx0
import Derived.Test.YtoncjfgklaldnaaPXx5
import Derived.Test.YtoncjfgklaldnaaPXx6
namespace Go.Proofs.Ytoncjfgklaldnaa.PX
open Go.RowKit Go.Proofs.YtoncjfgklaldnaaW.PrintWords Go.Proofs.YtoncjfgklaldnaaW.PrintLast Go.Proofs.YtoncjfgklaldnaaW.PrintMore
attribute [local go_sem] max2_int min2_int max_two min_two max_three min_three max_four min_four   -- for this text's walks alone
set_option linter.unusedVariables false
set_option linter.unusedSimpArgs false

/-! ### machine_Phases: function 18 -/
/-- What Phases' closures share: the phase that runs (block gp), the list (go), the closure turn (gt). Blocks Ls are others. -/
def PhI (B gp go gt : Nat) (Ls : List Nat) (w : World) (st fr to_ : Int) (out : List S54) : Prop :=
  ∃ v, w.heap[gp]? = some (.cells #[.int .i64 st, .int .i64 fr, .int .i64 to_] 54 (0, 0)) ∧ w.heap[go]? = some (.cells #[v] 36 (0, 0)) ∧
    w.heap[gt]? = some (.cells #[.func (.func 32) #[] #[.pointer (some ⟨gp, 0, none⟩), .pointer (some ⟨go, 0, none⟩)]] 61 (0, 0)) ∧
    Kd.R k54 54 w B (fun k => k ≠ gp ∧ k ≠ go ∧ k ≠ gt ∧ k ∉ Ls) v out ∧ (gp ≠ go ∧ gp ≠ gt ∧ go ≠ gt) ∧ (gp ∉ Ls ∧ go ∉ Ls ∧ gt ∉ Ls) ∧ B ≤ gp ∧ B ≤ go ∧ B ≤ gt
theorem PhI.move {B gp go gt : Nat} {Ls : List Nat} {w w1 : World} {st fr to_ : Int} {out : List S54} (h : PhI B gp go gt Ls w st fr to_ out) (hm : ∀ k, k < w.heap.size → k ∉ Ls → w1.heap[k]? = w.heap[k]?) : PhI B gp go gt Ls w1 st fr to_ out := by
  obtain ⟨v, hp, ho, ht, hr, hne, hls, hb⟩ := h
  exact ⟨v, (hm gp (blk_lt hp) hls.1).trans hp, (hm go (blk_lt ho) hls.2.1).trans ho, (hm gt (blk_lt ht) hls.2.2).trans ht, Kd.R_step hr (fun k hk hlt => hm k hlt hk.2.2.2), hne, hls, hb⟩
theorem PhI.below {B gp go gt : Nat} {Ls : List Nat} {w w1 : World} {st fr to_ : Int} {out : List S54} (h : PhI B gp go gt Ls w st fr to_ out) (hb : Below w.heap.size w w1) : PhI B gp go gt Ls w1 st fr to_ out := h.move (fun k hk _ => hb.block k hk)
theorem PhI.set {B gp go gt : Nat} {Ls : List Nat} {w : World} {st fr to_ : Int} {out : List S54} (h : PhI B gp go gt Ls w st fr to_ out) {p : Addr} (hp : p.block ∈ Ls) (u : Value) : PhI B gp go gt Ls (w.setCell p u) st fr to_ out :=
  h.move (fun k _ hk => Below.heap_setCell w p u k (fun e => hk (e ▸ hp)))
theorem PhI.more {B gp go gt : Nat} {Ls : List Nat} {w : World} {st fr to_ : Int} {out : List S54} (h : PhI B gp go gt Ls w st fr to_ out) {g : Nat} (hg : w.heap.size ≤ g) : PhI B gp go gt (g :: Ls) w st fr to_ out := by
  obtain ⟨v, hp, ho, ht, hr, hne, hls, hb⟩ := h
  refine ⟨v, hp, ho, ht, Kd.R_mono (Kd.R_bound hr) (fun k hk => ⟨hk.1.1, hk.1.2.1, hk.1.2.2.1, ?_⟩), hne, ⟨?_, ?_, ?_⟩, hb⟩
  · intro hm
    rcases List.mem_cons.1 hm with rfl | hm
    · omega
    · exact hk.1.2.2.2 hm
  · intro hm
    rcases List.mem_cons.1 hm with rfl | hm
    · exact absurd (blk_lt hp) (by omega)
    · exact hls.1 hm
  · intro hm
    rcases List.mem_cons.1 hm with rfl | hm
    · exact absurd (blk_lt ho) (by omega)
    · exact hls.2.1 hm
  · intro hm
    rcases List.mem_cons.1 hm with rfl | hm
    · exact absurd (blk_lt ht) (by omega)
    · exact hls.2.2 hm
theorem PhI.more' {B gp go gt : Nat} {Ls : List Nat} {w w1 : World} {st fr to_ : Int} {out : List S54} (h : PhI B gp go gt Ls w st fr to_ out) {g : Nat} (hg : g = w.heap.size) (hb : Below w.heap.size w w1) : PhI B gp go gt (g :: Ls) w1 st fr to_ out :=
  (h.more (Nat.le_of_eq hg.symm)).below hb
theorem PhI.less {B gp go gt g : Nat} {Ls : List Nat} {w : World} {st fr to_ : Int} {out : List S54} (h : PhI B gp go gt (g :: Ls) w st fr to_ out) : PhI B gp go gt Ls w st fr to_ out := by
  obtain ⟨v, hp, ho, ht, hr, hne, hls, hb⟩ := h
  exact ⟨v, hp, ho, ht, Kd.R_mono hr (fun k hk => ⟨hk.1, hk.2.1, hk.2.2.1, fun hm => hk.2.2.2 (List.mem_cons_of_mem _ hm)⟩), hne, ⟨fun hm => hls.1 (List.mem_cons_of_mem _ hm), fun hm => hls.2.1 (List.mem_cons_of_mem _ hm), fun hm => hls.2.2 (List.mem_cons_of_mem _ hm)⟩, hb⟩
def turnS (at_ st fr : Int) (out : List S54) : List S54 := if fr < at_ then out ++ [⟨st, fr, at_⟩] else out
set_option maxHeartbeats 4000000 in
/-- Phases$1 (turn) where nothing is added. -/
theorem turn_no (at_ st fr to_ : Int) (out : List S54) (gp go gt : Nat) (Ls : List Nat) (w0 w : World) (hB : Below w0.heap.size w0 w) (hI : PhI w0.heap.size gp go gt Ls w st fr to_ out) (c : ¬ fr < at_) :
    Calls Try.prog 32 #[.int .i64 at_, .pointer (some ⟨gp, 0, none⟩), .pointer (some ⟨go, 0, none⟩)] w fun e w' =>
      e = .returned (.tuple #[]) ∧ Below w0.heap.size w0 w' ∧ PhI w0.heap.size gp go gt Ls w' st fr at_ (turnS at_ st fr out) ∧ ∀ g ∈ Ls, ∀ o, w.heap[g]? = some o → w'.heap[g]? = some o := by
  obtain ⟨v, bp, bo, bt, hr, hne, hls, hb⟩ := hI
  have HB := Aside0.mk hB
  have HP := Aside0.mk hb.1
  have BP := Aside0.mk bp
  have HX := Aside0.mk (show Kd.R k54 54 w w0.heap.size (fun k => k ≠ gp ∧ k ≠ go ∧ k ≠ gt ∧ k ∉ Ls) v out ∧ w.heap[go]? = some (.cells #[v] 36 (0, 0)) ∧ _ ∧ (gp ≠ go ∧ gp ≠ gt ∧ go ≠ gt) ∧ (gp ∉ Ls ∧ go ∉ Ls ∧ gt ∉ Ls) ∧ _ ∧ _ ∧ _ from ⟨hr, bo, bt, hne, hls, hb⟩)
  have cb : decide (fr < at_) = false := decide_eq_false c
  have CS := Aside0.mk (show turnS at_ st fr out = out from if_neg c)
  have hc0 := (blk_cell BP.out 0).trans rfl
  have hc1 := (blk_cell BP.out 1).trans rfl
  have hc2 := (blk_cell BP.out 2).trans rfl
  have hf2 := blk_frozen BP.out 2
  clear hB bp bo bt hr hne hls hb c
  go_enter Try.func32, Try.ntmps32
  go_wp2
  obtain ⟨hr, bo, bt, hne, hls, hb⟩ := HX.out
  refine ⟨rfl, .tuple #[], results_none rfl _ _ _, rfl, below_set HB.out HP.out, ⟨v, blk_put BP.out 2 _ rfl, blk_far bo (fun e => hne.1 e.symm) _, blk_far bt (fun e => hne.2.1 e.symm) _, ?_, hne, hls, hb⟩, fun g hg o h => ?_⟩
  · rw [CS.out]
    exact Kd.R_far hr (fun k hk => hk.1) _
  · exact (Below.heap_setCell w ⟨gp, 2, none⟩ _ g (fun e => hls.1 ((show g = gp from e) ▸ hg))).trans h
theorem size_set (w : World) (p : Addr) (u : Value) : (w.setCell p u).heap.size = w.heap.size := by simp [World.setCell]
theorem slice_form {w : World} {b : Nat} {ok : Nat → Prop} {v : Value} {l : List S54} (h : Kd.R k54 54 w b ok v l) : ∃ A n c, v = .slice A n c := by
  obtain ⟨A, c, rfl⟩ := Kd.R_slice h
  exact ⟨A, _, c, rfl⟩
theorem turn_fresh {w : World} {gp go gt : Nat} {Ls : List Nat} (h : gp < w.heap.size ∧ go < w.heap.size ∧ gt < w.heap.size) (hl : ∀ g ∈ Ls, g < w.heap.size) (u : Value) : ∀ k, (w.setCell ⟨gp, 2, none⟩ u).heap.size ≤ k → k ≠ gp ∧ k ≠ go ∧ k ≠ gt ∧ k ∉ Ls := by
  intro k hk
  have hk' : w.heap.size ≤ k := by simpa [World.setCell] using hk
  exact ⟨by omega, by omega, by omega, fun hm => absurd (hl k hm) (by omega)⟩
set_option maxHeartbeats 4000000 in
set_option maxRecDepth 100000 in
/-- Phases$1 (turn) where the phase is added. -/
theorem turn_yes (at_ st fr to_ : Int) (out : List S54) (gp go gt : Nat) (Ls : List Nat) (w0 w : World) (hB : Below w0.heap.size w0 w) (hI : PhI w0.heap.size gp go gt Ls w st fr to_ out) (hl : out.length < 5000000000000) (hLs : ∀ g ∈ Ls, g < w.heap.size) (c : fr < at_) :
    Calls Try.prog 32 #[.int .i64 at_, .pointer (some ⟨gp, 0, none⟩), .pointer (some ⟨go, 0, none⟩)] w fun e w' =>
      e = .returned (.tuple #[]) ∧ Below w0.heap.size w0 w' ∧ PhI w0.heap.size gp go gt Ls w' st fr at_ (turnS at_ st fr out) ∧ ∀ g ∈ Ls, ∀ o, w.heap[g]? = some o → w'.heap[g]? = some o := by
  obtain ⟨v, bp, bo, bt, hr, hne, hls, hb⟩ := hI
  have HLT := Aside0.mk (show gp < w.heap.size ∧ go < w.heap.size ∧ gt < w.heap.size from ⟨blk_lt bp, blk_lt bo, blk_lt bt⟩)
  have HB := Aside0.mk hB
  have HP := Aside0.mk hb.1
  have BP := Aside0.mk bp
  have BO := Aside0.mk bo
  have BT := Aside0.mk bt
  have HR := Aside0.mk hr
  have HX := Aside0.mk (show (gp ≠ go ∧ gp ≠ gt ∧ go ≠ gt) ∧ (gp ∉ Ls ∧ go ∉ Ls ∧ gt ∉ Ls) ∧ _ ∧ _ ∧ _ from ⟨hne, hls, hb⟩)
  have HL := Aside0.mk hl
  have HLS := Aside0.mk hLs
  obtain ⟨Ao, co, eo⟩ := Kd.R_slice hr
  have EO := Aside0.mk eo
  have cb : decide (fr < at_) = true := decide_eq_true c
  have CS := Aside0.mk (show turnS at_ st fr out = out ++ [⟨st, fr, at_⟩] from if_pos c)
  have hc0 := (blk_cell BP.out 0).trans rfl
  have hc1 := (blk_cell BP.out 1).trans rfl
  have hc2 := (blk_cell BP.out 2).trans rfl
  have hf2 := blk_frozen BP.out 2
  have ho0 := (blk_cell BO.out 0).trans rfl
  have hfo := blk_frozen BO.out 0
  have hx1 := hne.1
  have hx2 : go ≠ gp := fun h => hne.1 h.symm
  clear hB bp bo bt hr hne hls hb c eo hl hLs
  go_enter Try.func32, Try.ntmps32
  go_wp2_with (first | ((with_reducible refine gate_builtin (b := .append) (xs := #[.tmp 11, .tmp 13]) rfl ?_); refine Kd.R_append k54 (w0 := w0) w0.heap.size rfl (.tmp 11) (.tmp 13) 36 54 (.agg #[(.int .i64 0), (.int .i64 0), (.int .i64 0)]) 24 rfl Try.underlying36 info54 rfl (by decide) (by omega) v out (⟨st, fr, at_⟩ : S54) [.int .i64 st, .int .i64 fr, .int .i64 at_] (fun k => k ≠ gp ∧ k ≠ go ∧ k ≠ gt ∧ k ∉ Ls) (fun _ => False) rfl (show Value.slice (some ⟨w.heap.size, 0, none⟩) 1 1 = Value.slice (some ⟨(w.setCell ⟨gp, 2, none⟩ (.int .i64 at_)).heap.size, 0, none⟩) 1 1 by rw [size_set]) ?aP (fun _ hk => hk.elim) ?aF ?aO ?aB ?aS ?aL ?_; (case aP => exact k54_mkM _ _ _ (⟨st, fr, at_⟩ : S54)); (case aF => exact turn_fresh HLT.out HLS.out _); (case aO => exact Kd.R_far HR.out (fun k hk => hk.1) _); (case aB => exact below_set HB.out HP.out); (case aS => exact below_size (below_set HB.out HP.out)); (case aL => have := HL.out; omega); intro v1 w1 ho hb hg hat; obtain ⟨A1, n1, c1, rfl⟩ := slice_form ho; have HO1 := Aside0.mk ho; have HB1 := Aside0.mk hb; have HG := Aside0.mk hg; have BO1 := Aside0.mk (blk_grown (blk_far BO.out (show go ≠ gp from hx2) (.int .i64 at_)) hg (fun e => (HR.out.1 go e.symm).2.1 rfl)); have hfo1 := blk_frozen BO1.out 0; have ho1 := (blk_cell BO1.out 0).trans rfl; clear ho hb hg hat))
  obtain ⟨hne, hls, hb⟩ := HX.out
  have hr := HR.out
  have hg := HG.out
  have hsz : ∀ g o, w.heap[g]? = some o → g ≠ gp → g ≠ go → some g ≠ v.ownBlock → (w1.setCell ⟨go, 0, none⟩ (.slice A1 n1 c1)).heap[g]? = some o := by
    intro g o h h1 h2 h3
    exact (Below.heap_setCell w1 ⟨go, 0, none⟩ (.slice A1 n1 c1) g h2).trans (blk_grown ((Below.heap_setCell w ⟨gp, 2, none⟩ _ g h1).trans h) hg h3)
  refine ⟨rfl, .tuple #[], results_none rfl _ _ _, rfl, below_set HB1.out hb.2.1, ⟨(.slice A1 n1 c1), ?_, blk_put BO1.out 0 _ rfl, ?_, ?_, hne, hls, hb⟩, fun g hg' o h => ?_⟩
  · exact (Below.heap_setCell w1 ⟨go, 0, none⟩ (.slice A1 n1 c1) gp hne.1).trans (blk_grown (blk_put BP.out 2 _ rfl) hg (fun e => (hr.1 gp e.symm).1 rfl))
  · exact hsz gt _ BT.out (fun e => hne.2.1 e.symm) (fun e => hne.2.2 e.symm) (fun e => (hr.1 gt e.symm).2.2.1 rfl)
  · rw [CS.out]
    exact Kd.R_far HO1.out (fun k hk => hk.2.1) _
  · exact hsz g o h (fun e => hls.1 (e ▸ hg')) (fun e => hls.2.1 (e ▸ hg')) (fun e => (hr.1 g e.symm).2.2.2 hg')
theorem turn_calls (at_ st fr to_ : Int) (out : List S54) (gp go gt : Nat) (Ls : List Nat) (w0 w : World) (hB : Below w0.heap.size w0 w) (hI : PhI w0.heap.size gp go gt Ls w st fr to_ out) (hl : out.length < 5000000000000) (hLs : ∀ g ∈ Ls, g < w.heap.size) :
    Calls Try.prog 32 #[.int .i64 at_, .pointer (some ⟨gp, 0, none⟩), .pointer (some ⟨go, 0, none⟩)] w fun e w' =>
      e = .returned (.tuple #[]) ∧ Below w0.heap.size w0 w' ∧ PhI w0.heap.size gp go gt Ls w' st fr at_ (turnS at_ st fr out) ∧ ∀ g ∈ Ls, ∀ o, w.heap[g]? = some o → w'.heap[g]? = some o := by
  by_cases c : fr < at_
  · exact turn_yes at_ st fr to_ out gp go gt Ls w0 w hB hI hl hLs c
  · exact turn_no at_ st fr to_ out gp go gt Ls w0 w hB hI c
theorem PhI.put {B gp go gt : Nat} {Ls : List Nat} {w : World} {st fr to_ : Int} {out : List S54} (h : PhI B gp go gt Ls w st fr to_ out) (a b c : Int) :
    PhI B gp go gt Ls (((w.setCell ⟨gp, 0, none⟩ (.int .i64 a)).setCell ⟨gp, 1, none⟩ (.int .i64 b)).setCell ⟨gp, 2, none⟩ (.int .i64 c)) a b c out := by
  obtain ⟨v, hp, ho, ht, hr, hne, hls, hb⟩ := h
  have hm : ∀ k, k ≠ gp → (((w.setCell ⟨gp, 0, none⟩ (.int .i64 a)).setCell ⟨gp, 1, none⟩ (.int .i64 b)).setCell ⟨gp, 2, none⟩ (.int .i64 c)).heap[k]? = w.heap[k]? := fun k hk =>
    ((Below.heap_setCell _ ⟨gp, 2, none⟩ _ k hk).trans (Below.heap_setCell _ ⟨gp, 1, none⟩ _ k hk)).trans (Below.heap_setCell _ ⟨gp, 0, none⟩ _ k hk)
  exact ⟨v, blk_put (blk_put (blk_put hp 0 _ rfl) 1 _ rfl) 2 _ rfl, (hm go (fun e => hne.1 e.symm)).trans ho, (hm gt (fun e => hne.2.1 e.symm)).trans ht, Kd.R_step hr (fun k hk _ => hm k hk.1), hne, hls, hb⟩
theorem PhI.hold {B gp go gt : Nat} {Ls : List Nat} {w : World} {st fr to_ : Int} {out : List S54} (h : PhI B gp go gt Ls w st fr to_ out) : w.heap[gp]? = some (.cells #[.int .i64 st, .int .i64 fr, .int .i64 to_] 54 (0, 0)) ∧
    w.heap[gt]? = some (.cells #[.func (.func 32) #[] #[.pointer (some ⟨gp, 0, none⟩), .pointer (some ⟨go, 0, none⟩)]] 61 (0, 0)) := by
  obtain ⟨v, hp, ho, ht, _⟩ := h
  exact ⟨hp, ht⟩
set_option maxHeartbeats 4000000 in
set_option maxRecDepth 100000 in
/-- Phases$2: what walk calls at each act. -/
theorem step_calls (s' a0 a1 st fr to_ : Int) (out : List S54) (gp go gt : Nat) (Ls : List Nat) (w0 w : World) (hB : Below w0.heap.size w0 w) (hI : PhI w0.heap.size gp go gt Ls w st fr to_ out) (hl : out.length < 5000000000000) (hLs : ∀ g ∈ Ls, g < w.heap.size) :
    Calls Try.prog 33 #[.int .i64 s', .agg #[.int .i64 a0, .int .i64 a1], .pointer (some ⟨gt, 0, none⟩), .pointer (some ⟨gp, 0, none⟩)] w fun e w' =>
      e = .returned (.bool true) ∧ Below w0.heap.size w0 w' ∧ PhI w0.heap.size gp go gt Ls w' s' a1 0 (turnS a1 st fr out) ∧ ∀ g ∈ Ls, ∀ o, w.heap[g]? = some o → w'.heap[g]? = some o := by
  have HB := Aside0.mk hB
  have HI := Aside0.mk hI
  have HL := Aside0.mk hl
  have HLS := Aside0.mk hLs
  have ht0 := (blk_cell hI.hold.2 0).trans rfl
  clear hB hI hl hLs
  go_enter Try.func33, Try.ntmps33
  go_wp2_with (first | ((with_reducible refine gate_dst (N := 5) rfl ?_); go_must (refine box_event ?hg (N := 5) ?hd (cs := #[.int .i64 a0, .int .i64 a1]) (t := 35) ?hr ?_; (case hd => rfl); (case hg => rfl); (case hr => first | (go_simp; done) | (go_simp; rfl)); intro ga hg w4 hbox hb; have HG := Aside0.mk hg; have BX := Aside0.mk hbox; have HB4 := Aside0.mk hb; have HI4 := Aside0.mk (HI.out.more' hg hb); have hx0 := (blk_cell BX.out 0).trans rfl; have hx1 := (blk_cell BX.out 1).trans rfl; have ht4 := (blk_cell HI4.out.hold.2 0).trans rfl; clear hbox hb hg)) | (go_at_call 32; go_must (refine (turn_calls a1 st fr to_ out gp go gt (ga :: Ls) w0 w4 (below_then HB.out HB.out.size HB4.out) HI4.out HL.out ?side).mono ?_; (case side => intro g hg; rcases List.mem_cons.1 hg with rfl | hg; exact blk_lt BX.out; exact Nat.lt_of_lt_of_le (HLS.out g hg) HB4.out.size); rintro e5 w5 ⟨rfl, hb5, hI5, hk5⟩; have HB5 := Aside0.mk hb5; have HI5 := Aside0.mk hI5; have HK5 := Aside0.mk hk5; have BX5 := Aside0.mk (hk5 ga (List.mem_cons_self) _ BX.out); have hx50 := (blk_cell BX5.out 0).trans rfl; have hx51 := (blk_cell BX5.out 1).trans rfl; have hp0 := (blk_cell hI5.hold.1 0).trans rfl; have hp1 := (blk_cell hI5.hold.1 1).trans rfl; have hp2 := (blk_cell hI5.hold.1 2).trans rfl; have hf0 := blk_frozen hI5.hold.1 0; have hf1 := blk_frozen hI5.hold.1 1; have hf2 := blk_frozen hI5.hold.1 2; clear hb5 hI5 hk5)))
  go_ret
  obtain ⟨v, hp, ho, ht, hr, hne, hls, hb⟩ := HI5.out
  refine ⟨rfl, below_set (below_set (below_set HB5.out hb.1) hb.1) hb.1, (HI5.out.put s' a1 0).less, fun g hg o h => ?_⟩
  have hgp : g ≠ gp := fun e => hls.1 (List.mem_cons_of_mem _ (e ▸ hg))
  exact ((Below.heap_setCell _ ⟨gp, 2, none⟩ _ g hgp).trans ((Below.heap_setCell _ ⟨gp, 1, none⟩ _ g hgp).trans (Below.heap_setCell _ ⟨gp, 0, none⟩ _ g hgp))).trans (HK5.out g (List.mem_cons_of_mem _ hg) o (blk_below h HB4.out))
/-- What walk with Phases' closure carries: the state, the moment of the last act, the phases so far. -/
def pstep (p : Int × Int × List S54) (x : S35) : Int × Int × List S54 := ((nx p.1 x.f0).1, x.f1, turnS x.f1 p.1 p.2.1 p.2.2)
theorem PhI.set' {B gp go gt : Nat} {Ls : List Nat} {w : World} {st fr to_ : Int} {out : List S54} (h : PhI B gp go gt Ls w st fr to_ out) {g : Nat} (hg : g ∈ Ls) (j : Nat) (u : Value) : PhI B gp go gt Ls (w.setCell ⟨g, j, none⟩ u) st fr to_ out := h.set (p := ⟨g, j, none⟩) hg u
theorem PhI.drewN {B gp go gt : Nat} {Ls : List Nat} {w : World} {st fr to_ : Int} {out : List S54} (h : PhI B gp go gt Ls w st fr to_ out) (n : Nat) : PhI B gp go gt Ls (w.drewN n) st fr to_ out := h.move (fun _ _ _ => rfl)
theorem turnS_len (a s f : Int) (l : List S54) : (turnS a s f l).length ≤ l.length + 1 := by unfold turnS; split <;> simp
theorem neq_func33 (a b : Array Value) (w : World) : Sem.run Try.prog (binOp .neq 59 (.func (.func 33) a b) .nilFunc) w = .ok (.bool true) w := neq_func _ a b w
set_option maxHeartbeats 8000000 in
set_option maxRecDepth 100000 in
attribute [local go_sem] neq_func33 in
/-- walk with Phases' closure, over valid acts. -/
theorem walkP_calls (th cl : Int) (A1 : Option Addr) (c1 : Nat) (l1 : List S35) (p : Int × Int × List S54) (gp go gt : Nat) (w0 w : World) (hB : Below w0.heap.size w0 w) (hI : PhI w0.heap.size gp go gt [] w 0 0 0 []) (hr1 : Kd.C k35 w0 A1 l1.length l1) (hc1 : l1.length ≤ c1) (hl : l1.length ≤ 512) (hv : wk th cl l1 0 0 = 0) (hp : List.foldl pstep (0, 0, []) l1 = p) :
    Calls Try.prog 27 #[.agg #[.int .i64 th, .int .i64 cl], .slice A1 l1.length c1, .func (.func 33) #[] #[.pointer (some ⟨gt, 0, none⟩), .pointer (some ⟨gp, 0, none⟩)]] w fun e w' => e = .returned (.int .i64 0) ∧ Below w0.heap.size w0 w' ∧ PhI w0.heap.size gp go gt [] w' p.1 p.2.1 0 p.2.2 := by
  have HB := Aside0.mk hB
  have HI := Aside0.mk hI
  have HR1 := Aside0.mk hr1
  have HC1 := Aside0.mk hc1
  have HV := Aside0.mk hv
  have HP := Aside0.mk hp
  have HL := Aside0.mk hl
  clear hB hI hr1 hc1 hv hp hl
  go_enter Try.func27, Try.ntmps27
  go_wp2_with (first | ((with_reducible refine gate_dst (N := 3) rfl ?_); go_must (refine box_event ?hg (N := 3) ?hd (cs := #[.int .i64 th, .int .i64 cl]) (t := 28) ?hr ?_; (case hd => rfl); (case hg => rfl); (case hr => first | (go_simp; done) | (go_simp; rfl)); intro gr hg w3 hbox hb; have HG := Aside0.mk hg; have BR := Aside0.mk hbox; have HB3 := Aside0.mk (below_then HB.out HB.out.size hb); have HI3 := Aside0.mk (HI.out.more' hg hb); have HGE := Aside0.mk (show w0.heap.size ≤ gr from hg ▸ HB.out.size); clear hbox hb hg)))
  go_step3
  go_wp2
  go_step3
  go_wp2
  go_loopg [7, 8, 9, 16] l1.length (fun kq v7 v8 v9 v16 w' => ∃ (i : Nat) (st fr : Int) (out : List S54), v7 = .int .i64 st ∧ v8 = .int .i64 fr ∧ v9 = .int .i64 0 ∧ v16 = .int .i64 i ∧ Aside0 (kq + i = l1.length ∧ out.length ≤ i) ∧ Aside0 (List.foldl pstep (st, fr, out) (l1.drop i) = p) ∧ Aside0 (wk th cl (l1.drop i) st fr = 0) ∧ Aside0 (w'.heap[gr]? = some (.cells #[.int .i64 th, .int .i64 cl] 28 (0, 0))) ∧ Aside0 (Below w0.heap.size w0 w') ∧ Aside0 (PhI w0.heap.size gp go gt [gr] w' st fr 0 out))
  case atStart => exact ⟨0, 0, 0, [], rfl, rfl, rfl, rfl, ⟨⟨rfl, Nat.le_refl _⟩⟩, HP, HV, BR, HB3, HI3⟩
  case round =>
    obtain ⟨i, st, fr, out, rfl, rfl, rfl, rfl, HN, HQ, HW, BR', HB', HI'⟩ := hrel
    clear HI HI3 HB HB3 BR HP HV
    by_cases hi : i < l1.length
    · obtain ⟨k1, rfl⟩ : ∃ k1, gk = k1 + 1 := ⟨gk - 1, by have := HN.out; omega⟩
      have hd := rd_drop l1 i hi
      obtain ⟨hm, hnb, hn2, her, hwk⟩ := wk_cons (hd ▸ HW.out)
      obtain ⟨ad, e, hx0, hx1⟩ := at_T35 HR1.out (i : Int) (by omega) (by omega)
      cases e
      have hQ' : List.foldl pstep (pstep (st, fr, out) (rd_T35 l1 i)) (l1.drop (i + 1)) = p := by have := HQ.out; rw [hd] at this; exact this
      rw [Int.toNat_natCast] at hx0 hx1
      generalize hx : rd_T35 l1 (i : Int) = x at *
      obtain ⟨x0, x1⟩ := x
      simp only at hm hnb hn2 her hwk hx0 hx1 hQ'
      replace hx0 := (HB'.out.cell (World.block_lt_of_cell? w0 _ hx0)).trans hx0
      replace hx1 := (HB'.out.cell (World.block_lt_of_cell? w0 _ hx1)).trans hx1
      obtain ⟨n, hn⟩ : ∃ n, (nx st x0).1 = n := ⟨_, rfl⟩
      have HN2 := Aside0.mk (show nx st x0 = (n, 0) from Prod.ext hn hn2)
      have HM := Aside0.mk (show machine_moment.f x1 = some true by rw [mom_some, hm])
      have HE := Aside0.mk (show machine_early.f th cl x0 x1 fr = some false by rw [erl_some, her])
      have HW1 := Aside0.mk (show wk th cl (l1.drop (i + 1)) n x1 = 0 by rw [← hn]; exact hwk)
      have HQ1 := Aside0.mk (show List.foldl pstep (n, x1, turnS x1 st fr out) (l1.drop (i + 1)) = p by rw [← hn]; exact hQ')
      have hlt : decide (x1 < fr) = false := decide_eq_false hnb
      have hit : decide ((i : Int) < (l1.length : Int)) = true := decide_eq_true (by omega)
      have hi1 : (i : Int) < (l1.length : Int) := by omega
      have hi0 : 0 ≤ (i : Int) := by omega
      have h512 : (l1.length : Int) ≤ 512 := by have := HL.out; omega
      clear hm hn2 her hwk hQ' hn hx hd hnb HQ HW
      go_wp2_with (first
        | ((with_reducible refine gate_dst (N := 11) rfl ?_); go_must (refine box_event ?hg (N := 11) ?hd (cs := #[.int .i64 0, .int .i64 0]) (t := 35) ?hr ?_; (case hd => rfl); (case hg => rfl); (case hr => first | (go_simp; done) | (go_simp; rfl)); intro ga hg w11 hbox hb; have HG' := Aside0.mk hg; have BA := Aside0.mk hbox; have BR1 := Aside0.mk (blk_below BR'.out hb); have HB1 := Aside0.mk (below_then HB'.out HB'.out.size hb); have HI1 := Aside0.mk (HI'.out.more' hg hb); have HGA := Aside0.mk (show w0.heap.size ≤ ga from hg ▸ HB'.out.size); have hne : gr ≠ ga := (by rw [hg]; exact Nat.ne_of_lt (blk_lt BR'.out)); have hne' : ga ≠ gr := fun e => hne e.symm; have hz0 := (blk_cell BA.out 0).trans rfl; have hz1 := (blk_cell BA.out 1).trans rfl; have hf0 := blk_frozen BA.out 0; have hf1 := blk_frozen BA.out 1; clear hbox hb hg; have hr0 := (blk_cell BR1.out 0).trans rfl; have hr1 := (blk_cell BR1.out 1).trans rfl))
        | (go_at_call 11; go_must (refine (next_any st x0 n 0 HN2.out _).mono ?_; rintro e w' ⟨rfl, ⟨nd, rfl⟩⟩))
        | (go_at_call 29; go_must (refine (machine_moment.calls x1 true _ HM.out).mono ?_; rintro e w' ⟨rfl, ⟨nd2, rfl⟩⟩))
        | (go_at_call 37; go_must (refine (machine_early.calls th cl x0 x1 fr false _ HE.out).mono ?_; rintro e w26 ⟨rfl, hb⟩; have hba := blk_below (g := ga) (o := .cells #[.int .i64 x0, .int .i64 x1] 35 (0, 0)) (by (with_reducible repeat refine blk_drewN ?_ _); refine blk_put (cs := #[.int .i64 x0, .int .i64 0]) ?_ 1 _ rfl; (with_reducible repeat refine blk_drewN ?_ _); refine blk_put (cs := #[.int .i64 0, .int .i64 0]) ?_ 0 _ rfl; exact BA.out) hb; have BR2 := Aside0.mk (blk_below (g := gr) (o := .cells #[.int .i64 th, .int .i64 cl] 28 (0, 0)) (by (with_reducible repeat (first | refine blk_drewN ?_ _ | refine blk_far ?_ hne _)); exact BR1.out) hb); have HB2 := Aside0.mk (below_then (B := w0.heap.size) (w := w0) (by (with_reducible repeat (first | apply pw_below_drewN | refine below_set ?_ HGA.out)); exact HB1.out) (by (with_reducible repeat (first | apply pw_below_drewN | refine below_set ?_ HGA.out)); exact (below_set (j := 1) (v := .int .i64 x1) (below_set (j := 0) (v := .int .i64 x0) HB1.out HGA.out) HGA.out).size) hb); have HI2 := Aside0.mk (PhI.below (B := w0.heap.size) (gp := gp) (go := go) (gt := gt) (Ls := [ga, gr]) (st := st) (fr := fr) (to_ := 0) (out := out) (by (with_reducible repeat (first | refine PhI.drewN ?_ _ | refine PhI.set' ?_ List.mem_cons_self _ _)); exact HI1.out) hb); have BA2 := Aside0.mk hba; have hz0' := (blk_cell hba 0).trans rfl; have hz1' := (blk_cell hba 1).trans rfl; clear hba hb)))
      go_quiet (fail)
      go_wp2_with (first
        | (go_at_call 33; go_must (refine (step_calls n x0 x1 st fr 0 out gp go gt [ga, gr] w0 _ ?sB ?sI ?sL ?sS).mono ?_; (case sB => (with_reducible repeat apply pw_below_drewN); exact HB2.out); (case sI => (with_reducible repeat refine PhI.drewN ?_ _); exact HI2.out); (case sL => have := HN.out; have := HL.out; omega); (case sS => intro g hg; rcases List.mem_cons.1 hg with rfl | hg; exact blk_lt (blk_drewN BA2.out _); rcases List.mem_cons.1 hg with rfl | hg; exact blk_lt (blk_drewN BR2.out _); cases hg); rintro e w27 ⟨rfl, hb7, hI7, hk7⟩; have HB7 := Aside0.mk hb7; have HI7 := Aside0.mk hI7; have BR7 := Aside0.mk (hk7 gr (List.mem_cons_of_mem _ List.mem_cons_self) _ (blk_drewN BR2.out _)); clear hb7 hI7 hk7)))
      go_roundg k1
      case measure => have := HN.out; omega
      case rel => exact ⟨i + 1, n, x1, turnS x1 st fr out, rfl, rfl, rfl, by go_num, ⟨by have := HN.out; have := turnS_len x1 st fr out; omega⟩, HQ1, HW1, BR7, HB7, ⟨HI7.out.less⟩⟩
    · have hit : decide (i < l1.length) = false := decide_eq_false (by omega)
      have hQ' : (st, fr, out) = p := by have := HQ.out; rw [List.drop_eq_nil_of_le (by omega)] at this; exact this
      have HQ1 := Aside0.mk hQ'
      have HI1 := Aside0.mk hi
      clear hQ' hi HQ
      go_wp2
      try simp only [Exit.noGoto]
      go_ret
      refine ⟨rfl, HB'.out, ?_⟩
      rw [← HQ1.out]
      exact HI'.out.less
/-- What Phases answers behind Check. -/
def phs (e : Int) (l : List S35) (a2 : Int) : List S54 × Int :=
  if e = 0 then (if a2 < 0 then ([], 1) else if a2 > 2147483648 then ([], 1) else if 0 < l.length ∧ (rd_T35 l ((l.length : Int) - 1)).f1 ≥ a2 then ([], 37)
    else (turnS a2 (List.foldl pstep (0, 0, []) l).1 (List.foldl pstep (0, 0, []) l).2.1 (List.foldl pstep (0, 0, []) l).2.2, 0)) else ([], e)
def machine_Phases.f (k : Nat) (a0_0 : Int) (a0_1 : Int) (l1 : List S35) (a2 : Int) : Option (List S54 × Int) := (machine_Check.f k a0_0 a0_1 l1).bind fun e => some (phs e l1 a2)
theorem machine_Phases.mono : ∀ a0 a1 a2 a3 k, LeO (machine_Phases.f k a0 a1 a2 a3) (machine_Phases.f (k + 1) a0 a1 a2 a3) := by
  intro a0 a1 a2 a3 k
  unfold machine_Phases.f
  exact LeO.bind (machine_Check.mono _ _ _ _) (fun _ => LeO.refl _)
theorem pfold_len (l : List S35) : ∀ p : Int × Int × List S54, (List.foldl pstep p l).2.2.length ≤ p.2.2.length + l.length := by
  induction l with
  | nil => intro p; simp
  | cons x l ih =>
    intro p
    have h := ih (pstep p x)
    have h2 := turnS_len x.f1 p.1 p.2.1 p.2.2
    simp only [List.foldl_cons, List.length_cons]
    unfold pstep at h ⊢
    simp only at h
    omega
/-- PhI as it stands before walk. -/
theorem PhI.start {B gp go gt : Nat} {w9 w10 w11 : World} (h9 : w9.heap[go]? = some (.cells #[.slice none 0 0] 36 (0, 0))) (hb10 : Below w9.heap.size w9 w10) (hg10 : gp = w9.heap.size) (h10 : w10.heap[gp]? = some (.cells #[.int .i64 0, .int .i64 0, .int .i64 0] 54 (0, 0)))
    (hB : B ≤ go) (hgt : gt = ((((w10.setCell ⟨gp, 0, none⟩ (.int .i64 0)).setCell ⟨gp, 1, none⟩ (.int .i64 0)).setCell ⟨gp, 2, none⟩ (.int .i64 0))).heap.size)
    (hb11 : Below ((((w10.setCell ⟨gp, 0, none⟩ (.int .i64 0)).setCell ⟨gp, 1, none⟩ (.int .i64 0)).setCell ⟨gp, 2, none⟩ (.int .i64 0))).heap.size (((w10.setCell ⟨gp, 0, none⟩ (.int .i64 0)).setCell ⟨gp, 1, none⟩ (.int .i64 0)).setCell ⟨gp, 2, none⟩ (.int .i64 0)) w11)
    (h11 : w11.heap[gt]? = some (.cells #[.nilFunc] 61 (0, 0))) :
    PhI B gp go gt [] (w11.setCell ⟨gt, 0, none⟩ (.func (.func 32) #[] #[.pointer (some ⟨gp, 0, none⟩), .pointer (some ⟨go, 0, none⟩)])) 0 0 0 [] := by
  have l9 := blk_lt h9
  have n1 : gp ≠ go := by omega
  have b10 := blk_below h9 hb10
  have lgo := blk_lt b10
  have lgp := blk_lt h10
  have s3 := blk_put (blk_put (blk_put h10 0 (.int .i64 0) rfl) 1 (.int .i64 0) rfl) 2 (.int .i64 0) rfl
  have n2 : gp ≠ gt := by have := blk_lt s3; omega
  have s4 := blk_far (p := ⟨gp, 2, none⟩) (blk_far (p := ⟨gp, 1, none⟩) (blk_far (p := ⟨gp, 0, none⟩) b10 (fun e => n1 e.symm) (.int .i64 0)) (fun e => n1 e.symm) (.int .i64 0)) (fun e => n1 e.symm) (.int .i64 0)
  have n3 : go ≠ gt := by have := blk_lt s4; omega
  exact ⟨.slice none 0 0, blk_far (blk_below s3 hb11) n2 _, blk_far (blk_below s4 hb11) n3 _, blk_put h11 0 _ rfl, Kd.R_nil _ _ _ _ _, ⟨n1, n2, n3⟩, ⟨List.not_mem_nil, List.not_mem_nil, List.not_mem_nil⟩, by omega, hB, by have := blk_lt s4; omega⟩
set_option maxHeartbeats 4000000 in
set_option maxRecDepth 100000 in
theorem Phases_bad (k : Nat) (th cl : Int) (A1 : Option Addr) (c1 : Nat) (l1 : List S35) (a2 : Int) (er : Int) (w : World) (hr1 : Kd.C k35 w A1 l1.length l1) (hc1 : l1.length ≤ c1) (he : machine_Check.f k th cl l1 = some er) (h0 : er ≠ 0) :
    Calls Try.prog 18 #[.agg #[.int .i64 th, .int .i64 cl], .slice A1 l1.length c1, .int .i64 a2] w fun e w' => ∃ v0_ : Value, e = .returned (.tuple #[v0_, .int .i64 er]) ∧ Kd.R k54 54 w' w.heap.size (fun _ => True) v0_ [] ∧ Below w.heap.size w w' := by
  have HR1 := Aside0.mk hr1
  have HC1 := Aside0.mk hc1
  have HE := Aside0.mk he
  clear hr1 hc1 he
  have c0b : (er == 0) = false := beq_eq_false_iff_ne.mpr h0
  have c0c : (er != 0) = true := bne_iff_ne.mpr h0
  clear h0
  go_enter Try.func18, Try.ntmps18
  go_wp2_with (first | ((with_reducible refine gate_dst (N := 3) rfl ?_); go_must (refine box_event ?hg (N := 3) ?hd (cs := #[.int .i64 th, .int .i64 cl]) (t := 28) ?hr ?_; (case hd => rfl); (case hg => rfl); (case hr => first | (go_simp; done) | (go_simp; rfl)); intro gr hg w3 hbox hb; have BR := Aside0.mk hbox; have HB := Aside0.mk hb; have hr0 := (blk_cell BR.out 0).trans rfl; have hr1 := (blk_cell BR.out 1).trans rfl; clear hbox hb hg)) | (go_at_call 14; go_must (refine (machine_Check.calls k th cl _ c1 l1 er _ (Kd.C_below HR1.out HB.out) HC1.out HE.out).mono ?_; rintro e_ w4 ⟨rfl, hb⟩; have BR4 := Aside0.mk (blk_below BR.out hb); have HB4 := Aside0.mk (below_step HB.out hb); clear hb)))
  go_ret2
  exact ⟨.slice none 0 0, rfl, Kd.R_nil _ _ _ _ _, HB4.out⟩
set_option maxHeartbeats 4000000 in
set_option maxRecDepth 100000 in
theorem Phases_neg (k : Nat) (th cl : Int) (A1 : Option Addr) (c1 : Nat) (l1 : List S35) (a2 : Int) (w : World) (hr1 : Kd.C k35 w A1 l1.length l1) (hc1 : l1.length ≤ c1) (he : machine_Check.f k th cl l1 = some 0) (h0 : a2 < 0) :
    Calls Try.prog 18 #[.agg #[.int .i64 th, .int .i64 cl], .slice A1 l1.length c1, .int .i64 a2] w fun e w' => ∃ v0_ : Value, e = .returned (.tuple #[v0_, .int .i64 1]) ∧ Kd.R k54 54 w' w.heap.size (fun _ => True) v0_ [] ∧ Below w.heap.size w w' := by
  have HR1 := Aside0.mk hr1
  have HC1 := Aside0.mk hc1
  have HE := Aside0.mk he
  clear hr1 hc1 he
  have c0b : decide (a2 < 0) = true := decide_eq_true h0
  clear h0
  go_enter Try.func18, Try.ntmps18
  go_wp2_with (first | ((with_reducible refine gate_dst (N := 3) rfl ?_); go_must (refine box_event ?hg (N := 3) ?hd (cs := #[.int .i64 th, .int .i64 cl]) (t := 28) ?hr ?_; (case hd => rfl); (case hg => rfl); (case hr => first | (go_simp; done) | (go_simp; rfl)); intro gr hg w3 hbox hb; have BR := Aside0.mk hbox; have HB := Aside0.mk hb; have hr0 := (blk_cell BR.out 0).trans rfl; have hr1 := (blk_cell BR.out 1).trans rfl; clear hbox hb hg)) | (go_at_call 14; go_must (refine (machine_Check.calls k th cl _ c1 l1 0 _ (Kd.C_below HR1.out HB.out) HC1.out HE.out).mono ?_; rintro e_ w4 ⟨rfl, hb⟩; have BR4 := Aside0.mk (blk_below BR.out hb); have HB4 := Aside0.mk (below_step HB.out hb); clear hb)))
  go_ret2
  exact ⟨.slice none 0 0, rfl, Kd.R_nil _ _ _ _ _, HB4.out⟩
set_option maxHeartbeats 4000000 in
set_option maxRecDepth 100000 in
theorem Phases_big (k : Nat) (th cl : Int) (A1 : Option Addr) (c1 : Nat) (l1 : List S35) (a2 : Int) (w : World) (hr1 : Kd.C k35 w A1 l1.length l1) (hc1 : l1.length ≤ c1) (he : machine_Check.f k th cl l1 = some 0) (h0 : ¬ a2 < 0) (h1 : a2 > 2147483648) :
    Calls Try.prog 18 #[.agg #[.int .i64 th, .int .i64 cl], .slice A1 l1.length c1, .int .i64 a2] w fun e w' => ∃ v0_ : Value, e = .returned (.tuple #[v0_, .int .i64 1]) ∧ Kd.R k54 54 w' w.heap.size (fun _ => True) v0_ [] ∧ Below w.heap.size w w' := by
  have HR1 := Aside0.mk hr1
  have HC1 := Aside0.mk hc1
  have HE := Aside0.mk he
  clear hr1 hc1 he
  have c0b : decide (a2 < 0) = false := decide_eq_false h0
  have c1b : decide (2147483648 < a2) = true := decide_eq_true h1
  clear h0 h1
  go_enter Try.func18, Try.ntmps18
  go_wp2_with (first | ((with_reducible refine gate_dst (N := 3) rfl ?_); go_must (refine box_event ?hg (N := 3) ?hd (cs := #[.int .i64 th, .int .i64 cl]) (t := 28) ?hr ?_; (case hd => rfl); (case hg => rfl); (case hr => first | (go_simp; done) | (go_simp; rfl)); intro gr hg w3 hbox hb; have BR := Aside0.mk hbox; have HB := Aside0.mk hb; have hr0 := (blk_cell BR.out 0).trans rfl; have hr1 := (blk_cell BR.out 1).trans rfl; clear hbox hb hg)) | (go_at_call 14; go_must (refine (machine_Check.calls k th cl _ c1 l1 0 _ (Kd.C_below HR1.out HB.out) HC1.out HE.out).mono ?_; rintro e_ w4 ⟨rfl, hb⟩; have BR4 := Aside0.mk (blk_below BR.out hb); have HB4 := Aside0.mk (below_step HB.out hb); clear hb)))
  go_ret2
  exact ⟨.slice none 0 0, rfl, Kd.R_nil _ _ _ _ _, HB4.out⟩
set_option maxHeartbeats 4000000 in
set_option maxRecDepth 100000 in
theorem Phases_late (k : Nat) (th cl : Int) (A1 : Option Addr) (c1 : Nat) (l1 : List S35) (a2 : Int) (w : World) (hr1 : Kd.C k35 w A1 l1.length l1) (hc1 : l1.length ≤ c1) (he : machine_Check.f k th cl l1 = some 0) (hl : l1.length ≤ 512) (h0 : ¬ a2 < 0) (h1 : ¬ a2 > 2147483648) (h2 : 0 < l1.length) (h3 : (rd_T35 l1 ((l1.length : Int) - 1)).f1 ≥ a2) :
    Calls Try.prog 18 #[.agg #[.int .i64 th, .int .i64 cl], .slice A1 l1.length c1, .int .i64 a2] w fun e w' => ∃ v0_ : Value, e = .returned (.tuple #[v0_, .int .i64 37]) ∧ Kd.R k54 54 w' w.heap.size (fun _ => True) v0_ [] ∧ Below w.heap.size w w' := by
  have HR1 := Aside0.mk hr1
  have HC1 := Aside0.mk hc1
  have HE := Aside0.mk he
  clear hr1 hc1 he
  have c0b : decide (a2 < 0) = false := decide_eq_false h0
  have c1b : decide (2147483648 < a2) = false := decide_eq_false h1
  have c2b : decide (0 < l1.length) = true := decide_eq_true h2
  obtain ⟨ad, e1, hx0, hx1⟩ := at_T35 HR1.out ((l1.length : Int) - 1) (by omega) (by omega)
  cases e1
  rw [show ((l1.length : Int) - 1).toNat = l1.length - 1 by omega] at hx0 hx1
  generalize rd_T35 l1 ((l1.length : Int) - 1) = x at *
  obtain ⟨x0, x1⟩ := x
  simp only at h3 hx0 hx1
  have c3b : decide (a2 ≤ x1) = true := decide_eq_true h3
  have HX0 := Aside0.mk hx0
  have HX1 := Aside0.mk hx1
  have HBB := Aside0.mk hl
  have h512 : (l1.length : Int) ≤ 512 := by omega
  have hp1 : 1 ≤ (l1.length : Int) := by omega
  have hp2 : 0 ≤ (l1.length : Int) - 1 := by omega
  have hp3 : (l1.length : Int) - 1 < (l1.length : Int) := by omega
  clear h0 h1 h2 h3 hl hx0 hx1
  go_enter Try.func18, Try.ntmps18
  go_wp2_with (first | ((with_reducible refine gate_dst (N := 3) rfl ?_); go_must (refine box_event ?hg (N := 3) ?hd (cs := #[.int .i64 th, .int .i64 cl]) (t := 28) ?hr ?_; (case hd => rfl); (case hg => rfl); (case hr => first | (go_simp; done) | (go_simp; rfl)); intro gr hg w3 hbox hb; have BR := Aside0.mk hbox; have HB := Aside0.mk hb; have hr0 := (blk_cell BR.out 0).trans rfl; have hr1 := (blk_cell BR.out 1).trans rfl; clear hbox hb hg)) | (go_at_call 14; go_must (refine (machine_Check.calls k th cl _ c1 l1 0 _ (Kd.C_below HR1.out HB.out) HC1.out HE.out).mono ?_; rintro e_ w4 ⟨rfl, hb⟩; have BR4 := Aside0.mk (blk_below BR.out hb); have HB4 := Aside0.mk (below_step HB.out hb); clear hb; have hx0 := (HB4.out.cell (World.block_lt_of_cell? w _ HX0.out)).trans HX0.out; have hx1 := (HB4.out.cell (World.block_lt_of_cell? w _ HX1.out)).trans HX1.out)))
  go_ret2
  exact ⟨.slice none 0 0, rfl, Kd.R_nil _ _ _ _ _, HB4.out⟩
set_option maxHeartbeats 4000000 in
set_option maxRecDepth 100000 in
theorem Phases_none (k : Nat) (th cl : Int) (A1 : Option Addr) (c1 : Nat) (l1 : List S35) (a2 : Int) (w : World) (hr1 : Kd.C k35 w A1 l1.length l1) (hc1 : l1.length ≤ c1) (he : machine_Check.f k th cl l1 = some 0) (hl : l1.length ≤ 512) (hw : wk th cl l1 0 0 = 0) (h0 : ¬ a2 < 0) (h1 : ¬ a2 > 2147483648) (h2 : ¬ 0 < l1.length) :
    Calls Try.prog 18 #[.agg #[.int .i64 th, .int .i64 cl], .slice A1 l1.length c1, .int .i64 a2] w fun e w' => ∃ v0_ : Value, e = .returned (.tuple #[v0_, .int .i64 0]) ∧ Kd.R k54 54 w' w.heap.size (fun _ => True) v0_ (turnS a2 (List.foldl pstep (0, 0, []) l1).1 (List.foldl pstep (0, 0, []) l1).2.1 (List.foldl pstep (0, 0, []) l1).2.2) ∧ Below w.heap.size w w' := by
  have HR1 := Aside0.mk hr1
  have HC1 := Aside0.mk hc1
  have HE := Aside0.mk he
  clear hr1 hc1 he
  have HL := Aside0.mk hl
  have HW := Aside0.mk hw
  clear hw
  have c0b : decide (a2 < 0) = false := decide_eq_false h0
  have c1b : decide (2147483648 < a2) = false := decide_eq_false h1
  have c2b : decide (0 < l1.length) = false := decide_eq_false (by omega)
  clear h0 h1 hl h2
  go_enter Try.func18, Try.ntmps18
  go_wp2_with (first | ((with_reducible refine gate_dst (N := 3) rfl ?_); go_must (refine box_event ?hg (N := 3) ?hd (cs := #[.int .i64 th, .int .i64 cl]) (t := 28) ?hr ?_; (case hd => rfl); (case hg => rfl); (case hr => first | (go_simp; done) | (go_simp; rfl)); intro gr hg w3 hbox hb; have BR := Aside0.mk hbox; have HB := Aside0.mk hb; have hr0 := (blk_cell BR.out 0).trans rfl; have hr1 := (blk_cell BR.out 1).trans rfl; clear hbox hb hg)) | (go_at_call 14; go_must (refine (machine_Check.calls k th cl _ c1 l1 0 _ (Kd.C_below HR1.out HB.out) HC1.out HE.out).mono ?_; rintro e_ w4 ⟨rfl, hb⟩; have BR4 := Aside0.mk (blk_below BR.out hb); have HB4 := Aside0.mk (below_step HB.out hb); clear hb)) | ((with_reducible refine gate_dst (N := 9) rfl ?_); go_must (refine box_event ?hg (N := 9) ?hd (cs := #[.slice none 0 0]) (t := 36) ?hr ?_; (case hd => rfl); (case hg => rfl); (case hr => first | (go_simp; done) | (go_simp; rfl)); intro go hg w9 hbox hb; have BO := Aside0.mk hbox; have HGO := Aside0.mk (show w.heap.size ≤ go from hg ▸ HB4.out.size); have HB9 := Aside0.mk (below_step HB4.out hb); have BR9 := Aside0.mk (blk_below BR4.out hb); clear hbox hb hg)) | ((with_reducible refine gate_dst (N := 10) rfl ?_); go_must (refine box_event ?hg (N := 10) ?hd (cs := #[.int .i64 0, .int .i64 0, .int .i64 0]) (t := 54) ?hr ?_; (case hd => rfl); (case hg => rfl); (case hr => first | (go_simp; done) | (go_simp; rfl)); intro gp hg w10 hbox hb; have BP := Aside0.mk hbox; have HG10 := Aside0.mk hg; have HBL10 := Aside0.mk hb; have HGP := Aside0.mk (show w.heap.size ≤ gp from hg ▸ HB9.out.size); have HB10 := Aside0.mk (below_step HB9.out hb); have BR10 := Aside0.mk (blk_below BR9.out hb); have hrp : gr ≠ gp := (by rw [hg]; exact Nat.ne_of_lt (blk_lt BR9.out)); have hrp' : gp ≠ gr := (fun e => hrp e.symm); have hp0 := (blk_cell BP.out 0).trans rfl; have hp1 := (blk_cell BP.out 1).trans rfl; have hp2 := (blk_cell BP.out 2).trans rfl; have hf0 := blk_frozen BP.out 0; have hf1 := blk_frozen BP.out 1; have hf2 := blk_frozen BP.out 2; clear hbox hb hg)) | ((with_reducible refine gate_dst (N := 11) rfl ?_); go_must (refine box_event ?hg (N := 11) ?hd (cs := #[.nilFunc]) (t := 61) ?hr ?_; (case hd => rfl); (case hg => rfl); (case hr => first | (go_simp; done) | (go_simp; rfl)); intro gt hg w11 hbox hb; have BT := Aside0.mk hbox; have HI0 := Aside0.mk (PhI.start (B := w.heap.size) BO.out HBL10.out HG10.out BP.out HGO.out hg hb hbox); have HGT := Aside0.mk (show w.heap.size ≤ gt from hg ▸ (below_set (j := 2) (v := .int .i64 0) (below_set (j := 1) (v := .int .i64 0) (below_set (j := 0) (v := .int .i64 0) HB10.out HGP.out) HGP.out) HGP.out).size); have HB11 := Aside0.mk (below_step (below_set (j := 2) (v := .int .i64 0) (below_set (j := 1) (v := .int .i64 0) (below_set (j := 0) (v := .int .i64 0) HB10.out HGP.out) HGP.out) HGP.out) hb); have BR11 := Aside0.mk (blk_below (blk_far (p := ⟨gp, 2, none⟩) (blk_far (p := ⟨gp, 1, none⟩) (blk_far (p := ⟨gp, 0, none⟩) BR10.out hrp (.int .i64 0)) hrp (.int .i64 0)) hrp (.int .i64 0)) hb); have hrt : gr ≠ gt := (by rw [hg]; exact Nat.ne_of_lt (blk_lt (blk_far (p := ⟨gp, 2, none⟩) (blk_far (p := ⟨gp, 1, none⟩) (blk_far (p := ⟨gp, 0, none⟩) BR10.out hrp (.int .i64 0)) hrp (.int .i64 0)) hrp (.int .i64 0)))); have hrt' : gt ≠ gr := (fun e => hrt e.symm); have ht0 := (blk_cell BT.out 0).trans rfl; have hft := blk_frozen BT.out 0; have hq0 := (blk_cell BR11.out 0).trans rfl; have hq1 := (blk_cell BR11.out 1).trans rfl; clear hbox hb hg)) | (go_at_call 27; go_must (refine (walkP_calls th cl _ c1 l1 _ gp go gt w _ (below_set HB11.out HGT.out) HI0.out HR1.out HC1.out HL.out HW.out rfl).mono ?_; rintro e_ w12 ⟨rfl, hb, hI⟩; have HB12 := Aside0.mk hb; have HI12 := Aside0.mk hI; have ht12 := (blk_cell hI.hold.2 0).trans rfl; clear hb hI)) | (go_at_call 32; go_must (refine (turn_calls a2 _ _ 0 _ gp go gt [] w w12 HB12.out HI12.out ?sL (fun g hg => (List.not_mem_nil hg).elim)).mono ?_; (case sL => have h1 := pfold_len l1 ((0 : Int), (0 : Int), ([] : List S54)); have h2 := HL.out; simp only [List.length_nil] at h1; omega); rintro e_ w13 ⟨rfl, hb, hI, _⟩; have HB13 := Aside0.mk hb; obtain ⟨v, hp, ho, ht, hr, hne, hls, hbb⟩ := hI; have HR13 := Aside0.mk hr; have ho13 := (blk_cell ho 0).trans rfl; clear hp ht hr hne hls hbb hb ho)))
  go_ret2
  exact ⟨v, rfl, Kd.R_mono HR13.out (fun _ _ => trivial), HB13.out⟩
set_option maxHeartbeats 4000000 in
set_option maxRecDepth 100000 in
theorem Phases_some (k : Nat) (th cl : Int) (A1 : Option Addr) (c1 : Nat) (l1 : List S35) (a2 : Int) (w : World) (hr1 : Kd.C k35 w A1 l1.length l1) (hc1 : l1.length ≤ c1) (he : machine_Check.f k th cl l1 = some 0) (hl : l1.length ≤ 512) (hw : wk th cl l1 0 0 = 0) (h0 : ¬ a2 < 0) (h1 : ¬ a2 > 2147483648) (h2 : 0 < l1.length) (h3 : ¬ (rd_T35 l1 ((l1.length : Int) - 1)).f1 ≥ a2) :
    Calls Try.prog 18 #[.agg #[.int .i64 th, .int .i64 cl], .slice A1 l1.length c1, .int .i64 a2] w fun e w' => ∃ v0_ : Value, e = .returned (.tuple #[v0_, .int .i64 0]) ∧ Kd.R k54 54 w' w.heap.size (fun _ => True) v0_ (turnS a2 (List.foldl pstep (0, 0, []) l1).1 (List.foldl pstep (0, 0, []) l1).2.1 (List.foldl pstep (0, 0, []) l1).2.2) ∧ Below w.heap.size w w' := by
  have HR1 := Aside0.mk hr1
  have HC1 := Aside0.mk hc1
  have HE := Aside0.mk he
  clear hr1 hc1 he
  have HL := Aside0.mk hl
  have HW := Aside0.mk hw
  clear hw
  have c0b : decide (a2 < 0) = false := decide_eq_false h0
  have c1b : decide (2147483648 < a2) = false := decide_eq_false h1
  have c2b : decide (0 < l1.length) = true := decide_eq_true h2
  obtain ⟨ad, e1, hx0, hx1⟩ := at_T35 HR1.out ((l1.length : Int) - 1) (by omega) (by omega)
  cases e1
  rw [show ((l1.length : Int) - 1).toNat = l1.length - 1 by omega] at hx0 hx1
  generalize rd_T35 l1 ((l1.length : Int) - 1) = x at *
  obtain ⟨x0, x1⟩ := x
  simp only at h3 hx0 hx1
  have c3b : decide (a2 ≤ x1) = false := decide_eq_false h3
  have HX0 := Aside0.mk hx0
  have HX1 := Aside0.mk hx1
  have h512 : (l1.length : Int) ≤ 512 := by omega
  have hp1_ : 1 ≤ (l1.length : Int) := by omega
  have hp2_ : 0 ≤ (l1.length : Int) - 1 := by omega
  have hp3_ : (l1.length : Int) - 1 < (l1.length : Int) := by omega
  clear h0 h1 h2 h3 hl hx0 hx1
  go_enter Try.func18, Try.ntmps18
  go_wp2_with (first | ((with_reducible refine gate_dst (N := 3) rfl ?_); go_must (refine box_event ?hg (N := 3) ?hd (cs := #[.int .i64 th, .int .i64 cl]) (t := 28) ?hr ?_; (case hd => rfl); (case hg => rfl); (case hr => first | (go_simp; done) | (go_simp; rfl)); intro gr hg w3 hbox hb; have BR := Aside0.mk hbox; have HB := Aside0.mk hb; have hr0 := (blk_cell BR.out 0).trans rfl; have hr1 := (blk_cell BR.out 1).trans rfl; clear hbox hb hg)) | (go_at_call 14; go_must (refine (machine_Check.calls k th cl _ c1 l1 0 _ (Kd.C_below HR1.out HB.out) HC1.out HE.out).mono ?_; rintro e_ w4 ⟨rfl, hb⟩; have BR4 := Aside0.mk (blk_below BR.out hb); have HB4 := Aside0.mk (below_step HB.out hb); clear hb; have hx0 := (HB4.out.cell (World.block_lt_of_cell? w _ HX0.out)).trans HX0.out; have hx1 := (HB4.out.cell (World.block_lt_of_cell? w _ HX1.out)).trans HX1.out)) | ((with_reducible refine gate_dst (N := 9) rfl ?_); go_must (refine box_event ?hg (N := 9) ?hd (cs := #[.slice none 0 0]) (t := 36) ?hr ?_; (case hd => rfl); (case hg => rfl); (case hr => first | (go_simp; done) | (go_simp; rfl)); intro go hg w9 hbox hb; have BO := Aside0.mk hbox; have HGO := Aside0.mk (show w.heap.size ≤ go from hg ▸ HB4.out.size); have HB9 := Aside0.mk (below_step HB4.out hb); have BR9 := Aside0.mk (blk_below BR4.out hb); clear hbox hb hg)) | ((with_reducible refine gate_dst (N := 10) rfl ?_); go_must (refine box_event ?hg (N := 10) ?hd (cs := #[.int .i64 0, .int .i64 0, .int .i64 0]) (t := 54) ?hr ?_; (case hd => rfl); (case hg => rfl); (case hr => first | (go_simp; done) | (go_simp; rfl)); intro gp hg w10 hbox hb; have BP := Aside0.mk hbox; have HG10 := Aside0.mk hg; have HBL10 := Aside0.mk hb; have HGP := Aside0.mk (show w.heap.size ≤ gp from hg ▸ HB9.out.size); have HB10 := Aside0.mk (below_step HB9.out hb); have BR10 := Aside0.mk (blk_below BR9.out hb); have hrp : gr ≠ gp := (by rw [hg]; exact Nat.ne_of_lt (blk_lt BR9.out)); have hrp' : gp ≠ gr := (fun e => hrp e.symm); have hp0 := (blk_cell BP.out 0).trans rfl; have hp1 := (blk_cell BP.out 1).trans rfl; have hp2 := (blk_cell BP.out 2).trans rfl; have hf0 := blk_frozen BP.out 0; have hf1 := blk_frozen BP.out 1; have hf2 := blk_frozen BP.out 2; clear hbox hb hg)) | ((with_reducible refine gate_dst (N := 11) rfl ?_); go_must (refine box_event ?hg (N := 11) ?hd (cs := #[.nilFunc]) (t := 61) ?hr ?_; (case hd => rfl); (case hg => rfl); (case hr => first | (go_simp; done) | (go_simp; rfl)); intro gt hg w11 hbox hb; have BT := Aside0.mk hbox; have HI0 := Aside0.mk (PhI.start (B := w.heap.size) BO.out HBL10.out HG10.out BP.out HGO.out hg hb hbox); have HGT := Aside0.mk (show w.heap.size ≤ gt from hg ▸ (below_set (j := 2) (v := .int .i64 0) (below_set (j := 1) (v := .int .i64 0) (below_set (j := 0) (v := .int .i64 0) HB10.out HGP.out) HGP.out) HGP.out).size); have HB11 := Aside0.mk (below_step (below_set (j := 2) (v := .int .i64 0) (below_set (j := 1) (v := .int .i64 0) (below_set (j := 0) (v := .int .i64 0) HB10.out HGP.out) HGP.out) HGP.out) hb); have BR11 := Aside0.mk (blk_below (blk_far (p := ⟨gp, 2, none⟩) (blk_far (p := ⟨gp, 1, none⟩) (blk_far (p := ⟨gp, 0, none⟩) BR10.out hrp (.int .i64 0)) hrp (.int .i64 0)) hrp (.int .i64 0)) hb); have hrt : gr ≠ gt := (by rw [hg]; exact Nat.ne_of_lt (blk_lt (blk_far (p := ⟨gp, 2, none⟩) (blk_far (p := ⟨gp, 1, none⟩) (blk_far (p := ⟨gp, 0, none⟩) BR10.out hrp (.int .i64 0)) hrp (.int .i64 0)) hrp (.int .i64 0)))); have hrt' : gt ≠ gr := (fun e => hrt e.symm); have ht0 := (blk_cell BT.out 0).trans rfl; have hft := blk_frozen BT.out 0; have hq0 := (blk_cell BR11.out 0).trans rfl; have hq1 := (blk_cell BR11.out 1).trans rfl; clear hbox hb hg)) | (go_at_call 27; go_must (refine (walkP_calls th cl _ c1 l1 _ gp go gt w _ (below_set HB11.out HGT.out) HI0.out HR1.out HC1.out HL.out HW.out rfl).mono ?_; rintro e_ w12 ⟨rfl, hb, hI⟩; have HB12 := Aside0.mk hb; have HI12 := Aside0.mk hI; have ht12 := (blk_cell hI.hold.2 0).trans rfl; clear hb hI)) | (go_at_call 32; go_must (refine (turn_calls a2 _ _ 0 _ gp go gt [] w w12 HB12.out HI12.out ?sL (fun g hg => (List.not_mem_nil hg).elim)).mono ?_; (case sL => have h1 := pfold_len l1 ((0 : Int), (0 : Int), ([] : List S54)); have h2 := HL.out; simp only [List.length_nil] at h1; omega); rintro e_ w13 ⟨rfl, hb, hI, _⟩; have HB13 := Aside0.mk hb; obtain ⟨v, hp, ho, ht, hr, hne, hls, hbb⟩ := hI; have HR13 := Aside0.mk hr; have ho13 := (blk_cell ho 0).trans rfl; clear hp ht hr hne hls hbb hb ho)))
  go_ret2
  exact ⟨v, rfl, Kd.R_mono HR13.out (fun _ _ => trivial), HB13.out⟩
theorem machine_Phases.calls (k : Nat) (a0_0 : Int) (a0_1 : Int) (A1 : Option Addr) (c1 : Nat) (l1 : List (S35)) (a2 : Int) (r1 : List (S54)) (r2 : Int) (w : World) (hr1 : Kd.C k35 w A1 l1.length l1) (hc1 : l1.length ≤ c1) (h : machine_Phases.f k a0_0 a0_1 l1 a2 = some (r1, r2)) :
    Calls Try.prog 18 #[.agg #[.int .i64 a0_0, .int .i64 a0_1], .slice A1 l1.length c1, .int .i64 a2] w fun e w' => ∃ v0_ : Value, e = .returned (.tuple #[v0_, .int .i64 r2]) ∧ Kd.R k54 54 w' w.heap.size (fun _ => True) v0_ r1 ∧ Below w.heap.size w w' := by
  unfold machine_Phases.f at h
  obtain ⟨e, he, h⟩ := Option.bind_eq_some_iff.mp h
  replace h := Option.some.inj h
  unfold phs at h
  by_cases h0 : e = 0
  · rw [if_pos h0] at h
    subst h0
    obtain ⟨_, _, _, _, hl, hw⟩ := chk_zero (chk_of he).symm
    by_cases h1 : a2 < 0
    · rw [if_pos h1] at h
      cases h
      exact Phases_neg k a0_0 a0_1 A1 c1 l1 a2 w hr1 hc1 he h1
    · rw [if_neg h1] at h
      by_cases h2 : a2 > 2147483648
      · rw [if_pos h2] at h
        cases h
        exact Phases_big k a0_0 a0_1 A1 c1 l1 a2 w hr1 hc1 he h1 h2
      · rw [if_neg h2] at h
        by_cases h3 : 0 < l1.length
        · by_cases h4 : (rd_T35 l1 ((l1.length : Int) - 1)).f1 ≥ a2
          · rw [if_pos ⟨h3, h4⟩] at h
            cases h
            exact Phases_late k a0_0 a0_1 A1 c1 l1 a2 w hr1 hc1 he hl h1 h2 h3 h4
          · rw [if_neg (fun c => h4 c.2)] at h
            cases h
            exact Phases_some k a0_0 a0_1 A1 c1 l1 a2 w hr1 hc1 he hl hw h1 h2 h3 h4
        · rw [if_neg (fun c => h3 c.1)] at h
          cases h
          exact Phases_none k a0_0 a0_1 A1 c1 l1 a2 w hr1 hc1 he hl hw h1 h2 h3
  · rw [if_neg h0] at h
    cases h
    exact Phases_bad k a0_0 a0_1 A1 c1 l1 a2 _ w hr1 hc1 he h0

end Go.Proofs.Ytoncjfgklaldnaa.PX
