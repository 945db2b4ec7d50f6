/- An append leaves what the old slice reads as it is; Add of a new name with it. -/
import Derived.Test.YtoleenfipnbjkaaT17
namespace Go.Proofs.Ytoleenfipnbjkaa.Tab
open Go.RowKit Go.Maps Go.Proofs.Ytoleenfipnbjkaa.PX Go.Proofs.YtoleenfipnbjkaaW.PrintWords Go.Proofs.YtoleenfipnbjkaaW.PrintLast Go.Proofs.YtoleenfipnbjkaaW.PrintMore
set_option linter.unusedVariables false
set_option linter.unusedSimpArgs false
theorem cell_old {w w' : World} {g j : Nat} {cur cur' : Array Value} {e : TypeId} (h : w.heap[g]? = some (.cells cur e (0, 0))) (h' : w'.heap[g]? = some (.cells cur' e (0, 0))) (hc : cur'[j]? = cur[j]?) : w'.cell? ⟨g, j, none⟩ = w.cell? ⟨g, j, none⟩ := by
  rw [cell_of_row w g j cur e (0, 0) h, cell_of_row w' g j cur' e (0, 0) h', hc]
/-- What an append of one string does besides: the row stays or is new, and the old slice reads what it read. -/
theorem append_more {P : Program} {w : World} (base : Nat) (t ty e : TypeId) (i : TypeInfo) (z : Value) (bytes : Nat) (ht : P.underlying t = some (.slice e)) (hi : P.info? e = some i) (hz : i.zero = some z)
    (hsize : i.size = 1) (hby : i.bytes = bytes) (hzs : z.cells.size = 1)
    (v : Value) (n : Nat) (xs : List Value) (hown : w.ownsRow base e 1 v n xs)
    (a : Addr) (c : Nat) (u : Value) (hnews : ∀ j x, ([u] : List Value)[j]? = some x → w.cell? (a.add j) = some x) (h1 : u.oneCell' = true)
    (h63 : n + 1 ≤ maxLen) (hbytes : (n + 1) * bytes ≤ 140737488355328) (hbase : base ≤ w.heap.size) :
    ∃ v' w', (Builtin.append_ #[t, t] ty #[v, .slice (some a) 1 c]).run P w = .ok v' w' ∧ w'.ownsRow base e 1 v' (n + 1) (xs ++ [u]) ∧ w.grownBy w' v.ownBlock ∧
      (v'.ownBlock = v.ownBlock ∨ ∃ b, v'.ownBlock = some b ∧ w.heap.size ≤ b) ∧ ∀ A c, v = .slice A n c → SameCells A n w w' := by
  obtain ⟨v', w', hr, ho, hg, _⟩ := run_append_own (P := P) w base t ty e i z 1 bytes ht hi hz hsize hby hzs (by omega) v n xs hown a 1 c [u] (by simp) hnews (by simpa using h1) h63 hbytes hbase
  refine ⟨v', w', hr, ho, hg, ?_⟩
  have hsm : n + 1 ≤ 9223372036854775807 := by simp only [maxLen] at h63; omega
  have hl1 : ([u] : List Value).length = 1 * i.size := by rw [hsize]; rfl
  rcases hown.2 with ⟨rfl, rfl⟩ | ⟨g, cap, cur, rfl, hbg, hgg, hnc, hcm, hcs, htake⟩
  · have hr2 := run_append_nil (P := P) w t ty e i z ht hi hz a 1 c [u] hl1 hnews (by omega) (by omega) (by rw [hby]; omega)
    rw [hr] at hr2
    injection hr2 with hv hw
    subst hv
    refine ⟨.inr ⟨w.heap.size, rfl, Nat.le_refl _⟩, fun A c h => ?_⟩
    intro ad hA j hj
    omega
  · have hlen : xs.length = n * i.size := by rw [hsize]; exact hown.1
    by_cases hroom : n + 1 ≤ cap
    · have hfit : n * i.size + ([u] : List Value).length ≤ cur.size := by rw [hcs, hsize]; simp; omega
      have hr2 := run_append_room (P := P) w t ty e i ht hi g n cap cur hgg a 1 c [u] hl1 hnews (by simpa using h1) hroom hfit
      rw [hr] at hr2
      injection hr2 with hv hw
      subst hv
      subst hw
      refine ⟨.inl rfl, fun A c h => ?_⟩
      injection h with hA
      subst hA
      intro ad he j hj x hx
      injection he with he
      subst he
      rw [add_plain] at hx ⊢
      rw [cell_old hgg (setRow_heap w g cur _ e _ hgg) ?_]
      · exact hx
      · rw [hsize, Nat.mul_one]
        rw [List.getElem?_toArray, List.getElem?_append_left (by simp; omega), List.getElem?_append_left (by simp; omega), List.getElem?_take_of_lt hj]
        simp
    · have holds : ∀ j u, xs[j]? = some u → w.cell? ((⟨g, 0, none⟩ : Addr).add j) = some u := hown.cells (g := g) rfl
      have hr2 := run_append_grow (P := P) w t ty e i z ht hi hz ⟨g, 0, none⟩ n cap xs hlen holds a 1 c [u] hl1 hnews (by omega) (by omega) (growslice_fits (by omega) (by rw [hby]; exact hbytes))
      rw [hr] at hr2
      injection hr2 with hv hw
      subst hv
      subst hw
      refine ⟨.inr ⟨w.heap.size, rfl, Nat.le_refl _⟩, fun A c h => ?_⟩
      refine SameCells.of_block (fun ad he hlt => ?_)
      exact heap_alloc_old w.drew _ (by simpa using hlt)
section
variable {ops : Array Oper} {rest : List Oper} {o : Oper} {a : Act} {Q : Exit → Act → World → Prop}
/-- append(v, x) of a string, behind 'at_builtin'. -/
theorem R_append_same {w0 W : World} (base : Nat) (hgd : o.guard = none) (s x : Operand)
    (ho : o.op = .call { callee := .builtin .append, args := #[s, x], argTypes := #[24, 24] })
    (v : Value) (xs : List ByteArray) (p : ByteArray) (ok : Nat → Prop) (hs : a.eval s = v) (hx : a.eval x = .slice (some ⟨W.heap.size, 0, none⟩) 1 1) (hfresh : ∀ k, W.heap.size ≤ k → ok k)
    (HO : Kd.string.R 9 W base ok v xs) (HB : Below base w0 W) (hbase : base ≤ W.heap.size) (hl : (xs.length + 1) * 16 ≤ 140737488355328)
    (h : ∀ v1 w1, Kd.string.R 9 w1 base ok v1 (xs ++ [p]) → Below base w0 w1 → W.grownBy w1 v.ownBlock → (v1.ownBlock = v.ownBlock ∨ ∃ b, v1.ownBlock = some b ∧ W.heap.size ≤ b) → (∀ A c, v = .slice A xs.length c → SameCells A xs.length W w1) → wpList Try.prog ops Q rest (a.put o.dst v1) w1) :
    wpList Try.prog ops Q (o :: rest) a (W.alloc (.cells [Value.string p].toArray 9)) := by
  obtain ⟨h0, inner, hown, hr⟩ := HO
  obtain ⟨i0, hi, hzz⟩ := Option.map_eq_some_iff.1 infoS
  simp only [Prod.mk.injEq] at hzz
  obtain ⟨hz0, hz1, hz2⟩ := hzz
  obtain ⟨v1, w1, hrun, hown1, hg1, hat1, hsame⟩ := append_more (P := Try.prog) (w := W.alloc (.cells [Value.string p].toArray 9)) base 24 o.type 9 i0 (.string E0) 16 Try.underlying24 hi hz0 hz1 hz2 rfl v xs.length inner (hown.alloc _) ⟨W.heap.size, 0, none⟩ 1 (.string p)
    (by simpa using World.news_of_block (cs := [Value.string p].toArray) (t := 9) (fr := (0, 0)) (heap_alloc_new W (.cells [Value.string p].toArray 9))) rfl (by simp only [maxLen]; omega) hl (by simp; omega)
  have hgW : W.grownBy w1 v.ownBlock := World.grownBy.trans (World.grownBy_alloc W _ _) hg1
  have hbW : Below base w0 w1 := (HB.alloc hbase _).grown hg1 (by simp; omega) (own_base hown)
  have hatW : v1.ownBlock = v.ownBlock ∨ ∃ b, v1.ownBlock = some b ∧ W.heap.size ≤ b := by
    rcases hat1 with hat | ⟨b, hb, hle⟩
    · exact .inl hat
    · exact .inr ⟨b, hb, by simp at hle; omega⟩
  refine Kd.event_run hgd ?_ (h v1 w1 (Kd.R_appended (d := Kd.string) (okp := fun _ => False) (p := p) (cs := [.string p]) h0 hr (show Kd.string.M W base (fun _ => False) p [.string p] from rfl) (fun _ hk => hk.elim) hfresh hown1 hgW hatW) hbW hgW hatW (fun A c hv => ?_))
  · unfold execOp
    simp only [ho, resolve, invoke, builtin, Sem.run_bind, Sem.run_pure, Result.andThen_ok, List.map_toArray, List.map_cons, List.map_nil, hs, hx, hrun]
  · intro ad he j hj u hu
    refine hsame A c hv ad he j hj u ?_
    have hlt := World.block_lt_of_cell? W _ hu
    rw [World.cell?_of_block (heap_alloc_old W _ hlt)]
    exact hu
end
theorem SameCells.trans {A : Option Addr} {n : Nat} {w w1 w2 : World} (h : SameCells A n w w1) (h' : SameCells A n w1 w2) : SameCells A n w w2 := fun ad he j hj u hu => h' ad he j hj u (h ad he j hj u hu)
theorem SameCells.below {A : Option Addr} {n : Nat} {w w1 : World} (h : Below w.heap.size w w1) : SameCells A n w w1 := SameCells.of_block (fun ad _ hlt => h.block _ hlt)
end Go.Proofs.Ytoleenfipnbjkaa.Tab
