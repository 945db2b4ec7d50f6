/- The closure of IdentAll, and the iterator over it. -/
import Derived.Test.YtoleenfipnbjkaaT24
namespace Go.Proofs.Ytoleenfipnbjkaa.Tab
open Go.RowKit Go.Maps Go.Proofs.Ytoleenfipnbjkaa.PX Go.Proofs.YtoleenfipnbjkaaW.PrintWords Go.Proofs.YtoleenfipnbjkaaW.PrintLast Go.Proofs.YtoleenfipnbjkaaW.PrintMore
set_option linter.unusedVariables false
set_option linter.unusedSimpArgs false
set_option maxHeartbeats 2000000 in
set_option maxRecDepth 100000 in
theorem cb_calls (X : Cfg) (S : Static X) (w : World) (K : Nat) (s : ByteArray) (h : CI X w (K : Int)) (hK : K < X.names.length) (hs : X.names[K]? = some s) :
    Calls Try.prog 26 #[.int .i64 (K : Int), .string s, .pointer (some ⟨X.gg, 0, none⟩), .pointer (some ⟨X.gn, 0, none⟩), .pointer (some ⟨X.g3, 0, none⟩), .pointer (some ⟨X.g7, 0, none⟩), .pointer (some ⟨X.g5, 0, none⟩), .pointer (some ⟨X.g4, 0, none⟩)] w fun e w' =>
      e = .returned (.bool (decide ((K : Int) + 1 < X.take))) ∧ CI X w' (((K + 1 : Nat)) : Int) ∧ Below X.B w w' := by
  have HS := Aside0.mk S
  have HC := Aside0.mk h
  obtain ⟨ad, hA0, hx⟩ := Kd.at_string (h.cells S).2.2.2.2.2.2.2.2.2.1 (K : Int) (by omega) (by omega)
  have hr : rdOf ByteArray.empty X.names (K : Int) = s := by
    have h1 := take_get X.names K hK
    rw [hs] at h1
    exact (Option.some.inj h1).symm
  rw [hr] at hx
  simp only [Int.toNat_natCast] at hx
  obtain ⟨e1, e2, e3, e4, e5, e6, e7, e8, _, _, _⟩ := h.cells S
  rw [hA0] at e5
  have HT := Aside0.mk (show X.names.length ≤ 60 ∧ 0 ≤ X.take ∧ X.take ≤ 255 from S.2.2.2.2.2.2.2.2.2.2.2.2.2.2)
  have HB := Aside0.mk (Below.refl X.B w)
  have HBG := Aside0.mk (show X.B ≤ X.gg ∧ X.B ≤ X.gn from ⟨S.2.2.2.1, S.2.2.2.2.1⟩)
  have p2 := HT.out.2.1
  have p3 := HT.out.2.2
  have hk1 : wrap64 ((K : Int) + 1) = (K : Int) + 1 := by have := HT.out.1; unfold wrap64; omega
  have hk2 : IntKind.i64.wrap ((K : Int) + 1) = (K : Int) + 1 := by have := HT.out.1; rw [IntKind.wrap_i64]; omega
  have d1 : decide ((K : Int) < (X.names.length : Int)) = true := decide_eq_true (by omega)
  have d2 : decide (K < X.names.length) = true := decide_eq_true hK
  have d3 := eq_true (show (K : Int) < (X.names.length : Int) from by omega)
  have d4 := eq_true hK
  obtain ⟨b, hb⟩ : ∃ b, decide ((K : Int) + 1 < X.take) = b := ⟨_, rfl⟩
  have HD := Aside0.mk hb
  have hc : ((K + 1 : Nat) : Int) = (K : Int) + 1 := by omega
  rw [hc]
  rw [hb]
  clear S h hA0 hr hs hK hc
  go_enter Try.func26, Try.ntmps26
  go_wp2_with (first
    | ((with_reducible refine gate_store (t := 4) (p := 2) rfl ?_); go_must (refine store_event (t := 4) (p := 2) (v := ?vo_w1) (w1 := (w.setCell ⟨X.gg, 0, none⟩ (.bool true))) ?hg ?ho ?hn ?hr ?_; (case ho => rfl); (case hg => rfl); (case hn => rfl); (case hr => first | (go_simp; done) | (go_simp; rfl)); intro w1 hw; have HC1 := Aside0.mk (show CI X w1 (K : Int) from by rw [hw]; exact HC.out.setG HS.out); have HB1 := Aside0.mk (show Below X.B w w1 from by rw [hw]; exact HB.out.setCell HBG.out.1 _); clear hw e1 e2 e3 e4 e5 e6 e7 e8 hx HC HB; have HC := HC1; have HB := HB1; clear HC1 HB1; obtain ⟨e1, e2, e3, e4, e5, e6, e7, e8, _, _, _⟩ := HC.out.cells HS.out))
    | ((with_reducible refine gate_store (t := 3) (p := 3) rfl ?_); go_must (refine store_event (t := 3) (p := 3) (v := ?vo_w2) (w1 := (w1.setCell ⟨X.gn, 0, none⟩ (.int .i64 ((K : Int) + 1)))) ?hg ?ho ?hn ?hr ?_; (case ho => rfl); (case hg => rfl); (case hn => rfl); (case hr => first | (go_simp; done) | (go_simp; rfl)); intro w2 hw; have HC1 := Aside0.mk (show CI X w2 ((K : Int) + 1) from by rw [hw]; exact HC.out.setN HS.out _); have HB1 := Aside0.mk (show Below X.B w w2 from by rw [hw]; exact HB.out.setCell HBG.out.2 _); clear hw e1 e2 e3 e4 e5 e6 e7 e8 HC HB; have HC := HC1; have HB := HB1; clear HC1 HB1; obtain ⟨e1, e2, e3, e4, e5, e6, e7, e8, _, _, _⟩ := HC.out.cells HS.out))
    | (go_at_call 17; go_must (refine (HC.out.add HS.out).mono ?_; rintro e w3 ⟨⟨y1, y2, rfl⟩, hci, hb3⟩; have HC1 := Aside0.mk hci; have HB1 := Aside0.mk (HB.out.trans hb3); clear e1 e2 e3 e4 e5 e6 e7 e8 HC HB hci hb3; have HC := HC1; have HB := HB1; clear HC1 HB1; obtain ⟨e1, e2, e3, e4, e5, e6, e7, e8, _, _, _⟩ := HC.out.cells HS.out)))
  go_ret
  exact ⟨rfl, HC.out, HB.out⟩
end Go.Proofs.Ytoleenfipnbjkaa.Tab
