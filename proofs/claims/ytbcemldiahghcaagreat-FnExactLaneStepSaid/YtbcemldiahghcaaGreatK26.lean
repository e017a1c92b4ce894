/- Texts joined: Spc7, Spc8, Spc9. -/
import Derived.Test.YtbcemldiahghcaaGreatK10
import Derived.Test.YtbcemldiahghcaaGreatK07
import Derived.Test.YtbcemldiahghcaaGreatK08
import Derived.Test.YtbcemldiahghcaaGreatK25
namespace Go.Proofs.YtbcemldiahghcaaGreat
set_option linter.unusedVariables false
set_option linter.unusedSimpArgs false
set_option maxRecDepth 100000
open Go.RowKit
def copyN (s : SimD) : List (Nat × Held) := [(0, rowH tSt 49 []), (4, rowH tEv 80 []), (8, rowH tOut 128 []), (3, rowH tSt 49 s.states), (7, rowH tEv 80 s.queue), (11, rowH tOut 128 s.outs)]
end Go.Proofs.YtbcemldiahghcaaGreat

namespace Go.Proofs.YtbcemldiahghcaaGreat
set_option linter.unusedVariables false
set_option linter.unusedSimpArgs false
set_option maxRecDepth 100000
open Go.RowKit
def sortN (l : List OutD) (x : OutD) (m : Nat) : List (Nat × Held) := [(0, rowH tOut 128 []), (9, fun v w F => ∃ g, v = .slice (some ⟨g, 0, none⟩) 1 1 ∧ F g ∧ w.heap[g]? = some (.cells (OutD.cells x).toArray 128 (0, 0))), (4, rowH tOut 128 (l.take m)), (10, rowH tOut 128 (l.take m ++ [x])), (14, rowH tOut 128 (l.take m ++ [x] ++ l.drop m))]
set_option maxHeartbeats 4000000 in
theorem OutSort_c (v : Value) (xs : List OutD) (F : Nat → Prop) (w : World) (h : Rd tOut w F v xs) (hlen : xs.length ≤ 1000) :
    Calls Tryz.prog 55 #[v] w fun q w' => ∃ u, q = .returned u ∧ Ow tOut 128 w' (fun k => w.heap.size ≤ k) u (outSort xs) ∧ Below w.heap.size w w' := by
  obtain ⟨A, cp, rfl, -, -, -⟩ := id h
  go_enter Tryz.func55, Tryz.ntmps55
  go_wp2_with fail
  go_loopw [3, 4] (fun o i wr => ∃ k : Nat, i = .int .i64 k ∧ k ≤ xs.length ∧ Ow tOut 128 wr (fun q => w.heap.size ≤ q) o ((xs.take k).foldl (insAll outLess) []) ∧ Below w.heap.size w wr) (fun _ i _ => xs.length - (intOf i).toNat)
  case atStart => exact ⟨0, rfl, Nat.zero_le _, Ow.empty tOut (heap_at (by simp)) (Nat.le_refl _), balloc (Below.refl _ _) _⟩
  case round =>
    obtain ⟨k, rfl, hk, HO, hb⟩ := hrel
    by_cases hlt : k < xs.length
    · have hrd : Rd tOut wr F (.slice A xs.length cp) xs := h.below hb
      have hll := sortAll_len (lt := outLess) xs k hk
      have hin := hid (fold_snoc (β := OutD) (insAll outLess) hlt)
      obtain ⟨l, hL⟩ : ∃ l, l = (xs.take k).foldl (insAll outLess) [] := ⟨_, rfl⟩
      rw [← hL] at HO hll hin
      clear hL
      have hll' : l.length ≤ 1000 := by omega
      clear hll
      obtain ⟨A3, c3, rfl, hl3⟩ := HO.shape
      go_wp2_with fail
      obtain ⟨wo, hwo⟩ : ∃ wo, wo = wr := ⟨_, rfl⟩
      go_loopw [5] (fun j w2 => ∃ m : Nat, j = .int .i64 m ∧ m ≤ l.length ∧ Hid (place outLess l xs[k] l.length = place outLess l xs[k] m) ∧ Below wo.heap.size wo w2) (fun j _ => (intOf j).toNat)
      case atStart => subst hwo; exact ⟨l.length, rfl, Nat.le_refl _, rfl, Below.refl _ _⟩
      case round =>
        obtain ⟨m, rfl, hm, hpl, hb2⟩ := hrel
        subst hwo
        have HO2 := HO.below hb2
        have hrd2 := hrd.below hb2
        obtain ⟨b0, o0, rfl, hb0, a0, a1, a2, a3, a4⟩ := out_at hrd2 k hlt
        go_upto_region 6 with fail
        go_cut [28] (fun t wc => ∃ bt, t = .bool bt ∧ Hid (decide (0 < m ∧ outLess xs[k] (nth l (m - 1)) = true) = bt) ∧ Below wr.heap.size wr wc)
        case first =>
          by_cases q3 : m = 0
          · have hkd : decide ((m : Int) > 0) = false := by simp; omega
            have hkn : decide (0 < m) = false := by simp; omega
            have HD := hid (show decide (0 < m ∧ outLess xs[k] (nth l (m - 1)) = true) = false by simp; omega)
            clear q3
            refine region_plan (fun w' => Below wr.heap.size wr w') [(0, true), (1, true), (2, true), (3, true), (4, true), (5, true), (6, true), (7, true), (8, true), (9, true), (10, true), (11, true), (12, false), (13, true)] (by kernel_rfl) (by kernel_rfl) (fun _ _ d _ _ h => by cases d <;> exact h) ?_
            have HS := (Below.refl wr.heap.size wr).drew
            iterate 12 (first | (refine seq_take (v := ?_) (by rfl) HS (by rfl) ?_ ?_; rotate_left; (focus (intro wS hS; obtain ⟨kc, kf⟩ := bcell hS; go_simp; (try (with_reducible rfl)); done)); (intro K hK; go_simp; refine hK _ ?_; clear hK K)) | (refine seq_skip (by rfl) HS (by rfl) ?_; (intro K hK; go_simp; refine hK _ ?_; clear hK K)))
            refine seq_dont (by rfl) (by rfl) (fun K hK => ?_); go_simp; refine hK _ _ (Or.inr HS) ?_; clear hK K
            iterate 1 (first | (refine seq_take (v := ?_) (by rfl) HS (by rfl) ?_ ?_; rotate_left; (focus (intro wS hS; obtain ⟨kc, kf⟩ := bcell hS; go_simp; (try (with_reducible rfl)); done)); (intro K hK; go_simp; refine hK _ ?_; clear hK K)) | (refine seq_skip (by rfl) HS (by rfl) ?_; (intro K hK; go_simp; refine hK _ ?_; clear hK K)))
            simp only [wpSeq]
            go_wp2_with fail
            go_meet
            exact ⟨_, rfl, HD, HS⟩
          · have hk0 : 0 < m := by omega
            have hkd : decide ((m : Int) > 0) = true := by simp; omega
            have hkn : decide (0 < m) = true := by simp; omega
            obtain ⟨b2, o2, rfl, hbb2, z0, z1, z2, z3, z4⟩ := out_at HO2.rd (m - 1) (by omega)
            have hck : ((m : Int) - 1).toNat = m - 1 := by omega
            have p1 : (0 : Int) ≤ (m : Int) - 1 := by omega
            have p2 : (m : Int) - 1 < (l.length : Int) := by omega
            have p3 : (1 : Int) ≤ (m : Int) := by omega
            have p4 : 1 ≤ m := by omega
            have p5 : IntKind.i64.wrap ((m : Int) - 1) = (m : Int) - 1 := IntWalk.i64_in _ (by omega)
            obtain ⟨t, q4⟩ : ∃ t, outLess xs[k] (l[m-1]'(by omega)) = t := ⟨_, rfl⟩
            have HD := hid (show decide (0 < m ∧ outLess xs[k] (nth l (m - 1)) = true) = t by rw [nth_eq (by omega), q4]; cases t <;> simp [hk0])
            clear q3
            refine region_plan (fun w' => Below wr.heap.size wr w') [(0, true), (1, true), (2, true), (3, true), (4, true), (5, true), (6, true), (7, true), (8, true), (9, true), (10, true), (11, true), (12, false), (13, true)] (by kernel_rfl) (by kernel_rfl) (fun _ _ d _ _ h => by cases d <;> exact h) ?_
            have HS := (Below.refl wr.heap.size wr).drew
            iterate 12 (first | (refine seq_take (v := ?_) (by rfl) HS (by rfl) ?_ ?_; rotate_left; (focus (intro wS hS; obtain ⟨kc, kf⟩ := bcell hS; go_simp; (try (with_reducible rfl)); done)); (intro K hK; go_simp; refine hK _ ?_; clear hK K)) | (refine seq_skip (by rfl) HS (by rfl) ?_; (intro K hK; go_simp; refine hK _ ?_; clear hK K)))
            refine seq_do (by rfl) (by rfl) (fun K hK => ?_)
            go_simp; refine (OutLess_c xs[k] l[m-1] _).mono ?_; rintro e w1 ⟨he, hb1⟩; rw [q4] at he; subst he; have HS1 := bthen' HS hb1; refine hK _ _ (Or.inr HS1) ?_; clear hK K HS; have HS := HS1; clear HS1
            iterate 1 (first | (refine seq_take (v := ?_) (by rfl) HS (by rfl) ?_ ?_; rotate_left; (focus (intro wS hS; obtain ⟨kc, kf⟩ := bcell hS; go_simp; (try (with_reducible rfl)); done)); (intro K hK; go_simp; refine hK _ ?_; clear hK K)) | (refine seq_skip (by rfl) HS (by rfl) ?_; (intro K hK; go_simp; refine hK _ ?_; clear hK K)))
            simp only [wpSeq]
            go_wp2_with fail
            go_meet
            exact ⟨_, rfl, HD, HS⟩
        case rest =>
          obtain ⟨bt, rfl, HB, hc⟩ := hcut
          have hcw := bthen' hb2 hc
          cases bt
          case true =>
            have hgo := of_decide_eq_true HB.out
            have HP := hid (place_go (lt := outLess) hgo.1 hgo.2)
            have hm0 := hgo.1
            clear hgo HB
            go_wp2_with fail
            go_roundw
            case rel => exact ⟨m - 1, by go_num, by omega, by rw [hpl.out, HP.out]; rfl, hcw⟩
            case measure => simp [intOf]; omega
          case false =>
            have hgo := of_decide_eq_false HB.out
            have HI := hid (show insAll outLess l xs[k] = l.take m ++ [xs[k]] ++ l.drop m by rw [insAll, hpl.out, place_stop (lt := outLess) (fun h0 => by simpa [h0] using hgo), insAt]; simp)
            clear hgo HB hpl
            have HO3 := HO2.below hc
            have hrd3 := hrd2.below hc
            obtain ⟨b3, o3, hA3, hb3, d0, d1, d2, d3, d4⟩ := out_at hrd3 k hlt
            injection hA3 with hA3
            injection hA3 with e1 e2 _
            subst e1 e2
            have hbV : Below w.heap.size w wc := bthen hb hcw hb.size
            clear a0 a1 a2 a3 a4 HO2 HO hrd hrd2 hrd3 hcw hc hb2 hb hb0
            have hcap := HO3.rd.capLe
            have hmc : (m : Int) ≤ (c3 : Int) := by omega
            have hml : (m : Int) ≤ (l.length : Int) := by omega
            have hmc' : m ≤ c3 := by omega
            have HR3 := hid HO3.rd
            have hVs := hbV.size
            go_upto_region 8 with fail
            refine region_z (fun w' => Below wc.heap.size wc w') (.take 1 (.take 2 (.take 3 (.take 5 (.take 6 (.take 7 (.take 8 (.take 11 (.take 12 (.take 13 (.par [(0, []), (9, []), (4, [0]), (10, [4, 9]), (14, [10])] [] (.take 15 (.nil))))))))))))) (by kernel_rfl) (by kernel_rfl) (fun _ _ d _ _ h => by cases d <;> exact h) ?_
            have HS := (Below.refl wc.heap.size wc).drew
            iterate 10 (first | (refine z_take (v := ?_) (by rfl) HS (by rfl) ?_ ?_; rotate_left; (focus (intro wS hS; obtain ⟨kc, kf⟩ := bcell hS; go_simp; (try (with_reducible rfl)); done)); (intro K hK; go_simp; refine hK _ ?_; clear hK K)) | (refine z_skip (by rfl) HS (by rfl) ?_; (intro K hK; go_simp; refine hK _ ?_; clear hK K)))
            refine z_par [(0, some 31), (9, some 40), (4, some 35), (10, some 41), (14, some 45)] (by rfl) (fun _ => False) (NN (sortN l xs[k] m)) (fun _ _ => False) (NN_move _ ⟨rowH_moves _ _ _, (fun v w w' F ⟨g, e1, e2, e3⟩ hm => ⟨g, e1, e2, (hm g e2).trans e3⟩), rowH_moves _ _ _, rowH_moves _ _ _, rowH_moves _ _ _, trivial⟩) (fun w' hc => bthen' HS hc.below0) (by simp) (by simp) (by simp) (parS_cons (stepS_mk (by rfl) (by rfl) ?_) (parS_cons (stepS_mk (by rfl) (by rfl) ?_) (parS_cons (stepS_mk (by rfl) (by rfl) ?_) (parS_cons (stepS_mk (by rfl) (by rfl) ?_) (parS_cons (stepS_mk (by rfl) (by rfl) ?_) parS_nil))))) ?_
            · intro u wq F1 hC hN hF hD K hK
              clear hN hF hD
              simp only [putL_cons, putL_nil]
              go_simp
              refine hK _ (.slice (some ⟨wq.heap.size, 0, none⟩) 0 0) _ (fun k => k = wq.heap.size) ?_ ((Ch.refl _ _).alloc _) (Ow.empty tOut (heap_at rfl) rfl) (fun k hk => by subst hk; exact ⟨.inr (Nat.le_refl _), by simp⟩)
              rfl
            · intro u wq F1 hC hN hF hD K hK
              clear hN hF hD
              simp only [putL_cons, putL_nil]
              go_simp
              refine hK _ (.slice (some ⟨wq.heap.size, 0, none⟩) 1 1) _ (fun k => k = wq.heap.size) ?_ ((Ch.refl _ _).alloc _) ⟨_, rfl, rfl, heap_at rfl⟩ (fun k hk => by subst hk; exact ⟨.inr (Nat.le_refl _), by simp⟩)
              rfl
            · intro u wq F1 hC hN hF hD K hK
              have HO : Ow tOut 128 wq (F1 0) (u 0) [] := hN 0 (by simp)
              have hrd := (HR3.out.takeP m hm).below (bthen' HS hC.below0)
              clear hN hF hD
              refine ow_concat_wp (ys := l.take m) 26 (by rfl) Tryz.underlying26 _ 40 info_out rfl (by decide) (by decide) (by rfl) HO (by rfl) hrd (by simp; omega) (fun k => F1 0 k ∨ wq.heap.size ≤ k) (fun _ hk => .inl hk) (fun _ hk => .inr hk) ?_
              intro v1 w1 hO1 hG1 hat1
              obtain ⟨e1, e2, e3⟩ := grown_step HO hO1 hG1 hat1
              exact hK _ v1 w1 (fun k => v1.ownBlock = some k) rfl (e1.mono fun k hk => ⟨0, by simp, hk⟩) e2 (fun k hk => ⟨(e3 k hk).1.imp_left fun h => ⟨0, by simp, h⟩, (e3 k hk).2⟩)
            · intro u wq F1 hC hN hF hD K hK
              have HO : Ow tOut 128 wq (F1 4) (u 4) (l.take m) := hN 4 (by simp)
              obtain ⟨g, e9, hg, hH⟩ : ∃ g, u 9 = .slice (some ⟨g, 0, none⟩) 1 1 ∧ F1 9 g ∧ wq.heap[g]? = some (.cells (OutD.cells xs[k]).toArray 128 (0, 0)) := hN 9 (by simp)
              clear hN hF hD
              refine ow_append_wp (d := tOut) 26 (by rfl) Tryz.underlying26 _ 40 info_out rfl (by decide) (by decide) (by rfl) HO xs[k] _ (by exact e9) hH (fun _ => False) rfl (fun _ hf => hf.elim) (fun _ hf => hf.elim) (by simp; omega) (fun k => F1 4 k ∨ wq.heap.size ≤ k) (fun _ hk => .inl hk) (fun _ hf => hf.elim) (fun _ hk => .inr hk) ?_
              intro v1 w1 hO1 hG1 hat1
              obtain ⟨e1, e2, e3⟩ := grown_step HO hO1 hG1 hat1
              exact hK _ v1 w1 (fun k => v1.ownBlock = some k) rfl (e1.mono fun k hk => ⟨4, by simp, hk⟩) e2 (fun k hk => ⟨(e3 k hk).1.imp_left fun h => ⟨4, by simp, h⟩, (e3 k hk).2⟩)
            · intro u wq F1 hC hN hF hD K hK
              have HO : Ow tOut 128 wq (F1 10) (u 10) (l.take m ++ [xs[k]]) := hN 10 (by simp)
              have hrd := (HR3.out.dropO m hm).below (bthen' HS hC.below0)
              clear hN hF hD
              refine ow_concat_wp (ys := l.drop m) 26 (by rfl) Tryz.underlying26 _ 40 info_out rfl (by decide) (by decide) (by rfl) HO (by rfl) hrd (by simp; omega) (fun k => F1 10 k ∨ wq.heap.size ≤ k) (fun _ hk => .inl hk) (fun _ hk => .inr hk) ?_
              intro v1 w1 hO1 hG1 hat1
              obtain ⟨e1, e2, e3⟩ := grown_step HO hO1 hG1 hat1
              exact hK _ v1 w1 (fun k => v1.ownBlock = some k) rfl (e1.mono fun k hk => ⟨10, by simp, hk⟩) e2 (fun k hk => ⟨(e3 k hk).1.imp_left fun h => ⟨10, by simp, h⟩, (e3 k hk).2⟩)
            intro K hK u w1 F1 hC hD hF hN
            have n14 : Ow tOut 128 w1 (fun q => w.heap.size ≤ q) (u 14) (l.take m ++ [xs[k]] ++ l.drop m) := Ow.mono (fun k hk => by have := (hF 14 k (by rfl) hk).1; rcases this with h | h; exact h.elim; simp at h; omega) (hN 14 (by rfl))
            have HS1 := bthen' HS hC.below0
            clear HS hN hF hD hC F1 HR3
            have HS := HS1
            clear HS1
            have hb1 : Below w.heap.size w w1 := bthen hbV HS hbV.size
            simp only [putL_cons, putL_nil]
            go_simp
            generalize u 14 = v14 at *
            refine hK _ _ ?_
            clear hK K
            iterate 1 (first | (refine z_take (v := ?_) (by rfl) HS (by rfl) ?_ ?_; rotate_left; (focus (intro wS hS; obtain ⟨kc, kf⟩ := bcell hS; go_simp; (try (with_reducible rfl)); done)); (intro K hK; go_simp; refine hK _ ?_; clear hK K)) | (refine z_skip (by rfl) HS (by rfl) ?_; (intro K hK; go_simp; refine hK _ ?_; clear hK K)))
            simp only [wpZ]
            go_wp2_with fail
            go_roundw
            case rel => exact ⟨k + 1, by go_num, by omega, by rw [hin.out, HI.out]; exact n14, hb1⟩
            case measure => simp [intOf]; omega
    · have hkl : k = xs.length := by omega
      subst hkl
      have HF := hid (show (xs.take xs.length).foldl (insAll outLess) [] = outSort xs by rw [List.take_length]; rfl)
      rw [HF.out] at HO
      go_wp2_with fail
      go_ret
      exact ⟨_, rfl, HO, hb⟩
end Go.Proofs.YtbcemldiahghcaaGreat

namespace Go.Proofs.YtbcemldiahghcaaGreat
set_option linter.unusedVariables false
set_option linter.unusedSimpArgs false
set_option maxRecDepth 100000
open Go.RowKit
/-- What a step comes to. -/
def StepPost (apps : List AppD) (s : SimD) (w : World) (q : Ending) (w' : World) : Prop :=
  ∃ us uq uo, q = .returned (.tuple #[.agg #[us, uq, uo], .bool (simStep apps s).2]) ∧ SimOw w' (fun k => w.heap.size ≤ k) us uq uo (simStep apps s).1 ∧ Below w.heap.size w w'
end Go.Proofs.YtbcemldiahghcaaGreat
