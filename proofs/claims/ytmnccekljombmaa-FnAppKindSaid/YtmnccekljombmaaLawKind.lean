/- FnAppKind: what is done for an event hangs on the rule of its kind alone. -/
import Derived.Test.YtmnccekljombmaaAppI
import Derived.Test.YtmnccekljombmaaLt2
import Derived.Test.YtmnccekljombmaaRow
import Derived.Test.YtmnccekljombmaaPure2
import Derived.Test.YtmnccekljombmaaReg2
import Derived.Test.YtmnccekljombmaaDraw3
import Derived.Deep.DeepCutAuto
set_option linter.unusedVariables false
set_option linter.unusedSimpArgs false
set_option maxRecDepth 100000
namespace Go.Proofs.Ytmnccekljombmaa
open Go.RowKit
/-- A rule as it lies in cells: its kind and the slice of its ops, unread. -/
structure RawD where
  k : Int
  a : Option Addr
  n : Nat
  c : Nat
  deriving Inhabited
def RawD.cells (r : RawD) : List Value := [.int .i64 r.k, .slice r.a r.n r.c]
def tRaw : Ty RawD := flat RawD.cells 2 (fun _ => rfl) (fun _ u hu => by simp [RawD.cells] at hu; rcases hu with rfl | rfl <;> rfl)
def RawOk (W : World) (rs : List RawD) (l : List RuleD) : Prop :=
  rs.length = l.length ∧ ∀ (j : Nat) (x : RuleD), l[j]? = some x → ∃ r : RawD, rs[j]? = some r ∧ r.k = x.kind ∧ r.n = x.ops.length ∧ Rd tOp W (fun q => q < W.heap.size) (.slice r.a r.n r.c) x.ops
theorem RawOk.snoc {W : World} {rs : List RawD} {l : List RuleD} (h : RawOk W rs l) (r : RawD) (x : RuleD) (h1 : r.k = x.kind) (h2 : r.n = x.ops.length) (h3 : Rd tOp W (fun q => q < W.heap.size) (.slice r.a r.n r.c) x.ops) : RawOk W (rs ++ [r]) (l ++ [x]) := by
  refine ⟨by simp [h.1], fun j y hj => ?_⟩
  rw [List.getElem?_append] at hj
  split at hj
  · rename_i hlt
    obtain ⟨r', k1, k2⟩ := h.2 j y hj
    exact ⟨r', by rw [List.getElem?_append_left (by have := h.1; omega)]; exact k1, k2⟩
  · rename_i hge
    have hj2 : j = l.length := by
      have := (List.getElem?_eq_some_iff.1 hj).1; simp at this; omega
    subst hj2
    have hxy : x = y := by simpa using hj
    subst hxy
    exact ⟨r, by rw [List.getElem?_append_right (by have := h.1; omega)]; simp [h.1], h1, h2, h3⟩
theorem Rd.of_raw {W w' : World} {F : Nat → Prop} {v : Value} {rs : List RawD} {l : List RuleD} (h : Rd tRaw w' F v rs) (hk : RawOk W rs l) (hB : Below W.heap.size W w') : Rd tRule w' (fun _ => True) v l := by
  obtain ⟨A, c, rfl, h1, h2, h3⟩ := h
  rw [hk.1] at h1 h2 ⊢
  refine ⟨A, c, rfl, h1, h2, fun hp => ?_⟩
  obtain ⟨b, o, rfl, hF, hlt, hc⟩ := h3 (by rw [hk.1]; exact hp)
  refine ⟨b, o, rfl, trivial, hlt, fun j x hj => ?_⟩
  obtain ⟨r, k1, k2, k3, k4⟩ := hk.2 j x hj
  obtain ⟨cs, hr, hu⟩ := hc j r k1
  have hr' : cs = RawD.cells r := hr
  subst hr'
  exact ⟨_, ⟨.slice r.a r.n r.c, by rw [← k2]; rfl, ((k4.below hB)).mono (fun _ _ => trivial)⟩, hu⟩
set_option maxHeartbeats 8000000 in
theorem FnAppKind_any (A : Option Addr) (c : Nat) (bs : List Int) (w : World) (h : Rd (tInt .u8) w (fun k => k < w.heap.size) (.slice A bs.length c) bs) (hb : ∀ x ∈ bs, 0 ≤ x ∧ x ≤ 255) :
    Calls Try.prog 3 #[.slice A bs.length c] w fun e w' => e = .returned (.bool true) ∧ Below w.heap.size w w' := by
  by_cases hl : 1048576 < bs.length
  · have hd : decide ((1048576 : Int) < (bs.length : Int)) = true := decide_eq_true (by omega)
    go_enter Try.func3, Try.ntmps3
    go_wp2_with fail
    go_ret
    exact ⟨rfl, Below.refl _ _⟩
  · have hd : decide ((1048576 : Int) < (bs.length : Int)) = false := decide_eq_false (by omega)
    go_enter Try.func3, Try.ntmps3
    go_wp2_with fail
    refine (DrawAppRun_c A c bs _ h hb).mono ?_
    rintro q w1 ⟨v, a, s, e, rfl, hR, hr4, hc12, hB⟩
    obtain ⟨A1, c1, rfl, -⟩ := id hR
    unfold stAgg evAgg
    have HG := appRun_good a s e
    obtain ⟨⟨t, sd, ou⟩, hf⟩ : ∃ r, appRun a s e = r := ⟨_, rfl⟩
    rw [hf] at HG
    simp only at HG
    have HG := hid HG
    have HF := hid hf; clear hf
    clear hl hd h hb
    apply_assumption
    go_wp2_with fail
    refine (specAppRun_c _ a s e _ _ (hR.below (by repeat (first | exact Below.refl _ _ | refine balloc ?_ _)))).mono ?_
    rintro q w2 ⟨sv, ov, hq, hS, hO, hB2⟩
    rw [HF.out] at hq hS hO
    subst hq
    have Z3 : w2.heap[w1.heap.size]? = some (.cells #[.slice A1 a.rules.length c1] 25 (0, 0)) := (hB2.block _ (by simp only [World.size_alloc]; omega)).trans ((heap_old (by simp only [World.size_alloc]; omega)).trans ((heap_old (by simp only [World.size_alloc]; omega)).trans (heap_at rfl)))
    have Z4 : w2.heap[w1.heap.size + 1]? = some (.cells #[.int .i64 s.x, .int .i64 s.y, .int .i64 s.c] 27 (0, 0)) := (hB2.block _ (by simp only [World.size_alloc]; omega)).trans ((heap_old (by simp only [World.size_alloc]; omega)).trans (heap_at (by simp only [World.size_alloc])))
    have Z5 : w2.heap[w1.heap.size + 1 + 1]? = some (.cells #[.int .i64 e.time, .int .i64 e.to, .int .i64 e.from_, .int .i64 e.count, .int .i64 e.n, .int .i64 e.kind, .int .i64 e.arg] 29 (0, 0)) := (hB2.block _ (by simp only [World.size_alloc]; omega)).trans (heap_at (by simp only [World.size_alloc]))
    have hBa : Below w1.heap.size w1 w2 := bthen' (by repeat (first | exact Below.refl _ _ | refine balloc ?_ _)) hB2
    have hz2 := blk_lt Z5
    have hR2 := hR.below hBa
    obtain ⟨As, cs, rfl, -⟩ := hS.shape
    obtain ⟨Ao, co, rfl, -⟩ := hO.shape
    simp only at hS hO ⊢
    clear hB2 hR
    have hzA := blk_cell Z3 0
    simp at hzA
    obtain ⟨y0, y1, y2, -⟩ := cells3 Z4
    obtain ⟨⟨b0, b1, b2, b3, b4, b5, b6⟩, -⟩ := cells7 Z5
    have n3 : ¬ w1.heap.size = w2.heap.size := by omega
    have n4 : ¬ w1.heap.size + 1 = w2.heap.size := by omega
    have n5 : ¬ w1.heap.size + 1 + 1 = w2.heap.size := by omega
    have z3 : w1.heap.size < w2.heap.size := by omega
    have z4 : w1.heap.size + 1 < w2.heap.size := by omega
    apply_assumption
    by_cases ht0 : t = st0
    · subst ht0
      unfold st0 at *
      go_wp2_with fail
      refine (AppRun_c _ a s e _ _ (hR2.below (by repeat (first | exact Below.refl _ _ | refine balloc ?_ _)))).mono ?_
      rintro q w3 ⟨sv2, ov2, hq, hS2, hO2, hB3⟩
      rw [HF.out] at hq hS2 hO2
      subst hq
      obtain ⟨As2, cs2, rfl, -⟩ := hS2.shape
      obtain ⟨Ao2, co2, rfl, -⟩ := hO2.shape
      simp only at hS2 hO2 ⊢
      have Z3b := (hB3.block _ (by simp only [World.size_alloc]; omega)).trans ((heap_old z3).trans Z3)
      have Z4b := (hB3.block _ (by simp only [World.size_alloc]; omega)).trans ((heap_old z4).trans Z4)
      have Z5b := (hB3.block _ (by simp only [World.size_alloc]; omega)).trans ((heap_old hz2).trans Z5)
      have Z6 : w3.heap[w2.heap.size]? = some (.cells #[.int .i64 0, .int .i64 0, .int .i64 0] 27 (0, 0)) := (hB3.block _ (by simp only [World.size_alloc]; omega)).trans (heap_at rfl)
      have hBb : Below w2.heap.size w2 w3 := bthen' (by repeat (first | exact Below.refl _ _ | refine balloc ?_ _)) hB3
      have hz3 := blk_lt Z6
      have hSb := hS.below hBb
      have hOb := hO.below hBb
      have hR3 := hR2.below hBb
      clear hB3 hS hO hzA y0 y1 y2 b0 b1 b2 b3 b4 b5 b6 n3 n4 n5
      have hzA := blk_cell Z3b 0
      simp at hzA
      obtain ⟨y0, y1, y2, -⟩ := cells3 Z4b
      obtain ⟨⟨b0, b1, b2, b3, b4, b5, b6⟩, -⟩ := cells7 Z5b
      obtain ⟨x0, x1, x2, -⟩ := cells3 Z6
      have m2 : ¬ w1.heap.size = w3.heap.size := by omega
      have m3 : ¬ w1.heap.size + 1 = w3.heap.size := by omega
      have m4 : ¬ w1.heap.size + 1 + 1 = w3.heap.size := by omega
      have m5 : ¬ w2.heap.size = w3.heap.size := by omega
      have k2 : w1.heap.size < w3.heap.size := by omega
      have k3 : w1.heap.size + 1 < w3.heap.size := by omega
      have k4 : w1.heap.size + 1 + 1 < w3.heap.size := by omega
      apply_assumption
      go_wp2_with fail
      go_ret
      exact ⟨rfl, balloc (bthen' (bthen' hB hBa) hBb) _⟩
    · have hne : (t.x == 0 && (t.y == 0 && t.c == 0)) = false := by
        obtain ⟨tx, ty, tc⟩ := t
        simp [st0] at ht0 ⊢
        intro h1 h2; exact ht0 h1 h2
      have HK := hid (appRun_kindOnly a s e (by rw [HF.out]; exact ht0))
      clear ht0
      go_upto_region 5 with fail
      go_cut [36] (fun c wc => c = .bool false ∧ wc = (w2.alloc (.cells #[.int .i64 t.x, .int .i64 t.y, .int .i64 t.c] 27 (0, 0))))
      case first =>
        go_wp2_with fail
        all_goals (go_meet; first | exact ⟨rfl, rfl⟩ | (refine ⟨rfl, ?_⟩; simp [*]; done) | (exfalso; revert hne; simp [*]; done))
      case rest =>
        obtain ⟨rfl, rfl⟩ := hcut
        clear hne
        go_wp2_with fail
        have hBa2 : Below w2.heap.size w2 (w2.alloc (.cells #[.int .i64 t.x, .int .i64 t.y, .int .i64 t.c] 27 (0, 0))) := balloc (Below.refl _ _) _
        have Z3c := (heap_old (o := .cells #[.int .i64 t.x, .int .i64 t.y, .int .i64 t.c] 27 (0, 0)) z3).trans Z3
        have Z5c := (heap_old (o := .cells #[.int .i64 t.x, .int .i64 t.y, .int .i64 t.c] 27 (0, 0)) hz2).trans Z5
        have Z4c := (heap_old (o := .cells #[.int .i64 t.x, .int .i64 t.y, .int .i64 t.c] 27 (0, 0)) z4).trans Z4
        have Z6c : (w2.alloc (.cells #[.int .i64 t.x, .int .i64 t.y, .int .i64 t.c] 27 (0, 0))).heap[w2.heap.size]? = some (.cells #[.int .i64 t.x, .int .i64 t.y, .int .i64 t.c] 27 (0, 0)) := heap_at rfl
        have hRb := hR2.bound
        clear hzA y0 y1 y2 b0 b1 b2 b3 b4 b5 b6
        generalize hWW : (w2.alloc (.cells #[.int .i64 t.x, .int .i64 t.y, .int .i64 t.c] 27 (0, 0))) = W at *
        have hzW : W.heap.size = w2.heap.size + 1 := by rw [← hWW]; simp
        have hzW1 : w2.heap.size < W.heap.size := by omega
        have HZW := hid hzW
        clear hWW hzW
        go_loopw [13] (fun i wr => ∃ (k : Nat) (raws : List RawD) (v12 : Value), i = .int .i64 k ∧ k ≤ a.rules.length ∧ wr.heap[w2.heap.size + 1]? = some (.cells #[v12] 25 (0, 0)) ∧ Ow tRaw 38 wr (fun q => w2.heap.size + 1 < q) v12 raws ∧ Hid (RawOk w2 raws ((a.rules.take k).filter (fun q => decide (q.kind = e.kind)))) ∧ Ch (fun _ => False) W wr) (fun i _ => a.rules.length - (intOf i).toNat)
        case atStart => exact ⟨0, [], _, rfl, Nat.zero_le _, heap_at (by rw [HZW.out]), Ow.nil _ _ _ _, hid ⟨rfl, fun j x hj => by simp at hj⟩, (Ch.refl _ _).alloc _⟩
        case round =>
          obtain ⟨k, raws, v12, rfl, hk, hb12, hO12, hRaw, hC⟩ := hrel
          obtain ⟨wo, rfl⟩ : ∃ x, x = wr := ⟨_, rfl⟩
          have hB2o : Below w2.heap.size w2 wo := bthen' hBa2 (hC.below0)
          have Z3d := hC.heap Z3c (fun hf => hf)
          have Z5d := hC.heap Z5c (fun hf => hf)
          have e0 := blk_cell Z3d 0
          have e5 := blk_cell Z5d 5
          have i0 := blk_cell hb12 0
          have if0 := blk_frozen hb12 0
          simp at e0 e5 i0
          have p3 := blk_lt Z3d
          have p12 := blk_lt hb12
          by_cases hkl : k < a.rules.length
          · obtain ⟨b', o', A2, c2, rfl, hbl, k0', k1', hop⟩ := rule_at hRb k hkl
            have k0 := (hB2o.cell (p := ⟨b', o' + k * 2, none⟩) hbl).trans k0'
            have k1 := (hB2o.cell (p := ⟨b', o' + k * 2 + 1, none⟩) hbl).trans k1'
            have hblo : b' < wo.heap.size := by have := hB2o.size; omega
            clear k0' k1'
            have g5 : (k : Int) < a.rules.length := by omega
            have htk : a.rules.take (k + 1) = a.rules.take k ++ [a.rules[k]] := List.take_succ_eq_append_getElem hkl
            have hlen : raws.length ≤ 4 := by
              have h1 := hRaw.out.1
              have h2 := List.length_filter_le (fun q : RuleD => decide (q.kind = e.kind)) (a.rules.take k)
              have h3 : (a.rules.take k).length ≤ a.rules.length := by simp; omega
              omega
            by_cases hke : a.rules[k].kind = e.kind
            · have hkb : (a.rules[k].kind == e.kind) = true := by simp [hke]
              have HT := hid (show (a.rules.take (k + 1)).filter (fun q => decide (q.kind = e.kind)) = (a.rules.take k).filter (fun q => decide (q.kind = e.kind)) ++ [a.rules[k]] by rw [htk, List.filter_append]; simp [hke])
              clear htk hke
              obtain ⟨A12, c12', rfl, -⟩ := hO12.shape
              have m12 : ¬ w2.heap.size + 1 < b' := by omega
              have m3' : ¬ w2.heap.size + 1 < w1.heap.size := by omega
              go_wp2_with fail
              go_quiet (fail)
              go_wp2_with fail
              refine region_plan (fun w' => Ch (fun q => w2.heap.size + 1 < q) wo w') [(0, true), (1, true), (2, true), (3, true), (4, true), (5, true), (6, true), (7, false), (8, false), (9, true), (10, false)] (by kernel_rfl) (by kernel_rfl) (fun _ _ d _ _ h => by cases d <;> exact h) ?_
              have HS := ((Ch.refl (fun q => w2.heap.size + 1 < q) wo).drewN nq).drew
              iterate 7 (first | (refine seq_take (v := ?_) (by rfl) HS (by rfl) ?_ ?_; rotate_left; (focus (intro wS hS; obtain ⟨kc, kf⟩ := hS.cells; go_simp; (try (with_reducible rfl)); done)); (intro K hK; go_simp; refine hK _ ?_; clear hK K)) | (refine seq_skip (by rfl) HS (by rfl) ?_; (intro K hK; go_simp; refine hK _ ?_; clear hK K)))
              refine seq_do (by rfl) (by rfl) (fun K hK => ?_)
              go_simp
              refine hK _ _ (Or.inr (HS.alloc _)) ?_; clear hK K
              have HS := HS.alloc (.cells #[.int .i64 a.rules[k].kind, .slice A2 a.rules[k].ops.length c2] 38)
              have hO12b := ((hO12.drewN nq).drewN 1).alloc (.cells #[.int .i64 a.rules[k].kind, .slice A2 a.rules[k].ops.length c2] 38)
              refine seq_do (by rfl) (by rfl) (fun K hK => ?_)
              refine ow_append_wp (d := tRaw) 23 rfl Try.underlying23 _ 32 info_rule rfl (by decide) (by decide) rfl hO12b ⟨a.rules[k].kind, A2, a.rules[k].ops.length, c2⟩ _ rfl (heap_at rfl) (fun _ => False) rfl (fun _ hf => hf.elim) (fun _ hf => hf.elim) (by omega) (fun q => w2.heap.size + 1 < q) (fun _ hk => hk) (fun _ hf => hf.elim) (fun q hq => by have h3 := HS.size; simp at hq h3; omega) ?_
              intro v11 w11 hO11 hG11 hat11
              have HS := HS.grown hG11 (fun q hq => Or.inl (hO12b.inF hq))
              obtain ⟨A11, c11, hv11, hl11⟩ := hO11.shape
              obtain rfl : v11 = .slice A11 (raws.length + 1) c11 := by simpa using hv11
              clear hv11 hat11
              refine hK _ _ (Or.inr HS) ?_; clear hK K
              iterate 1 (first | (refine seq_take (v := ?_) (by rfl) HS (by rfl) ?_ ?_; rotate_left; (focus (intro wS hS; obtain ⟨kc, kf⟩ := hS.cells; go_simp; (try (with_reducible rfl)); done)); (intro K hK; go_simp; refine hK _ ?_; clear hK K)) | (refine seq_skip (by rfl) HS (by rfl) ?_; (intro K hK; go_simp; refine hK _ ?_; clear hK K)))
              refine seq_do (by rfl) (by rfl) (fun K hK => ?_)
              have hbk11 := HS.heap hb12 (fun hq => by have h1 : w2.heap.size + 1 < w2.heap.size + 1 := hq; omega)
              have hcE := blk_cell hbk11 0
              have hfE := blk_frozen hbk11 0
              simp at hcE
              go_simp
              refine hK _ _ (Or.inl (by kernel_rfl)) ?_; clear hK K
              simp only [wpSeq]
              go_wp2_with fail
              have hb11 := blk_set hbk11 0 (.slice A11 (raws.length + 1) c11)
              have hCe := Ch.setCell (S := fun _ => False) (p := ⟨w2.heap.size + 1, 0, none⟩) (hC.then HS (fun q hq => Or.inr (by have h1 : w2.heap.size + 1 < q := hq; rw [HZW.out]; omega))) (Or.inr (by simp only [HZW.out]; omega)) (.slice A11 (raws.length + 1) c11)
              have hOe := hO11.keep (w' := w11.setCell ⟨w2.heap.size + 1, 0, none⟩ (.slice A11 (raws.length + 1) c11)) (fun q hq _ => Below.heap_setCell _ _ _ _ (fun e' => by have e1 : q = w2.heap.size + 1 := e'; have e2 : w2.heap.size + 1 < q := hq; omega))
              have hRe := hid (show RawOk w2 (raws ++ [⟨a.rules[k].kind, A2, a.rules[k].ops.length, c2⟩]) ((a.rules.take (k + 1)).filter (fun q => decide (q.kind = e.kind))) by rw [HT.out]; exact hRaw.out.snoc _ _ rfl rfl (hop.mono (fun q hq => hq.2)))
              go_roundw
              case rel => exact ⟨k + 1, _, _, by go_num, by omega, hb11, hOe, hRe, hCe⟩
              case measure => simp [intOf]; omega
            · have hkb : (a.rules[k].kind == e.kind) = false := by simp [hke]
              have HT := hid (show (a.rules.take (k + 1)).filter (fun q => decide (q.kind = e.kind)) = (a.rules.take k).filter (fun q => decide (q.kind = e.kind)) by rw [htk, List.filter_append]; simp [hke])
              clear htk hke
              go_wp2_with fail
              go_quiet (fail)
              go_wp2_with fail
              go_roundw
              case rel => exact ⟨k + 1, raws, _, by go_num, by omega, hb12, hO12.drewN _, hid (by rw [HT.out]; exact hRaw.out), hC.drewN _⟩
              case measure => simp [intOf]; omega
          · have hkk : a.rules.take k = a.rules := List.take_of_length_le (by omega)
            have hRaw2 := hRaw.out
            rw [hkk] at hRaw2
            clear hkk hRaw
            obtain ⟨A12, c12', rfl, -⟩ := hO12.shape
            have hRk : Rd tRule wo (fun _ => True) (.slice A12 raws.length c12') (kindOnly a e.kind).rules := Rd.of_raw hO12.rd hRaw2 hB2o
            have HK2 := hid (HK.out.trans HF.out)
            have Z4d := hC.heap Z4c (fun hf => hf)
            have Z6d := hC.heap Z6c (fun hf => hf)
            have hSb := hS.below hB2o
            have hOb := hO.below hB2o
            clear hRaw2
            obtain ⟨y0, y1, y2, -⟩ := cells3 Z4d
            obtain ⟨⟨b0, b1, b2, b3, b4, b5, b6⟩, -⟩ := cells7 Z5d
            go_wp2_with fail
            refine (AppRun_c _ (kindOnly a e.kind) s e _ _ hRk).mono ?_
            rintro q w3 ⟨sv2, ov2, hq, hS2, hO2, hBb⟩
            rw [HK2.out] at hq hS2 hO2
            subst hq
            obtain ⟨As2, cs2, rfl, -⟩ := hS2.shape
            obtain ⟨Ao2, co2, rfl, -⟩ := hO2.shape
            simp only at hS2 hO2 ⊢
            have Z6e := (hBb.block _ (blk_lt Z6d)).trans Z6d
            have hSc := hSb.below hBb
            have hOc := hOb.below hBb
            have m5 := blk_lt Z6e
            have m6 : ¬ w2.heap.size = w3.heap.size := by omega
            obtain ⟨x0, x1, x2, -⟩ := cells3 Z6e
            have hBall : Below w.heap.size w w3 := bthen' (bthen' (bthen' hB hBa) hB2o) hBb
            clear y0 y1 y2 b0 b1 b2 b3 b4 b5 b6
            apply_assumption
            go_wp2_with fail
            refine (ltEvents_c _ _ sd sd (fun _ => True) _ (((hS2.rd).below (balloc (Below.refl _ _) _)).mono (fun _ _ => trivial)) (((hSc.rd).below (balloc (Below.refl _ _) _)).mono (fun _ _ => trivial))).mono ?_
            rintro q w4 ⟨rfl, n1, rfl⟩
            have heq1 : decide (sd = sd) = true := decide_eq_true rfl
            apply_assumption
            go_wp2_with fail
            refine (ltOuts_c _ _ ou ou (fun _ => True) _ (Rd.move (w := w3.alloc _) (w' := (w3.alloc _).drewN n1) (fun _ _ => rfl) (((hO2.rd).below (balloc (Below.refl _ _) _)).mono (fun _ _ => trivial))) (Rd.move (w := w3.alloc _) (w' := (w3.alloc _).drewN n1) (fun _ _ => rfl) (((hOc.rd).below (balloc (Below.refl _ _) _)).mono (fun _ _ => trivial)))).mono ?_
            rintro q w4 ⟨rfl, n2, rfl⟩
            have heq2 : decide (ou = ou) = true := decide_eq_true rfl
            apply_assumption
            go_wp2_with fail
            go_ret
            exact ⟨rfl, bdrewN (balloc hBall _) _⟩
end Go.Proofs.Ytmnccekljombmaa
