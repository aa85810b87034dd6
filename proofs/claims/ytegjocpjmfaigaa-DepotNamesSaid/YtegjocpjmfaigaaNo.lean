/- The statement DepotNames: the walk. -/
import Derived.Test.YtegjocpjmfaigaaNn
set_option linter.unusedSimpArgs false
set_option linter.unusedVariables false
namespace Go.Proofs.Ytegjocpjmfaigaa
open Go.En

theorem f833 : decide (needs [833] ≤ yP0.bk) = true := by decide +kernel
theorem f834 : decide (needs [834] ≤ yP0.bk) = false := by decide +kernel
theorem f1111 : decide (needs [1, 1, 1, 1] ≤ yP0.bk) = true := by decide +kernel
theorem f11110 : decide (needs [1, 1, 1, 1, 0] ≤ yP0.bk) = false := by decide +kernel
theorem f00 : decide (needs [] ≤ yP0.bk) = true := by decide +kernel
theorem w9 : yD9.cells.length = 16 := by decide +kernel
theorem w11 : yD11.cells.length = 16 := by decide +kernel
section
variable {w w0 : World} {S0 S S1 : Nat → Prop} {K : Value → World → Prop} {L B : List Res} {pb d : Nat} {P : Dep} {D : Dev}
theorem c65G {g i n : Nat} {bs : List UInt8} {l : List Value} (hn : bs.length = n) (hlb : l = bys bs) (hl : n ≤ 1000000) (hwt : D.waits.length = 0) (hS : St w0 S0 w (DepR S pb d P :: DevR S1 d D :: B)) (hi : 2 ≤ i) (hg : (DepR S pb d P :: DevR S1 d D :: B)[i]? = some (cel g l 5))
    (h : ∀ w' S' S1', St w0 S0 w' (DepR S' pb d (P.compactF D bs).1 :: DevR S1' d (P.compactF D bs).2.1 :: B) → K (.int .i64 (P.compactF D bs).2.2) w') : CK Try.prog 65 [dp pb, .slice (some ⟨g, 0, none⟩) n n] w K := by
  subst hn hlb
  exact c65F hl hwt hS hi hg h
theorem rd_nts {g i : Nat} {l : List Nat} {n : Nat} {xs : List Value} (hS : St w0 S0 w L) (hi : L[i]? = some (cel g xs 3)) (hx : xs = nts l) (hn : n = l.length) : Rd (.slice (some ⟨g, 0, none⟩) n n) 3 1 l.length (nts l) w := by
  subst hn hx
  have hl : (nts l).length = l.length := by simp [nts]
  exact .inr ⟨g, 0, l.length, _, rfl, Nat.le_refl _, by rw [hl]; omega, by rw [List.drop_zero, Nat.mul_one, List.take_of_length_le (by omega)], (hS.b i hi).r⟩
set_option maxRecDepth 100000 in
set_option maxHeartbeats 2000000 in
theorem l15 (h : ∀ w', Fr w0 (fun _ => False) w' → K (.bool true) w') : CK Try.prog 15 [] w0 K := by
  have hfin : ∀ {w' : World} {L : List Res}, St w0 (fun _ => False) w' L → K (.bool true) w' := fun hS => h _ hS.fr
  refine call_k Try.func15 k15 Try.ntmps15 (Nat.le_of_ble_eq_true rfl) ?_
  (repeat (first | refine g_sq ?_ | refine g_rg ?_ | refine g_r0 ?_ | refine g_ok rfl rfl ?_ | refine g_no rfl ?_ | refine g_no0 rfl ?_ | refine g_bk ?_ | refine g_b ?_ | refine g_sk ?_ | refine g_cT rfl ?_ | refine g_cF rfl ?_ | refine g_x rfl ?_ | refine g_lb ?_))
  refine g_cl rfl rfl (c57 (N := 16) (by decide) (St.nil w0 (fun _ => False)) fun w S S1 pb d hS => ?_)
  have hS : St w0 (fun _ => False) w [DepR S pb d yP0, DevR S1 d yD0] := hS
  (repeat (first | refine g_sq ?_ | refine g_rg ?_ | refine g_r0 ?_ | refine g_ok rfl rfl ?_ | refine g_no rfl ?_ | refine g_no0 rfl ?_ | refine g_bk ?_ | refine g_b ?_ | refine g_sk ?_ | refine g_cT rfl ?_ | refine g_cF rfl ?_ | refine g_x rfl ?_ | refine g_lb ?_))
  refine g_cl rfl rfl (c68 hS (fun ha => ?_) (fun ha => absurd p0.1 ha))
  (repeat (first | refine g_sq ?_ | refine g_rg ?_ | refine g_r0 ?_ | refine g_ok rfl rfl ?_ | refine g_no rfl ?_ | refine g_no0 rfl ?_ | refine g_bk ?_ | refine g_b ?_ | refine g_sk ?_ | refine g_cT rfl ?_ | refine g_cF rfl ?_ | refine g_x rfl ?_ | refine g_lb ?_))
  refine g_cl rfl rfl (c60 hS ?_)
  rw [p0.1]
  (repeat (first | refine g_sq ?_ | refine g_rg ?_ | refine g_r0 ?_ | refine g_ok rfl rfl ?_ | refine g_no rfl ?_ | refine g_no0 rfl ?_ | refine g_bk ?_ | refine g_b ?_ | refine g_sk ?_ | refine g_cT rfl ?_ | refine g_cF rfl ?_ | refine g_x rfl ?_ | refine g_lb ?_))
  refine g_cl rfl rfl (c59 hS fun w S hS => ?_)
  rw [p0.2.1]
  (repeat (first | refine g_sq ?_ | refine g_rg ?_ | refine g_r0 ?_ | refine g_ok rfl rfl ?_ | refine g_no rfl ?_ | refine g_no0 rfl ?_ | refine g_bk ?_ | refine g_b ?_ | refine g_sk ?_ | refine g_cT rfl ?_ | refine g_cF rfl ?_ | refine g_x rfl ?_ | refine g_lb ?_))
  refine g_cl rfl rfl (c61 hS fun w S hS => ?_)
  rw [p0.2.2.1]
  (repeat (first | refine g_sq ?_ | refine g_rg ?_ | refine g_r0 ?_ | refine g_ok rfl rfl ?_ | refine g_no rfl ?_ | refine g_no0 rfl ?_ | refine g_bk ?_ | refine g_b ?_ | refine g_sk ?_ | refine g_cT rfl ?_ | refine g_cF rfl ?_ | refine g_x rfl ?_ | refine g_lb ?_))
  refine g_ef rfl (ef_bl (rs := [.int .i64 833]) hS rfl fun g w hS => ?_)
  refine g_cl rfl rfl (c64 (l := [833]) (rd_nts (i := 2) hS rfl rfl rfl) (by decide) (by decide) hS fun w hS => ?_)
  rw [f833]
  (repeat (first | refine g_sq ?_ | refine g_rg ?_ | refine g_r0 ?_ | refine g_ok rfl rfl ?_ | refine g_no rfl ?_ | refine g_no0 rfl ?_ | refine g_bk ?_ | refine g_b ?_ | refine g_sk ?_ | refine g_cT rfl ?_ | refine g_cF rfl ?_ | refine g_x rfl ?_ | refine g_lb ?_))
  have hS : St w0 (fun _ => False) w [DepR S pb d yP0, DevR S1 d yD0] := hS.sel [0, 1] rfl rfl
  refine g_ef rfl (ef_bl (rs := [.int .i64 834]) hS rfl fun g w hS => ?_)
  refine g_cl rfl rfl (c64 (l := [834]) (rd_nts (i := 2) hS rfl rfl rfl) (by decide) (by decide) hS fun w hS => ?_)
  rw [f834]
  (repeat (first | refine g_sq ?_ | refine g_rg ?_ | refine g_r0 ?_ | refine g_ok rfl rfl ?_ | refine g_no rfl ?_ | refine g_no0 rfl ?_ | refine g_bk ?_ | refine g_b ?_ | refine g_sk ?_ | refine g_cT rfl ?_ | refine g_cF rfl ?_ | refine g_x rfl ?_ | refine g_lb ?_))
  have hS : St w0 (fun _ => False) w [DepR S pb d yP0, DevR S1 d yD0] := hS.sel [0, 1] rfl rfl
  refine g_ef rfl (ef_bl (rs := [.int .i64 1, .int .i64 1, .int .i64 1, .int .i64 1]) hS rfl fun g w hS => ?_)
  refine g_cl rfl rfl (c64 (l := [1, 1, 1, 1]) (rd_nts (i := 2) hS rfl rfl rfl) (by decide) (by decide) hS fun w hS => ?_)
  rw [f1111]
  (repeat (first | refine g_sq ?_ | refine g_rg ?_ | refine g_r0 ?_ | refine g_ok rfl rfl ?_ | refine g_no rfl ?_ | refine g_no0 rfl ?_ | refine g_bk ?_ | refine g_b ?_ | refine g_sk ?_ | refine g_cT rfl ?_ | refine g_cF rfl ?_ | refine g_x rfl ?_ | refine g_lb ?_))
  have hS : St w0 (fun _ => False) w [DepR S pb d yP0, DevR S1 d yD0] := hS.sel [0, 1] rfl rfl
  refine g_ef rfl (ef_bl (rs := [.int .i64 1, .int .i64 1, .int .i64 1, .int .i64 1, .int .i64 0]) hS rfl fun g w hS => ?_)
  refine g_cl rfl rfl (c64 (l := [1, 1, 1, 1, 0]) (rd_nts (i := 2) hS rfl rfl rfl) (by decide) (by decide) hS fun w hS => ?_)
  rw [f11110]
  (repeat (first | refine g_sq ?_ | refine g_rg ?_ | refine g_r0 ?_ | refine g_ok rfl rfl ?_ | refine g_no rfl ?_ | refine g_no0 rfl ?_ | refine g_bk ?_ | refine g_b ?_ | refine g_sk ?_ | refine g_cT rfl ?_ | refine g_cF rfl ?_ | refine g_x rfl ?_ | refine g_lb ?_))
  have hS : St w0 (fun _ => False) w [DepR S pb d yP0, DevR S1 d yD0] := hS.sel [0, 1] rfl rfl
  refine g_cl rfl rfl (c64 (l := []) (.inl ⟨⟨none, rfl⟩, rfl, rfl⟩) (by decide) (by decide) hS fun w hS => ?_)
  rw [f00]
  (repeat (first | refine g_sq ?_ | refine g_rg ?_ | refine g_r0 ?_ | refine g_ok rfl rfl ?_ | refine g_no rfl ?_ | refine g_no0 rfl ?_ | refine g_bk ?_ | refine g_b ?_ | refine g_sk ?_ | refine g_cT rfl ?_ | refine g_cF rfl ?_ | refine g_x rfl ?_ | refine g_lb ?_))
  refine g_ef rfl (ef_bl (rs := [.int .u8 111, .int .u8 110, .int .u8 101]) hS rfl fun g w hS => ?_)
  refine g_ef rfl (ef_mb hS 2 rfl rfl fun w hS => ?_)
  refine g_cl rfl rfl (c65F (bs := one') (i := 2) (by decide) rfl hS (by decide) rfl fun w S S1 hS => ?_)
  have hS : St w0 (fun _ => False) w [DepR S pb d y1.1, DevR S1 d y1.2.1] := hS.sel [0, 1] rfl rfl
  rw [show (yP0.compactF yD0 one').2.2 = 0 from p1.1]
  (repeat (first | refine g_sq ?_ | refine g_rg ?_ | refine g_r0 ?_ | refine g_ok rfl rfl ?_ | refine g_no rfl ?_ | refine g_no0 rfl ?_ | refine g_bk ?_ | refine g_b ?_ | refine g_sk ?_ | refine g_cT rfl ?_ | refine g_cF rfl ?_ | refine g_x rfl ?_ | refine g_lb ?_))
  refine g_ef rfl (ef_bl (rs := [.int .u8 97]) hS rfl fun g w hS => ?_)
  refine g_ef rfl (ef_mb hS 2 rfl rfl fun w hS => ?_)
  refine g_cl rfl rfl (c63F (bs := [97]) (i := 2) (by decide) p1.2 hS (by decide) rfl fun w S S1 hS => ?_)
  have hS : St w0 (fun _ => False) w [DepR S pb d y2.1, DevR S1 d y2.2.1] := hS.sel [0, 1] rfl rfl
  rw [show (y1.1.appendF y1.2.1 [97]).2.2 = 0 from p2.1]
  (repeat (first | refine g_sq ?_ | refine g_rg ?_ | refine g_r0 ?_ | refine g_ok rfl rfl ?_ | refine g_no rfl ?_ | refine g_no0 rfl ?_ | refine g_bk ?_ | refine g_b ?_ | refine g_sk ?_ | refine g_cT rfl ?_ | refine g_cF rfl ?_ | refine g_x rfl ?_ | refine g_lb ?_))
  refine g_cl rfl rfl (c63N p2.2 hS fun w S S1 hS => ?_)
  have hS : St w0 (fun _ => False) w [DevR S1 d y3.2.1] := hS.sel [1] rfl rfl
  rw [show (y2.1.appendF y2.2.1 []).2.2 = 0 from p3.1]
  (repeat (first | refine g_sq ?_ | refine g_rg ?_ | refine g_r0 ?_ | refine g_ok rfl rfl ?_ | refine g_no rfl ?_ | refine g_no0 rfl ?_ | refine g_bk ?_ | refine g_b ?_ | refine g_sk ?_ | refine g_cT rfl ?_ | refine g_cF rfl ?_ | refine g_x rfl ?_ | refine g_lb ?_))
  refine g_cl rfl rfl (c67 (by rw [p3.2.2.2]; decide) hS (fun h => by rw [p3.2.2.2] at h; exact absurd h (by decide)) (fun _ hd => absurd (p3.2.2.1.symm.trans hd) (by decide)) (fun _ _ w S S1 pq hS => ?_))
  have hS : St w0 (fun _ => False) w [DepR S pq d yQ, DevR S1 d y3.2.1] := hS
  (repeat (first | refine g_sq ?_ | refine g_rg ?_ | refine g_r0 ?_ | refine g_ok rfl rfl ?_ | refine g_no rfl ?_ | refine g_no0 rfl ?_ | refine g_bk ?_ | refine g_b ?_ | refine g_sk ?_ | refine g_cT rfl ?_ | refine g_cF rfl ?_ | refine g_x rfl ?_ | refine g_lb ?_))
  refine g_cl rfl rfl (c62 hS fun w S S2 vg hS => ?_)
  (repeat (first | refine g_sq ?_ | refine g_rg ?_ | refine g_r0 ?_ | refine g_ok rfl rfl ?_ | refine g_no rfl ?_ | refine g_no0 rfl ?_ | refine g_bk ?_ | refine g_b ?_ | refine g_sk ?_ | refine g_cT rfl ?_ | refine g_cF rfl ?_ | refine g_x rfl ?_ | refine g_lb ?_))
  refine g_ef rfl (ef_bl (rs := [sv one', sv [97], sv []]) hS rfl fun g w hS => ?_)
  refine g_cl rfl rfl (c69 (l := [one', [97], []]) hS (hS.b 3 rfl).r (by decide) fun w S3 vt hS => ?_)
  refine g_cl rfl rfl (c46 (BsR.rdl hS 1 rfl) (BsR.rdl hS 4 rfl) (by rw [pQ.1]; decide) hS fun w hS => ?_)
  rw [decide_eq_true pQ.1]
  have hS : St w0 (fun _ => False) w [DepR S pq d yQ, DevR S1 d y3.2.1] := hS.sel [0, 2] rfl rfl
  (repeat (first | refine g_sq ?_ | refine g_rg ?_ | refine g_r0 ?_ | refine g_ok rfl rfl ?_ | refine g_no rfl ?_ | refine g_no0 rfl ?_ | refine g_bk ?_ | refine g_b ?_ | refine g_sk ?_ | refine g_cT rfl ?_ | refine g_cF rfl ?_ | refine g_x rfl ?_ | refine g_lb ?_))
  refine g_cl rfl rfl (c59 hS fun w S hS => ?_)
  rw [pQ.2.1]
  (repeat (first | refine g_sq ?_ | refine g_rg ?_ | refine g_r0 ?_ | refine g_ok rfl rfl ?_ | refine g_no rfl ?_ | refine g_no0 rfl ?_ | refine g_bk ?_ | refine g_b ?_ | refine g_sk ?_ | refine g_cT rfl ?_ | refine g_cF rfl ?_ | refine g_x rfl ?_ | refine g_lb ?_))
  refine g_cl rfl rfl (c60 hS ?_)
  rw [pQ.2.2.1]
  (repeat (first | refine g_sq ?_ | refine g_rg ?_ | refine g_r0 ?_ | refine g_ok rfl rfl ?_ | refine g_no rfl ?_ | refine g_no0 rfl ?_ | refine g_bk ?_ | refine g_b ?_ | refine g_sk ?_ | refine g_cT rfl ?_ | refine g_cF rfl ?_ | refine g_x rfl ?_ | refine g_lb ?_))
  refine g_cl rfl rfl (c61 hS fun w S hS => ?_)
  rw [pQ.2.2.2]
  (repeat (first | refine g_sq ?_ | refine g_rg ?_ | refine g_r0 ?_ | refine g_ok rfl rfl ?_ | refine g_no rfl ?_ | refine g_no0 rfl ?_ | refine g_bk ?_ | refine g_b ?_ | refine g_sk ?_ | refine g_cT rfl ?_ | refine g_cF rfl ?_ | refine g_x rfl ?_ | refine g_lb ?_))
  refine g_ef rfl (ef_ms hS rfl rfl (by decide) (by decide) (by decide) (by decide) fun g w hS => ?_)
  refine g_cl rfl rfl (c65G (i := 2) (n := 1016) (bs := List.replicate 1016 0) List.length_replicate (by rw [rep_byte, bys, List.map_replicate]; rfl) (by decide) p3.2.1 hS (by decide) rfl fun w S S1 hS => ?_)
  have hS : St w0 (fun _ => False) w [DevR S1 d y5.2.1, DepR S pq d y5.1] := hS.sel [1, 0] rfl rfl
  rw [show (yQ.compactF y3.2.1 (List.replicate 1016 0)).2.2 = 150 from p5.1]
  (repeat (first | refine g_sq ?_ | refine g_rg ?_ | refine g_r0 ?_ | refine g_ok rfl rfl ?_ | refine g_no rfl ?_ | refine g_no0 rfl ?_ | refine g_bk ?_ | refine g_b ?_ | refine g_sk ?_ | refine g_cT rfl ?_ | refine g_cF rfl ?_ | refine g_x rfl ?_ | refine g_lb ?_))
  refine g_cl rfl rfl (c32 (f := ⟨4, 0, 110⟩) hS fun w S1 hS => ?_)
  have hS : St w0 (fun _ => False) w [DevR S1 d yD5, DepR S pq d y5.1] := hS
  have hS := hS.sel [1, 0] rfl rfl
  (repeat (first | refine g_sq ?_ | refine g_rg ?_ | refine g_r0 ?_ | refine g_ok rfl rfl ?_ | refine g_no rfl ?_ | refine g_no0 rfl ?_ | refine g_bk ?_ | refine g_b ?_ | refine g_sk ?_ | refine g_cT rfl ?_ | refine g_cF rfl ?_ | refine g_x rfl ?_ | refine g_lb ?_))
  refine g_ef rfl (ef_bl (rs := [.int .u8 116, .int .u8 119, .int .u8 111]) hS rfl fun g w hS => ?_)
  refine g_ef rfl (ef_mb hS 2 rfl rfl fun w hS => ?_)
  refine g_cl rfl rfl (c65F (bs := two') (i := 2) (by decide) p5w hS (by decide) rfl fun w S S1 hS => ?_)
  have hS : St w0 (fun _ => False) w [DepR S pq d y6.1, DevR S1 d y6.2.1] := hS.sel [0, 1] rfl rfl
  rw [show (y5.1.compactF yD5 two').2.2 = 141 from p6.1]
  (repeat (first | refine g_sq ?_ | refine g_rg ?_ | refine g_r0 ?_ | refine g_ok rfl rfl ?_ | refine g_no rfl ?_ | refine g_no0 rfl ?_ | refine g_bk ?_ | refine g_b ?_ | refine g_sk ?_ | refine g_cT rfl ?_ | refine g_cF rfl ?_ | refine g_x rfl ?_ | refine g_lb ?_))
  refine g_cl rfl rfl (c63N p6.2 hS fun w S S1 hS => ?_)
  have hS : St w0 (fun _ => False) w [DepR S pq d y7.1, DevR S1 d y7.2.1] := hS
  rw [show (y6.1.appendF y6.2.1 []).2.2 = 141 from p7.1]
  (repeat (first | refine g_sq ?_ | refine g_rg ?_ | refine g_r0 ?_ | refine g_ok rfl rfl ?_ | refine g_no rfl ?_ | refine g_no0 rfl ?_ | refine g_bk ?_ | refine g_b ?_ | refine g_sk ?_ | refine g_cT rfl ?_ | refine g_cF rfl ?_ | refine g_x rfl ?_ | refine g_lb ?_))
  refine g_cl rfl rfl (c65N p7.2 hS fun w S S1 hS => ?_)
  have hS : St w0 (fun _ => False) w [DevR S1 d y8.2.1] := hS.sel [1] rfl rfl
  rw [show (y7.1.compactF y7.2.1 []).2.2 = 141 from p8.1]
  (repeat (first | refine g_sq ?_ | refine g_rg ?_ | refine g_r0 ?_ | refine g_ok rfl rfl ?_ | refine g_no rfl ?_ | refine g_no0 rfl ?_ | refine g_bk ?_ | refine g_b ?_ | refine g_sk ?_ | refine g_cT rfl ?_ | refine g_cF rfl ?_ | refine g_x rfl ?_ | refine g_lb ?_))
  refine g_cl rfl rfl (c67 (by rw [p8.2.2]; decide) hS (fun h => by rw [p8.2.2] at h; exact absurd h (by decide)) (fun _ _ w S1 hS => ?_) (fun _ hd => absurd (p8.2.1.symm.trans hd) (by decide)))
  (repeat (first | refine g_sq ?_ | refine g_rg ?_ | refine g_r0 ?_ | refine g_ok rfl rfl ?_ | refine g_no rfl ?_ | refine g_no0 rfl ?_ | refine g_bk ?_ | refine g_b ?_ | refine g_sk ?_ | refine g_cT rfl ?_ | refine g_cF rfl ?_ | refine g_x rfl ?_ | refine g_lb ?_))
  refine g_cl rfl rfl (c29 hS fun w S1 hS => ?_)
  have hS : St w0 (fun _ => False) w [DevR S1 d yD9] := hS
  (repeat (first | refine g_sq ?_ | refine g_rg ?_ | refine g_r0 ?_ | refine g_ok rfl rfl ?_ | refine g_no rfl ?_ | refine g_no0 rfl ?_ | refine g_bk ?_ | refine g_b ?_ | refine g_sk ?_ | refine g_cT rfl ?_ | refine g_cF rfl ?_ | refine g_x rfl ?_ | refine g_lb ?_))
  refine g_cl rfl rfl (c67 (by rw [w9]; decide) hS (fun h => by rw [w9] at h; exact absurd h (by decide)) (fun _ hd => absurd (show yD9.down = true from hd) (by unfold yD9 Dev.boot; simp)) (fun _ _ w S S1 pr hS => ?_))
  have hS : St w0 (fun _ => False) w [DepR S pr d yR, DevR S1 d yD9] := hS
  (repeat (first | refine g_sq ?_ | refine g_rg ?_ | refine g_r0 ?_ | refine g_ok rfl rfl ?_ | refine g_no rfl ?_ | refine g_no0 rfl ?_ | refine g_bk ?_ | refine g_b ?_ | refine g_sk ?_ | refine g_cT rfl ?_ | refine g_cF rfl ?_ | refine g_x rfl ?_ | refine g_lb ?_))
  refine g_cl rfl rfl (c62 hS fun w S S2 vg hS => ?_)
  (repeat (first | refine g_sq ?_ | refine g_rg ?_ | refine g_r0 ?_ | refine g_ok rfl rfl ?_ | refine g_no rfl ?_ | refine g_no0 rfl ?_ | refine g_bk ?_ | refine g_b ?_ | refine g_sk ?_ | refine g_cT rfl ?_ | refine g_cF rfl ?_ | refine g_x rfl ?_ | refine g_lb ?_))
  refine g_ef rfl (ef_bl (rs := [sv one', sv [97], sv []]) hS rfl fun g w hS => ?_)
  refine g_cl rfl rfl (c69 (l := [one', [97], []]) hS (hS.b 3 rfl).r (by decide) fun w S3 vt hS => ?_)
  refine g_cl rfl rfl (c46 (BsR.rdl hS 1 rfl) (BsR.rdl hS 4 rfl) (by rw [pR.1]; decide) hS fun w hS => ?_)
  rw [decide_eq_true pR.1]
  have hS : St w0 (fun _ => False) w [DepR S pr d yR, DevR S1 d yD9] := hS.sel [0, 2] rfl rfl
  (repeat (first | refine g_sq ?_ | refine g_rg ?_ | refine g_r0 ?_ | refine g_ok rfl rfl ?_ | refine g_no rfl ?_ | refine g_no0 rfl ?_ | refine g_bk ?_ | refine g_b ?_ | refine g_sk ?_ | refine g_cT rfl ?_ | refine g_cF rfl ?_ | refine g_x rfl ?_ | refine g_lb ?_))
  refine g_cl rfl rfl (c60 hS ?_)
  rw [pR.2]
  have hS := hS.sel [1, 0] rfl rfl
  (repeat (first | refine g_sq ?_ | refine g_rg ?_ | refine g_r0 ?_ | refine g_ok rfl rfl ?_ | refine g_no rfl ?_ | refine g_no0 rfl ?_ | refine g_bk ?_ | refine g_b ?_ | refine g_sk ?_ | refine g_cT rfl ?_ | refine g_cF rfl ?_ | refine g_x rfl ?_ | refine g_lb ?_))
  refine g_cl rfl rfl (c32 (f := ⟨4, 1, 0⟩) hS fun w S1 hS => ?_)
  have hS : St w0 (fun _ => False) w [DevR S1 d yD10, DepR S pr d yR] := hS
  have hS := hS.sel [1, 0] rfl rfl
  (repeat (first | refine g_sq ?_ | refine g_rg ?_ | refine g_r0 ?_ | refine g_ok rfl rfl ?_ | refine g_no rfl ?_ | refine g_no0 rfl ?_ | refine g_bk ?_ | refine g_b ?_ | refine g_sk ?_ | refine g_cT rfl ?_ | refine g_cF rfl ?_ | refine g_x rfl ?_ | refine g_lb ?_))
  refine g_ef rfl (ef_bl (rs := [.int .u8 116, .int .u8 119, .int .u8 111]) hS rfl fun g w hS => ?_)
  refine g_ef rfl (ef_mb hS 2 rfl rfl fun w hS => ?_)
  refine g_cl rfl rfl (c65F (bs := two') (i := 2) (by decide) p10w.1 hS (by decide) rfl fun w S S1 hS => ?_)
  have hS : St w0 (fun _ => False) w [DevR S1 d y11.2.1] := hS.sel [1] rfl rfl
  rw [show (yR.compactF yD10 two').2.2 = 141 from p11.1]
  (repeat (first | refine g_sq ?_ | refine g_rg ?_ | refine g_r0 ?_ | refine g_ok rfl rfl ?_ | refine g_no rfl ?_ | refine g_no0 rfl ?_ | refine g_bk ?_ | refine g_b ?_ | refine g_sk ?_ | refine g_cT rfl ?_ | refine g_cF rfl ?_ | refine g_x rfl ?_ | refine g_lb ?_))
  refine g_cl rfl rfl (c29 hS fun w S1 hS => ?_)
  have hS : St w0 (fun _ => False) w [DevR S1 d yD11] := hS
  (repeat (first | refine g_sq ?_ | refine g_rg ?_ | refine g_r0 ?_ | refine g_ok rfl rfl ?_ | refine g_no rfl ?_ | refine g_no0 rfl ?_ | refine g_bk ?_ | refine g_b ?_ | refine g_sk ?_ | refine g_cT rfl ?_ | refine g_cF rfl ?_ | refine g_x rfl ?_ | refine g_lb ?_))
  refine g_cl rfl rfl (c67 (by rw [w11]; decide) hS (fun h => by rw [w11] at h; exact absurd h (by decide)) (fun _ hd => absurd (show yD11.down = true from hd) (by unfold yD11 Dev.boot; simp)) (fun _ _ w S S1 ps hS => ?_))
  have hS : St w0 (fun _ => False) w [DepR S ps d yS, DevR S1 d yD11] := hS
  (repeat (first | refine g_sq ?_ | refine g_rg ?_ | refine g_r0 ?_ | refine g_ok rfl rfl ?_ | refine g_no rfl ?_ | refine g_no0 rfl ?_ | refine g_bk ?_ | refine g_b ?_ | refine g_sk ?_ | refine g_cT rfl ?_ | refine g_cF rfl ?_ | refine g_x rfl ?_ | refine g_lb ?_))
  refine g_ef rfl (ef_bl (rs := [.int .u8 98]) hS rfl fun g w hS => ?_)
  refine g_ef rfl (ef_mb hS 2 rfl rfl fun w hS => ?_)
  refine g_cl rfl rfl (c63F (bs := [98]) (i := 2) (by decide) rfl hS (by decide) rfl fun w S S1 hS => ?_)
  have hS : St w0 (fun _ => False) w [DepR S ps d y13.1, DevR S1 d y13.2.1] := hS.sel [0, 1] rfl rfl
  rw [show (yS.appendF yD11 [98]).2.2 = 0 from p13.1]
  (repeat (first | refine g_sq ?_ | refine g_rg ?_ | refine g_r0 ?_ | refine g_ok rfl rfl ?_ | refine g_no rfl ?_ | refine g_no0 rfl ?_ | refine g_bk ?_ | refine g_b ?_ | refine g_sk ?_ | refine g_cT rfl ?_ | refine g_cF rfl ?_ | refine g_x rfl ?_ | refine g_lb ?_))
  refine g_ef rfl (ef_bl (rs := [.int .u8 116, .int .u8 104, .int .u8 114, .int .u8 101, .int .u8 101]) hS rfl fun g w hS => ?_)
  refine g_ef rfl (ef_mb hS 2 rfl rfl fun w hS => ?_)
  refine g_cl rfl rfl (c65F (bs := three') (i := 2) (by decide) p13.2 hS (by decide) rfl fun w S S1 hS => ?_)
  have hS : St w0 (fun _ => False) w [DevR S1 d y14.2.1] := hS.sel [1] rfl rfl
  rw [show (y13.1.compactF y13.2.1 three').2.2 = 0 from p14.1]
  (repeat (first | refine g_sq ?_ | refine g_rg ?_ | refine g_r0 ?_ | refine g_ok rfl rfl ?_ | refine g_no rfl ?_ | refine g_no0 rfl ?_ | refine g_bk ?_ | refine g_b ?_ | refine g_sk ?_ | refine g_cT rfl ?_ | refine g_cF rfl ?_ | refine g_x rfl ?_ | refine g_lb ?_))
  refine g_cl rfl rfl (c67 (by rw [p14.2.2]; decide) hS (fun h => by rw [p14.2.2] at h; exact absurd h (by decide)) (fun _ hd => absurd (p14.2.1.symm.trans hd) (by decide)) (fun _ _ w S S1 pu hS => ?_))
  have hS : St w0 (fun _ => False) w [DepR S pu d yU, DevR S1 d y14.2.1] := hS
  (repeat (first | refine g_sq ?_ | refine g_rg ?_ | refine g_r0 ?_ | refine g_ok rfl rfl ?_ | refine g_no rfl ?_ | refine g_no0 rfl ?_ | refine g_bk ?_ | refine g_b ?_ | refine g_sk ?_ | refine g_cT rfl ?_ | refine g_cF rfl ?_ | refine g_x rfl ?_ | refine g_lb ?_))
  refine g_cl rfl rfl (c62 hS fun w S S2 vg hS => ?_)
  (repeat (first | refine g_sq ?_ | refine g_rg ?_ | refine g_r0 ?_ | refine g_ok rfl rfl ?_ | refine g_no rfl ?_ | refine g_no0 rfl ?_ | refine g_bk ?_ | refine g_b ?_ | refine g_sk ?_ | refine g_cT rfl ?_ | refine g_cF rfl ?_ | refine g_x rfl ?_ | refine g_lb ?_))
  refine g_ef rfl (ef_bl (rs := [sv three']) hS rfl fun g w hS => ?_)
  refine g_cl rfl rfl (c69 (l := [three']) hS (hS.b 3 rfl).r (by decide) fun w S3 vt hS => ?_)
  refine g_cl rfl rfl (c46 (BsR.rdl hS 1 rfl) (BsR.rdl hS 4 rfl) (by rw [pU.1]; decide) hS fun w hS => ?_)
  rw [decide_eq_true pU.1]
  have hS : St w0 (fun _ => False) w [DepR S pu d yU, DevR S1 d y14.2.1] := hS.sel [0, 2] rfl rfl
  (repeat (first | refine g_sq ?_ | refine g_rg ?_ | refine g_r0 ?_ | refine g_ok rfl rfl ?_ | refine g_no rfl ?_ | refine g_no0 rfl ?_ | refine g_bk ?_ | refine g_b ?_ | refine g_sk ?_ | refine g_cT rfl ?_ | refine g_cF rfl ?_ | refine g_x rfl ?_ | refine g_lb ?_))
  refine g_cl rfl rfl (c60 hS ?_)
  rw [pU.2.1]
  (repeat (first | refine g_sq ?_ | refine g_rg ?_ | refine g_r0 ?_ | refine g_ok rfl rfl ?_ | refine g_no rfl ?_ | refine g_no0 rfl ?_ | refine g_bk ?_ | refine g_b ?_ | refine g_sk ?_ | refine g_cT rfl ?_ | refine g_cF rfl ?_ | refine g_x rfl ?_ | refine g_lb ?_))
  refine g_cl rfl rfl (c59 hS fun w S hS => ?_)
  rw [pU.2.2]
  have hS := hS.sel [] rfl rfl
  (repeat (first | refine g_sq ?_ | refine g_rg ?_ | refine g_r0 ?_ | refine g_ok rfl rfl ?_ | refine g_no rfl ?_ | refine g_no0 rfl ?_ | refine g_bk ?_ | refine g_b ?_ | refine g_sk ?_ | refine g_cT rfl ?_ | refine g_cF rfl ?_ | refine g_x rfl ?_ | refine g_lb ?_))
  refine g_cl rfl rfl (c18 hS (fun hn => absurd ⟨by decide, by decide⟩ hn) (fun _ w S1 dd hS => ?_))
  have hS : St w0 (fun _ => False) w [DevR S1 dd (Dev.new 3)] := hS
  (repeat (first | refine g_sq ?_ | refine g_rg ?_ | refine g_r0 ?_ | refine g_ok rfl rfl ?_ | refine g_no rfl ?_ | refine g_no0 rfl ?_ | refine g_bk ?_ | refine g_b ?_ | refine g_sk ?_ | refine g_cT rfl ?_ | refine g_cF rfl ?_ | refine g_x rfl ?_ | refine g_lb ?_))
  refine g_cl rfl rfl (c67 (by decide) hS (fun _ => ?_) (fun h => absurd h (by decide)) (fun h => absurd h (by decide)))
  (repeat (first | refine g_sq ?_ | refine g_rg ?_ | refine g_r0 ?_ | refine g_ok rfl rfl ?_ | refine g_no rfl ?_ | refine g_no0 rfl ?_ | refine g_bk ?_ | refine g_b ?_ | refine g_sk ?_ | refine g_cT rfl ?_ | refine g_cF rfl ?_ | refine g_x rfl ?_ | refine g_lb ?_))
  refine g_cl rfl rfl (v67 hS (.inl rfl) ?_)
  have hS := hS.sel [] rfl rfl
  (repeat (first | refine g_sq ?_ | refine g_rg ?_ | refine g_r0 ?_ | refine g_ok rfl rfl ?_ | refine g_no rfl ?_ | refine g_no0 rfl ?_ | refine g_bk ?_ | refine g_b ?_ | refine g_sk ?_ | refine g_cT rfl ?_ | refine g_cF rfl ?_ | refine g_x rfl ?_ | refine g_lb ?_))
  refine g_ef rfl (ef_al hS fun z w hS => ?_)
  have hS : St w0 (fun _ => False) w [cel z zdep 113] := hS
  (repeat (first | refine g_sq ?_ | refine g_rg ?_ | refine g_r0 ?_ | refine g_ok rfl rfl ?_ | refine g_no rfl ?_ | refine g_no0 rfl ?_ | refine g_bk ?_ | refine g_b ?_ | refine g_sk ?_ | refine g_cT rfl ?_ | refine g_cF rfl ?_ | refine g_x rfl ?_ | refine g_lb ?_))
  refine g_cl rfl rfl (v68 hS (.inl rfl) ?_)
  (repeat (first | refine g_sq ?_ | refine g_rg ?_ | refine g_r0 ?_ | refine g_ok rfl rfl ?_ | refine g_no rfl ?_ | refine g_no0 rfl ?_ | refine g_bk ?_ | refine g_b ?_ | refine g_sk ?_ | refine g_cT rfl ?_ | refine g_cF rfl ?_ | refine g_x rfl ?_ | refine g_lb ?_))
  refine g_cl rfl rfl (c56 hS fun w hS => ?_)
  (repeat (first | refine g_sq ?_ | refine g_rg ?_ | refine g_r0 ?_ | refine g_ok rfl rfl ?_ | refine g_no rfl ?_ | refine g_no0 rfl ?_ | refine g_bk ?_ | refine g_b ?_ | refine g_sk ?_ | refine g_cT rfl ?_ | refine g_cF rfl ?_ | refine g_x rfl ?_ | refine g_lb ?_))
  refine g_cl rfl rfl (v63 hS (.inl rfl) ?_)
  (repeat (first | refine g_sq ?_ | refine g_rg ?_ | refine g_r0 ?_ | refine g_ok rfl rfl ?_ | refine g_no rfl ?_ | refine g_no0 rfl ?_ | refine g_bk ?_ | refine g_b ?_ | refine g_sk ?_ | refine g_cT rfl ?_ | refine g_cF rfl ?_ | refine g_x rfl ?_ | refine g_lb ?_))
  refine g_cl rfl rfl (v65 hS (.inr ⟨z, 0, rfl, rfl⟩) ?_)
  (repeat (first | refine g_sq ?_ | refine g_rg ?_ | refine g_r0 ?_ | refine g_ok rfl rfl ?_ | refine g_no rfl ?_ | refine g_no0 rfl ?_ | refine g_bk ?_ | refine g_b ?_ | refine g_sk ?_ | refine g_cT rfl ?_ | refine g_cF rfl ?_ | refine g_x rfl ?_ | refine g_lb ?_))
  refine g_cl rfl rfl (v66 hS (.inr ⟨z, 0, rfl, rfl⟩) ?_)
  (repeat (first | refine g_sq ?_ | refine g_rg ?_ | refine g_r0 ?_ | refine g_ok rfl rfl ?_ | refine g_no rfl ?_ | refine g_no0 rfl ?_ | refine g_bk ?_ | refine g_b ?_ | refine g_sk ?_ | refine g_cT rfl ?_ | refine g_cF rfl ?_ | refine g_x rfl ?_ | refine g_lb ?_))
  refine g_cl rfl rfl (v60 hS (.inl rfl) ?_)
  (repeat (first | refine g_sq ?_ | refine g_rg ?_ | refine g_r0 ?_ | refine g_ok rfl rfl ?_ | refine g_no rfl ?_ | refine g_no0 rfl ?_ | refine g_bk ?_ | refine g_b ?_ | refine g_sk ?_ | refine g_cT rfl ?_ | refine g_cF rfl ?_ | refine g_x rfl ?_ | refine g_lb ?_))
  refine g_rq rfl rfl (in64 (by decide)) ?_
  refine g_cl rfl rfl (v61 hS (.inr ⟨z, 0, rfl, rfl⟩) ?_)
  refine g_rq rfl rfl (in64 (by decide)) ?_
  (repeat (first | refine g_sq ?_ | refine g_rg ?_ | refine g_r0 ?_ | refine g_ok rfl rfl ?_ | refine g_no rfl ?_ | refine g_no0 rfl ?_ | refine g_bk ?_ | refine g_b ?_ | refine g_sk ?_ | refine g_cT rfl ?_ | refine g_cF rfl ?_ | refine g_x rfl ?_ | refine g_lb ?_))
  refine g_cl rfl rfl (v59 hS (.inl rfl) ?_)
  (repeat (first | refine g_sq ?_ | refine g_rg ?_ | refine g_r0 ?_ | refine g_ok rfl rfl ?_ | refine g_no rfl ?_ | refine g_no0 rfl ?_ | refine g_bk ?_ | refine g_b ?_ | refine g_sk ?_ | refine g_cT rfl ?_ | refine g_cF rfl ?_ | refine g_x rfl ?_ | refine g_lb ?_))
  refine g_cl rfl rfl (v64 hS (.inr ⟨z, 0, rfl, rfl⟩) ?_)
  (repeat (first | refine g_sq ?_ | refine g_rg ?_ | refine g_r0 ?_ | refine g_ok rfl rfl ?_ | refine g_no rfl ?_ | refine g_no0 rfl ?_ | refine g_bk ?_ | refine g_b ?_ | refine g_sk ?_ | refine g_cT rfl ?_ | refine g_cF rfl ?_ | refine g_x rfl ?_ | refine g_lb ?_))
  exact g_ret (q_1 rfl (hfin hS))
end
end Go.Proofs.Ytegjocpjmfaigaa
