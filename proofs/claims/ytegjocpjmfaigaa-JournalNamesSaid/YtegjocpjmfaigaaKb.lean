/- The statement JournalNames: the walk. -/
import Derived.Test.YtegjocpjmfaigaaJz
import Derived.Test.YtegjocpjmfaigaaKa
set_option linter.unusedSimpArgs false
set_option linter.unusedVariables false
namespace Go.Proofs.Ytegjocpjmfaigaa
open Go.En

theorem c42F {w w0 : World} {S0 S S1 : Nat → Prop} {K : Value → World → Prop} {jb d fr bk g i : Nat} {J : Jou} {D : Dev} {B : List Res} {bs : List UInt8} (hl : bs.length ≤ 1000000) (hwt : D.waits.length ≤ 1000000) (hS : St w0 S0 w (JouR S jb d fr bk J :: DevR S1 d D :: B)) (hi : 2 ≤ i) (hg : (JouR S jb d fr bk J :: DevR S1 d D :: B)[i]? = some (cel g (bys bs) 5))
    (h : ∀ w' S' S1', St w0 S0 w' (JouR S' jb d fr bk (J.appendF fr bk D bs).1 :: DevR S1' d (J.appendF fr bk D bs).2.1 :: B) → K (.int .i64 (J.appendF fr bk D bs).2.2) w') : CK Try.prog 42 [dp jb, .slice (some ⟨g, 0, none⟩) bs.length bs.length] w K := by
  rw [← appendF_eq] at h
  exact c42 hl hwt (.inr ⟨g, 0, bs.length, _, rfl, Nat.le_refl _, by simp, by rw [List.drop_zero, Nat.mul_one, List.take_of_length_le (by simp)], (hS.b i hg).r⟩) (fun x hx => ⟨fun h => hS.dis 0 i _ _ rfl hg (by omega) x h hx.1, fun h => hS.dis 1 i _ _ rfl hg (by omega) x h hx.1⟩) hS h
section
variable {w w0 : World} {S0 S : Nat → Prop} {K : Value → World → Prop} {L : List Res}
theorem len10 {D : Dev} (h : D.cells.length = 10) : ¬ badA D 2 6 := by unfold badA; omega
set_option maxRecDepth 100000 in
set_option maxHeartbeats 2000000 in
theorem l12 (h : ∀ w', Fr w0 (fun _ => False) w' → K (.bool true) w') : CK Try.prog 12 [] w0 K := by
  have hfin : ∀ {w' : World} {L : List Res}, St w0 (fun _ => False) w' L → K (.bool true) w' := fun hS => h _ hS.fr
  refine call_k Try.func12 k12 Try.ntmps12 (Nat.le_of_ble_eq_true rfl) ?_
  (repeat (first | refine g_sq ?_ | refine g_rg ?_ | refine g_r0 ?_ | refine g_ok rfl rfl ?_ | refine g_no rfl ?_ | refine g_no0 rfl ?_ | refine g_bk ?_ | refine g_b ?_ | refine g_sk ?_ | refine g_cT rfl ?_ | refine g_cF rfl ?_ | refine g_x rfl ?_ | refine g_lb ?_))
  refine g_cl rfl rfl (c18 (St.nil w0 (fun _ => False)) (fun hn => absurd ⟨by decide, by decide⟩ hn) (fun _ w S1 d hS => ?_))
  have hS : St w0 (fun _ => False) w [DevR S1 d xD0] := hS
  (repeat (first | refine g_sq ?_ | refine g_rg ?_ | refine g_r0 ?_ | refine g_ok rfl rfl ?_ | refine g_no rfl ?_ | refine g_no0 rfl ?_ | refine g_bk ?_ | refine g_b ?_ | refine g_sk ?_ | refine g_cT rfl ?_ | refine g_cF rfl ?_ | refine g_x rfl ?_ | refine g_lb ?_))
  refine g_cl rfl rfl (c39 (fr := 2) (bk := 6) (by decide) hS (fun hb => absurd hb (len10 (by decide))) (fun _ hd => absurd hd (by decide)) (fun _ _ w S S1 j1 hS => ?_))
  have hS : St w0 (fun _ => False) w [JouR S j1 d 2 6 xJ0, DevR S1 d xD0] := hS
  (repeat (first | refine g_sq ?_ | refine g_rg ?_ | refine g_r0 ?_ | refine g_ok rfl rfl ?_ | refine g_no rfl ?_ | refine g_no0 rfl ?_ | refine g_bk ?_ | refine g_b ?_ | refine g_sk ?_ | refine g_cT rfl ?_ | refine g_cF rfl ?_ | refine g_x rfl ?_ | refine g_lb ?_))
  refine g_ef rfl (ef_bl (rs := [.int .u8 111, .int .u8 110, .int .u8 101]) hS rfl fun g w hS => ?_)
  refine g_ef rfl (ef_mb hS 2 rfl rfl fun w hS => ?_)
  refine g_cl rfl rfl (c42F (bs := one') (i := 2) (by decide) (by decide) hS (by decide) rfl fun w S S1 hS => ?_)
  have hS : St w0 (fun _ => False) w [JouR S j1 d 2 6 xA1.1, DevR S1 d xA1.2.1] := hS.sel [0, 1] rfl rfl
  rw [show (xJ0.appendF 2 6 xD0 one').2.2 = 0 from f1]
  (repeat (first | refine g_sq ?_ | refine g_rg ?_ | refine g_r0 ?_ | refine g_ok rfl rfl ?_ | refine g_no rfl ?_ | refine g_no0 rfl ?_ | refine g_bk ?_ | refine g_b ?_ | refine g_sk ?_ | refine g_cT rfl ?_ | refine g_cF rfl ?_ | refine g_x rfl ?_ | refine g_lb ?_))
  refine g_ef rfl (ef_bl (rs := [.int .u8 116, .int .u8 119, .int .u8 111]) hS rfl fun g w hS => ?_)
  refine g_ef rfl (ef_mb hS 2 rfl rfl fun w hS => ?_)
  refine g_cl rfl rfl (c42F (bs := two') (i := 2) (by decide) (by decide +kernel) hS (by decide) rfl fun w S S1 hS => ?_)
  have hS : St w0 (fun _ => False) w [DevR S1 d xA2.2.1] := hS.sel [1] rfl rfl
  rw [show (xA1.1.appendF 2 6 xA1.2.1 two').2.2 = 0 from f2]
  (repeat (first | refine g_sq ?_ | refine g_rg ?_ | refine g_r0 ?_ | refine g_ok rfl rfl ?_ | refine g_no rfl ?_ | refine g_no0 rfl ?_ | refine g_bk ?_ | refine g_b ?_ | refine g_sk ?_ | refine g_cT rfl ?_ | refine g_cF rfl ?_ | refine g_x rfl ?_ | refine g_lb ?_))
  refine g_cl rfl rfl (c39 (fr := 2) (bk := 6) (by rw [f2a.2.1]; decide) hS (fun hb => absurd hb (len10 f2a.2.1)) (fun _ hd => absurd (f2a.1.symm.trans hd) (by decide)) (fun _ _ w S S1 j2 hS => ?_))
  have hS : St w0 (fun _ => False) w [JouR S j2 d 2 6 xK0, DevR S1 d xA2.2.1] := hS
  (repeat (first | refine g_sq ?_ | refine g_rg ?_ | refine g_r0 ?_ | refine g_ok rfl rfl ?_ | refine g_no rfl ?_ | refine g_no0 rfl ?_ | refine g_bk ?_ | refine g_b ?_ | refine g_sk ?_ | refine g_cT rfl ?_ | refine g_cF rfl ?_ | refine g_x rfl ?_ | refine g_lb ?_))
  refine g_cl rfl rfl (c47 hS fun w S S2 vg hS => ?_)
  (repeat (first | refine g_sq ?_ | refine g_rg ?_ | refine g_r0 ?_ | refine g_ok rfl rfl ?_ | refine g_no rfl ?_ | refine g_no0 rfl ?_ | refine g_bk ?_ | refine g_b ?_ | refine g_sk ?_ | refine g_cT rfl ?_ | refine g_cF rfl ?_ | refine g_x rfl ?_ | refine g_lb ?_))
  refine g_ef rfl (ef_bl (rs := [sv one', sv two']) hS rfl fun g w hS => ?_)
  refine g_cl rfl rfl (c55 (l := [one', two']) hS (hS.b 3 rfl).r (by decide) fun w S3 vt hS => ?_)
  refine g_cl rfl rfl (c46 (BsR.rdl hS 1 rfl) (BsR.rdl hS 4 rfl) (by rw [f2b.1]; decide) hS fun w hS => ?_)
  rw [decide_eq_true f2b.1]
  have hS : St w0 (fun _ => False) w [JouR S j2 d 2 6 xK0, DevR S1 d xA2.2.1] := hS.sel [0, 2] rfl rfl
  (repeat (first | refine g_sq ?_ | refine g_rg ?_ | refine g_r0 ?_ | refine g_ok rfl rfl ?_ | refine g_no rfl ?_ | refine g_no0 rfl ?_ | refine g_bk ?_ | refine g_b ?_ | refine g_sk ?_ | refine g_cT rfl ?_ | refine g_cF rfl ?_ | refine g_x rfl ?_ | refine g_lb ?_))
  refine g_cl rfl rfl (c49 hS ?_)
  rw [f2b.2.1]
  (repeat (first | refine g_sq ?_ | refine g_rg ?_ | refine g_r0 ?_ | refine g_ok rfl rfl ?_ | refine g_no rfl ?_ | refine g_no0 rfl ?_ | refine g_bk ?_ | refine g_b ?_ | refine g_sk ?_ | refine g_cT rfl ?_ | refine g_cF rfl ?_ | refine g_x rfl ?_ | refine g_lb ?_))
  refine g_cl rfl rfl (c44 hS fun w S hS => ?_)
  rw [f2b.2.2.1]
  (repeat (first | refine g_sq ?_ | refine g_rg ?_ | refine g_r0 ?_ | refine g_ok rfl rfl ?_ | refine g_no rfl ?_ | refine g_no0 rfl ?_ | refine g_bk ?_ | refine g_b ?_ | refine g_sk ?_ | refine g_cT rfl ?_ | refine g_cF rfl ?_ | refine g_x rfl ?_ | refine g_lb ?_))
  refine g_cl rfl rfl (c45 hS ?_)
  rw [f2b.2.2.2.1]
  (repeat (first | refine g_sq ?_ | refine g_rg ?_ | refine g_r0 ?_ | refine g_ok rfl rfl ?_ | refine g_no rfl ?_ | refine g_no0 rfl ?_ | refine g_bk ?_ | refine g_b ?_ | refine g_sk ?_ | refine g_cT rfl ?_ | refine g_cF rfl ?_ | refine g_x rfl ?_ | refine g_lb ?_))
  refine g_cl rfl rfl (c43 hS fun w S hS => ?_)
  rw [f2b.2.2.2.2]
  (repeat (first | refine g_sq ?_ | refine g_rg ?_ | refine g_r0 ?_ | refine g_ok rfl rfl ?_ | refine g_no rfl ?_ | refine g_no0 rfl ?_ | refine g_bk ?_ | refine g_b ?_ | refine g_sk ?_ | refine g_cT rfl ?_ | refine g_cF rfl ?_ | refine g_x rfl ?_ | refine g_lb ?_))
  refine g_cl rfl rfl (c41 hS fun w S hS => ?_)
  rw [f2b.2.2.2.2]
  (repeat (first | refine g_sq ?_ | refine g_rg ?_ | refine g_r0 ?_ | refine g_ok rfl rfl ?_ | refine g_no rfl ?_ | refine g_no0 rfl ?_ | refine g_bk ?_ | refine g_b ?_ | refine g_sk ?_ | refine g_cT rfl ?_ | refine g_cF rfl ?_ | refine g_x rfl ?_ | refine g_lb ?_))
  have hS := hS.sel [1, 0] rfl rfl
  refine g_cl rfl rfl (c32 (f := ⟨4, 0, 100⟩) hS fun w S1 hS => ?_)
  have hS : St w0 (fun _ => False) w [DevR S1 d xD3, JouR S j2 d 2 6 xK0] := hS
  have hS := hS.sel [1, 0] rfl rfl
  (repeat (first | refine g_sq ?_ | refine g_rg ?_ | refine g_r0 ?_ | refine g_ok rfl rfl ?_ | refine g_no rfl ?_ | refine g_no0 rfl ?_ | refine g_bk ?_ | refine g_b ?_ | refine g_sk ?_ | refine g_cT rfl ?_ | refine g_cF rfl ?_ | refine g_x rfl ?_ | refine g_lb ?_))
  refine g_ef rfl (ef_bl (rs := [.int .u8 115, .int .u8 105, .int .u8 120]) hS rfl fun g w hS => ?_)
  refine g_ef rfl (ef_mb hS 2 rfl rfl fun w hS => ?_)
  refine g_cl rfl rfl (c42F (bs := six') (i := 2) (by decide) (by decide +kernel) hS (by decide) rfl fun w S S1 hS => ?_)
  have hS : St w0 (fun _ => False) w [JouR S j2 d 2 6 xA3.1, DevR S1 d xA3.2.1] := hS.sel [0, 1] rfl rfl
  rw [show (xK0.appendF 2 6 xD3 six').2.2 = 141 from f3]
  (repeat (first | refine g_sq ?_ | refine g_rg ?_ | refine g_r0 ?_ | refine g_ok rfl rfl ?_ | refine g_no rfl ?_ | refine g_no0 rfl ?_ | refine g_bk ?_ | refine g_b ?_ | refine g_sk ?_ | refine g_cT rfl ?_ | refine g_cF rfl ?_ | refine g_x rfl ?_ | refine g_lb ?_))
  refine g_ef rfl (ef_bl (rs := [.int .u8 115, .int .u8 105, .int .u8 120]) hS rfl fun g w hS => ?_)
  refine g_ef rfl (ef_mb hS 2 rfl rfl fun w hS => ?_)
  refine g_cl rfl rfl (c42F (bs := six') (i := 2) (by decide) (by decide +kernel) hS (by decide) rfl fun w S S1 hS => ?_)
  have hS : St w0 (fun _ => False) w [DevR S1 d xA4.2.1] := hS.sel [1] rfl rfl
  rw [show (xA3.1.appendF 2 6 xA3.2.1 six').2.2 = 141 from f4.1]
  (repeat (first | refine g_sq ?_ | refine g_rg ?_ | refine g_r0 ?_ | refine g_ok rfl rfl ?_ | refine g_no rfl ?_ | refine g_no0 rfl ?_ | refine g_bk ?_ | refine g_b ?_ | refine g_sk ?_ | refine g_cT rfl ?_ | refine g_cF rfl ?_ | refine g_x rfl ?_ | refine g_lb ?_))
  refine g_cl rfl rfl (c39 (fr := 2) (bk := 6) (by rw [f4.2.2]; decide) hS (fun hb => absurd hb (len10 f4.2.2)) (fun _ hd => ?_) (fun _ hd => absurd (hd.symm.trans f4.2.1) (by decide)))
  (repeat (first | refine g_sq ?_ | refine g_rg ?_ | refine g_r0 ?_ | refine g_ok rfl rfl ?_ | refine g_no rfl ?_ | refine g_no0 rfl ?_ | refine g_bk ?_ | refine g_b ?_ | refine g_sk ?_ | refine g_cT rfl ?_ | refine g_cF rfl ?_ | refine g_x rfl ?_ | refine g_lb ?_))
  refine g_cl rfl rfl (c29 hS fun w S1 hS => ?_)
  have hS : St w0 (fun _ => False) w [DevR S1 d xD5] := hS
  (repeat (first | refine g_sq ?_ | refine g_rg ?_ | refine g_r0 ?_ | refine g_ok rfl rfl ?_ | refine g_no rfl ?_ | refine g_no0 rfl ?_ | refine g_bk ?_ | refine g_b ?_ | refine g_sk ?_ | refine g_cT rfl ?_ | refine g_cF rfl ?_ | refine g_x rfl ?_ | refine g_lb ?_))
  refine g_cl rfl rfl (c39 (fr := 2) (bk := 6) (by show xA4.2.1.cells.length ≤ _; rw [f4.2.2]; decide) hS (fun hb => absurd hb (len10 (D := xD5) f4.2.2)) (fun _ hd => absurd hd (by show ¬ (false = true); decide)) (fun _ _ w S S1 j3 hS => ?_))
  have hS : St w0 (fun _ => False) w [JouR S j3 d 2 6 xM0, DevR S1 d xD5] := hS
  (repeat (first | refine g_sq ?_ | refine g_rg ?_ | refine g_r0 ?_ | refine g_ok rfl rfl ?_ | refine g_no rfl ?_ | refine g_no0 rfl ?_ | refine g_bk ?_ | refine g_b ?_ | refine g_sk ?_ | refine g_cT rfl ?_ | refine g_cF rfl ?_ | refine g_x rfl ?_ | refine g_lb ?_))
  refine g_cl rfl rfl (c47 hS fun w S S2 vg hS => ?_)
  (repeat (first | refine g_sq ?_ | refine g_rg ?_ | refine g_r0 ?_ | refine g_ok rfl rfl ?_ | refine g_no rfl ?_ | refine g_no0 rfl ?_ | refine g_bk ?_ | refine g_b ?_ | refine g_sk ?_ | refine g_cT rfl ?_ | refine g_cF rfl ?_ | refine g_x rfl ?_ | refine g_lb ?_))
  refine g_ef rfl (ef_bl (rs := [sv one', sv two']) hS rfl fun g w hS => ?_)
  refine g_cl rfl rfl (c55 (l := [one', two']) hS (hS.b 3 rfl).r (by decide) fun w S3 vt hS => ?_)
  refine g_cl rfl rfl (c46 (BsR.rdl hS 1 rfl) (BsR.rdl hS 4 rfl) (by rw [f5.1]; decide) hS fun w hS => ?_)
  rw [decide_eq_true f5.1]
  have hS : St w0 (fun _ => False) w [JouR S j3 d 2 6 xM0, DevR S1 d xD5] := hS.sel [0, 2] rfl rfl
  (repeat (first | refine g_sq ?_ | refine g_rg ?_ | refine g_r0 ?_ | refine g_ok rfl rfl ?_ | refine g_no rfl ?_ | refine g_no0 rfl ?_ | refine g_bk ?_ | refine g_b ?_ | refine g_sk ?_ | refine g_cT rfl ?_ | refine g_cF rfl ?_ | refine g_x rfl ?_ | refine g_lb ?_))
  refine g_cl rfl rfl (c45 hS ?_)
  rw [f5.2]
  (repeat (first | refine g_sq ?_ | refine g_rg ?_ | refine g_r0 ?_ | refine g_ok rfl rfl ?_ | refine g_no rfl ?_ | refine g_no0 rfl ?_ | refine g_bk ?_ | refine g_b ?_ | refine g_sk ?_ | refine g_cT rfl ?_ | refine g_cF rfl ?_ | refine g_x rfl ?_ | refine g_lb ?_))
  have hS := hS.sel [1, 0] rfl rfl
  refine g_cl rfl rfl (c32 (f := ⟨4, 0, 128⟩) hS fun w S1 hS => ?_)
  have hS : St w0 (fun _ => False) w [DevR S1 d xD6, JouR S j3 d 2 6 xM0] := hS
  have hS := hS.sel [1, 0] rfl rfl
  (repeat (first | refine g_sq ?_ | refine g_rg ?_ | refine g_r0 ?_ | refine g_ok rfl rfl ?_ | refine g_no rfl ?_ | refine g_no0 rfl ?_ | refine g_bk ?_ | refine g_b ?_ | refine g_sk ?_ | refine g_cT rfl ?_ | refine g_cF rfl ?_ | refine g_x rfl ?_ | refine g_lb ?_))
  refine g_ef rfl (ef_bl (rs := [.int .u8 115, .int .u8 105, .int .u8 120]) hS rfl fun g w hS => ?_)
  refine g_ef rfl (ef_mb hS 2 rfl rfl fun w hS => ?_)
  refine g_cl rfl rfl (c42F (bs := six') (i := 2) (by decide) (by decide +kernel) hS (by decide) rfl fun w S S1 hS => ?_)
  have hS : St w0 (fun _ => False) w [DevR S1 d xA5.2.1] := hS.sel [1] rfl rfl
  rw [show (xM0.appendF 2 6 xD6 six').2.2 = 141 from f6.1]
  (repeat (first | refine g_sq ?_ | refine g_rg ?_ | refine g_r0 ?_ | refine g_ok rfl rfl ?_ | refine g_no rfl ?_ | refine g_no0 rfl ?_ | refine g_bk ?_ | refine g_b ?_ | refine g_sk ?_ | refine g_cT rfl ?_ | refine g_cF rfl ?_ | refine g_x rfl ?_ | refine g_lb ?_))
  refine g_cl rfl rfl (c29 hS fun w S1 hS => ?_)
  have hS : St w0 (fun _ => False) w [DevR S1 d xD8] := hS
  (repeat (first | refine g_sq ?_ | refine g_rg ?_ | refine g_r0 ?_ | refine g_ok rfl rfl ?_ | refine g_no rfl ?_ | refine g_no0 rfl ?_ | refine g_bk ?_ | refine g_b ?_ | refine g_sk ?_ | refine g_cT rfl ?_ | refine g_cF rfl ?_ | refine g_x rfl ?_ | refine g_lb ?_))
  refine g_cl rfl rfl (c39 (fr := 2) (bk := 6) (by show xA5.2.1.cells.length ≤ _; rw [f6.2]; decide) hS (fun hb => absurd hb (len10 (D := xD8) f6.2)) (fun _ hd => absurd hd (by show ¬ (false = true); decide)) (fun _ _ w S S1 j4 hS => ?_))
  have hS : St w0 (fun _ => False) w [JouR S j4 d 2 6 xN0, DevR S1 d xD8] := hS
  (repeat (first | refine g_sq ?_ | refine g_rg ?_ | refine g_r0 ?_ | refine g_ok rfl rfl ?_ | refine g_no rfl ?_ | refine g_no0 rfl ?_ | refine g_bk ?_ | refine g_b ?_ | refine g_sk ?_ | refine g_cT rfl ?_ | refine g_cF rfl ?_ | refine g_x rfl ?_ | refine g_lb ?_))
  refine g_cl rfl rfl (c47 hS fun w S S2 vg hS => ?_)
  (repeat (first | refine g_sq ?_ | refine g_rg ?_ | refine g_r0 ?_ | refine g_ok rfl rfl ?_ | refine g_no rfl ?_ | refine g_no0 rfl ?_ | refine g_bk ?_ | refine g_b ?_ | refine g_sk ?_ | refine g_cT rfl ?_ | refine g_cF rfl ?_ | refine g_x rfl ?_ | refine g_lb ?_))
  refine g_ef rfl (ef_bl (rs := [sv one', sv two', sv six']) hS rfl fun g w hS => ?_)
  refine g_cl rfl rfl (c55 (l := [one', two', six']) hS (hS.b 3 rfl).r (by decide) fun w S3 vt hS => ?_)
  refine g_cl rfl rfl (c46 (BsR.rdl hS 1 rfl) (BsR.rdl hS 4 rfl) (by rw [f7.1]; decide) hS fun w hS => ?_)
  rw [decide_eq_true f7.1]
  have hS : St w0 (fun _ => False) w [JouR S j4 d 2 6 xN0, DevR S1 d xD8] := hS.sel [0, 2] rfl rfl
  (repeat (first | refine g_sq ?_ | refine g_rg ?_ | refine g_r0 ?_ | refine g_ok rfl rfl ?_ | refine g_no rfl ?_ | refine g_no0 rfl ?_ | refine g_bk ?_ | refine g_b ?_ | refine g_sk ?_ | refine g_cT rfl ?_ | refine g_cF rfl ?_ | refine g_x rfl ?_ | refine g_lb ?_))
  refine g_cl rfl rfl (c44 hS fun w S hS => ?_)
  rw [f7.2.1]
  (repeat (first | refine g_sq ?_ | refine g_rg ?_ | refine g_r0 ?_ | refine g_ok rfl rfl ?_ | refine g_no rfl ?_ | refine g_no0 rfl ?_ | refine g_bk ?_ | refine g_b ?_ | refine g_sk ?_ | refine g_cT rfl ?_ | refine g_cF rfl ?_ | refine g_x rfl ?_ | refine g_lb ?_))
  refine g_cl rfl rfl (c41 hS fun w S hS => ?_)
  rw [f7.2.2.1]
  (repeat (first | refine g_sq ?_ | refine g_rg ?_ | refine g_r0 ?_ | refine g_ok rfl rfl ?_ | refine g_no rfl ?_ | refine g_no0 rfl ?_ | refine g_bk ?_ | refine g_b ?_ | refine g_sk ?_ | refine g_cT rfl ?_ | refine g_cF rfl ?_ | refine g_x rfl ?_ | refine g_lb ?_))
  refine g_cl rfl rfl (c48 (n := 3) hS (fun _ => ?_) (fun hn => absurd (.inl (by rw [f7.2.2.2]; decide)) hn))
  (repeat (first | refine g_sq ?_ | refine g_rg ?_ | refine g_r0 ?_ | refine g_ok rfl rfl ?_ | refine g_no rfl ?_ | refine g_no0 rfl ?_ | refine g_bk ?_ | refine g_b ?_ | refine g_sk ?_ | refine g_cT rfl ?_ | refine g_cF rfl ?_ | refine g_x rfl ?_ | refine g_lb ?_))
  refine g_cl rfl rfl (c48 (n := 4611686018427387905) hS (fun _ => ?_) (fun hn => absurd (.inr (by decide)) hn))
  (repeat (first | refine g_sq ?_ | refine g_rg ?_ | refine g_r0 ?_ | refine g_ok rfl rfl ?_ | refine g_no rfl ?_ | refine g_no0 rfl ?_ | refine g_bk ?_ | refine g_b ?_ | refine g_sk ?_ | refine g_cT rfl ?_ | refine g_cF rfl ?_ | refine g_x rfl ?_ | refine g_lb ?_))
  refine g_cl rfl rfl (c48 (n := 9) hS (fun hn => absurd hn (by rw [f7.2.2.2]; decide)) (fun _ w S hS => ?_))
  have hS : St w0 (fun _ => False) w [JouR S j4 d 2 6 xN1, DevR S1 d xD8] := hS
  (repeat (first | refine g_sq ?_ | refine g_rg ?_ | refine g_r0 ?_ | refine g_ok rfl rfl ?_ | refine g_no rfl ?_ | refine g_no0 rfl ?_ | refine g_bk ?_ | refine g_b ?_ | refine g_sk ?_ | refine g_cT rfl ?_ | refine g_cF rfl ?_ | refine g_x rfl ?_ | refine g_lb ?_))
  refine g_cl rfl rfl (c47 hS fun w S S2 vg hS => ?_)
  obtain ⟨ag, cg, eg⟩ := (BsR.rdl hS 1 rfl).form
  have eg : vg = .slice ag 0 cg := eg
  subst eg
  have hS : St w0 (fun _ => False) w [JouR S j4 d 2 6 xN1, DevR S1 d xD8] := hS.sel [0, 2] rfl rfl
  (repeat (first | refine g_sq ?_ | refine g_rg ?_ | refine g_r0 ?_ | refine g_ok rfl rfl ?_ | refine g_no rfl ?_ | refine g_no0 rfl ?_ | refine g_bk ?_ | refine g_b ?_ | refine g_sk ?_ | refine g_cT rfl ?_ | refine g_cF rfl ?_ | refine g_x rfl ?_ | refine g_lb ?_))
  refine g_cl rfl rfl (c49 hS ?_)
  rw [show xN1.first = 0 from rfl]
  (repeat (first | refine g_sq ?_ | refine g_rg ?_ | refine g_r0 ?_ | refine g_ok rfl rfl ?_ | refine g_no rfl ?_ | refine g_no0 rfl ?_ | refine g_bk ?_ | refine g_b ?_ | refine g_sk ?_ | refine g_cT rfl ?_ | refine g_cF rfl ?_ | refine g_x rfl ?_ | refine g_lb ?_))
  refine g_cl rfl rfl (c45 hS ?_)
  rw [show xN1.next = 9 from rfl]
  (repeat (first | refine g_sq ?_ | refine g_rg ?_ | refine g_r0 ?_ | refine g_ok rfl rfl ?_ | refine g_no rfl ?_ | refine g_no0 rfl ?_ | refine g_bk ?_ | refine g_b ?_ | refine g_sk ?_ | refine g_cT rfl ?_ | refine g_cF rfl ?_ | refine g_x rfl ?_ | refine g_lb ?_))
  refine g_cl rfl rfl (c41 hS fun w S hS => ?_)
  rw [show xN1.used = 0 from rfl]
  (repeat (first | refine g_sq ?_ | refine g_rg ?_ | refine g_r0 ?_ | refine g_ok rfl rfl ?_ | refine g_no rfl ?_ | refine g_no0 rfl ?_ | refine g_bk ?_ | refine g_b ?_ | refine g_sk ?_ | refine g_cT rfl ?_ | refine g_cF rfl ?_ | refine g_x rfl ?_ | refine g_lb ?_))
  refine g_ef rfl (ef_bl (rs := [.int .u8 110, .int .u8 101, .int .u8 119]) hS rfl fun g w hS => ?_)
  refine g_ef rfl (ef_mb hS 2 rfl rfl fun w hS => ?_)
  refine g_cl rfl rfl (c42F (bs := new') (i := 2) (by decide) (by decide +kernel) hS (by decide) rfl fun w S S1 hS => ?_)
  have hS : St w0 (fun _ => False) w [DevR S1 d xA6.2.1] := hS.sel [1] rfl rfl
  rw [show (xN1.appendF 2 6 xD8 new').2.2 = 0 from f8.1]
  (repeat (first | refine g_sq ?_ | refine g_rg ?_ | refine g_r0 ?_ | refine g_ok rfl rfl ?_ | refine g_no rfl ?_ | refine g_no0 rfl ?_ | refine g_bk ?_ | refine g_b ?_ | refine g_sk ?_ | refine g_cT rfl ?_ | refine g_cF rfl ?_ | refine g_x rfl ?_ | refine g_lb ?_))
  refine g_cl rfl rfl (c39 (fr := 2) (bk := 6) (by rw [f8.2.2]; decide) hS (fun hb => absurd hb (len10 f8.2.2)) (fun _ hd => absurd (f8.2.1.symm.trans hd) (by decide)) (fun _ _ w S S1 j5 hS => ?_))
  have hS : St w0 (fun _ => False) w [JouR S j5 d 2 6 xQ0, DevR S1 d xA6.2.1] := hS
  (repeat (first | refine g_sq ?_ | refine g_rg ?_ | refine g_r0 ?_ | refine g_ok rfl rfl ?_ | refine g_no rfl ?_ | refine g_no0 rfl ?_ | refine g_bk ?_ | refine g_b ?_ | refine g_sk ?_ | refine g_cT rfl ?_ | refine g_cF rfl ?_ | refine g_x rfl ?_ | refine g_lb ?_))
  refine g_cl rfl rfl (c47 hS fun w S S2 vg hS => ?_)
  (repeat (first | refine g_sq ?_ | refine g_rg ?_ | refine g_r0 ?_ | refine g_ok rfl rfl ?_ | refine g_no rfl ?_ | refine g_no0 rfl ?_ | refine g_bk ?_ | refine g_b ?_ | refine g_sk ?_ | refine g_cT rfl ?_ | refine g_cF rfl ?_ | refine g_x rfl ?_ | refine g_lb ?_))
  refine g_ef rfl (ef_bl (rs := [sv new']) hS rfl fun g w hS => ?_)
  refine g_cl rfl rfl (c55 (l := [new']) hS (hS.b 3 rfl).r (by decide) fun w S3 vt hS => ?_)
  refine g_cl rfl rfl (c46 (BsR.rdl hS 1 rfl) (BsR.rdl hS 4 rfl) (by rw [f9.1]; decide) hS fun w hS => ?_)
  rw [decide_eq_true f9.1]
  have hS : St w0 (fun _ => False) w [JouR S j5 d 2 6 xQ0, DevR S1 d xA6.2.1] := hS.sel [0, 2] rfl rfl
  (repeat (first | refine g_sq ?_ | refine g_rg ?_ | refine g_r0 ?_ | refine g_ok rfl rfl ?_ | refine g_no rfl ?_ | refine g_no0 rfl ?_ | refine g_bk ?_ | refine g_b ?_ | refine g_sk ?_ | refine g_cT rfl ?_ | refine g_cF rfl ?_ | refine g_x rfl ?_ | refine g_lb ?_))
  refine g_cl rfl rfl (c49 hS ?_)
  rw [f9.2.1]
  (repeat (first | refine g_sq ?_ | refine g_rg ?_ | refine g_r0 ?_ | refine g_ok rfl rfl ?_ | refine g_no rfl ?_ | refine g_no0 rfl ?_ | refine g_bk ?_ | refine g_b ?_ | refine g_sk ?_ | refine g_cT rfl ?_ | refine g_cF rfl ?_ | refine g_x rfl ?_ | refine g_lb ?_))
  refine g_cl rfl rfl (c45 hS ?_)
  rw [f9.2.2]
  have hS : St w0 (fun _ => False) w [DevR S1 d xA6.2.1] := hS.sel [1] rfl rfl
  have h10 : xA6.2.1.cells.length = 10 := f8.2.2
  generalize xA6.2.1 = DD at hS h10
  (repeat (first | refine g_sq ?_ | refine g_rg ?_ | refine g_r0 ?_ | refine g_ok rfl rfl ?_ | refine g_no rfl ?_ | refine g_no0 rfl ?_ | refine g_bk ?_ | refine g_b ?_ | refine g_sk ?_ | refine g_cT rfl ?_ | refine g_cF rfl ?_ | refine g_x rfl ?_ | refine g_lb ?_))
  refine g_ef rfl (ef_bl (rs := [.int .i64 (-1), .int .i64 4, .int .i64 0, .int .i64 1, .int .i64 0, .int .i64 11, .int .i64 9, .int .i64 2, .int .i64 0, .int .i64 0]) hS rfl fun gb w hS => ?_)
  (repeat (first | refine g_sq ?_ | refine g_rg ?_ | refine g_r0 ?_ | refine g_ok rfl rfl ?_ | refine g_no rfl ?_ | refine g_no0 rfl ?_ | refine g_bk ?_ | refine g_b ?_ | refine g_sk ?_ | refine g_cT rfl ?_ | refine g_cF rfl ?_ | refine g_x rfl ?_ | refine g_lb ?_))
  refine g_lp (ι := Nat) (fun k => [(1, dp d), (9, .bool true), (16, .bool true), (20, .bool true), (28, .bool true), (29, .int .i64 k), (269, .slice (some ⟨gb, 0, none⟩) 5 5), (270, .int .i64 5), (271, .int .i64 k)])
    (fun k w => k ≤ 5 ∧ St w0 (fun _ => False) w [DevR S1 d DD, cel gb [.int .i64 (-1), .int .i64 4, .int .i64 0, .int .i64 1, .int .i64 0, .int .i64 11, .int .i64 9, .int .i64 2, .int .i64 0, .int .i64 0] 90]) (fun k => 5 - k) 0 ⟨rfl, rfl, rfl, rfl, rfl, rfl, rfl, rfl, rfl, trivial⟩ ⟨Nat.zero_le _, hS⟩ ?_
  clear hS
  rintro k w ⟨hk, hS⟩
  (repeat (first | refine g_sq ?_ | refine g_rg ?_ | refine g_r0 ?_ | refine g_ok rfl rfl ?_ | refine g_no rfl ?_ | refine g_no0 rfl ?_ | refine g_bk ?_ | refine g_b ?_ | refine g_sk ?_ | refine g_cT rfl ?_ | refine g_cF rfl ?_ | refine g_x rfl ?_ | refine g_lb ?_))
  refine g_cd rfl (fun hc => ?_) (fun hc => ?_)
  all_goals simp only [cmv, decide_eq_true_eq, decide_eq_false_iff_not] at hc
  · have hp : ∃ x y : Int, List.take 2 (List.drop (0 + k * 2) [Value.int .i64 (-1), .int .i64 4, .int .i64 0, .int .i64 1, .int .i64 0, .int .i64 11, .int .i64 9, .int .i64 2, .int .i64 0, .int .i64 0]) = [.int .i64 x, .int .i64 y] ∧ badA DD x y := by
      have : k = 0 ∨ k = 1 ∨ k = 2 ∨ k = 3 ∨ k = 4 := by omega
      rcases this with rfl | rfl | rfl | rfl | rfl
      · exact ⟨_, _, rfl, by unfold badA; omega⟩
      · exact ⟨_, _, rfl, by unfold badA; omega⟩
      · exact ⟨_, _, rfl, by unfold badA; omega⟩
      · exact ⟨_, _, rfl, by unfold badA; omega⟩
      · exact ⟨_, _, rfl, by unfold badA; omega⟩
    obtain ⟨x, y, exy, hbad⟩ := hp
    (repeat (first | refine g_sq ?_ | refine g_rg ?_ | refine g_r0 ?_ | refine g_ok rfl rfl ?_ | refine g_no rfl ?_ | refine g_no0 rfl ?_ | refine g_bk ?_ | refine g_b ?_ | refine g_sk ?_ | refine g_cT rfl ?_ | refine g_cF rfl ?_ | refine g_x rfl ?_ | refine g_lb ?_))
    refine g_rq rfl rfl ⟨by omega, by omega⟩ ?_
    refine g_lm rfl rfl (hS.b 1 rfl) (by show 0 + k * 2 + 2 ≤ 10; omega) ?_
    rw [show ((k : Int).toNat) = k from rfl, exy]
    refine g_ef rfl (ef_al hS fun g31 w hS => ?_)
    refine g_ef0 rfl (ef_st hS 2 rfl rfl rfl rfl (Nat.le_of_ble_eq_true rfl) rfl fun w hS => ?_)
    have hS : St w0 (fun _ => False) w [DevR S1 d DD, cel gb [.int .i64 (-1), .int .i64 4, .int .i64 0, .int .i64 1, .int .i64 0, .int .i64 11, .int .i64 9, .int .i64 2, .int .i64 0, .int .i64 0] 90, cel g31 [.int .i64 x, .int .i64 y] 90] := hS
    (repeat (first | refine g_sq ?_ | refine g_rg ?_ | refine g_r0 ?_ | refine g_ok rfl rfl ?_ | refine g_no rfl ?_ | refine g_no0 rfl ?_ | refine g_bk ?_ | refine g_b ?_ | refine g_sk ?_ | refine g_cT rfl ?_ | refine g_cF rfl ?_ | refine g_x rfl ?_ | refine g_lb ?_))
    refine g_rq rfl rfl ⟨by decide, by decide⟩ ?_
    refine g_l1 rfl rfl (hS.b  2 rfl) rfl ?_
    refine g_rq rfl rfl ⟨by decide, by decide⟩ ?_
    refine g_l1 rfl rfl (hS.b  2 rfl) rfl ?_
    refine g_cl rfl rfl (c39 (by omega) hS (fun _ => ?_) (fun hb _ => absurd hbad hb) (fun hb _ => absurd hbad hb))
    (repeat (first | refine g_sq ?_ | refine g_rg ?_ | refine g_r0 ?_ | refine g_ok rfl rfl ?_ | refine g_no rfl ?_ | refine g_no0 rfl ?_ | refine g_bk ?_ | refine g_b ?_ | refine g_sk ?_ | refine g_cT rfl ?_ | refine g_cF rfl ?_ | refine g_x rfl ?_ | refine g_lb ?_))
    refine g_rq rfl rfl (in64 (by simp only [arv]; omega)) ?_
    (repeat (first | refine g_sq ?_ | refine g_rg ?_ | refine g_r0 ?_ | refine g_ok rfl rfl ?_ | refine g_no rfl ?_ | refine g_no0 rfl ?_ | refine g_bk ?_ | refine g_b ?_ | refine g_sk ?_ | refine g_cT rfl ?_ | refine g_cF rfl ?_ | refine g_x rfl ?_ | refine g_lb ?_))
    refine g_rq rfl rfl (in64 (by simp only [arv]; omega)) ?_
    (repeat (first | refine g_sq ?_ | refine g_rg ?_ | refine g_r0 ?_ | refine g_ok rfl rfl ?_ | refine g_no rfl ?_ | refine g_no0 rfl ?_ | refine g_bk ?_ | refine g_b ?_ | refine g_sk ?_ | refine g_cT rfl ?_ | refine g_cF rfl ?_ | refine g_x rfl ?_ | refine g_lb ?_))
    exact g_l (k + 1) ⟨rfl, rfl, rfl, rfl, rfl, rfl, rfl, rfl, rfl, trivial⟩ ⟨by omega, hS.sel [0, 1] rfl rfl⟩ (by omega)
  · have e : k = 5 := by omega
    subst e
    have hp : NoDev (.pointer none) [DevR S1 d DD, cel gb [Value.int .i64 (-1), .int .i64 4, .int .i64 0, .int .i64 1, .int .i64 0, .int .i64 11, .int .i64 9, .int .i64 2, .int .i64 0, .int .i64 0] 90] := .inl rfl
    (repeat (first | refine g_sq ?_ | refine g_rg ?_ | refine g_r0 ?_ | refine g_ok rfl rfl ?_ | refine g_no rfl ?_ | refine g_no0 rfl ?_ | refine g_bk ?_ | refine g_b ?_ | refine g_sk ?_ | refine g_cT rfl ?_ | refine g_cF rfl ?_ | refine g_x rfl ?_ | refine g_lb ?_))
    refine g_cl rfl rfl (v39 hS hp ?_)
    (repeat (first | refine g_sq ?_ | refine g_rg ?_ | refine g_r0 ?_ | refine g_ok rfl rfl ?_ | refine g_no rfl ?_ | refine g_no0 rfl ?_ | refine g_bk ?_ | refine g_b ?_ | refine g_sk ?_ | refine g_cT rfl ?_ | refine g_cF rfl ?_ | refine g_x rfl ?_ | refine g_lb ?_))
    refine g_ef rfl (ef_al hS fun z w hS => ?_)
    have hS : St w0 (fun _ => False) w [cel z zjou 94] := hS.sel [2] rfl rfl
    have hz : NoJou (dp z) [cel z zjou 94] := .inr ⟨z, 0, rfl, rfl⟩
    have hn : NoJou (.pointer none) [cel z zjou 94] := .inl rfl
    (repeat (first | refine g_sq ?_ | refine g_rg ?_ | refine g_r0 ?_ | refine g_ok rfl rfl ?_ | refine g_no rfl ?_ | refine g_no0 rfl ?_ | refine g_bk ?_ | refine g_b ?_ | refine g_sk ?_ | refine g_cT rfl ?_ | refine g_cF rfl ?_ | refine g_x rfl ?_ | refine g_lb ?_))
    refine g_cl rfl rfl (c38 hS fun w hS => ?_)
    (repeat (first | refine g_sq ?_ | refine g_rg ?_ | refine g_r0 ?_ | refine g_ok rfl rfl ?_ | refine g_no rfl ?_ | refine g_no0 rfl ?_ | refine g_bk ?_ | refine g_b ?_ | refine g_sk ?_ | refine g_cT rfl ?_ | refine g_cF rfl ?_ | refine g_x rfl ?_ | refine g_lb ?_))
    refine g_cl rfl rfl (v42 hS hn ?_)
    (repeat (first | refine g_sq ?_ | refine g_rg ?_ | refine g_r0 ?_ | refine g_ok rfl rfl ?_ | refine g_no rfl ?_ | refine g_no0 rfl ?_ | refine g_bk ?_ | refine g_b ?_ | refine g_sk ?_ | refine g_cT rfl ?_ | refine g_cF rfl ?_ | refine g_x rfl ?_ | refine g_lb ?_))
    refine g_cl rfl rfl (v48 hS hz ?_)
    (repeat (first | refine g_sq ?_ | refine g_rg ?_ | refine g_r0 ?_ | refine g_ok rfl rfl ?_ | refine g_no rfl ?_ | refine g_no0 rfl ?_ | refine g_bk ?_ | refine g_b ?_ | refine g_sk ?_ | refine g_cT rfl ?_ | refine g_cF rfl ?_ | refine g_x rfl ?_ | refine g_lb ?_))
    refine g_cl rfl rfl (v47 hS hn ?_)
    (repeat (first | refine g_sq ?_ | refine g_rg ?_ | refine g_r0 ?_ | refine g_ok rfl rfl ?_ | refine g_no rfl ?_ | refine g_no0 rfl ?_ | refine g_bk ?_ | refine g_b ?_ | refine g_sk ?_ | refine g_cT rfl ?_ | refine g_cF rfl ?_ | refine g_x rfl ?_ | refine g_lb ?_))
    refine g_cl rfl rfl (v43 hS hn ?_)
    refine g_rq rfl rfl (in64 (by decide)) ?_
    refine g_cl rfl rfl (v41 hS hz ?_)
    refine g_rq rfl rfl (in64 (by decide)) ?_
    (repeat (first | refine g_sq ?_ | refine g_rg ?_ | refine g_r0 ?_ | refine g_ok rfl rfl ?_ | refine g_no rfl ?_ | refine g_no0 rfl ?_ | refine g_bk ?_ | refine g_b ?_ | refine g_sk ?_ | refine g_cT rfl ?_ | refine g_cF rfl ?_ | refine g_x rfl ?_ | refine g_lb ?_))
    refine g_cl rfl rfl (v49 hS hn ?_)
    refine g_cl rfl rfl (v44 hS hz ?_)
    refine g_rq rfl rfl (in64 (by decide)) ?_
    (repeat (first | refine g_sq ?_ | refine g_rg ?_ | refine g_r0 ?_ | refine g_ok rfl rfl ?_ | refine g_no rfl ?_ | refine g_no0 rfl ?_ | refine g_bk ?_ | refine g_b ?_ | refine g_sk ?_ | refine g_cT rfl ?_ | refine g_cF rfl ?_ | refine g_x rfl ?_ | refine g_lb ?_))
    refine g_cl rfl rfl (v45 hS hn ?_)
    refine g_rq rfl rfl (in64 (by decide)) ?_
    (repeat (first | refine g_sq ?_ | refine g_rg ?_ | refine g_r0 ?_ | refine g_ok rfl rfl ?_ | refine g_no rfl ?_ | refine g_no0 rfl ?_ | refine g_bk ?_ | refine g_b ?_ | refine g_sk ?_ | refine g_cT rfl ?_ | refine g_cF rfl ?_ | refine g_x rfl ?_ | refine g_lb ?_))
    exact g_ret (q_1 rfl (hfin hS))
end
end Go.Proofs.Ytegjocpjmfaigaa
