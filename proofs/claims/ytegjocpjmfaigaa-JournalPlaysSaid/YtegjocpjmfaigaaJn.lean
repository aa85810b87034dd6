/- The journal's first examples hold. -/
import Derived.Test.YtegjocpjmfaigaaJm
set_option linter.unusedSimpArgs false
set_option linter.unusedVariables false
namespace Go.Proofs.Ytegjocpjmfaigaa
open Go.En

def ja0 : Jou := ⟨[], 1, false⟩
def ja1 : Jou := ⟨[⟨1, [97, 98]⟩], 2, false⟩
def ja2 : Jou := ⟨[⟨1, [97, 98]⟩, ⟨2, List.replicate 119 0⟩], 3, false⟩
section
variable {w w0 : World} {S0 S S1 : Nat → Prop} {K : Value → World → Prop} {L : List Res}
set_option maxRecDepth 100000 in
theorem b38 (h : ∀ w', St w (fun _ => False) w' [] → K (.bool true) w') : CK Try.prog 38 [] w K := by
  have nilb : ∀ {w : World}, Rd (.slice none 0 0) 5 1 0 (bys []) w := fun {w} => .inl ⟨⟨none, rfl⟩, rfl, rfl⟩
  refine call_k Try.func38 k38 Try.ntmps38 (Nat.le_of_ble_eq_true rfl) ?_
  (repeat (first | refine g_sq ?_ | refine g_rg ?_ | refine g_r0 ?_ | refine g_ok rfl rfl ?_ | refine g_no rfl ?_ | refine g_no0 rfl ?_ | refine g_bk ?_ | refine g_b ?_ | refine g_sk ?_ | refine g_cT rfl ?_ | refine g_cF rfl ?_ | refine g_x rfl ?_ | refine g_lb ?_))
  refine g_cl rfl rfl (c18 (St.nil w (fun _ => False)) (fun hn => absurd ⟨by decide, by decide⟩ hn) (fun _ w1 S1 d hS => ?_))
  have hS : St w (fun _ => False) w1 [DevR S1 d (Dev.new 4)] := hS
  (repeat (first | refine g_sq ?_ | refine g_rg ?_ | refine g_r0 ?_ | refine g_ok rfl rfl ?_ | refine g_no rfl ?_ | refine g_no0 rfl ?_ | refine g_bk ?_ | refine g_b ?_ | refine g_sk ?_ | refine g_cT rfl ?_ | refine g_cF rfl ?_ | refine g_x rfl ?_ | refine g_lb ?_))
  refine g_cl rfl rfl (c39 (fr := 0) (bk := 4) (by decide) hS (fun hb => absurd hb (by unfold badA; decide)) (fun _ hd => absurd hd (by decide)) (fun _ _ w1 S S1 jb hS => ?_))
  have e0 : openJ (Dev.new 4) 0 4 = ja0 := open_new (Nat.le_refl _)
  have hS : St w (fun _ => False) w1 [JouR S jb d 0 4 (openJ (Dev.new 4) 0 4), DevR S1 d (Dev.new 4)] := hS
  rw [e0] at hS
  obtain ⟨D1, a1, c1, w1', l1, t1, _⟩ := append_calm (J := ja0) (D := Dev.new 4) (fr := 0) (bk := 4) (b := [97, 98]) (new_calm 4) (Dev.new_wf (by decide)) rfl (by decide) (by decide) (by decide) (by decide) (by decide)
  obtain ⟨D2, a2, c2, w2', l2, t2, _⟩ := append_calm (J := ja1) (D := D1) (fr := 0) (bk := 4) (b := List.replicate 119 0) c1 w1' rfl (by decide) (by decide) (by decide) (by rw [l1]; decide) (by rw [t1]; decide)
  have a3 : ja2.append 0 4 D2 [] = (ja2, D2, 150) := append_full rfl (by decide)
  have a1 : ja0.append 0 4 (Dev.new 4) [97, 98] = (ja1, D1, 0) := a1
  have a2 : ja1.append 0 4 D1 (List.replicate 119 0) = (ja2, D2, 0) := a2
  (repeat (first | refine g_sq ?_ | refine g_rg ?_ | refine g_r0 ?_ | refine g_ok rfl rfl ?_ | refine g_no rfl ?_ | refine g_no0 rfl ?_ | refine g_bk ?_ | refine g_b ?_ | refine g_sk ?_ | refine g_cT rfl ?_ | refine g_cF rfl ?_ | refine g_x rfl ?_ | refine g_lb ?_))
  refine g_cl rfl rfl (c45 hS ?_)
  (repeat (first | refine g_sq ?_ | refine g_rg ?_ | refine g_r0 ?_ | refine g_ok rfl rfl ?_ | refine g_no rfl ?_ | refine g_no0 rfl ?_ | refine g_bk ?_ | refine g_b ?_ | refine g_sk ?_ | refine g_cT rfl ?_ | refine g_cF rfl ?_ | refine g_x rfl ?_ | refine g_lb ?_))
  refine g_cl rfl rfl (c41 hS fun w1 S hS => ?_)
  (repeat (first | refine g_sq ?_ | refine g_rg ?_ | refine g_r0 ?_ | refine g_ok rfl rfl ?_ | refine g_no rfl ?_ | refine g_no0 rfl ?_ | refine g_bk ?_ | refine g_b ?_ | refine g_sk ?_ | refine g_cT rfl ?_ | refine g_cF rfl ?_ | refine g_x rfl ?_ | refine g_lb ?_))
  refine g_atx (ι := Unit) 1 (fun _ => [(2, .int .i64 0), (3, dp jb), (4, .int .i64 0), (5, .bool true), (6, .int .i64 0), (7, .int .i64 0), (8, .int .i64 150)]) (fun _ w' => ∃ S S1, St w (fun _ => False) w' [JouR S jb d 0 4 ja2, DevR S1 d D2]) rfl ?_ ?_
  · refine g_dr mixed ?_
    have hS := hS.drew
    have dis : ∀ {w' : World} {S S1 : Nat → Prop} {J : Jou} {D : Dev} {B : List Res} (i : Nat) {g : Nat} {l : List Value} {n c : Nat}, St w (fun _ => False) w' (JouR S jb d 0 4 J :: DevR S1 d D :: B) → 2 ≤ i → (JouR S jb d 0 4 J :: DevR S1 d D :: B)[i]? = some (cel g l 5) → ∀ x, vb (.slice (some ⟨g, 0, none⟩) n c) x → ¬ S x ∧ ¬ S1 x :=
      by
      intro w' S S1 J D B i g l n c hS hi hg x hx
      exact ⟨fun h => hS.dis 0 i _ _ rfl hg (by omega) x h hx.1, fun h => hS.dis 1 i _ _ rfl hg (by omega) x h hx.1⟩
    (repeat (first | refine d_ok rfl rfl rfl ?_ | refine d_no rfl rfl ?_))
    refine d_a2 ?_ (d_a1 ?_)
    · refine d_e rfl rfl ?_
      refine ef_bl (rs := [.int .u8 97, .int .u8 98]) hS rfl fun g w1 hS => ⟨rc_0, ?_⟩
      refine d_a2 ?_ (d_a1 ?_)
      · refine d_e rfl rfl ?_
        refine ef_mb hS 2 rfl rfl fun w1 hS => ⟨rc_0, ?_⟩
        refine d_a2 ?_ (d_a1 ?_)
        · refine d_cl rfl rfl rfl (c42 (bs := [97, 98]) (E := 5) (by decide) (by decide) (.inr ⟨g, 0, 2, _, rfl, Nat.le_refl _, Nat.le_refl _, rfl, (hS.b 2 rfl).r⟩) (dis 2 hS (by decide) rfl) hS fun w1 S S1 hS => ⟨rc_0, ?_⟩)
          rw [a1] at hS ⊢
          refine d_e rfl rfl ?_
          refine ef_ms hS rfl rfl (by decide) (by decide) (by decide) (by decide) fun g2 w1 hS => ⟨rc_0, ?_⟩
          refine d_cl rfl rfl rfl (c42 (bs := List.replicate 119 0) (E := 5) (D := D1) (by decide) (by rw [t1]; decide) (.inr ⟨g2, 0, 119, _, rfl, Nat.le_refl _, Nat.le_refl _, rfl, (hS.b 3 rfl).r⟩) (dis 3 hS (by decide) rfl) hS fun w1 S S1 hS => ⟨rc_0, ?_⟩)
          rw [a2] at hS ⊢
          refine d_cl rfl rfl rfl (c42 (bs := []) (E := 5) (D := D2) (by decide) (by rw [t2]; decide) nilb (fun x hx => by cases hx) hS fun w1 S S1 hS => ⟨rc_0, ?_⟩)
          rw [a3] at hS ⊢
          (repeat (first | refine d_ok rfl rfl rfl ?_ | refine d_no rfl rfl ?_))
          exact d_fin (g_jx () ⟨rfl, rfl, rfl, rfl, rfl, rfl, rfl, trivial⟩ ⟨S, S1, hS.sel [0, 1] rfl rfl⟩)
        · refine d_e rfl rfl ?_
          refine ef_ms hS rfl rfl (by decide) (by decide) (by decide) (by decide) fun g2 w1 hS => ⟨rc_0, ?_⟩
          refine d_cl rfl rfl rfl (c42 (bs := [97, 98]) (E := 5) (by decide) (by decide) (.inr ⟨g, 0, 2, _, rfl, Nat.le_refl _, Nat.le_refl _, rfl, (hS.b 2 rfl).r⟩) (dis 2 hS (by decide) rfl) hS fun w1 S S1 hS => ⟨rc_0, ?_⟩)
          rw [a1] at hS ⊢
          refine d_cl rfl rfl rfl (c42 (bs := List.replicate 119 0) (E := 5) (D := D1) (by decide) (by rw [t1]; decide) (.inr ⟨g2, 0, 119, _, rfl, Nat.le_refl _, Nat.le_refl _, rfl, (hS.b 3 rfl).r⟩) (dis 3 hS (by decide) rfl) hS fun w1 S S1 hS => ⟨rc_0, ?_⟩)
          rw [a2] at hS ⊢
          refine d_cl rfl rfl rfl (c42 (bs := []) (E := 5) (D := D2) (by decide) (by rw [t2]; decide) nilb (fun x hx => by cases hx) hS fun w1 S S1 hS => ⟨rc_0, ?_⟩)
          rw [a3] at hS ⊢
          (repeat (first | refine d_ok rfl rfl rfl ?_ | refine d_no rfl rfl ?_))
          exact d_fin (g_jx () ⟨rfl, rfl, rfl, rfl, rfl, rfl, rfl, trivial⟩ ⟨S, S1, hS.sel [0, 1] rfl rfl⟩)
      · refine d_e rfl rfl ?_
        refine ef_ms hS rfl rfl (by decide) (by decide) (by decide) (by decide) fun g2 w1 hS => ⟨rc_0, ?_⟩
        refine d_e rfl rfl ?_
        refine ef_mb hS 2 rfl rfl fun w1 hS => ⟨rc_0, ?_⟩
        refine d_cl rfl rfl rfl (c42 (bs := [97, 98]) (E := 5) (by decide) (by decide) (.inr ⟨g, 0, 2, _, rfl, Nat.le_refl _, Nat.le_refl _, rfl, (hS.b 2 rfl).r⟩) (dis 2 hS (by decide) rfl) hS fun w1 S S1 hS => ⟨rc_0, ?_⟩)
        rw [a1] at hS ⊢
        refine d_cl rfl rfl rfl (c42 (bs := List.replicate 119 0) (E := 5) (D := D1) (by decide) (by rw [t1]; decide) (.inr ⟨g2, 0, 119, _, rfl, Nat.le_refl _, Nat.le_refl _, rfl, (hS.b 3 rfl).r⟩) (dis 3 hS (by decide) rfl) hS fun w1 S S1 hS => ⟨rc_0, ?_⟩)
        rw [a2] at hS ⊢
        refine d_cl rfl rfl rfl (c42 (bs := []) (E := 5) (D := D2) (by decide) (by rw [t2]; decide) nilb (fun x hx => by cases hx) hS fun w1 S S1 hS => ⟨rc_0, ?_⟩)
        rw [a3] at hS ⊢
        (repeat (first | refine d_ok rfl rfl rfl ?_ | refine d_no rfl rfl ?_))
        exact d_fin (g_jx () ⟨rfl, rfl, rfl, rfl, rfl, rfl, rfl, trivial⟩ ⟨S, S1, hS.sel [0, 1] rfl rfl⟩)
    · refine d_e rfl rfl ?_
      refine ef_ms hS rfl rfl (by decide) (by decide) (by decide) (by decide) fun g2 w1 hS => ⟨rc_0, ?_⟩
      refine d_e rfl rfl ?_
      refine ef_bl (rs := [.int .u8 97, .int .u8 98]) hS rfl fun g w1 hS => ⟨rc_0, ?_⟩
      refine d_e rfl rfl ?_
      refine ef_mb hS 3 rfl rfl fun w1 hS => ⟨rc_0, ?_⟩
      refine d_cl rfl rfl rfl (c42 (bs := [97, 98]) (E := 5) (by decide) (by decide) (.inr ⟨g, 0, 2, _, rfl, Nat.le_refl _, Nat.le_refl _, rfl, (hS.b 3 rfl).r⟩) (dis 3 hS (by decide) rfl) hS fun w1 S S1 hS => ⟨rc_0, ?_⟩)
      rw [a1] at hS ⊢
      refine d_cl rfl rfl rfl (c42 (bs := List.replicate 119 0) (E := 5) (D := D1) (by decide) (by rw [t1]; decide) (.inr ⟨g2, 0, 119, _, rfl, Nat.le_refl _, Nat.le_refl _, rfl, (hS.b 2 rfl).r⟩) (dis 2 hS (by decide) rfl) hS fun w1 S S1 hS => ⟨rc_0, ?_⟩)
      rw [a2] at hS ⊢
      refine d_cl rfl rfl rfl (c42 (bs := []) (E := 5) (D := D2) (by decide) (by rw [t2]; decide) nilb (fun x hx => by cases hx) hS fun w1 S S1 hS => ⟨rc_0, ?_⟩)
      rw [a3] at hS ⊢
      (repeat (first | refine d_ok rfl rfl rfl ?_ | refine d_no rfl rfl ?_))
      exact d_fin (g_jx () ⟨rfl, rfl, rfl, rfl, rfl, rfl, rfl, trivial⟩ ⟨S, S1, hS.sel [0, 1] rfl rfl⟩)
  · clear hS
    rintro _ T w1 hT ⟨S, S1, hS⟩
    refine g_wkc hT ?_
    (repeat (first | refine g_sq ?_ | refine g_rg ?_ | refine g_r0 ?_ | refine g_ok rfl rfl ?_ | refine g_no rfl ?_ | refine g_no0 rfl ?_ | refine g_bk ?_ | refine g_b ?_ | refine g_sk ?_ | refine g_cT rfl ?_ | refine g_cF rfl ?_ | refine g_x rfl ?_ | refine g_lb ?_))
    refine g_cl rfl rfl (c49 hS ?_)
    (repeat (first | refine g_sq ?_ | refine g_rg ?_ | refine g_r0 ?_ | refine g_ok rfl rfl ?_ | refine g_no rfl ?_ | refine g_no0 rfl ?_ | refine g_bk ?_ | refine g_b ?_ | refine g_sk ?_ | refine g_cT rfl ?_ | refine g_cF rfl ?_ | refine g_x rfl ?_ | refine g_lb ?_))
    refine g_cl rfl rfl (c44 hS fun w1 S hS => ?_)
    (repeat (first | refine g_sq ?_ | refine g_rg ?_ | refine g_r0 ?_ | refine g_ok rfl rfl ?_ | refine g_no rfl ?_ | refine g_no0 rfl ?_ | refine g_bk ?_ | refine g_b ?_ | refine g_sk ?_ | refine g_cT rfl ?_ | refine g_cF rfl ?_ | refine g_x rfl ?_ | refine g_lb ?_))
    refine g_cl rfl rfl (c43 hS fun w1 S hS => ?_)
    (repeat (first | refine g_sq ?_ | refine g_rg ?_ | refine g_r0 ?_ | refine g_ok rfl rfl ?_ | refine g_no rfl ?_ | refine g_no0 rfl ?_ | refine g_bk ?_ | refine g_b ?_ | refine g_sk ?_ | refine g_cT rfl ?_ | refine g_cF rfl ?_ | refine g_x rfl ?_ | refine g_lb ?_))
    refine g_cl rfl rfl (c40 (n := 0) (by decide) ?_)
    (repeat (first | refine g_sq ?_ | refine g_rg ?_ | refine g_r0 ?_ | refine g_ok rfl rfl ?_ | refine g_no rfl ?_ | refine g_no0 rfl ?_ | refine g_bk ?_ | refine g_b ?_ | refine g_sk ?_ | refine g_cT rfl ?_ | refine g_cF rfl ?_ | refine g_x rfl ?_ | refine g_lb ?_))
    refine g_cl rfl rfl (c40 (n := 1) (by decide) ?_)
    (repeat (first | refine g_sq ?_ | refine g_rg ?_ | refine g_r0 ?_ | refine g_ok rfl rfl ?_ | refine g_no rfl ?_ | refine g_no0 rfl ?_ | refine g_bk ?_ | refine g_b ?_ | refine g_sk ?_ | refine g_cT rfl ?_ | refine g_cF rfl ?_ | refine g_x rfl ?_ | refine g_lb ?_))
    refine g_cl rfl rfl (c40 (n := 119) (by decide) ?_)
    (repeat (first | refine g_sq ?_ | refine g_rg ?_ | refine g_r0 ?_ | refine g_ok rfl rfl ?_ | refine g_no rfl ?_ | refine g_no0 rfl ?_ | refine g_bk ?_ | refine g_b ?_ | refine g_sk ?_ | refine g_cT rfl ?_ | refine g_cF rfl ?_ | refine g_x rfl ?_ | refine g_lb ?_))
    refine g_cl rfl rfl (c40 (n := 120) (by decide) ?_)
    (repeat (first | refine g_sq ?_ | refine g_rg ?_ | refine g_r0 ?_ | refine g_ok rfl rfl ?_ | refine g_no rfl ?_ | refine g_no0 rfl ?_ | refine g_bk ?_ | refine g_b ?_ | refine g_sk ?_ | refine g_cT rfl ?_ | refine g_cF rfl ?_ | refine g_x rfl ?_ | refine g_lb ?_))
    exact g_ret (q_1 rfl (h _ (hS.sel [] rfl rfl)))
theorem c38 (hS : St w0 S0 w L) (h : ∀ w', St w0 S0 w' L → K (.bool true) w') : CK Try.prog 38 [] w K :=
  b38 fun w' h' => h w' (by simpa using hS.call0.2 w' _ h')
end
end Go.Proofs.Ytegjocpjmfaigaa
