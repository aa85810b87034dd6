/- A gate's map; a record put. -/
import Derived.Test.YtbdpcpafjphmpaaDoorOa7
set_option linter.unusedSimpArgs false
set_option linter.unusedVariables false
namespace Go.Proofs.YtbdpcpafjphmpaaDoor
open Go.En

def en1 (i : Nat) (r : Rec) : MapEntry := ⟨.agg ⟨dc r.site r.cnt⟩, .agg ⟨rc r⟩, i⟩
/-- a gate's entries, as they were put -/
def ents (o : List Rec) : List MapEntry := o.mapIdx en1
theorem ents_app (o : List Rec) (r : Rec) : ents (o ++ [r]) = ents o ++ [en1 o.length r] := by
  unfold ents
  rw [List.mapIdx_append]
  simp
theorem ents_mem {o : List Rec} {e : MapEntry} (h : e ∈ ents o) : ∃ r ∈ o, ∃ i, e = en1 i r := by
  unfold ents at h
  obtain ⟨i, hi, rfl⟩ := List.mem_mapIdx.1 h
  exact ⟨o[i], List.getElem_mem hi, i, rfl⟩
theorem wf64 {a : Int} (h : -9223372036854775808 ≤ a ∧ a ≤ 9223372036854775807) : (Lit.int .i64 a).wf = true := by
  simp [Lit.wf, IntKind.min, IntKind.max, IntKind.bits, IntKind.signed]
  omega
theorem rec_key (r : Rec) : keyK Tryd.prog 24 (.agg ⟨dc r.site r.cnt⟩) := dot_key (wf64 r.bs) (wf64 r.bc)
theorem ents_key {o : List Rec} : ∀ e ∈ ents o, keyK Tryd.prog 24 e.key := fun e he => by
  obtain ⟨r, _, i, rfl⟩ := ents_mem he
  exact rec_key r
section
variable {w w0 : World} {S0 : Nat → Prop} {L B : List Res} {K : Value → World → Prop} {s : Bs} {E0 E1 : Nat}
set_option maxHeartbeats 2000000 in
theorem b_Put1 {o : List Rec} {r : Rec} {bG bm : Nat} (hgl : ∀ {L : List Res} {w' : World}, St w0 S0 w' L → Gl w') (hS : St w0 S0 w [cel bG [.map (some bm)] 47, obj bm (.map ⟨ents o⟩ o.length)]) (hne : ∀ x ∈ o, dc x.site x.cnt ≠ dc r.site r.cnt)
    (h1 : recB r = false → ∀ w', St w0 S0 w' [cel bG [.map (some bm)] 47, obj bm (.map ⟨ents o⟩ o.length)] → K (.int .i64 220) w')
    (h2 : recB r = true → ∀ w', St w0 S0 w' [cel bG [.map (some bm)] 47, obj bm (.map ⟨ents (o ++ [r])⟩ (o.length + 1))] → K (.int .i64 0) w') : CK Tryd.prog 10 [dp bG, .agg ⟨rc r⟩] w K := by
  have hno : ∀ (j : Nat) (e : MapEntry), (ents o)[j]? = some e → e.key = .agg ⟨dc r.site r.cnt⟩ → False := fun j e hj he => by
    obtain ⟨x, hx, i, rfl⟩ := ents_mem (List.mem_of_getElem? hj)
    refine hne x hx ?_
    simpa [en1] using he
  refine call_k Tryd.func10 k10 Tryd.ntmps10 (Nat.le_of_ble_eq_true rfl) ?_
  (repeat (first | refine g_sq ?_ | refine g_rg ?_ | refine g_r0 ?_ | refine g_ok rfl rfl ?_ | refine g_no rfl ?_ | refine g_no0 rfl ?_ | refine g_bk ?_ | refine g_b ?_ | refine g_sk ?_ | refine g_cT rfl ?_ | refine g_cF rfl ?_ | refine g_x rfl ?_ | refine g_lb ?_))
  refine g_ef rfl (ef_bx hS rfl fun b3 w1 hS => ?_)
  replace hS : St w0 S0 w1 [cel bG [.map (some bm)] 47, obj bm (.map ⟨ents o⟩ o.length), cel b3 (rc r) 31] := hS
  (repeat (first | refine g_sq ?_ | refine g_rg ?_ | refine g_r0 ?_ | refine g_ok rfl rfl ?_ | refine g_no rfl ?_ | refine g_no0 rfl ?_ | refine g_bk ?_ | refine g_b ?_ | refine g_sk ?_ | refine g_cT rfl ?_ | refine g_cF rfl ?_ | refine g_x rfl ?_ | refine g_lb ?_))
  refine g_atx (ι := Unit) 1 (fun _ => [(0, dp bG), (3, dp b3), (6, .bool false)]) (fun _ w' => St w0 S0 w' [cel bG [.map (some bm)] 47, obj bm (.map ⟨ents o⟩ o.length), cel b3 (rc r) 31]) rfl ?_ ?_
  · refine g_dr mixed ?_
    replace hS := hS.drew
    (repeat (first | refine d_ok rfl rfl rfl ?_ | refine d_no rfl rfl ?_))
    refine d_l1 rfl rfl rfl (hS.b 0 rfl) (v := .map (some bm)) rfl ?_
    (repeat (first | refine d_ok rfl rfl rfl ?_ | refine d_no rfl rfl ?_))
    refine d_lm rfl rfl rfl (hS.b 2 rfl) (by rw [rc_len]; decide) ?_
    rw [rc_dot]
    refine d_a2 ?_ (d_a1 ?_)
    · refine d_e rfl rfl ?_
      refine ef_mlk kl_dot (hS.ok 1 _ rfl) rfl rfl (rec_key r) ents_key (fun _ => ⟨rc_0, ?_⟩) (fun j e hj he => (hno j e hj he).elim)
      (repeat (first | refine d_ok rfl rfl rfl ?_ | refine d_no rfl rfl ?_))
      refine d_e rfl rfl ?_
      refine ef_al hS fun b5 w2 hS => ⟨rc_0, ?_⟩
      refine d_e0 rfl rfl ?_
      refine ef_st hS 3 rfl rfl rfl rfl (Nat.le_of_ble_eq_true rfl) rfl fun w2 hS => ⟨rc_0, ?_⟩
      (repeat (first | refine d_ok rfl rfl rfl ?_ | refine d_no rfl rfl ?_))
      refine d_fin ?_
      exact g_jx () ⟨rfl, rfl, rfl, trivial⟩ (hS.sel [0, 1, 2] rfl rfl)
    · refine d_e rfl rfl ?_
      refine ef_al hS fun b5 w2 hS => ⟨rc_1 rfl rfl rfl rfl (hS.b 0 rfl) rfl (rc_m rfl rfl rfl rfl (hS.b 2 rfl) (by rw [rc_len]; decide) (rc_dot r) rc_0), ?_⟩
      refine d_e rfl rfl ?_
      refine ef_mlk kl_dot (hS.ok 1 _ rfl) rfl rfl (rec_key r) ents_key (fun _ => ⟨rc_0, ?_⟩) (fun j e hj he => (hno j e hj he).elim)
      (repeat (first | refine d_ok rfl rfl rfl ?_ | refine d_no rfl rfl ?_))
      refine d_e0 rfl rfl ?_
      refine ef_st hS 3 rfl rfl rfl rfl (Nat.le_of_ble_eq_true rfl) rfl fun w2 hS => ⟨rc_0, ?_⟩
      (repeat (first | refine d_ok rfl rfl rfl ?_ | refine d_no rfl rfl ?_))
      refine d_fin ?_
      exact g_jx () ⟨rfl, rfl, rfl, trivial⟩ (hS.sel [0, 1, 2] rfl rfl)
  · clear hS
    rintro _ T w1 hT hS
    refine g_wkc hT ?_
    (repeat (first | refine g_sq ?_ | refine g_rg ?_ | refine g_r0 ?_ | refine g_ok rfl rfl ?_ | refine g_no rfl ?_ | refine g_no0 rfl ?_ | refine g_bk ?_ | refine g_b ?_ | refine g_sk ?_ | refine g_cT rfl ?_ | refine g_cF rfl ?_ | refine g_x rfl ?_ | refine g_lb ?_))
    refine g_lm rfl rfl (hS.b 2 rfl) (by rw [rc_len]; decide) ?_
    rw [List.drop_zero, List.take_of_length_le (Nat.le_of_eq (rc_len r))]
    refine g_cl rfl rfl (b_recCheck (hgl hS) fun w1 h' => ?_)
    replace hS := hS.call0.2 _ _ h'
    rw [List.append_nil] at hS
    clear h'
    cases hB : recB r
    · rw [recE_no hB]
      (repeat (first | refine g_sq ?_ | refine g_rg ?_ | refine g_r0 ?_ | refine g_ok rfl rfl ?_ | refine g_no rfl ?_ | refine g_no0 rfl ?_ | refine g_bk ?_ | refine g_b ?_ | refine g_sk ?_ | refine g_cT rfl ?_ | refine g_cF rfl ?_ | refine g_x rfl ?_ | refine g_lb ?_))
      exact g_ret (q_1 rfl (h1 hB _ (hS.sel [0, 1] rfl rfl)))
    · rw [recE_ok hB]
      (repeat (first | refine g_sq ?_ | refine g_rg ?_ | refine g_r0 ?_ | refine g_ok rfl rfl ?_ | refine g_no rfl ?_ | refine g_no0 rfl ?_ | refine g_bk ?_ | refine g_b ?_ | refine g_sk ?_ | refine g_cT rfl ?_ | refine g_cF rfl ?_ | refine g_x rfl ?_ | refine g_lb ?_))
      refine g_l1 rfl rfl (hS.b 0 rfl) (v := .map (some bm)) rfl ?_
      refine g_qt rfl (qt_mpn rfl) ?_
      (repeat (first | refine g_sq ?_ | refine g_rg ?_ | refine g_r0 ?_ | refine g_ok rfl rfl ?_ | refine g_no rfl ?_ | refine g_no0 rfl ?_ | refine g_bk ?_ | refine g_b ?_ | refine g_sk ?_ | refine g_cT rfl ?_ | refine g_cF rfl ?_ | refine g_x rfl ?_ | refine g_lb ?_))
      refine g_dr mixed ?_
      replace hS := hS.drew
      (repeat (first | refine d_ok rfl rfl rfl ?_ | refine d_no rfl rfl ?_))
      refine d_l1 rfl rfl rfl (hS.b 0 rfl) (v := .map (some bm)) rfl ?_
      (repeat (first | refine d_ok rfl rfl rfl ?_ | refine d_no rfl rfl ?_))
      refine d_lm rfl rfl rfl (hS.b 2 rfl) (by rw [rc_len]; decide) ?_
      rw [rc_dot]
      refine d_lm rfl rfl rfl (hS.b 2 rfl) (by rw [rc_len]; decide) ?_
      rw [List.drop_zero, List.take_of_length_le (Nat.le_of_eq (rc_len r))]
      refine d_e0 rfl rfl ?_
      refine ef_mup kl_dot hS 1 rfl rfl rfl rfl (rec_key r) ents_key (fun _ w2 hS => ⟨rc_0, ?_⟩) (fun j e hj he => (hno j e hj he).elim)
      refine d_fin ?_
      have e1 : ents o ++ [⟨.agg ⟨dc r.site r.cnt⟩, .agg ⟨rc r⟩, o.length⟩] = ents (o ++ [r]) := (ents_app o r).symm
      replace hS : St w0 S0 w2 [cel bG [.map (some bm)] 47, obj bm (.map ⟨ents o ++ [⟨.agg ⟨dc r.site r.cnt⟩, .agg ⟨rc r⟩, o.length⟩]⟩ (o.length + 1)), cel b3 (rc r) 31] := hS
      rw [e1] at hS
      (repeat (first | refine g_sq ?_ | refine g_rg ?_ | refine g_r0 ?_ | refine g_ok rfl rfl ?_ | refine g_no rfl ?_ | refine g_no0 rfl ?_ | refine g_bk ?_ | refine g_b ?_ | refine g_sk ?_ | refine g_cT rfl ?_ | refine g_cF rfl ?_ | refine g_x rfl ?_ | refine g_lb ?_))
      exact g_ret (q_1 rfl (h2 hB _ (hS.sel [0, 1] rfl rfl)))
end
end Go.Proofs.YtbdpcpafjphmpaaDoor
