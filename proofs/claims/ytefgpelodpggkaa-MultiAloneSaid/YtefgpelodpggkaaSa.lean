import Derived.Test.YtefgpelodpggkaaMc
set_option linter.unusedVariables false
set_option linter.unusedSimpArgs false
namespace Go.Proofs.Ytefgpelodpggkaa.Ve
open Go
set_option maxRecDepth 4000
set_option maxHeartbeats 4000000
theorem take_snoc {α : Type} {l : List α} {k : Nat} {a : α} (h : l[k]? = some a) : l.take (k + 1) = l.take k ++ [a] := by
  rw [List.take_add_one, h]
  rfl
theorem map_at {α β : Type} {l : List α} {k : Nat} {a : α} (f : α → β) (h : l[k]? = some a) : (l.map f)[(k : Int).toNat]? = some (f a) := by
  rw [List.getElem?_map]
  show (l[k]?).map f = _
  rw [h]
  rfl
theorem sp_r5len (ps : Pts) (hwf : Wf ps) : pcall (Ew Try.prog cfg) 63 [rMem ps] = some (.pv (.sc (.int .i64 (ln ps)))) := by
  refine pcall_wc Try.func63 rfl (by decide) ?_ rfl
  show wc _ _ _ (.pv (.agg [.fz (ps.map rPt)]) :: List.replicate 19 undefV) _ _
  (repeat (first | refine w_seq ?_ | refine w_regionL ?_ | refine w_norm ?_ | refine w_block ?_ | refine wo_nil ⟨rfl, ?_⟩ | ((first | apply o_box | apply o_assign | apply o_fieldAddr | apply o_load | apply o_len | apply o_move) <;> first | refine wo_id ?_ | ((with_reducible apply look_id); (exact look_by); done) | ((with_reducible apply load_id); ((first | (apply ldp; (focus exact get_by); (focus first | exact rfl))); (first | exact part_sc (by first | exact ag3) rfl)); done) | ((with_reducible apply cells_id); (exact cells_by); done) | ((with_reducible apply next_id); (exact next_by); done) | exact fa49_0 _ _ _ | exact lnF47 _ | (intro a h; cases h) | exact rfl)))
  refine w_loopK (fun m tm s => ∃ k : Nat, k + m = ps.length ∧ lk tm 9 = .pv (.sc (.int .i64 k)) ∧ lk tm 3 = .pv (.sc (.int .i64 (ln (ps.take k)))) ∧ 1 ≤ s.next) ps.length rfl
    ⟨0, by omega, by exact lk_by, by exact lk_by, by exact nle_by⟩ ?_
  rintro m tm1 s ⟨k, hkm, h9, h3, hn1⟩ hK
  obtain ⟨sn, hsn⟩ : ∃ x, s.next = x := ⟨_, rfl⟩
  have hlm : (ps.map rPt).length = ps.length := List.length_map _
  have hnn := hwf.n
  by_cases hk : k < ps.length
  · obtain ⟨p, hp, hd⟩ := drop_at hk
    have hrow := map_at rPt hp
    have hpa := hwf.at_ p (List.mem_of_getElem? hp)
    have hwk : IntKind.i64.wrap ((k : Int) + 1) = ((k + 1 : Nat) : Int) := by rw [wrap_id (by omega) (by omega)]; omega
    have hwp : IntKind.i64.wrap (p.at_ + 1) = p.at_ + 1 := wrap_id (by omega) (by omega)
    have hmx : max (ln (ps.take k)) (p.at_ + 1) = if p.at_ + 1 > ln (ps.take k) then p.at_ + 1 else ln (ps.take k) := by split <;> omega
    (repeat (first | refine w_seq ?_ | refine w_regionL ?_ | refine w_norm ?_ | refine w_block ?_ | refine w_skip ?_ | refine wo_nil ⟨rfl, ?_⟩ | (apply o_bin; (focus exact look_by); (focus exact look_by); (focus first | exact br_addw (hwp)); (focus exact rfl)) | ((first | apply o_assign | apply o_fieldAddr | apply o_load | apply o_move | apply o_bin | apply o_indexAddr | apply o_alloc | apply o_storep | apply o_max) <;> first | refine wo_id ?_ | ((with_reducible apply look_id); (exact look_by); done) | ((with_reducible apply bin_id); (exact bin_by); done) | ((with_reducible apply load_id); ((first | (apply ldp; (focus exact get_by); (focus first | exact rfl)) | apply ldf); (first | exact part_sc (by first | exact ag3) rfl | (apply part_agg; (focus first | exact ag132); (focus first | exact sz132); (focus exact rfl); (focus exact rfl)))); done) | ((with_reducible apply cells_id); (exact cells_by); done) | ((with_reducible apply next_id); (exact next_by); done) | ((with_reducible apply get_id); (exact get_by); done) | ((with_reducible apply setAt_id); (exact setat_by); done) | exact fa49_0 _ _ _ | exact ia_fz (iaF47 _ _) (by omega) (by assumption) rfl | exact ze132 | exact sz132 | exact rfl) | ((first | apply b_cond) <;> first | refine wc_id ?_ | ((with_reducible apply look_id); (exact look_by); done) | (first | exact decide_eq_true (by omega))) | (apply l_norm (m - 1) (by omega))))
    refine ⟨k + 1, by omega, by rw [← hwk]; exact lk_by, by rw [take_snoc hp, ln_snoc, hmx]; exact lk_by, by exact nle_by⟩
  · have hd : ps.take k = ps := List.take_of_length_le (by omega)
    rw [hd] at h3
    (repeat (first | refine w_seq ?_ | refine w_regionL ?_ | refine w_norm ?_ | refine w_exit' ?_ | refine w_ret ?_ | refine w_exit ?_ | refine wo_nil ⟨rfl, ?_⟩ | ((first | apply o_assign | apply o_move | apply o_bin) <;> first | refine wo_id ?_ | ((with_reducible apply look_id); (exact look_by); done) | ((with_reducible apply bin_id); (exact bin_by); done) | exact rfl) | ((first | apply b_cond) <;> first | refine wc_id ?_ | ((with_reducible apply look_id); (exact look_by); done) | (first | exact decide_eq_false (by omega))) | (refine l_exit ?_; intro R2 W2)))
    (apply ends_ret; (focus exact (e_tmp res_nil)))
    exact ⟨_, by exact fz_by⟩
theorem ln_1000 : ∀ ps : Pts, (∀ p ∈ ps, 0 ≤ p.at_ ∧ p.at_ < 1000) → ln ps ≤ 1000 := by
  refine snoc_ind (fun _ => by decide) fun l a ih h => ?_
  rw [ln_snoc]
  have h1 := ih fun p hp => h p (by simp [hp])
  have h2 := h a (by simp)
  omega
theorem sp_are (l : List It) (hl : l.length < 2 ^ 20) : pcall (Ew Try.prog cfg) 65 [.fz (l.map gIt), .fz (l.map rIt)] = some (.pv (.sc (.int .i64 0))) := by
  refine pcall_wc Try.func65 rfl (by decide) ?_ rfl
  show wc _ _ _ (.pv (.fz (l.map gIt)) :: .pv (.fz (l.map rIt)) :: List.replicate 25 undefV) _ _
  have hg : (l.map gIt).length = l.length := List.length_map _
  have hr : (l.map rIt).length = l.length := List.length_map _
  (repeat (first | refine w_seq ?_ | refine w_regionL ?_ | refine w_norm ?_ | refine w_block ?_ | refine w_skip ?_ | refine wo_nil ⟨rfl, ?_⟩ | ((first | apply o_assign | apply o_move | apply o_len | apply o_bin) <;> first | refine wo_id ?_ | ((with_reducible apply look_id); (exact look_by); done) | ((with_reducible apply bin_id); (exact bin_by); done) | exact lnF85 _ | (intro a h; cases h) | exact rfl) | ((first | apply b_cond) <;> first | refine wc_id ?_ | ((with_reducible apply look_id); (exact look_by); done) | (first | ((apply uf); (simp; done))))))
  refine w_loopK (fun m tm s => ∃ k : Nat, k + m = l.length ∧ lk tm 13 = .pv (.sc (.int .i64 k))) l.length rfl
    ⟨0, by omega, by exact lk_by⟩ ?_
  rintro m tm1 s ⟨k, hkm, h13⟩ hK
  by_cases hk : k < l.length
  · obtain ⟨x, hx, hd⟩ := drop_at hk
    have h1 := map_at gIt hx
    have h2 := map_at rIt hx
    have h := sp_is4 x x
    rw [if_pos rfl] at h
    have hwk : IntKind.i64.wrap ((k : Int) + 1) = ((k + 1 : Nat) : Int) := by rw [wrap_id (by omega) (by omega)]; omega
    (repeat (first | refine w_seq ?_ | refine w_regionL ?_ | refine w_norm ?_ | refine w_block ?_ | refine w_skip ?_ | refine wo_nil ⟨rfl, ?_⟩ | ((first | apply o_assign | apply o_move | apply o_bin | apply o_indexAddr | apply o_load) <;> first | refine wo_id ?_ | ((with_reducible apply look_id); (exact look_by); done) | ((with_reducible apply bin_id); (exact bin_by); done) | ((with_reducible apply load_id); ((first | apply ldf); (first | (apply part_agg; (focus first | exact ag36); (focus first | exact sz36); (focus exact rfl); (focus exact rfl)))); done) | exact ia_fz (iaF85 _ _) (by omega) (by assumption) rfl | exact rfl) | (refine wo_nil ⟨dyn_draw (bs := [0, 0, 0, 1, 0, 0, 0, 1, 1, 0]) ?_ ?_, ?_⟩; (focus ((repeat (first | exact Flags.nil | (apply Flags.cons Flag.dry) | (apply Flags.cons Flag.read))); done)); (focus decide +kernel)) | (apply o_pcall; (focus exact args_by); (focus exact hb28); (focus exact rfl); (focus ((repeat (first | exact frzAll_nil | apply frzAll_pv)); done)); (focus exact h)) | ((first | apply b_cond) <;> first | refine wc_id ?_ | ((with_reducible apply look_id); (exact look_by); done) | (first | exact ff | exact decide_eq_true (by omega))) | (apply l_norm (m - 1) (by omega))))
    exact ⟨k + 1, by omega, by rw [← hwk]; exact lk_by⟩
  · (repeat (first | refine w_seq ?_ | refine w_regionL ?_ | refine w_norm ?_ | refine w_exit' ?_ | refine w_ret ?_ | refine w_exit ?_ | refine wo_nil ⟨rfl, ?_⟩ | ((first | apply o_assign | apply o_bin) <;> first | refine wo_id ?_ | ((with_reducible apply look_id); (exact look_by); done) | ((with_reducible apply bin_id); (exact bin_by); done) | exact rfl) | ((first | apply b_cond) <;> first | refine wc_id ?_ | ((with_reducible apply look_id); (exact look_by); done) | (first | exact decide_eq_false (by omega))) | (refine l_exit ?_; intro R2 W2)))
    (apply ends_ret; (focus exact (e_tmp res_nil)))
    exact ⟨_, by exact fz_by⟩
theorem sp_is5 (v : Vl) (hl : v.l.length < 2 ^ 20) : pcall (Ew Try.prog cfg) 64 [.agg (gVl v), .agg (rVl v)] = some (.pv (.sc (.int .i64 0))) := by
  refine pcall_wc Try.func64 rfl (by decide) ?_ rfl
  show wc _ _ _ (.pv (.agg (gVl v)) :: .pv (.agg (rVl v)) :: List.replicate 13 undefV) _ _
  have h := sp_are v.l hl
  (repeat (first | refine w_seq ?_ | refine w_regionL ?_ | refine w_norm ?_ | refine w_skip ?_ | refine w_ret ?_ | refine wo_nil ⟨rfl, ?_⟩ | ((first | apply o_box | apply o_assign | apply o_fieldAddr | apply o_load | apply o_bin) <;> first | refine wo_id ?_ | ((with_reducible apply look_id); (exact look_by); done) | ((with_reducible apply bin_id); (exact bin_by); done) | ((with_reducible apply load_id); ((first | (apply ldp; (focus exact get_by); (focus first | exact rfl))); (first | exact part_sc (by first | exact ag2) rfl)); done) | ((with_reducible apply cells_id); (exact cells_by); done) | ((with_reducible apply next_id); (exact next_by); done) | exact fa87_0 _ _ _ | exact rfl) | (apply o_pcall; (focus exact args_by); (focus exact hb65); (focus exact rfl); (focus ((repeat (first | exact frzAll_nil | apply frzAll_pv)); done)); (focus exact h)) | ((first | apply b_cond) <;> first | refine wc_id ?_ | ((with_reducible apply look_id); (exact look_by); done) | (first | ((apply uf); (simp; done))))))
  (apply ends_ret; (focus exact (e_tmp res_nil)))
  exact ⟨_, by exact fz_by⟩
/-- A slice's value: nil, or all of an object's rows. -/
def IsSl (c : V) : Prop := c = .nl ∨ ∃ i s n, c = .ow i s 0 n
theorem fn_same1 {st : St} {m : Nat} {I : List Nat} {ps : Pts} (hM : MemAt st m I ps) {c : V} (hc : IsSl c) (n : Int) : Fn Try.prog cfg 58 [.agg [.ptr m 0 0, .pv (.fz (ps.map rPt)), c, .pv (.sc (.int .i64 n))]] st (fun v st' _ W => v = .pv (.sc (.int .i64 0)) ∧ Frm st st' [] ∧ W = []) := by
  have hlt := hM.lt
  have hwf := hM.wf
  have hnn := hwf.n
  have hl5 := sp_r5len ps hwf
  have hlm : (ps.map rPt).length = ps.length := List.length_map _
  have hwl : IntKind.u64.wrap ((ps.map rPt).length : Int) = ps.length := by rw [hlm]; exact wrap_u64 (by omega) (by omega)
  obtain ⟨nx, hnx⟩ : ∃ x, st.next = x := ⟨_, rfl⟩
  refine fn_keep (.inr rfl) Try.func58 rfl ?_
  show wc _ _ _ (.agg [.ptr m 0 0, .pv (.fz (ps.map rPt)), c, .pv (.sc (.int .i64 n))] :: List.replicate 54 undefV) st _
  obtain ⟨rows, hrows⟩ : ∃ r : List (List V), r = [[.ptr m 0 0, .pv (.fz (ps.map rPt)), c, .pv (.sc (.int .i64 n))]] := ⟨_, rfl⟩
  rcases hc with rfl | ⟨ci, cs, cn, rfl⟩
  all_goals
    have hM1 : MemAt (st.new ⟨4, rows⟩) m I ps := hM.move frm_new (by simp) (by simp)
    rw [hrows] at hM1
    (repeat (first | refine w_seq ?_ | refine w_regionL ?_ | refine w_norm ?_ | refine wo_nil ⟨rfl, ?_⟩ | ((first | apply o_box | apply o_assign | apply o_fieldAddr | apply o_load) <;> first | refine wo_id ?_ | ((with_reducible apply look_id); (exact look_by); done) | ((with_reducible apply load_id); ((first | (apply ldp; (focus exact get_by); (focus first | exact rfl))); (first | exact part_sc (by first | exact ag32) rfl)); done) | ((with_reducible apply cells_id); (exact cells_by); done) | ((with_reducible apply next_id); (exact next_by); done) | exact fa52_0 _ _ _ | exact rfl)))
    refine o_call (by exact args_by) hb40 (fn_clock hM1) ?_
    rintro _ s1 R1 W1 ⟨rfl, hF1, rfl⟩
    have hb1 : s1.get nx = some ⟨4, rows⟩ := by rw [hrows]; exact get_by
    have hM2 := hM1.move hF1 (by simp) (by simp)
    have hN1 : nx < s1.next := by have := hF1.next; simp only [St.new] at this; omega
    have hFF1 : Frm st s1 [] := frm_new.trans hF1 (by simp)
    clear hM1 hF1
    rw [hrows] at hb1
    (repeat (first | ((first | apply o_fieldAddr | apply o_load | apply o_len | apply o_conv | apply o_bin | apply o_move) <;> first | refine wo_id ?_ | ((with_reducible apply look_id); (exact look_by); done) | ((with_reducible apply bin_id); (exact bin_by); done) | ((with_reducible apply load_id); ((first | (apply ldp; (focus exact get_by); (focus first | exact rfl))); (first | exact part_sc (by first | exact ag32) rfl)); done) | exact fa52_0 _ _ _ | exact lnF47 _ | exact Try.underlying3 | exact Try.underlying67 | (intro a h; cases h) | exact rfl) | ((first | apply b_in) <;> first | refine wo_id ?_ | ((with_reducible apply yield_id); ((apply yield_of; (focus exact rfl); (focus exact lk_by))); done) | (first | exact ff | ((apply uf); (rw [hwl]; simp; done))))))
    refine o_call (by exact args_by) hb19 (fn_len hM2) ?_
    rintro _ s2 R2 W2 ⟨rfl, hF2, rfl⟩
    have hb2 : s2.get nx = some ⟨4, rows⟩ := by rw [hrows]; exact get_by
    have hM3 := hM2.move hF2 (by simp) (by simp)
    have hN2 : nx < s2.next := by have := hF2.next; omega
    have hFF2 : Frm st s2 [] := hFF1.trans hF2 (by simp)
    clear hM2 hF2 hb1 hFF1
    rw [hrows] at hb2
    (repeat (first | refine w_seq ?_ | refine w_regionL ?_ | refine w_norm ?_ | refine w_block ?_ | refine w_skip ?_ | refine wo_nil ⟨rfl, ?_⟩ | ((first | apply o_assign | apply o_fieldAddr | apply o_load | apply o_bin) <;> first | refine wo_id ?_ | ((with_reducible apply look_id); (exact look_by); done) | ((with_reducible apply bin_id); (exact bin_by); done) | ((with_reducible apply load_id); ((first | (apply ldp; (focus exact get_by); (focus first | exact rfl))); (first | (apply part_agg; (focus first | exact ag49); (focus first | exact sz49); (focus exact rfl); (focus exact rfl)))); done) | exact fa52_0 _ _ _ | exact rfl) | (refine wo_nil ⟨dyn_draw (bs := [0, 1, 7, 0, 0, 5, 0, 0, 0, 0, 0, 1, 7, 0, 5, 1, 0, 0]) ?_ ?_, ?_⟩; (focus (exact flags_by; done)); (focus decide +kernel)) | (apply o_pcall; (focus exact args_by); (focus exact hb63); (focus exact rfl); (focus ((repeat (first | exact frzAll_nil | apply frzAll_pv)); done)); (focus exact hl5)) | ((first | apply b_cond | apply b_pick | apply b_in) <;> first | refine wo_id ?_ | refine wc_id ?_ | ((with_reducible apply look_id); (exact look_by); done) | ((with_reducible apply yield_id); ((apply yield_of; (focus exact rfl); (focus exact lk_by))); done) | (first | exact ff | ((apply uf); (rw [hwl]; simp; done)) | ((apply uf); (simp; done))))))
    refine w_loopW (fun x => nx ≤ x) (fun q tm s => ∃ k : Nat, k + q = (ln ps).toNat ∧ lk tm 3 = .pv (.sc (.int .i64 k)) ∧ s.get nx = some ⟨4, rows⟩ ∧ MemAt s m I ps ∧ Frm st s [] ∧ nx < s.next) (ln ps).toNat rfl
      ⟨0, by omega, by exact lk_by, by rw [hrows]; exact hb2, hM3, hFF2, hN2⟩ ?_
    clear hb2 hM3 hFF2 hN2 hN1
    rintro q tm1 s ⟨k, hkq, h3, hb, hM4, hFF, hN⟩ hK
    rw [hrows] at hb
    have h0 := ln_nonneg ps
    have h1000 := ln_1000 ps hwf.at_
    (repeat (first | refine w_seq ?_ | refine w_regionL ?_ | ((first | apply o_fieldAddr | apply o_load | apply o_move) <;> first | refine wo_id ?_ | ((with_reducible apply look_id); (exact look_by); done) | ((with_reducible apply load_id); ((first | (apply ldp; (focus exact get_by); (focus first | exact rfl))); (first | exact part_sc (by first | exact ag32) rfl)); done) | exact fa52_0 _ _ _)))
    refine o_call (by exact args_by) hb19 (fn_len hM4) ?_
    rintro _ s3 R3 W3 ⟨rfl, hF3, rfl⟩
    have hb4 : s3.get nx = some ⟨4, rows⟩ := by rw [hrows]; exact get_by
    have hM5 := hM4.move hF3 (by simp) (by simp)
    have hN3 : nx < s3.next := by have := hF3.next; omega
    have hFF3 : Frm st s3 [] := hFF.trans hF3 (by simp)
    clear hM4 hF3 hb hFF hN
    rw [hrows] at hb4
    obtain ⟨p3, hp3⟩ : ∃ x, s3.next = x := ⟨_, rfl⟩
    by_cases hk : (k : Int) < ln ps
    · have hr5 := sp_r5read ps k hwf.n
      have hrv := rd_ver k ps
      have hw4 : IntKind.u64.wrap ((rd ps k).1 : Int) = (rd ps k).1 := wrap_u64 (by omega) (by omega)
      have hi5 := sp_is5 (rd ps k).2 (rd_l hwf k)
      (repeat (first | refine w_seq ?_ | refine w_regionL ?_ | refine w_norm ?_ | refine w_block ?_ | refine w_skip ?_ | refine wo_nil ⟨rfl, ?_⟩ | ((first | apply o_assign | apply o_fieldAddr | apply o_load | apply o_bin | apply o_move | apply o_extract | apply o_alloc | apply o_storep) <;> first | refine wo_id ?_ | ((with_reducible apply look_id); (exact look_by); done) | ((with_reducible apply bin_id); (exact bin_by); done) | ((with_reducible apply load_id); ((first | (apply ldp; (focus exact get_by); (focus first | exact rfl))); (first | exact part_sc (by first | exact ag32) rfl | (apply part_agg; (focus first | exact ag49); (focus first | exact sz49); (focus exact rfl); (focus exact rfl)))); done) | ((with_reducible apply cells_id); (exact cells_by); done) | ((with_reducible apply next_id); (exact next_by); done) | ((with_reducible apply get_id); (exact get_by); done) | ((with_reducible apply setAt_id); (exact setat_by); done) | exact fa52_0 _ _ _ | exact ze105 | exact sz105 | exact rfl) | (apply o_pcall; (focus exact args_by); (focus exact hb45); (focus exact rfl); (focus ((repeat (first | exact frzAll_nil | apply frzAll_pv)); done)); (focus exact hr5)) | ((first | apply b_cond) <;> first | refine wc_id ?_ | ((with_reducible apply look_id); (exact look_by); done) | (first | exact decide_eq_true (by omega)))))
      refine o_call (by exact args_by) hb39 (fn_read (hM5.move (J := []) (by exact frm_by) (by simp) (by simp)) k) ?_
      rintro _ s4 R4 W4 ⟨rfl, hF4, rfl⟩
      have hb5 : s4.get nx = some ⟨4, rows⟩ := by rw [hrows]; exact get_by
      have hv5 : s4.get p3 = some ⟨2, [(rVl (rd ps k).2).map .pv]⟩ := by exact get_by
      have hN4 : p3 < s4.next := by have := hF4.next; simp only [St.new, St.set] at this; omega
      have hM6 := (hM5.move (J := []) (show Frm s3 _ [] by exact frm_by) (by simp) (by simp)).move hF4 (by simp) (by simp)
      have hFF4 : Frm st s4 [] := hFF3.trans ((show Frm s3 _ [] by exact frm_by).trans hF4 (by simp)) (by simp)
      have hwk : IntKind.i64.wrap ((k : Int) + 1) = ((k + 1 : Nat) : Int) := by rw [wrap_id (by omega) (by omega)]; omega
      have hNp : nx < p3 := by omega
      clear hM5 hF4 hb4 hFF3 hN3
      rw [hrows] at hb5
      (repeat (first | refine w_seq ?_ | refine w_regionL ?_ | refine w_norm ?_ | refine w_skip ?_ | refine wo_nil ⟨rfl, ?_⟩ | ((first | apply o_assign | apply o_fieldAddr | apply o_load | apply o_conv | apply o_bin | apply o_move | apply o_alloc | apply o_storep) <;> first | refine wo_id ?_ | ((with_reducible apply look_id); (exact look_by); done) | ((with_reducible apply bin_id); (exact bin_by); done) | ((with_reducible apply load_id); ((first | (apply ldp; (focus exact get_by); (focus first | exact rfl))); (first | exact part_sc (by first | exact ag32) rfl | (apply part_agg; (focus first | exact ag49); (focus first | exact sz87); (focus exact rfl); (focus exact rfl)))); done) | ((with_reducible apply cells_id); (exact cells_by); done) | ((with_reducible apply next_id); (exact next_by); done) | ((with_reducible apply get_id); (exact get_by); done) | ((with_reducible apply setAt_id); (exact setat_by); done) | exact fa52_0 _ _ _ | exact Try.underlying3 | exact Try.underlying67 | exact ze89 | exact sz89 | exact rfl) | (apply o_pcall; (focus exact args_by); (focus exact hb64); (focus exact rfl); (focus ((repeat (first | exact frzAll_nil | apply frzAll_pv)); done)); (focus exact hi5)) | ((first | apply b_cond | apply b_pick | apply b_in) <;> first | refine wo_id ?_ | refine wc_id ?_ | ((with_reducible apply look_id); (exact look_by); done) | ((with_reducible apply yield_id); ((apply yield_of; (focus exact rfl); (focus exact lk_by))); done) | (first | exact ff | ((apply uf); (rw [hw4]; simp; done)))) | (apply l_normW (q - 1) (by omega) (by intro x hx; simp [entW] at hx; try omega))))
      exact ⟨k + 1, by omega, by rw [← hwk]; exact lk_by, by rw [hrows]; exact get_by, hM6.move (J := []) (by exact frm_by) (by simp) (by simp), hFF4.trans (J := []) (by exact frm_by) (by simp), by simp only [St.new, St.set]; omega⟩
    · (repeat (first | refine w_seq ?_ | refine w_regionL ?_ | refine w_norm ?_ | refine w_exit' ?_ | refine w_ret ?_ | refine w_exit ?_ | refine wo_nil ⟨rfl, ?_⟩ | ((first | apply o_assign | apply o_bin) <;> first | refine wo_id ?_ | ((with_reducible apply look_id); (exact look_by); done) | ((with_reducible apply bin_id); (exact bin_by); done) | exact rfl) | ((first | apply b_cond) <;> first | refine wc_id ?_ | ((with_reducible apply look_id); (exact look_by); done) | (first | exact decide_eq_false (by omega))) | (refine l_exitW (by intro x hx; simp [entW] at hx; try omega) ?_; intro R2 W2 hW2)))
      (apply ends_ret; (focus exact (e_tmp res_nil)))
      exact ⟨_, _, _, Leaves.frz (by decide) _ _ (by exact fz_by), rfl, by exact frm_by, by (simp only [List.filter_eq_nil_iff]; intro a ha; simp [entW] at ha; have := hW2 a; simp; first | omega | (have := this (by simpa using ha); omega) | grind)⟩
theorem fn_same0 {st : St} {m : Nat} {I : List Nat} (hM : MemAt st m I []) {c : V} (hc : IsSl c) (n : Int) : Fn Try.prog cfg 58 [.agg [.ptr m 0 0, .nl, c, .pv (.sc (.int .i64 n))]] st (fun v st' _ W => v = .pv (.sc (.int .i64 0)) ∧ Frm st st' [] ∧ W = []) := by
  have hlt := hM.lt
  have hl5 := sp_r5len [] hM.wf
  obtain ⟨nx, hnx⟩ : ∃ x, st.next = x := ⟨_, rfl⟩
  refine fn_keep (.inr rfl) Try.func58 rfl ?_
  show wc _ _ _ (.agg [.ptr m 0 0, .nl, c, .pv (.sc (.int .i64 n))] :: List.replicate 54 undefV) st _
  obtain ⟨rows, hrows⟩ : ∃ r : List (List V), r = [[.ptr m 0 0, .nl, c, .pv (.sc (.int .i64 n))]] := ⟨_, rfl⟩
  rcases hc with rfl | ⟨ci, cs, cn, rfl⟩
  all_goals
    have hM1 : MemAt (st.new ⟨4, rows⟩) m I [] := hM.move frm_new (by simp) (by simp)
    rw [hrows] at hM1
    (repeat (first | refine w_seq ?_ | refine w_regionL ?_ | refine w_norm ?_ | refine wo_nil ⟨rfl, ?_⟩ | ((first | apply o_box | apply o_assign | apply o_fieldAddr | apply o_load) <;> first | refine wo_id ?_ | ((with_reducible apply look_id); (exact look_by); done) | ((with_reducible apply load_id); ((first | (apply ldp; (focus exact get_by); (focus first | exact rfl))); (first | exact part_sc (by first | exact ag32) rfl)); done) | ((with_reducible apply cells_id); (exact cells_by); done) | ((with_reducible apply next_id); (exact next_by); done) | exact fa52_0 _ _ _ | exact rfl)))
    refine o_call (by exact args_by) hb40 (fn_clock hM1) ?_
    rintro _ s1 R1 W1 ⟨rfl, hF1, rfl⟩
    have hb1 : s1.get nx = some ⟨4, rows⟩ := by rw [hrows]; exact get_by
    have hM2 := hM1.move hF1 (by simp) (by simp)
    have hN1 : nx < s1.next := by have := hF1.next; simp only [St.new] at this; omega
    have hFF1 : Frm st s1 [] := frm_new.trans hF1 (by simp)
    clear hM1 hF1
    rw [hrows] at hb1
    (repeat (first | ((first | apply o_fieldAddr | apply o_load | apply o_len | apply o_conv | apply o_bin | apply o_move) <;> first | refine wo_id ?_ | ((with_reducible apply look_id); (exact look_by); done) | ((with_reducible apply bin_id); (exact bin_by); done) | ((with_reducible apply load_id); ((first | (apply ldp; (focus exact get_by); (focus first | exact rfl))); (first | exact part_sc (by first | exact ag32) rfl)); done) | exact fa52_0 _ _ _ | exact lnN47 | exact Try.underlying3 | exact Try.underlying67 | (intro a h; cases h) | exact rfl) | ((first | apply b_in) <;> first | refine wo_id ?_ | ((with_reducible apply yield_id); ((apply yield_of; (focus exact rfl); (focus exact lk_by))); done) | (first | exact ff))))
    refine o_call (by exact args_by) hb19 (fn_len hM2) ?_
    rintro _ s2 R2 W2 ⟨rfl, hF2, rfl⟩
    have hb2 : s2.get nx = some ⟨4, rows⟩ := by rw [hrows]; exact get_by
    have hM3 := hM2.move hF2 (by simp) (by simp)
    have hN2 : nx < s2.next := by have := hF2.next; omega
    have hFF2 : Frm st s2 [] := hFF1.trans hF2 (by simp)
    clear hM2 hF2 hb1 hFF1
    rw [hrows] at hb2
    (repeat (first | ((first | apply o_fieldAddr | apply o_load) <;> first | refine wo_id ?_ | ((with_reducible apply look_id); (exact look_by); done) | ((with_reducible apply load_id); ((first | (apply ldp; (focus exact get_by); (focus first | exact rfl))); (first | (apply part_agg; (focus first | exact ag49); (focus first | exact sz49); (focus exact rfl); (focus exact rfl)))); done) | exact fa52_0 _ _ _) | ((first | apply b_in) <;> first | refine wo_id ?_ | ((with_reducible apply yield_id); ((apply yield_of; (focus exact rfl); (focus exact lk_by))); done) | (first | exact ff))))
    refine o_pcall (ps := [rMem []]) (by exact args_by) hb63 rfl rfl hl5 ?_
    (repeat (first | refine w_seq ?_ | refine w_regionL ?_ | refine w_norm ?_ | refine w_block ?_ | refine w_skip ?_ | refine wo_nil ⟨rfl, ?_⟩ | ((first | apply o_assign | apply o_bin) <;> first | refine wo_id ?_ | ((with_reducible apply look_id); (exact look_by); done) | ((with_reducible apply bin_id); (exact bin_by); done) | exact rfl) | (refine wo_nil ⟨dyn_draw (bs := [0, 1, 7, 0, 0, 5, 0, 0, 0, 0, 0, 1, 7, 0, 5, 1, 0, 0]) ?_ ?_, ?_⟩; (focus (exact flags_by; done)); (focus decide +kernel)) | ((first | apply b_cond | apply b_pick | apply b_in) <;> first | refine wo_id ?_ | refine wc_id ?_ | ((with_reducible apply look_id); (exact look_by); done) | ((with_reducible apply yield_id); ((apply yield_of; (focus exact rfl); (focus exact lk_by))); done) | (first | exact ff))))
    refine w_loopW (fun x => nx ≤ x) (fun q tm s => lk tm 3 = .pv (.sc (.int .i64 0)) ∧ s.get nx = some ⟨4, rows⟩ ∧ MemAt s m I [] ∧ Frm st s [] ∧ nx < s.next) 0 rfl
      ⟨by exact lk_by, by rw [hrows]; exact hb2, hM3, hFF2, hN2⟩ ?_
    clear hb2 hM3 hFF2 hN2 hN1
    rintro q tm1 s ⟨h3, hb, hM4, hFF, hN⟩ hK
    rw [hrows] at hb
    (repeat (first | refine w_seq ?_ | refine w_regionL ?_ | ((first | apply o_fieldAddr | apply o_load | apply o_move) <;> first | refine wo_id ?_ | ((with_reducible apply look_id); (exact look_by); done) | ((with_reducible apply load_id); ((first | (apply ldp; (focus exact get_by); (focus first | exact rfl))); (first | exact part_sc (by first | exact ag32) rfl)); done) | exact fa52_0 _ _ _)))
    refine o_call (by exact args_by) hb19 (fn_len hM4) ?_
    rintro _ s3 R3 W3 ⟨rfl, hF3, rfl⟩
    have hFF3 : Frm st s3 [] := hFF.trans hF3 (by simp)
    (repeat (first | refine w_seq ?_ | refine w_regionL ?_ | refine w_norm ?_ | refine w_exit' ?_ | refine w_ret ?_ | refine w_exit ?_ | refine wo_nil ⟨rfl, ?_⟩ | ((first | apply o_assign | apply o_bin) <;> first | refine wo_id ?_ | ((with_reducible apply look_id); (exact look_by); done) | ((with_reducible apply bin_id); (exact bin_by); done) | exact rfl) | ((first | apply b_cond) <;> first | refine wc_id ?_ | ((with_reducible apply look_id); (exact look_by); done) | (first | exact ff)) | (refine l_exitW (by intro x hx; simp [entW] at hx; try omega) ?_; intro R2 W2 hW2)))
    (apply ends_ret; (focus exact (e_tmp res_nil)))
    refine ⟨_, _, _, Leaves.frz (by decide) _ _ (by exact fz_by), rfl, ?_, by (simp only [List.filter_eq_nil_iff]; intro a ha; simp [entW] at ha; have := hW2 a; simp; first | omega | (have := this (by simpa using ha); omega) | grind)⟩
    exact hFF3
theorem fn_same {st : St} {m : Nat} {I : List Nat} {ps : Pts} (hM : MemAt st m I ps) {c x : V} (hx : Lx x (ps.map rPt)) (hc : IsSl c) (n : Int) : Fn Try.prog cfg 58 [.agg [.ptr m 0 0, x, c, .pv (.sc (.int .i64 n))]] st (fun v st' _ W => v = .pv (.sc (.int .i64 0)) ∧ Frm st st' [] ∧ W = []) := by
  rcases hx with rfl | ⟨rfl, h⟩
  · exact fn_same1 hM hc n
  · have e : ps = [] := List.map_eq_nil_iff.1 h
    subst e
    exact fn_same0 hM hc n
end Go.Proofs.Ytefgpelodpggkaa.Ve
