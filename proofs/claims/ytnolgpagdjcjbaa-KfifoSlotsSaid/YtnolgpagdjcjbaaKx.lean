import Derived.Test.YtnolgpagdjcjbaaKq
import Derived.Test.YtnolgpagdjcjbaaKg
set_option linter.unusedVariables false
set_option linter.unusedSimpArgs false
namespace Go.Proofs.Ytnolgpagdjcjbaa.Ve
open Go
set_option maxRecDepth 4000
set_option maxHeartbeats 8000000
theorem ln_leS {n : Int} (hn : 0 ≤ n) : ∀ ps : Pts, (∀ p ∈ ps, p.at_ < n) → ln ps ≤ n := by
  refine snoc_ind (fun _ => hn) fun l a ih h => ?_
  rw [ln_snoc]
  have h1 := ih fun p hp => h p (by simp [hp])
  have h2 := h a (by simp)
  omega
def SP (n : Int) (N : Nat) (ps : Pts) : Prop := KMem n ps (2 + N) ∧ ps.length ≤ N ∧ SMem n ps
def SF (n : Int) (N : Nat) (ps : Pts) (f : RF) : Prop := KFr n f (2 + N) ∧ SFr n ps f
theorem s_gstep {n : Int} (hn : 1 ≤ n ∧ n ≤ 16) : GStep (SP n) (SF n) (kfR n) where
  st := fun N ps f hm hf => by
    obtain ⟨a, b, c⟩ := hm
    obtain ⟨d, e⟩ := hf
    obtain ⟨h1, h2, h3⟩ := kfR_inv hn (B := 2 + (N : Int)) (by omega) a d
    obtain ⟨g1, g2, g3⟩ := s_step hn.1 c d e
    exact ⟨⟨h1.up (by omega), by omega, g1⟩, fun hd => ⟨(h2 hd).up (by omega), g3 hd⟩⟩
  up := fun N ps f g hm hf hg => by
    obtain ⟨a, b, c⟩ := hm
    obtain ⟨d, e⟩ := hf
    obtain ⟨d2, e2⟩ := hg
    exact ⟨d2.up (by omega), e2.up hn.1 d2.seg.1 (s_step hn.1 c d e).2.1⟩
theorem kfr_newS {n : Int} (hn : 1 ≤ n ∧ n ≤ 16) {x : Rw} (hx : RwOk x) {B : Int} (hB : 0 ≤ B) : KFr n (toldF (ownOp 3 4 x)) B where
  d0 := hx.d0
  seg := ⟨Int.le_refl 0, hB⟩
  at_ := ⟨Int.le_refl 0, by show (0 : Int) < n; omega⟩
  seen := ⟨Int.le_refl 0, by show (0 : Int) ≤ n; omega⟩
  seen1 := fun _ h => by rcases h with h | h <;> cases h
  seen2 := fun _ h => by rcases h with h | h <;> cases h
  emp := fun _ => rfl
  c1 := fun _ h => by cases h
theorem s_new {n : Int} (hn : 1 ≤ n ∧ n ≤ 16) : ∀ N ps x, SP n N ps → RwOk x → SF n N ps (toldF (ownOp 3 4 x)) := fun N ps x _ hx => ⟨kfr_newS hn hx (by omega), sfr0 rfl⟩
structure SInv (n : Int) (D : DS) : Prop where
  k : KInv n D
  g : GInv (SP n) (SF n) D
theorem sinv0 (n : Int) (q : Nat) : SInv n (ds0 q) where
  k := kinv0 n q
  g := ginv0 ⟨⟨fun i => ⟨Int.le_refl 0, by show (0 : Int) ≤ _; omega⟩, fun i _ h9 => by cases h9⟩, Nat.le_refl 0, smem0 n⟩ q
theorem sinv_step {n : Int} (hn : 1 ≤ n ∧ n ≤ 16) {ops : List (List Rw)} (hops : ∀ l ∈ ops, ∀ x ∈ l, RwOk x) {D D' : DS} {k : Nat} (hD : D.n < 200) (hI : SInv n D) (hb : dbeg (ownOp 3 4) ops D k = some D') : SInv n (dmov (kfR n) D' k) ∧ Up n D.ps (dmov (kfR n) D' k).ps := by
  refine ⟨⟨kinv_step hn hops D k D' hD hI.k hb, ginv_step (s_new hn) (s_gstep hn) hops hI.g hb⟩, ?_⟩
  obtain ⟨h1, h2, h3, t, h4, h5⟩ := g_dbeg (s_new hn) hops hI.g hb
  have hf := h1.fr k t h4 h5
  have hu := (s_step hn.1 h1.mem.2.2 hf.1 hf.2).2.1
  rw [h3] at hu
  have e : (dmov (kfR n) D' k).ps = (kfR n D.ps t.f).1 := by
    unfold dmov
    rw [h4, h3]
    simp only
    split <;> rfl
  rw [e]
  exact hu
/-- What stands behind each pick. -/
def JSl (n : Int) (bh bt bk : Nat) (st : St) (K : List Nat) (D : DS) : Prop :=
  ∃ hd tl : Int, K = [bh, bt, bk] ∧ st.get bh = some ⟨1, [[.pv (.sc (.int .i64 hd))]]⟩ ∧ st.get bt = some ⟨1, [[.pv (.sc (.int .i64 tl))]]⟩ ∧ st.get bk = some ⟨1, [[.pv (.sc (.int .i64 n))]]⟩ ∧ bh < st.next ∧ bt < st.next ∧ bk < st.next ∧ hd ≤ (rd D.ps 0).2.n ∧ tl ≤ (rd D.ps 1).2.n
theorem k_slots {n : Int} (hn : 1 ≤ n ∧ n ≤ 16) {ops : List (List Rw)} (hops : ∀ l ∈ ops, ∀ x ∈ l, RwOk x) {bh bt bk : Nat} (n1 : bh ≠ bt) (n2 : bh ≠ bk) (n3 : bt ≠ bk) (q : Nat) :
    KAround n q ops 30 [.ptr bh 0 0, .ptr bt 0 0, .ptr bk 0 0] (JSl n bh bt bk) (SInv n) :=
  kf_around hn q hops hb30 (fun st K D k D' m I c Jc hD hI hbg hJ hM hC hdis => by
      obtain ⟨hd, tl, rfl, gh, gt, gk, lh, lt, lk, h1, h2⟩ := hJ
      obtain ⟨hI2, hu⟩ := sinv_step hn hops hD hI hbg
      obtain ⟨c1, c2, c3⟩ := hI2.g.mem
      have hN : (dmov (kfR n) D' k).n = D.n + 1 := by
        obtain ⟨h1, h2, h3, t, h4, h5⟩ := g_dbeg (s_new hn) hops hI.g hbg
        unfold dmov
        rw [h4]
        simp only
        split <;> simp [h2]
      have hB := (c1.cell 1).2
      have d1 := hdis bh (by simp)
      have d2 := hdis bt (by simp)
      have d3 := hdis bk (by simp)
      refine (fn_seeS hn hM c3 (by omega) (ln_leS (by omega) _ (fun p hp => (hM.wf.at_ p hp).2)) hC.at.cell1.2 gh gt gk lh lt lk n1 n2 n3 ⟨d1.1, d2.1, d3.1⟩ ⟨d1.2.1, d2.2.1, d3.2.1⟩ (Int.le_trans h1 hu.hd) (Int.le_trans h2 hu.tl)).mono ?_
      rintro v st' R W ⟨rfl, g1, g2, g3, hF⟩
      have hn' := hF.next
      exact ⟨rfl, [bh, bt, bk], ⟨_, _, rfl, g1, g2, g3, by omega, by omega, by omega, Int.le_refl _, Int.le_refl _⟩, hF.wide (by simp), fun x hx => .inl hx⟩)
    (fun st st' F K D hJ hF hx => by
      obtain ⟨hd, tl, rfl, gh, gt, gk, lh, lt, lk, h1, h2⟩ := hJ
      have hn' := hF.next
      exact ⟨hd, tl, rfl, hF.getq lh (hx _ (by simp)) gh, hF.getq lt (hx _ (by simp)) gt, hF.getq lk (hx _ (by simp)) gk, by omega, by omega, by omega, h1, h2⟩)
    (fun st K D hJ => by
      obtain ⟨hd, tl, rfl, gh, gt, gk, lh, lt, lk, h1, h2⟩ := hJ
      intro x hx
      simp at hx
      omega)
    (fun _ h => h.k) (fun D k D' hD hI hbg => (sinv_step hn hops hD hI hbg).1)
theorem kfifoSlots_law (sh : Int) (hsh : i64 sh) {ops : List (List Rw)} (hops : ∀ l ∈ ops, l.length ≤ maxLen ∧ ∀ x ∈ l, RwOk x) (hol : ops.length ≤ maxLen) (picks : List Int) (hpk : ∀ p ∈ picks, i64 p) (hpl : picks.length ≤ maxLen) :
    pcall (Ew Try.prog cfg) 7 [.sc (.int .i64 sh), .fz (rOps ops), .fz (picks.map iR)] = some (.pv (.sc (.bool true))) := by
  have hr := into_range sh 16 (by omega)
  obtain ⟨n, hn⟩ : ∃ n, 1 + into sh 16 = n := ⟨_, rfl⟩
  have hn1 : 1 ≤ n ∧ n ≤ 16 := by omega
  have h1 := sp_into6 sh 16 hsh (by omega)
  have hw : IntKind.i64.wrap (1 + into sh 16) = n := by rw [hn]; exact wrap_id (by omega) (by omega)
  refine pcall_wc Try.func7 rfl (by decide) ?_ rfl
  show wc _ _ _ (.pv (.sc (.int .i64 sh)) :: .pv (.fz (rOps ops)) :: .pv (.fz (picks.map iR)) :: List.replicate 22 undefV) _ _
  have hops4 : ∀ l ∈ ops.take 4, ∀ x ∈ l, RwOk x := fun l hl => (hops l (List.mem_of_mem_take hl)).2
  (repeat (first | refine w_seq ?_ | refine w_regionL ?_ | refine w_norm ?_ | refine w_exit' ?_ | refine w_ret' ?_ | refine w_block ?_ | refine w_scope ?_ | refine w_skip ?_ | refine w_ret ?_ | refine w_exit ?_ | refine w_label ?_ | refine wo_nil ⟨rfl, ?_⟩ | (apply o_bin; (focus exact look_by); (focus exact look_by); (focus first | exact br_addw (hw) | exact br_subw (hw) | exact br_mulw (hw)); (focus exact rfl)) | ((first | apply o_box | apply o_assign | apply o_not | apply o_load | apply o_bin | apply o_storep | apply o_alloc | apply o_move | apply o_func | apply o_extract) <;> first | refine wo_id ?_ | refine wc_id ?_ | ((with_reducible apply look_id); (exact look_by); done) | ((with_reducible apply bin_id); (exact bin_by); done) | ((with_reducible apply load_id); ((first | (apply ldp; (focus exact get_by); (focus first | exact rfl | assumption)) | apply ldf); (first | exact part_sc (by first | exact ag3) rfl)); done) | ((with_reducible apply cells_id); (exact cells_by); done) | ((with_reducible apply next_id); (exact next_by); done) | ((with_reducible apply get_id); (exact get_by); done) | ((with_reducible apply setAt_id); (exact setat_by); done) | ((with_reducible apply args_id); (exact args_by); done) | exact sz3 | exact ze3 | exact ze62 | exact sz62 | assumption | exact rfl) | (apply o_pcall; (focus exact args_by); (focus exact hb13); (focus exact rfl); (focus ((repeat (first | exact frzAll_nil | apply frzAll_pv)); done)); (focus exact aw9)) | (apply o_pcall; (focus exact args_by); (focus exact hb14); (focus exact rfl); (focus ((repeat (first | exact frzAll_nil | apply frzAll_pv)); done)); (focus exact h1)) | ((first | apply b_cond) <;> first | refine wo_id ?_ | refine wc_id ?_ | ((with_reducible apply look_id); (exact look_by); done) | (first | exact tt | exact ff | assumption))))
  refine o_call (by exact args_by) hb23 (fn_kdrive hn1 hops hol picks hpk hpl (fun q => k_slots hn1 hops4 (bh := 1) (bt := 2) (bk := 0) (by decide) (by decide) (by decide) q) (K0 := [1, 2, 0]) ⟨0, 0, rfl, by exact get_by, by exact get_by, by exact get_by, by exact nle_by, by exact nle_by, by exact nle_by, Int.le_refl 0, Int.le_refl 0⟩ (by simp; exact ⟨by exact nle_by, by exact nle_by, by exact nle_by⟩) (sinv0 n _)) ?_
  rintro _ s1 R1 W1 ⟨D, m, I, c, Jc, K', hD, rfl, hM, hC, hJ1, hI1, ⟨q1, q2, q3, q4⟩, hF1⟩
  have hc1 : c.cell1 = true := by
    rcases hC with ⟨rfl, -⟩ | h
    · rfl
    · exact h.at.cell1.2
  have hcell : ([.ptr m 0 0, .pv (.fz (D.ps.map rPt)), c, .pv (.sc (.int .i64 D.n))] : List V).all V.cell1 = true := by
    simp only [List.all_cons, hc1]
    rfl
  (repeat (first | refine w_seq ?_ | refine w_regionL ?_ | refine w_norm ?_ | refine w_exit' ?_ | refine w_ret' ?_ | refine w_block ?_ | refine w_scope ?_ | refine w_skip ?_ | refine w_ret ?_ | refine w_exit ?_ | refine w_label ?_ | refine wo_nil ⟨rfl, ?_⟩ | ((first | apply o_box | apply o_assign | apply o_not | apply o_load | apply o_bin | apply o_storep | apply o_alloc | apply o_move | apply o_func | apply o_extract) <;> first | refine wo_id ?_ | refine wc_id ?_ | ((with_reducible apply look_id); (exact look_by); done) | ((with_reducible apply bin_id); (exact bin_by); done) | ((with_reducible apply load_id); ((first | (apply ldp; (focus exact get_by); (focus first | exact rfl | assumption)) | apply ldf); (first | exact part_sc (by first | exact ag3) rfl)); done) | ((with_reducible apply cells_id); (exact cells_by); done) | ((with_reducible apply next_id); (exact next_by); done) | ((with_reducible apply get_id); (exact get_by); done) | ((with_reducible apply setAt_id); (exact setat_by); done) | ((with_reducible apply args_id); (exact args_by); done) | exact sz3 | exact ze3 | exact ze62 | exact sz62 | assumption | exact rfl) | ((first | apply b_cond) <;> first | refine wo_id ?_ | refine wc_id ?_ | ((with_reducible apply look_id); (exact look_by); done) | (first | exact tt | exact ff | assumption))))
  (apply ends_ret; (focus exact (e_tmp res_nil)))
  exact ⟨_, by exact fz_by⟩
end Go.Proofs.Ytnolgpagdjcjbaa.Ve
