import Derived.Test.YtfieppbehmglbaaTa
import Derived.Test.YtfieppbehmglbaaVeZ
set_option linter.unusedVariables false
set_option linter.unusedSimpArgs false
namespace Go.Proofs.Ytfieppbehmglbaa.Ve
open Go
set_option maxRecDepth 4000
set_option maxHeartbeats 8000000
theorem br_andw {P : Program} {t : TypeId} {x y : Operand} {k : IntKind} {a b c : Int} (h : k.wrap (BitVec.ofInt k.bits a &&& BitVec.ofInt k.bits b).toNat = c) : binRun P .and t x y (.int k a) (.int k b) = some (.int k c) := by rw [← h]; exact br_and
theorem mask48 (v : Int) (hv : -(2 ^ 63) ≤ v ∧ v < 2 ^ 63) : IntKind.i64.wrap (BitVec.ofInt IntKind.i64.bits v &&& BitVec.ofInt IntKind.i64.bits 281474976710655).toNat = v % 281474976710656 := by
  have h1 : (BitVec.ofInt IntKind.i64.bits v &&& BitVec.ofInt IntKind.i64.bits 281474976710655).toNat = (v % 281474976710656).toNat := by
    rw [BitVec.toNat_and, BitVec.toNat_ofInt, BitVec.toNat_ofInt]
    have hb : ((2 ^ IntKind.i64.bits : Nat) : Int) = 18446744073709551616 := rfl
    rw [hb]
    have e1 : ((281474976710655 : Int) % 18446744073709551616).toNat = 2 ^ 48 - 1 := by decide
    rw [e1, Nat.and_two_pow_sub_one_eq_mod]
    omega
  rw [h1, wrap_id (by omega) (by omega)]
  omega
theorem aw10 : pcall (Ew Try.prog cfg) 36 [] = some (.pv (.sc (.bool true))) := pcall_evN (n := 300) (by kernel_rfl)
/-- The i-th of so many among so many places. -/
def evn (n p : Int) (i : Nat) : Int := n / p + if (i : Int) < n % p then 1 else 0
def eRow (n p : Int) (i : Nat) : List PV := [.sc (.int .i64 (evn n p i))]
def eRows (n p : Int) : List (List PV) := (List.range p.toNat).map (eRow n p)
theorem eRows_len (n p : Int) : (eRows n p).length = p.toNat := by simp [eRows]
theorem eRows_at (n p : Int) {i : Nat} (h : i < p.toNat) : (eRows n p)[i]? = some (eRow n p i) := by
  simp [eRows, h]
theorem sp_even (n p : Int) (hn : 0 ≤ n ∧ n < 2 ^ 48) (hp : p ≤ 64) (hp2 : -(2 ^ 63) ≤ p) : pcall (Ew Try.prog cfg) 40 [.sc (.int .i64 n), .sc (.int .i64 p)] = some (.pv (.fz (eRows n p))) := by
  refine pcall_wc Try.func40 rfl (by decide) ?_ rfl
  show wc _ _ _ (.pv (.sc (.int .i64 n)) :: .pv (.sc (.int .i64 p)) :: List.replicate 32 undefV) _ _
  have hL : (if (0 : Int) > p then 0 else p).toNat = p.toNat := by
    split <;> omega
  (repeat (first | refine w_seq ?_ | refine w_regionL ?_ | refine w_norm ?_ | refine w_exit' ?_ | refine w_ret' ?_ | refine w_block ?_ | refine w_scope ?_ | refine w_skip ?_ | refine w_ret ?_ | refine w_exit ?_ | refine w_label ?_ | refine wo_nil ⟨rfl, ?_⟩ | ((first | apply o_assign | apply o_move | apply o_max | apply o_make | apply o_len | apply o_bin | apply o_indexAddr | apply o_storep | apply o_load) <;> first | refine wo_id ?_ | refine wc_id ?_ | ((with_reducible apply look_id); (exact look_by); done) | ((with_reducible apply bin_id); (exact bin_by); done) | ((with_reducible apply load_id); ((first | (apply ldp; (focus exact get_by); (focus first | exact rfl | assumption)) | apply ldf); (first | exact part_sc (by first | exact ag2) rfl)); done) | ((with_reducible apply cells_id); (exact cells_by); done) | ((with_reducible apply next_id); (exact next_by); done) | ((with_reducible apply get_id); (exact get_by); done) | ((with_reducible apply setAt_id); (exact setat_by); done) | exact el87 | exact by87 | exact ze2 | exact lnF87 _ | exact lnO87 _ _ _ _ | exact lnN87 | exact ia_fz (iaF87 _ _) (by omega) (by assumption) rfl | exact ia_ow (iaO87 _ _ _ _ _) (by omega) (by omega) rfl | exact sz2 | assumption | decide | omega | (intro a h; cases h) | exact rfl) | ((first | apply b_cond) <;> first | refine wo_id ?_ | refine wc_id ?_ | ((with_reducible apply look_id); (exact look_by); done) | (first | exact tt | exact ff | assumption))))
  rw [hL]
  refine w_loopK (fun q tm s => ∃ (k : Nat) (rows : List (List V)), k + q = p.toNat ∧ lk tm 12 = .pv (.sc (.int .i64 k)) ∧ s.get 0 = some ⟨1, rows⟩ ∧ rows.length = p.toNat ∧ (∀ j, j < k → rows[j]? = some ((eRow n p j).map .pv)) ∧ (∀ j, k ≤ j → j < p.toNat → rows[j]? = some [.pv (.sc (.int .i64 0))]) ∧ 1 ≤ s.next) p.toNat rfl
    ⟨0, _, by omega, by exact lk_by, by exact get_by, by simp, fun j hj => absurd hj (by omega), fun j _ hj => by simp [hj], by exact nle_by⟩ ?_
  rintro q tm1 s ⟨k, rows, hkq, h12, hg, hlen, hlo, hhi, hsn⟩ hK
  by_cases hk : k < p.toNat
  · have hwk : IntKind.i64.wrap ((k : Int) + 1) = ((k + 1 : Nat) : Int) := by rw [wrap_id (by omega) (by omega)]; omega
    have hp0 : p ≠ 0 := by omega
    have hrow : rows[0 + ((k : Nat) : Int).toNat]? = some [.pv (.sc (.int .i64 0))] := by
      have := hhi k (Nat.le_refl _) hk
      simpa using this
    have hq1 : 0 ≤ n / p := Int.ediv_nonneg hn.1 (by omega)
    have hq2 : n / p ≤ n := Int.ediv_le_self p hn.1
    have hwq : IntKind.i64.wrap (Int.tdiv n p) = n / p := by
      rw [Int.tdiv_eq_ediv_of_nonneg hn.1]
      exact wrap_id (by omega) (by omega)
    have hmod : n.tmod p = n % p := Int.tmod_eq_emod_of_nonneg hn.1
    have ek : 0 + ((k : Nat) : Int).toNat = k := by omega
    have hset : (rows.set (0 + ((k : Nat) : Int).toNat) [.pv (.sc (.int .i64 (IntKind.i64.wrap (n.tdiv p))))])[0 + ((k : Nat) : Int).toNat]? = some [.pv (.sc (.int .i64 (IntKind.i64.wrap (n.tdiv p))))] := List.getElem?_set_self (by omega)
    have hwa : IntKind.i64.wrap (IntKind.i64.wrap (n.tdiv p) + 1) = n / p + 1 := by rw [hwq]; exact wrap_id (by omega) (by omega)
    by_cases hr : (k : Int) < n % p
    · (repeat (first | refine w_seq ?_ | refine w_regionL ?_ | refine w_norm ?_ | refine w_exit' ?_ | refine w_ret' ?_ | refine w_block ?_ | refine w_scope ?_ | refine w_skip ?_ | refine w_ret ?_ | refine w_exit ?_ | refine w_label ?_ | refine wo_nil ⟨rfl, ?_⟩ | (apply o_bin; (focus exact look_by); (focus exact look_by); (focus first | exact br_addw (hwa) | exact br_subw (hwa) | exact br_mulw (hwa)); (focus exact rfl)) | ((first | apply o_assign | apply o_move | apply o_max | apply o_make | apply o_len | apply o_bin | apply o_indexAddr | apply o_storep | apply o_load) <;> first | refine wo_id ?_ | refine wc_id ?_ | ((with_reducible apply look_id); (exact look_by); done) | ((with_reducible apply bin_id); (exact bin_by); done) | ((with_reducible apply load_id); ((first | (apply ldp; (focus exact get_by); (focus first | exact rfl | assumption)) | apply ldf); (first | exact part_sc (by first | exact ag2) rfl)); done) | ((with_reducible apply cells_id); (exact cells_by); done) | ((with_reducible apply next_id); (exact next_by); done) | ((with_reducible apply get_id); (exact get_by); done) | ((with_reducible apply setAt_id); (exact setat_by); done) | exact el87 | exact by87 | exact ze2 | exact lnF87 _ | exact lnO87 _ _ _ _ | exact lnN87 | exact ia_fz (iaF87 _ _) (by omega) (by assumption) rfl | exact ia_ow (iaO87 _ _ _ _ _) (by omega) (by omega) rfl | exact sz2 | assumption | decide | omega | (intro a h; cases h) | exact rfl) | ((first | apply b_cond) <;> first | refine wo_id ?_ | refine wc_id ?_ | ((with_reducible apply look_id); (exact look_by); done) | (first | exact tt | exact ff | assumption | ((apply ut); (rw [hmod]; exact decide_eq_true hr)) | ((apply uf); (rw [hmod]; exact decide_eq_true hr)) | exact decide_eq_true (by omega) | exact decide_eq_false (by omega))) | (apply l_norm (q - 1) (by omega))))
      refine ⟨k + 1, _, by omega, by rw [← hwk]; exact lk_by, by exact get_by, by simp [hlen], fun j hj => ?_, fun j hj hj2 => ?_, by exact nle_by⟩
      · show ((rows.set (0 + ((k : Nat) : Int).toNat) _).set (0 + ((k : Nat) : Int).toNat) _)[j]? = _
        rw [ek]
        by_cases e : k = j
        · subst e
          rw [List.getElem?_set_self (by simp; omega)]
          simp only [eRow, evn, if_pos hr]
          rfl
        · rw [List.getElem?_set_ne e, List.getElem?_set_ne e]
          exact hlo j (by omega)
      · show ((rows.set (0 + ((k : Nat) : Int).toNat) _).set (0 + ((k : Nat) : Int).toNat) _)[j]? = _
        rw [ek, List.getElem?_set_ne (by omega), List.getElem?_set_ne (by omega)]
        exact hhi j (by omega) hj2
    · (repeat (first | refine w_seq ?_ | refine w_regionL ?_ | refine w_norm ?_ | refine w_exit' ?_ | refine w_ret' ?_ | refine w_block ?_ | refine w_scope ?_ | refine w_skip ?_ | refine w_ret ?_ | refine w_exit ?_ | refine w_label ?_ | refine wo_nil ⟨rfl, ?_⟩ | ((first | apply o_assign | apply o_move | apply o_max | apply o_make | apply o_len | apply o_bin | apply o_indexAddr | apply o_storep | apply o_load) <;> first | refine wo_id ?_ | refine wc_id ?_ | ((with_reducible apply look_id); (exact look_by); done) | ((with_reducible apply bin_id); (exact bin_by); done) | ((with_reducible apply load_id); ((first | (apply ldp; (focus exact get_by); (focus first | exact rfl | assumption)) | apply ldf); (first | exact part_sc (by first | exact ag2) rfl)); done) | ((with_reducible apply cells_id); (exact cells_by); done) | ((with_reducible apply next_id); (exact next_by); done) | ((with_reducible apply get_id); (exact get_by); done) | ((with_reducible apply setAt_id); (exact setat_by); done) | exact el87 | exact by87 | exact ze2 | exact lnF87 _ | exact lnO87 _ _ _ _ | exact lnN87 | exact ia_fz (iaF87 _ _) (by omega) (by assumption) rfl | exact ia_ow (iaO87 _ _ _ _ _) (by omega) (by omega) rfl | exact sz2 | assumption | decide | omega | (intro a h; cases h) | exact rfl) | ((first | apply b_cond) <;> first | refine wo_id ?_ | refine wc_id ?_ | ((with_reducible apply look_id); (exact look_by); done) | (first | exact tt | exact ff | assumption | ((apply ut); (rw [hmod]; exact decide_eq_false hr)) | ((apply uf); (rw [hmod]; exact decide_eq_false hr)) | exact decide_eq_true (by omega) | exact decide_eq_false (by omega))) | (apply l_norm (q - 1) (by omega))))
      refine ⟨k + 1, _, by omega, by rw [← hwk]; exact lk_by, by exact get_by, by simp [hlen], fun j hj => ?_, fun j hj hj2 => ?_, by exact nle_by⟩
      · show (rows.set (0 + ((k : Nat) : Int).toNat) _)[j]? = _
        rw [ek]
        by_cases e : k = j
        · subst e
          rw [List.getElem?_set_self (by omega), hwq]
          simp only [eRow, evn, if_neg hr, Int.add_zero]
          rfl
        · rw [List.getElem?_set_ne e]
          exact hlo j (by omega)
      · show (rows.set (0 + ((k : Nat) : Int).toNat) _)[j]? = _
        rw [ek, List.getElem?_set_ne (by omega)]
        exact hhi j (by omega) hj2
  · have hk' : k = p.toNat := by omega
    have hrows : rows = (eRows n p).map (·.map .pv) := by
      refine List.ext_getElem? fun j => ?_
      by_cases hj : j < p.toNat
      · rw [hlo j (by omega), List.getElem?_map, eRows_at n p hj]
        rfl
      · rw [List.getElem?_eq_none (by omega), List.getElem?_eq_none (by rw [List.length_map, eRows_len]; omega)]
    have hlr : p.toNat = (eRows n p).length := (eRows_len n p).symm
    (repeat (first | refine w_seq ?_ | refine w_regionL ?_ | refine w_norm ?_ | refine w_exit' ?_ | refine w_ret' ?_ | refine w_block ?_ | refine w_scope ?_ | refine w_skip ?_ | refine w_ret ?_ | refine w_exit ?_ | refine w_label ?_ | refine wo_nil ⟨rfl, ?_⟩ | ((first | apply o_assign | apply o_move | apply o_max | apply o_make | apply o_len | apply o_bin | apply o_indexAddr | apply o_storep | apply o_load) <;> first | refine wo_id ?_ | refine wc_id ?_ | ((with_reducible apply look_id); (exact look_by); done) | ((with_reducible apply bin_id); (exact bin_by); done) | ((with_reducible apply load_id); ((first | (apply ldp; (focus exact get_by); (focus first | exact rfl | assumption)) | apply ldf); (first | exact part_sc (by first | exact ag2) rfl)); done) | ((with_reducible apply cells_id); (exact cells_by); done) | ((with_reducible apply next_id); (exact next_by); done) | ((with_reducible apply get_id); (exact get_by); done) | ((with_reducible apply setAt_id); (exact setat_by); done) | exact el87 | exact by87 | exact ze2 | exact lnF87 _ | exact lnO87 _ _ _ _ | exact lnN87 | exact ia_fz (iaF87 _ _) (by omega) (by assumption) rfl | exact ia_ow (iaO87 _ _ _ _ _) (by omega) (by omega) rfl | exact sz2 | assumption | decide | omega | (intro a h; cases h) | exact rfl) | ((first | apply b_cond) <;> first | refine wo_id ?_ | refine wc_id ?_ | ((with_reducible apply look_id); (exact look_by); done) | (first | exact tt | exact ff | assumption | exact decide_eq_true (by omega) | exact decide_eq_false (by omega))) | (refine l_exit ?_; intro R2 W2)))
    (apply ends_ret; (focus exact (e_tmp res_nil)))
    rw [hrows] at hg
    rw [hlr]
    exact ⟨_, by exact fz_by⟩
/-- The sum of the first ones. -/
def evSum (n p : Int) : Nat → Int
  | 0 => 0
  | k + 1 => evSum n p k + evn n p k
theorem evSum_eq (n p : Int) (hp : 0 < p) : ∀ k : Nat, evSum n p k = k * (n / p) + (if (k : Int) ≤ n % p then (k : Int) else n % p)
  | 0 => by
    have := Int.emod_nonneg n (by omega : p ≠ 0)
    simp [evSum, this]
  | k + 1 => by
    have e : ((k + 1 : Nat) : Int) * (n / p) = k * (n / p) + n / p := by
      rw [Int.natCast_add, Int.add_mul]
      simp
    rw [evSum, evSum_eq n p hp k, e, evn]
    split <;> split <;> split <;> omega
theorem evSum_all {n p : Int} (hp : 0 < p) : evSum n p p.toNat = n := by
  have e : (p.toNat : Int) = p := by omega
  have h1 := Int.emod_lt_of_pos n hp
  have h2 := Int.emod_add_mul_ediv n p
  rw [evSum_eq n p hp, e, if_neg (by omega)]
  omega
theorem evSum_bd {n p : Int} (hp : 0 < p) (hn : 0 ≤ n) {k : Nat} (hk : (k : Int) ≤ 64) (hn2 : n < 2 ^ 48) : 0 ≤ evSum n p k ∧ evSum n p k ≤ 2 ^ 62 := by
  have h0 := Int.emod_nonneg n (by omega : p ≠ 0)
  have h1 : 0 ≤ n / p := Int.ediv_nonneg hn (by omega)
  have h2 : n / p ≤ n := Int.ediv_le_self p hn
  have h3 : 0 ≤ (k : Int) * (n / p) := Int.mul_nonneg (by omega) h1
  have h4 : (k : Int) * (n / p) ≤ 64 * 2 ^ 48 := Int.mul_le_mul hk (by omega) h1 (by decide)
  rw [evSum_eq n p hp]
  split <;> omega
theorem wireEven_law (n p : Int) (hn : -(2 ^ 63) ≤ n ∧ n < 2 ^ 63) (hp : -(2 ^ 63) ≤ p ∧ p < 2 ^ 63) : pcall (Ew Try.prog cfg) 8 [.sc (.int .i64 n), .sc (.int .i64 p)] = some (.pv (.sc (.bool true))) := by
  refine pcall_wc Try.func8 rfl (by decide) ?_ rfl
  show wc _ _ _ (.pv (.sc (.int .i64 n)) :: .pv (.sc (.int .i64 p)) :: List.replicate 65 undefV) _ _
  obtain ⟨a, ha⟩ : ∃ a, n % 281474976710656 = a := ⟨_, rfl⟩
  obtain ⟨b, hb⟩ : ∃ b, (if (64 : Int) < p then 64 else p) = b := ⟨_, rfl⟩
  have ha1 : 0 ≤ a ∧ a < 2 ^ 48 := by omega
  have hb1 : b ≤ 64 ∧ -(2 ^ 63) ≤ b := by
    rw [← hb]
    split <;> omega
  have hm := mask48 n hn
  rw [ha] at hm
  have he := sp_even a b ha1 hb1.1 hb1.2
  have hl : (eRows a b).length = b.toNat := eRows_len a b
  (repeat (first | refine w_seq ?_ | refine w_regionL ?_ | refine w_norm ?_ | refine w_exit' ?_ | refine w_ret' ?_ | refine w_block ?_ | refine w_scope ?_ | refine w_skip ?_ | refine w_ret ?_ | refine w_exit ?_ | refine w_label ?_ | refine wo_nil ⟨rfl, ?_⟩ | (apply o_bin; (focus (exact look_by; done)); (focus (exact look_by; done)); (focus exact br_andw hm); (focus exact rfl)) | ((first | apply o_assign | apply o_not | apply o_move | apply o_bin | apply o_min | apply o_len | apply o_max | apply o_indexAddr | apply o_load) <;> first | refine wo_id ?_ | refine wc_id ?_ | ((with_reducible apply look_id); (exact look_by); done) | ((with_reducible apply bin_id); (exact bin_by); done) | ((with_reducible apply load_id); ((first | (apply ldp; (focus exact get_by); (focus first | exact rfl | assumption)) | apply ldf); (first | exact part_sc (by first | exact ag2) rfl)); done) | exact lnF87 _ | exact lnO87 _ _ _ _ | exact lnN87 | exact ia_fz (iaF87 _ _) (by omega) (by assumption) rfl | exact ia_ow (iaO87 _ _ _ _ _) (by omega) (by omega) rfl | (intro a h; cases h) | exact rfl) | (apply o_pcall; (focus exact args_by); (focus exact hb36); (focus exact rfl); (focus ((repeat (first | exact frzAll_nil | apply frzAll_pv)); done)); (focus exact aw10)) | ((first | apply b_cond | apply b_pick | apply b_in) <;> first | refine wo_id ?_ | refine wc_id ?_ | ((with_reducible apply look_id); (exact look_by); done) | ((with_reducible apply yield_id); ((apply yield_of; (focus exact rfl); (focus exact lk_by))); done) | (first | exact tt | exact ff | assumption)) | (apply b_out <;> first | refine wo_id ?_ | ((with_reducible apply yield_id); ((apply yield_of; (focus exact rfl); (focus exact lk_by))); done) | (first | exact tt | exact ff | assumption)) | (apply g_undef; (focus (apply yield_none; (focus exact rfl); (focus exact lk_by))))))
  rw [hb]
  have hbm : ((eRows a b).length : Int) = if (0 : Int) > b then 0 else b := by
    rw [hl]
    split <;> omega
  (repeat (first | refine w_seq ?_ | refine w_regionL ?_ | refine w_norm ?_ | refine w_exit' ?_ | refine w_ret' ?_ | refine w_block ?_ | refine w_scope ?_ | refine w_skip ?_ | refine w_ret ?_ | refine w_exit ?_ | refine w_label ?_ | refine wo_nil ⟨rfl, ?_⟩ | ((first | apply o_assign | apply o_not | apply o_move | apply o_bin | apply o_min | apply o_len | apply o_max | apply o_indexAddr | apply o_load) <;> first | refine wo_id ?_ | refine wc_id ?_ | ((with_reducible apply look_id); (exact look_by); done) | ((with_reducible apply bin_id); (exact bin_by); done) | ((with_reducible apply load_id); ((first | (apply ldp; (focus exact get_by); (focus first | exact rfl | assumption)) | apply ldf); (first | exact part_sc (by first | exact ag2) rfl)); done) | exact lnF87 _ | exact lnO87 _ _ _ _ | exact lnN87 | exact ia_fz (iaF87 _ _) (by omega) (by assumption) rfl | exact ia_ow (iaO87 _ _ _ _ _) (by omega) (by omega) rfl | (intro a h; cases h) | exact rfl) | (apply o_pcall; (focus exact args_by); (focus exact hb40); (focus exact rfl); (focus ((repeat (first | exact frzAll_nil | apply frzAll_pv)); done)); (focus exact he)) | ((first | apply b_cond | apply b_pick | apply b_in) <;> first | refine wo_id ?_ | refine wc_id ?_ | ((with_reducible apply look_id); (exact look_by); done) | ((with_reducible apply yield_id); ((apply yield_of; (focus exact rfl); (focus exact lk_by))); done) | (first | exact tt | exact ff | assumption | ((apply ut); (rw [decide_eq_true hbm]; rfl)) | ((apply uf); (rw [decide_eq_true hbm]; rfl)) | exact decide_eq_true hbm)) | (apply b_out <;> first | refine wo_id ?_ | ((with_reducible apply yield_id); ((apply yield_of; (focus exact rfl); (focus exact lk_by))); done) | (first | exact tt | exact ff | assumption | ((apply ut); (rw [decide_eq_true hbm]; rfl)) | ((apply uf); (rw [decide_eq_true hbm]; rfl)) | exact decide_eq_true hbm)) | (apply g_undef; (focus (apply yield_none; (focus exact rfl); (focus exact lk_by))))))
  refine w_loopK (fun q tm s => ∃ (k : Nat), k + q = b.toNat ∧ lk tm 25 = .pv (.sc (.int .i64 k)) ∧ lk tm 6 = .pv (.sc (.int .i64 (evSum a b k)))) b.toNat rfl ⟨0, by omega, by exact lk_by, by exact lk_by⟩ ?_
  rintro q tm1 s ⟨k, hkq, h25, h6⟩ hK
  by_cases hk : k < b.toNat
  · have hb0 : 0 < b := by omega
    have hrow : (eRows a b)[((k : Nat) : Int).toNat]? = some (eRow a b k) := eRows_at a b hk
    have hrow0 : (eRows a b)[(0 : Int).toNat]? = some (eRow a b 0) := eRows_at a b (by omega)
    have hwk : IntKind.i64.wrap ((k : Int) + 1) = ((k + 1 : Nat) : Int) := by rw [wrap_id (by omega) (by omega)]; omega
    have d0 : 0 ≤ a / b := Int.ediv_nonneg ha1.1 (by omega)
    have d1 : a / b ≤ a := Int.ediv_le_self b ha1.1
    have v1 : evn a b k ≤ evn a b 0 := by
      unfold evn
      split <;> split <;> omega
    have v2 : evn a b 0 - 1 ≤ evn a b k := by
      unfold evn
      split <;> split <;> omega
    have v3 : 0 < k → evn a b k ≤ evn a b (k - 1) := fun h => by
      unfold evn
      split <;> split <;> omega
    have v4 : 0 ≤ evn a b k ∧ evn a b k ≤ 2 ^ 48 := by
      unfold evn
      split <;> omega
    have v5 : 0 ≤ evn a b 0 ∧ evn a b 0 ≤ 2 ^ 48 := by
      unfold evn
      split <;> omega
    have b1 := evSum_bd hb0 ha1.1 (k := k) (by omega) ha1.2
    have hws : IntKind.i64.wrap (evSum a b k + evn a b k) = evSum a b (k + 1) := wrap_id (by omega) (by omega)
    have hw0 : IntKind.i64.wrap (evn a b 0 - 1) = evn a b 0 - 1 := wrap_id (by omega) (by omega)
    by_cases hk0 : k = 0
    · (repeat (first | refine w_seq ?_ | refine w_regionL ?_ | refine w_norm ?_ | refine w_exit' ?_ | refine w_ret' ?_ | refine w_block ?_ | refine w_scope ?_ | refine w_skip ?_ | refine w_ret ?_ | refine w_exit ?_ | refine w_label ?_ | refine wo_nil ⟨rfl, ?_⟩ | (apply o_bin; (focus exact look_by); (focus exact look_by); (focus first | exact br_addw (hws) | exact br_subw (hws) | exact br_mulw (hws)); (focus exact rfl)) | (apply o_bin; (focus exact look_by); (focus exact look_by); (focus first | exact br_addw (hw0) | exact br_subw (hw0) | exact br_mulw (hw0)); (focus exact rfl)) | ((first | apply o_assign | apply o_not | apply o_move | apply o_bin | apply o_min | apply o_len | apply o_max | apply o_indexAddr | apply o_load) <;> first | refine wo_id ?_ | refine wc_id ?_ | ((with_reducible apply look_id); (exact look_by); done) | ((with_reducible apply bin_id); (exact bin_by); done) | ((with_reducible apply load_id); ((first | (apply ldp; (focus exact get_by); (focus first | exact rfl | assumption)) | apply ldf); (first | exact part_sc (by first | exact ag2) rfl)); done) | exact lnF87 _ | exact lnO87 _ _ _ _ | exact lnN87 | exact ia_fz (iaF87 _ _) (by omega) (by assumption) rfl | exact ia_ow (iaO87 _ _ _ _ _) (by omega) (by omega) rfl | (intro a h; cases h) | exact rfl) | ((first | apply b_cond | apply b_pick | apply b_in) <;> first | refine wo_id ?_ | refine wc_id ?_ | ((with_reducible apply look_id); (exact look_by); done) | ((with_reducible apply yield_id); ((apply yield_of; (focus exact rfl); (focus exact lk_by))); done) | (first | exact tt | exact ff | assumption | exact decide_eq_true (by omega) | exact decide_eq_false (by omega))) | (apply b_out <;> first | refine wo_id ?_ | ((with_reducible apply yield_id); ((apply yield_of; (focus exact rfl); (focus exact lk_by))); done) | (first | exact tt | exact ff | assumption | exact decide_eq_true (by omega) | exact decide_eq_false (by omega))) | (apply g_undef; (focus (apply yield_none; (focus exact rfl); (focus exact lk_by)))) | (apply l_norm (q - 1) (by omega))))
      exact ⟨k + 1, by omega, by rw [← hwk]; exact lk_by, by exact lk_by⟩
    · have hwp : IntKind.i64.wrap ((k : Int) - 1) = (k : Int) - 1 := wrap_id (by omega) (by omega)
      have hrowp : (eRows a b)[((k : Int) - 1).toNat]? = some (eRow a b (k - 1)) := by
        have e : ((k : Int) - 1).toNat = k - 1 := by omega
        rw [e]
        exact eRows_at a b (by omega)
      have v3' := v3 (by omega)
      (repeat (first | refine w_seq ?_ | refine w_regionL ?_ | refine w_norm ?_ | refine w_exit' ?_ | refine w_ret' ?_ | refine w_block ?_ | refine w_scope ?_ | refine w_skip ?_ | refine w_ret ?_ | refine w_exit ?_ | refine w_label ?_ | refine wo_nil ⟨rfl, ?_⟩ | (apply o_bin; (focus exact look_by); (focus exact look_by); (focus first | exact br_addw (hws) | exact br_subw (hws) | exact br_mulw (hws)); (focus exact rfl)) | (apply o_bin; (focus exact look_by); (focus exact look_by); (focus first | exact br_addw (hw0) | exact br_subw (hw0) | exact br_mulw (hw0)); (focus exact rfl)) | (apply o_bin; (focus exact look_by); (focus exact look_by); (focus first | exact br_addw (hwp) | exact br_subw (hwp) | exact br_mulw (hwp)); (focus exact rfl)) | ((first | apply o_assign | apply o_not | apply o_move | apply o_bin | apply o_min | apply o_len | apply o_max | apply o_indexAddr | apply o_load) <;> first | refine wo_id ?_ | refine wc_id ?_ | ((with_reducible apply look_id); (exact look_by); done) | ((with_reducible apply bin_id); (exact bin_by); done) | ((with_reducible apply load_id); ((first | (apply ldp; (focus exact get_by); (focus first | exact rfl | assumption)) | apply ldf); (first | exact part_sc (by first | exact ag2) rfl)); done) | exact lnF87 _ | exact lnO87 _ _ _ _ | exact lnN87 | exact ia_fz (iaF87 _ _) (by omega) (by assumption) rfl | exact ia_ow (iaO87 _ _ _ _ _) (by omega) (by omega) rfl | (intro a h; cases h) | exact rfl) | ((first | apply b_cond | apply b_pick | apply b_in) <;> first | refine wo_id ?_ | refine wc_id ?_ | ((with_reducible apply look_id); (exact look_by); done) | ((with_reducible apply yield_id); ((apply yield_of; (focus exact rfl); (focus exact lk_by))); done) | (first | exact tt | exact ff | assumption | exact decide_eq_true (by omega) | exact decide_eq_false (by omega))) | (apply b_out <;> first | refine wo_id ?_ | ((with_reducible apply yield_id); ((apply yield_of; (focus exact rfl); (focus exact lk_by))); done) | (first | exact tt | exact ff | assumption | exact decide_eq_true (by omega) | exact decide_eq_false (by omega))) | (apply g_undef; (focus (apply yield_none; (focus exact rfl); (focus exact lk_by)))) | (apply l_norm (q - 1) (by omega))))
      exact ⟨k + 1, by omega, by rw [← hwk]; exact lk_by, by exact lk_by⟩
  · have hk' : k = b.toNat := by omega
    by_cases hb0 : 0 < b
    · rw [hk', evSum_all hb0] at h6
      (repeat (first | refine w_seq ?_ | refine w_regionL ?_ | refine w_norm ?_ | refine w_exit' ?_ | refine w_ret' ?_ | refine w_block ?_ | refine w_scope ?_ | refine w_skip ?_ | refine w_ret ?_ | refine w_exit ?_ | refine w_label ?_ | refine wo_nil ⟨rfl, ?_⟩ | ((first | apply o_assign | apply o_not | apply o_move | apply o_bin | apply o_min | apply o_len | apply o_max | apply o_indexAddr | apply o_load) <;> first | refine wo_id ?_ | refine wc_id ?_ | ((with_reducible apply look_id); (exact look_by); done) | ((with_reducible apply bin_id); (exact bin_by); done) | ((with_reducible apply load_id); ((first | (apply ldp; (focus exact get_by); (focus first | exact rfl | assumption)) | apply ldf); (first | exact part_sc (by first | exact ag2) rfl)); done) | exact lnF87 _ | exact lnO87 _ _ _ _ | exact lnN87 | exact ia_fz (iaF87 _ _) (by omega) (by assumption) rfl | exact ia_ow (iaO87 _ _ _ _ _) (by omega) (by omega) rfl | (intro a h; cases h) | exact rfl) | ((first | apply b_cond | apply b_pick | apply b_in) <;> first | refine wo_id ?_ | refine wc_id ?_ | ((with_reducible apply look_id); (exact look_by); done) | ((with_reducible apply yield_id); ((apply yield_of; (focus exact rfl); (focus exact lk_by))); done) | (first | exact tt | exact ff | assumption | exact decide_eq_true (by omega) | exact decide_eq_false (by omega))) | (apply b_out <;> first | refine wo_id ?_ | ((with_reducible apply yield_id); ((apply yield_of; (focus exact rfl); (focus exact lk_by))); done) | (first | exact tt | exact ff | assumption | exact decide_eq_true (by omega) | exact decide_eq_false (by omega))) | (apply g_undef; (focus (apply yield_none; (focus exact rfl); (focus exact lk_by)))) | (refine l_exit ?_; intro R2 W2)))
      (apply ends_ret; (focus exact (e_tmp res_nil)))
      exact ⟨_, by first | (simp; exact fz_by) | exact fz_by⟩
    · (repeat (first | refine w_seq ?_ | refine w_regionL ?_ | refine w_norm ?_ | refine w_exit' ?_ | refine w_ret' ?_ | refine w_block ?_ | refine w_scope ?_ | refine w_skip ?_ | refine w_ret ?_ | refine w_exit ?_ | refine w_label ?_ | refine wo_nil ⟨rfl, ?_⟩ | ((first | apply o_assign | apply o_not | apply o_move | apply o_bin | apply o_min | apply o_len | apply o_max | apply o_indexAddr | apply o_load) <;> first | refine wo_id ?_ | refine wc_id ?_ | ((with_reducible apply look_id); (exact look_by); done) | ((with_reducible apply bin_id); (exact bin_by); done) | ((with_reducible apply load_id); ((first | (apply ldp; (focus exact get_by); (focus first | exact rfl | assumption)) | apply ldf); (first | exact part_sc (by first | exact ag2) rfl)); done) | exact lnF87 _ | exact lnO87 _ _ _ _ | exact lnN87 | exact ia_fz (iaF87 _ _) (by omega) (by assumption) rfl | exact ia_ow (iaO87 _ _ _ _ _) (by omega) (by omega) rfl | (intro a h; cases h) | exact rfl) | ((first | apply b_cond | apply b_pick | apply b_in) <;> first | refine wo_id ?_ | refine wc_id ?_ | ((with_reducible apply look_id); (exact look_by); done) | ((with_reducible apply yield_id); ((apply yield_of; (focus exact rfl); (focus exact lk_by))); done) | (first | exact tt | exact ff | assumption | exact decide_eq_true (by omega) | exact decide_eq_false (by omega))) | (apply b_out <;> first | refine wo_id ?_ | ((with_reducible apply yield_id); ((apply yield_of; (focus exact rfl); (focus exact lk_by))); done) | (first | exact tt | exact ff | assumption | exact decide_eq_true (by omega) | exact decide_eq_false (by omega))) | (apply g_undef; (focus (apply yield_none; (focus exact rfl); (focus exact lk_by)))) | (refine l_exit ?_; intro R2 W2)))
      (apply ends_ret; (focus exact (e_tmp res_nil)))
      exact ⟨_, by first | (simp; exact fz_by) | exact fz_by⟩
end Go.Proofs.Ytfieppbehmglbaa.Ve
