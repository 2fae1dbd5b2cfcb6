import Derived.Test.YtefgpelodpggkaaMp
import Derived.Test.YtefgpelodpggkaaMr
import Derived.Test.YtefgpelodpggkaaMg
set_option linter.unusedVariables false
set_option linter.unusedSimpArgs false
namespace Go.Proofs.Ytefgpelodpggkaa.Ve
open Go XFlt
set_option maxRecDepth 4000
set_option maxHeartbeats 8000000
/-- The items of the first shards, one behind the other. -/
def flatL (ps : Pts) : Nat → List IV
  | 0 => []
  | k + 1 => flatL ps k ++ (rd ps k).2.l.map ivI
/-- The items of all shards, in order. -/
def allL (ps : Pts) (n : Int) : List IV := (flatL ps n.toNat).foldl withL []
theorem perm_rc {α : Type} (a b c : List α) : ((a ++ b) ++ c).Perm ((a ++ c) ++ b) := by
  rw [List.append_assoc, List.append_assoc]
  exact List.Perm.append_left a List.perm_append_comm
theorem flat_ne (ps : Pts) (a : Int) (v : Vl) : ∀ n : Nat, (n : Int) ≤ a → flatL (ps ++ [⟨a, v⟩]) n = flatL ps n
  | 0, _ => rfl
  | n + 1, h => by
    simp only [flatL]
    rw [flat_ne ps a v n (by omega), rd_snoc, if_neg (by show ¬ a = (n : Int); omega)]
theorem flat_snoc (ps : Pts) (a : Int) (v : Vl) (h0 : 0 ≤ a) : ∀ n : Nat, a < n → (flatL (ps ++ [⟨a, v⟩]) n ++ (rd ps a).2.l.map ivI).Perm (flatL ps n ++ v.l.map ivI)
  | 0, h => by omega
  | n + 1, h => by
    simp only [flatL]
    by_cases e : a = n
    · subst e
      rw [flat_ne ps _ v n (Int.le_refl _), rd_snoc, if_pos rfl]
      exact perm_rc _ _ _
    · rw [rd_snoc, if_neg (show ¬ a = (n : Int) from e)]
      exact ((perm_rc _ _ _).trans ((flat_snoc ps a v h0 n (by omega)).append_right _)).trans (perm_rc _ _ _)
theorem allL_perm (ps : Pts) (n : Int) : (allL ps n).Perm (flatL ps n.toNat) := (foldW_perm (flatL ps n.toNat) []).trans (List.Perm.of_eq (List.append_nil _))
theorem allL_srt (ps : Pts) (n : Int) : Srt (allL ps n) := foldW_srt _ List.Pairwise.nil
theorem flat_cnl {ps : Pts} (h : ∀ i, GL (rd ps i).2.l) : ∀ n : Nat, Cnl (flatL ps n)
  | 0 => fun x hx => by cases hx
  | n + 1 => fun x hx => by
    rcases List.mem_append.1 hx with hx | hx
    · exact flat_cnl h n x hx
    · exact (h n).cnl x hx
theorem allL_cnl {ps : Pts} (h : ∀ i, GL (rd ps i).2.l) (n : Int) : Cnl (allL ps n) := (flat_cnl h n.toNat).perm (allL_perm ps n)
theorem flat_len {ps : Pts} (h : ∀ i, GL (rd ps i).2.l) : ∀ n : Nat, (flatL ps n).length ≤ 62 * n
  | 0 => Nat.le_refl 0
  | n + 1 => by
    have h1 := flat_len h n
    have h2 := (h n).len
    simp only [flatL, List.length_append, List.length_map]
    omega
theorem allL_len {ps : Pts} (h : ∀ i, GL (rd ps i).2.l) (n : Int) : (allL ps n).length ≤ 62 * n.toNat := by
  rw [(allL_perm ps n).length_eq]
  exact flat_len h _
/-- What was read is what is there, if nobody has written since. -/
structure VF (n : Int) (ps : Pts) (f : RF) : Prop where
  a : f.pc ≠ 0 → f.v0 ≤ ps.length ∧ ((rd ps (into f.d0 n)).1 = f.v0 → (rd ps (into f.d0 n)).2 = f.c0)
  b : f.pc = 2 → f.v1 ≤ ps.length ∧ ((rd ps (into f.d1 n)).1 = f.v1 → (rd ps (into f.d1 n)).2 = f.c1)
theorem ver_snoc {ps : Pts} {p : Pt} {a : Int} {v : Nat} {c : Vl} (h : v ≤ ps.length ∧ ((rd ps a).1 = v → (rd ps a).2 = c)) : v ≤ (ps ++ [p]).length ∧ ((rd (ps ++ [p]) a).1 = v → (rd (ps ++ [p]) a).2 = c) := by
  refine ⟨by simp; omega, fun e => ?_⟩
  rw [rd_snoc] at e ⊢
  by_cases hp : p.at_ = a
  · rw [if_pos hp] at e
    have e : ps.length + 1 = v := e
    omega
  · rw [if_neg hp] at e ⊢
    exact h.2 e
theorem VF.snoc {n : Int} {ps : Pts} {f : RF} (h : VF n ps f) (p : Pt) : VF n (ps ++ [p]) f := ⟨fun hp => ver_snoc (h.a hp), fun hp => ver_snoc (h.b hp)⟩
theorem wrR_ps (ps : Pts) (f : RF) (at_ ver : Int) (l : List It) (a : It) : (wrR ps f at_ ver l a).1 = ps ∨ ∃ p, (wrR ps f at_ ver l a).1 = ps ++ [p] := by
  unfold wrR
  split
  · exact .inr ⟨_, rfl⟩
  · exact .inl rfl
theorem wrR_pc (ps : Pts) (f : RF) (at_ ver : Int) (l : List It) (a : It) : (wrR ps f at_ ver l a).2.1 = { f with pc := 0 } := by
  unfold wrR
  split <;> rfl
theorem multiR_ps (n : Int) (ps : Pts) (f : RF) : (multiR n ps f).1 = ps ∨ ∃ p, (multiR n ps f).1 = ps ++ [p] := by
  unfold multiR
  split
  · unfold insR
    split
    · exact .inl rfl
    · exact wrR_ps _ _ _ _ _ _
  · unfold delR
    split
    · exact .inl rfl
    · split
      · exact .inl rfl
      · split
        · exact wrR_ps _ _ _ _ _ _
        · exact wrR_ps _ _ _ _ _ _
theorem vf0 {n : Int} {ps : Pts} {f : RF} (h : f.pc = 0) : VF n ps f := ⟨fun h1 => absurd h h1, fun h2 => absurd (h.symm.trans h2) (by decide)⟩
theorem multi_vf {n : Int} {ps : Pts} {f : RF} (h : VF n ps f) : VF n (multiR n ps f).1 (multiR n ps f).2.1 := by
  unfold multiR
  split
  · unfold insR
    split
    · exact ⟨fun _ => ⟨rd_ver _ _, fun _ => rfl⟩, fun h => absurd h (by decide : ¬ (1 : Int) = 2)⟩
    · exact vf0 (by rw [wrR_pc])
  · unfold delR
    split
    · exact ⟨fun _ => ⟨rd_ver _ _, fun _ => rfl⟩, fun h => absurd h (by decide : ¬ (1 : Int) = 2)⟩
    · rename_i hp
      split
      · exact ⟨fun _ => h.a hp, fun _ => ⟨rd_ver _ _, fun _ => rfl⟩⟩
      · split
        · exact vf0 (by rw [wrR_pc])
        · exact vf0 (by rw [wrR_pc])
theorem multi_gstepV (n : Int) : GStep MMem (fun _ ps f => MFr f ∧ VF n ps f) (multiR n) where
  st := fun N ps f hm hf => by
    obtain ⟨h1, h2⟩ := multiR_inv n N ps f hm hf.1
    exact ⟨h1, fun hd => ⟨h2 hd, multi_vf hf.2⟩⟩
  up := fun N ps f g hm hf hg => by
    refine ⟨hg.1, ?_⟩
    rcases multiR_ps n ps f with e | ⟨p, e⟩
    · rw [e]
      exact hg.2
    · rw [e]
      exact hg.2.snoc p
/-- What a write does to all items. -/
theorem all_put {n : Int} {ps : Pts} (hg : ∀ i, GL (rd ps i).2.l) {d : Int} (hn : 1 ≤ n) {l : List It} {x : IV} (hx : canonB x.1 = x.1 ∧ x.1 < 2 ^ 64) (hl : (l.map ivI).Perm (x :: (rd ps (into d n)).2.l.map ivI)) :
    withL (allL ps n) x = allL (ps ++ [⟨into d n, ⟨0, l⟩⟩]) n := by
  have hin := into_range d n (by omega)
  have h1 := flat_snoc ps (into d n) ⟨0, l⟩ hin.1 n.toNat (by omega)
  have h2 : (flatL (ps ++ [⟨into d n, ⟨0, l⟩⟩]) n.toNat).Perm (x :: flatL ps n.toNat) := by
    refine (List.perm_append_right_iff ((rd ps (into d n)).2.l.map ivI)).1 (h1.trans ?_)
    exact (List.Perm.append_left _ hl).trans List.perm_middle
  refine srt_eq ?_ (withL_srt (allL_srt ps n)) (allL_srt _ n) ?_
  · intro y hy
    rcases List.mem_cons.1 ((withL_perm _ _).subset hy) with rfl | hy
    · exact hx
    · exact allL_cnl hg n y hy
  · exact (withL_perm _ _).trans ((List.Perm.cons x (allL_perm ps n)).trans (h2.symm.trans (allL_perm _ n).symm))
theorem all_del {n : Int} {ps : Pts} {d : Int} (hn : 1 ≤ n) {l : List It} {x : It} (hl : (rd ps (into d n)).2.l = x :: l) :
    (allL ps n).Perm (ivI x :: allL (ps ++ [⟨into d n, ⟨0, l⟩⟩]) n) := by
  have hin := into_range d n (by omega)
  have h1 := flat_snoc ps (into d n) ⟨0, l⟩ hin.1 n.toNat (by omega)
  rw [hl] at h1
  have h2 : (ivI x :: flatL (ps ++ [⟨into d n, ⟨0, l⟩⟩]) n.toNat).Perm (flatL ps n.toNat) := by
    refine (List.perm_append_right_iff (l.map ivI)).1 (List.Perm.trans ?_ h1)
    exact List.perm_middle.symm
  exact (allL_perm ps n).trans (h2.symm.trans (List.Perm.cons _ (allL_perm _ n).symm))
/-- What a step does, seen from all items. -/
inductive Eff (n : Int) (ps : Pts) (f : RF) : Prop
  | go (hd : (multiR n ps f).2.2.2 = false) (hp : (multiR n ps f).1 = ps)
  | no (hd : (multiR n ps f).2.2.2 = true) (ho : (multiR n ps f).2.2.1.ok = false) (hp : (multiR n ps f).1 = ps)
  | ins (hk : f.k = 1) (hd : (multiR n ps f).2.2.2 = true) (ho : (multiR n ps f).2.2.1.ok = true) (hi : (multiR n ps f).2.2.1.it = f.it) (hp : withL (allL ps n) (ivI f.it) = allL (multiR n ps f).1 n)
  | del (hk : f.k = 2) (hd : (multiR n ps f).2.2.2 = true) (ho : (multiR n ps f).2.2.1.ok = true) (d : Int) (x : It) (l : List It) (hl : (rd ps (into d n)).2.l = x :: l) (hi : (multiR n ps f).2.2.1.it = x) (hp : (multiR n ps f).1 = ps ++ [⟨into d n, ⟨0, l⟩⟩])
theorem multi_eff {n : Int} (hn : 1 ≤ n) {ps : Pts} {f : RF} (hg : ∀ i, GL (rd ps i).2.l) (hf : MFr f) (hv : VF n ps f) : Eff n ps f := by
  by_cases hk : f.k = 1
  · have e0 : multiR n ps f = insR n ps f := if_pos hk
    by_cases hp : f.pc = 0
    · have e : insR n ps f = _ := if_pos hp
      by_cases hd : 61 < (rd ps (into f.d0 n)).2.l.length
      · exact .no (by rw [e0, e]; exact decide_eq_true hd) (by rw [e0, e]; rfl) (by rw [e0, e])
      · exact .go (by rw [e0, e]; exact decide_eq_false hd) (by rw [e0, e])
    · have e : insR n ps f = wrR ps f (into f.d0 n) f.v0 (withI f.c0.l f.it) f.it := if_neg hp
      by_cases hm : may ps (into f.d0 n) f.v0
      · have e2 : wrR ps f (into f.d0 n) f.v0 (withI f.c0.l f.it) f.it = _ := if_pos hm
        have hc := (hv.a hp).2 (by have := hm.2.2; omega)
        refine .ins hk (by rw [e0, e, e2]) (by rw [e0, e, e2]) (by rw [e0, e, e2]) ?_
        rw [e0, e, e2]
        refine all_put hg hn ⟨(canonB_eq _).trans hf.it.1, hf.it.2⟩ ?_
        unfold withI
        rw [iv_it, hc]
        exact withL_perm _ _
      · have e2 : wrR ps f (into f.d0 n) f.v0 (withI f.c0.l f.it) f.it = _ := if_neg hm
        exact .go (by rw [e0, e, e2]) (by rw [e0, e, e2])
  · have hk2 : f.k = 2 := hf.k.resolve_left hk
    have e0 : multiR n ps f = delR n ps f := if_neg hk
    by_cases hp : f.pc = 0
    · have e : delR n ps f = _ := if_pos hp
      exact .go (by rw [e0, e]) (by rw [e0, e])
    · by_cases hp1 : f.pc = 1
      · have e : delR n ps f = _ := (if_neg hp).trans (if_pos hp1)
        by_cases hd : f.c0.l.length + (rd ps (into f.d1 n)).2.l.length = 0
        · exact .no (by rw [e0, e]; exact decide_eq_true hd) (by rw [e0, e]; rfl) (by rw [e0, e])
        · exact .go (by rw [e0, e]; exact decide_eq_false hd) (by rw [e0, e])
      · have hp2 : f.pc = 2 := by
          rcases hf.pc with h | h | ⟨h, -⟩
          · exact absurd h hp
          · exact absurd h hp1
          · exact h
        have hne := hf.del hk2 hp2
        by_cases hs : secB f.c0.l f.c1.l = true
        · have e : delR n ps f = wrR ps f (into f.d1 n) f.v1 f.c1.l.tail (hdI f.c1.l) := (if_neg hp).trans ((if_neg hp1).trans (if_pos hs))
          by_cases hm : may ps (into f.d1 n) f.v1
          · have e2 : wrR ps f (into f.d1 n) f.v1 f.c1.l.tail (hdI f.c1.l) = _ := if_pos hm
            have hc := (hv.b hp2).2 (by have := hm.2.2; omega)
            obtain ⟨x, l, hl⟩ : ∃ x l, f.c1.l = x :: l := by
              cases h1 : f.c1.l with
              | cons x l => exact ⟨x, l, rfl⟩
              | nil =>
                rw [h1] at hs hne
                cases h0 : f.c0.l with
                | nil => rw [h0] at hne; exact absurd rfl hne
                | cons y m => rw [h0] at hs; cases hs
            refine .del hk2 (by rw [e0, e, e2]) (by rw [e0, e, e2]) f.d1 x l (by rw [hc, hl]) (by rw [e0, e, e2, hl]; rfl) (by rw [e0, e, e2, hl]; rfl)
          · have e2 : wrR ps f (into f.d1 n) f.v1 f.c1.l.tail (hdI f.c1.l) = _ := if_neg hm
            exact .go (by rw [e0, e, e2]) (by rw [e0, e, e2])
        · have e : delR n ps f = wrR ps f (into f.d0 n) f.v0 f.c0.l.tail (hdI f.c0.l) := (if_neg hp).trans ((if_neg hp1).trans (if_neg hs))
          by_cases hm : may ps (into f.d0 n) f.v0
          · have e2 : wrR ps f (into f.d0 n) f.v0 f.c0.l.tail (hdI f.c0.l) = _ := if_pos hm
            have hc := (hv.a hp).2 (by have := hm.2.2; omega)
            obtain ⟨x, l, hl⟩ : ∃ x l, f.c0.l = x :: l := by
              cases h0 : f.c0.l with
              | cons x l => exact ⟨x, l, rfl⟩
              | nil => rw [h0] at hs; exact absurd rfl hs
            refine .del hk2 (by rw [e0, e, e2]) (by rw [e0, e, e2]) f.d0 x l (by rw [hc, hl]) (by rw [e0, e, e2, hl]; rfl) (by rw [e0, e, e2, hl]; rfl)
          · have e2 : wrR ps f (into f.d0 n) f.v0 f.c0.l.tail (hdI f.c0.l) = _ := if_neg hm
            exact .go (by rw [e0, e, e2]) (by rw [e0, e, e2])
theorem sp_bits8 (p : Nat) (v : Int) : pcall (Ew Try.prog cfg) 52 [.agg [.sc (.float .f64 p), .sc (.int .i64 v)]] = some (.pv (.sc (.int .u64 (canon p)))) := by
  have h := sp_bits p
  refine pcall_wc Try.func52 rfl (by decide) ?_ rfl
  show wc _ _ _ (.pv (.agg [.sc (.float .f64 p), .sc (.int .i64 v)]) :: List.replicate 6 undefV) _ _
  (repeat (first | refine w_seq ?_ | refine w_regionL ?_ | refine w_norm ?_ | refine w_exit' ?_ | refine w_ret' ?_ | refine w_block ?_ | refine w_scope ?_ | refine w_skip ?_ | refine w_ret ?_ | refine w_exit ?_ | refine w_label ?_ | refine wo_nil ⟨rfl, ?_⟩ | ((first | apply o_box | apply o_assign | apply o_fieldAddr | apply o_load | apply o_ext1) <;> first | refine wo_id ?_ | refine wc_id ?_ | ((with_reducible apply look_id); (exact look_by); done) | ((with_reducible apply load_id); ((first | (apply ldp; (focus exact get_by); (focus first | exact rfl | assumption)) | apply ldf); (first | exact part_sc (by first | exact ag34) rfl)); done) | ((with_reducible apply cells_id); (exact cells_by); done) | ((with_reducible apply next_id); (exact next_by); done) | exact fa36_0 _ _ _ | exact fe36_0 _ | exact nb_bits | exact ext_bits _ | exact rfl) | (apply o_pcall; (focus exact args_by); (focus exact hb59); (focus exact rfl); (focus ((repeat (first | exact frzAll_nil | apply frzAll_pv)); done)); (focus exact h))))
  (apply ends_ret; (focus exact (e_tmp res_nil)))
  exact ⟨_, by exact fz_by⟩
theorem sp_told8 (x : It) (hx : CI x) : pcall (Ew Try.prog cfg) 34 [.agg (gIt x)] = some (.pv (.agg (rIt x))) := by
  have h := sp_bits8 x.pri x.val
  rw [hx.1] at h
  refine pcall_wc Try.func34 rfl (by decide) ?_ rfl
  show wc _ _ _ (.pv (.agg [.sc (.float .f64 x.pri), .sc (.int .i64 x.val)]) :: List.replicate 7 undefV) _ _
  (repeat (first | refine w_seq ?_ | refine w_regionL ?_ | refine w_norm ?_ | refine w_exit' ?_ | refine w_ret' ?_ | refine w_block ?_ | refine w_scope ?_ | refine w_skip ?_ | refine w_ret ?_ | refine w_exit ?_ | refine w_label ?_ | refine wo_nil ⟨rfl, ?_⟩ | ((first | apply o_box | apply o_alloc | apply o_load | apply o_fieldAddr | apply o_buildP | apply o_storep) <;> first | refine wo_id ?_ | refine wc_id ?_ | ((with_reducible apply look_id); (exact look_by); done) | ((with_reducible apply load_id); ((first | (apply ldp; (focus exact get_by); (focus first | exact rfl | assumption)) | apply ldf); (first | exact part_sc (by first | exact ag2) rfl | (apply part_agg; (focus first | exact ag36); (focus first | exact sz36); (focus exact rfl); (focus exact rfl)))); done) | ((with_reducible apply cells_id); (exact cells_by); done) | ((with_reducible apply next_id); (exact next_by); done) | ((with_reducible apply get_id); (exact get_by); done) | ((with_reducible apply setAt_id); (exact setat_by); done) | ((with_reducible apply parts_id); (exact parts_by); done) | exact ze72 | exact fa36_1 _ _ _ | exact fe36_1 _ | exact bp72 | exact sz72 | assumption | exact rfl) | (refine wo_nil ⟨dyn_draw (bs := [1, 1, 0, 1, 0, 3]) ?_ ?_, ?_⟩; (focus ((repeat (first | exact Flags.nil | (apply Flags.cons Flag.dry) | (apply Flags.cons Flag.read) | (apply Flags.cons Flag.mk) | (apply Flags.cons Flag.free))); done)); (focus decide +kernel)) | (apply o_pcall; (focus exact args_by); (focus exact hb52); (focus exact rfl); (focus ((repeat (first | exact frzAll_nil | apply frzAll_pv)); done)); (focus exact h))))
  (apply ends_ret; (focus exact (e_cela ag72 sz72 res_nil)))
  exact ⟨_, by exact fz_by⟩
/-- The items of the first shards, and of some of the next one, in order. -/
def partL (ps : Pts) (k j : Nat) : List IV := ((flatL ps k) ++ ((rd ps k).2.l.map ivI).take j).foldl withL []
theorem partL_0 (ps : Pts) (k : Nat) : partL ps k 0 = allL ps k := by
  unfold partL allL
  rw [List.take_zero, List.append_nil]
  rfl
theorem partL_all (ps : Pts) (k j : Nat) (h : (rd ps k).2.l.length ≤ j) : partL ps k j = allL ps ((k + 1 : Nat) : Int) := by
  unfold partL allL
  rw [List.take_of_length_le (by rw [List.length_map]; exact h)]
  rfl
theorem partL_snoc {ps : Pts} {k j : Nat} {x : It} (h : (rd ps k).2.l[j]? = some x) : partL ps k (j + 1) = withL (partL ps k j) (ivI x) := by
  unfold partL
  have h1 := List.take_add_one (l := (rd ps k).2.l.map ivI) (i := j)
  rw [List.getElem?_map, h] at h1
  rw [h1]
  simp
theorem partL_cnl {ps : Pts} (h : ∀ i, GL (rd ps i).2.l) (k j : Nat) : Cnl (partL ps k j) := by
  intro x hx
  have hp := (foldW_perm (flatL ps k ++ ((rd ps k).2.l.map ivI).take j) []).subset hx
  rw [List.append_nil] at hp
  rcases List.mem_append.1 hp with hp | hp
  · exact flat_cnl h k x hp
  · exact (h k).cnl x (List.mem_of_mem_take hp)
theorem partL_len {ps : Pts} (h : ∀ i, GL (rd ps i).2.l) (k j : Nat) : (partL ps k j).length ≤ 62 * (k + 1) := by
  have hp := (foldW_perm (flatL ps k ++ ((rd ps k).2.l.map ivI).take j) []).length_eq
  rw [List.append_nil, List.length_append, List.length_take, List.length_map] at hp
  have h1 := flat_len h k
  have h2 := (h k).len
  unfold partL
  omega
theorem sp_refAll {n : Int} (hn : 1 ≤ n ∧ n ≤ 16) {ps : Pts} (hl : ps.length < 2 ^ 20) (hG : ∀ i, GL (rd ps i).2.l) : pcall (Ew Try.prog cfg) 36 [rMem ps, .sc (.int .i64 n)] = some (.pv (.fz ((allL ps n).map rIV))) := by
  refine pcall_wc Try.func36 rfl (by decide) ?_ rfl
  show wc _ _ _ (.pv (.agg [.fz (ps.map rPt)]) :: .pv (.sc (.int .i64 n)) :: List.replicate 33 undefV) _ _
  (repeat (first | refine w_seq ?_ | refine w_regionL ?_ | refine w_norm ?_ | refine w_exit' ?_ | refine w_ret' ?_ | refine w_block ?_ | refine w_scope ?_ | refine w_skip ?_ | refine w_ret ?_ | refine w_exit ?_ | refine w_label ?_ | refine wo_nil ⟨rfl, ?_⟩ | ((first | apply o_box | apply o_assign | apply o_buildSlice | apply o_move | apply o_bin | apply o_load | apply o_extract | apply o_alloc | apply o_storep | apply o_fieldAddr | apply o_len | apply o_indexAddr) <;> first | refine wo_id ?_ | refine wc_id ?_ | ((with_reducible apply look_id); (exact look_by); done) | ((with_reducible apply bin_id); (exact bin_by); done) | ((with_reducible apply load_id); ((first | (apply ldp; (focus exact get_by); (focus first | exact rfl | assumption)) | apply ldf); (first | exact part_sc (by first | exact ag75) rfl | (apply part_agg; (focus first | exact ag49 | exact ag72); (focus first | exact sz49 | exact sz72); (focus exact rfl); (focus exact rfl)))); done) | ((with_reducible apply cells_id); (exact cells_by); done) | ((with_reducible apply next_id); (exact next_by); done) | ((with_reducible apply get_id); (exact get_by); done) | ((with_reducible apply setAt_id); (exact setat_by); done) | ((with_reducible apply parts_id); (exact parts_by); done) | exact el75 | exact sz72 | exact ze72 | exact ze105 | exact sz105 | exact fa105_1 _ _ _ | exact fe105_1 _ | exact lnF75 _ | exact lnO75 _ _ _ _ | exact lnN75 | exact ia_fz (iaF75 _ _) (by omega) (by assumption) rfl | exact ia_ow (iaO75 _ _ _ _ _) (by omega) (by omega) rfl | assumption | (intro a h; cases h) | exact rfl) | ((first | apply b_cond) <;> first | refine wo_id ?_ | refine wc_id ?_ | ((with_reducible apply look_id); (exact look_by); done) | (first | exact tt | exact ff | assumption))))
  refine w_loopK (fun q tm s => ∃ k : Nat, k + q = n.toNat ∧ lk tm 6 = .pv (.sc (.int .i64 k)) ∧ s.get 0 = some ⟨1, [[.pv (.fz (ps.map rPt))]]⟩ ∧ 2 ≤ s.next ∧ (allL ps k = [] ∧ lk tm 5 = .ow 1 2 0 0 ∧ s.get 1 = some ⟨2, []⟩ ∨ lk tm 5 = .pv (.fz ((allL ps k).map rIV)))) n.toNat rfl
    ⟨0, by omega, by exact lk_by, by exact get_by, by exact nle_by, .inl ⟨rfl, by exact lk_by, by exact get_by⟩⟩ ?_
  rintro q tm1 s ⟨k, hkq, h6, hg0, hn2, h5⟩ hK
  obtain ⟨T, hT⟩ : ∃ y, s.next = y := ⟨_, rfl⟩
  by_cases hk : k < n.toNat
  · have hr := sp_r5read ps k (by omega)
    have hwk : IntKind.i64.wrap ((k : Int) + 1) = ((k + 1 : Nat) : Int) := by rw [wrap_id (by omega) (by omega)]; omega
    have h62 := (hG k).len
    have hRl : ((rd ps k).2.l.map rIt).length = (rd ps k).2.l.length := List.length_map _
    rw [← partL_0] at h5
    rcases h5 with ⟨he0, h5, hg1⟩ | h5
    all_goals
      (repeat (first | refine w_seq ?_ | refine w_regionL ?_ | refine w_norm ?_ | refine w_exit' ?_ | refine w_ret' ?_ | refine w_block ?_ | refine w_scope ?_ | refine w_skip ?_ | refine w_ret ?_ | refine w_exit ?_ | refine w_label ?_ | refine wo_nil ⟨rfl, ?_⟩ | ((first | apply o_box | apply o_assign | apply o_buildSlice | apply o_move | apply o_bin | apply o_load | apply o_extract | apply o_alloc | apply o_storep | apply o_fieldAddr | apply o_len | apply o_indexAddr) <;> first | refine wo_id ?_ | refine wc_id ?_ | ((with_reducible apply look_id); (exact look_by); done) | ((with_reducible apply bin_id); (exact bin_by); done) | ((with_reducible apply load_id); ((first | (apply ldp; (focus exact get_by); (focus first | exact rfl | assumption)) | apply ldf); (first | exact part_sc (by first | exact ag75) rfl | (apply part_agg; (focus first | exact ag49 | exact ag72); (focus first | exact sz49 | exact sz72); (focus exact rfl); (focus exact rfl)))); done) | ((with_reducible apply cells_id); (exact cells_by); done) | ((with_reducible apply next_id); (exact next_by); done) | ((with_reducible apply get_id); (exact get_by); done) | ((with_reducible apply setAt_id); (exact setat_by); done) | ((with_reducible apply parts_id); (exact parts_by); done) | exact el75 | exact sz72 | exact ze72 | exact ze105 | exact sz105 | exact fa105_1 _ _ _ | exact fe105_1 _ | exact lnF75 _ | exact lnO75 _ _ _ _ | exact lnN75 | exact ia_fz (iaF75 _ _) (by omega) (by assumption) rfl | exact ia_ow (iaO75 _ _ _ _ _) (by omega) (by omega) rfl | assumption | (intro a h; cases h) | exact rfl) | (apply o_pcall; (focus exact args_by); (focus exact hb45); (focus exact rfl); (focus ((repeat (first | exact frzAll_nil | apply frzAll_pv)); done)); (focus exact hr)) | ((first | apply b_cond) <;> first | refine wo_id ?_ | refine wc_id ?_ | ((with_reducible apply look_id); (exact look_by); done) | (first | exact tt | exact ff | assumption | exact decide_eq_true (by omega)))))
      refine w_loopK (fun q tm s => ∃ j : Nat, j + q = (rd ps k).2.l.length ∧ lk tm 26 = .pv (.sc (.int .i64 j)) ∧ s.get 0 = some ⟨1, [[.pv (.fz (ps.map rPt))]]⟩ ∧ 2 ≤ s.next ∧ (partL ps k j = [] ∧ lk tm 5 = .ow 1 2 0 0 ∧ s.get 1 = some ⟨2, []⟩ ∨ lk tm 5 = .pv (.fz ((partL ps k j).map rIV)))) (rd ps k).2.l.length rfl
        ⟨0, by omega, by exact lk_by, by exact get_by, by exact nle_by, by first | exact .inl ⟨he0, by exact lk_by, by exact get_by⟩ | exact .inr (by exact lk_by)⟩ ?_
      clear hg0 hn2 h5 hT
      rintro q2 tm2 s2 ⟨j, hjq, h26, hg0, hn2, h5⟩ hK2
      obtain ⟨T2, hT2⟩ : ∃ y, s2.next = y := ⟨_, rfl⟩
      by_cases hj : j < (rd ps k).2.l.length
      · obtain ⟨x, hx⟩ : ∃ x, (rd ps k).2.l[j]? = some x := ⟨_, List.getElem?_eq_getElem hj⟩
        have hrow : ((rd ps k).2.l.map rIt)[((j : Nat) : Int).toNat]? = some (rIt x) := by
          have e : ((j : Nat) : Int).toNat = j := by omega
          rw [e, List.getElem?_map, hx]
          rfl
        have hwj : IntKind.i64.wrap ((j : Int) + 1) = ((j + 1 : Nat) : Int) := by rw [wrap_id (by omega) (by omega)]; omega
        have hxc := (hG k).cnl (ivI x) (List.mem_map.2 ⟨x, List.mem_of_getElem? hx, rfl⟩)
        have hpl := partL_len hG k j
        have hwi := sp_with (l := partL ps k j) (x := ivI x) (fun y hy => (partL_cnl hG k j y hy).2) hxc.2 (by omega)
        rw [← partL_snoc hx] at hwi
        rcases h5 with ⟨he, h5, hg1⟩ | h5
        · rw [he] at hwi
          (repeat (first | refine w_seq ?_ | refine w_regionL ?_ | refine w_norm ?_ | refine w_exit' ?_ | refine w_ret' ?_ | refine w_block ?_ | refine w_scope ?_ | refine w_skip ?_ | refine w_ret ?_ | refine w_exit ?_ | refine w_label ?_ | refine wo_nil ⟨rfl, ?_⟩ | ((first | apply o_box | apply o_assign | apply o_buildSlice | apply o_move | apply o_bin | apply o_load | apply o_extract | apply o_alloc | apply o_storep | apply o_fieldAddr | apply o_len | apply o_indexAddr) <;> first | refine wo_id ?_ | refine wc_id ?_ | ((with_reducible apply look_id); (exact look_by); done) | ((with_reducible apply bin_id); (exact bin_by); done) | ((with_reducible apply load_id); ((first | (apply ldp; (focus exact get_by); (focus first | exact rfl | assumption)) | apply ldf); (first | exact part_sc (by first | exact ag75) rfl | (apply part_agg; (focus first | exact ag49 | exact ag72); (focus first | exact sz49 | exact sz72); (focus exact rfl); (focus exact rfl)))); done) | ((with_reducible apply cells_id); (exact cells_by); done) | ((with_reducible apply next_id); (exact next_by); done) | ((with_reducible apply get_id); (exact get_by); done) | ((with_reducible apply setAt_id); (exact setat_by); done) | ((with_reducible apply parts_id); (exact parts_by); done) | exact el75 | exact sz72 | exact ze72 | exact ze105 | exact sz105 | exact fa105_1 _ _ _ | exact fe105_1 _ | exact lnF75 _ | exact lnO75 _ _ _ _ | exact lnN75 | exact ia_fz (iaF75 _ _) (by omega) (by assumption) rfl | exact ia_ow (iaO75 _ _ _ _ _) (by omega) (by omega) rfl | assumption | (intro a h; cases h) | exact rfl) | ((first | apply b_cond) <;> first | refine wo_id ?_ | refine wc_id ?_ | ((with_reducible apply look_id); (exact look_by); done) | (first | exact tt | exact ff | assumption | exact decide_eq_true (by omega)))))
          refine o_pcallK (i := 1) (ids := []) (ps := [.fz (([] : List IV).map rIV), .agg (rIV (ivI x))]) (by exact args_by) hb29 rfl (frzAll_cons (frz_own (rows := []) (by exact get_by) rfl rfl) (frzAll_pv frzAll_nil)) hwi rfl ?_
          generalize hks : St.kills _ [1] = s3
          have hn3 : 2 ≤ s3.next := by
            rw [← hks, kills_next]
            exact nle_by
          have hg3 : s3.get 0 = some ⟨1, [[.pv (.fz (ps.map rPt))]]⟩ := by
            rw [← hks]
            exact (frm_kills [1] _).getq (Nat.lt_of_lt_of_le (by decide : 0 < 2) (by exact nle_by)) (by decide) (by exact get_by)
          clear hks
          (repeat (first | refine w_seq ?_ | refine w_regionL ?_ | refine w_norm ?_ | refine w_exit' ?_ | refine w_ret' ?_ | refine w_block ?_ | refine w_scope ?_ | refine w_skip ?_ | refine w_ret ?_ | refine w_exit ?_ | refine w_label ?_ | refine wo_nil ⟨rfl, ?_⟩ | (apply o_bin; (focus exact look_by); (focus exact look_by); (focus first | exact br_addw (hwj) | exact br_subw (hwj) | exact br_mulw (hwj)); (focus exact rfl)) | ((first | apply o_box | apply o_assign | apply o_buildSlice | apply o_move | apply o_bin | apply o_load | apply o_extract | apply o_alloc | apply o_storep | apply o_fieldAddr | apply o_len | apply o_indexAddr) <;> first | refine wo_id ?_ | refine wc_id ?_ | ((with_reducible apply look_id); (exact look_by); done) | ((with_reducible apply bin_id); (exact bin_by); done) | ((with_reducible apply load_id); ((first | (apply ldp; (focus exact get_by); (focus first | exact rfl | assumption)) | apply ldf); (first | exact part_sc (by first | exact ag75) rfl | (apply part_agg; (focus first | exact ag49 | exact ag72); (focus first | exact sz49 | exact sz72); (focus exact rfl); (focus exact rfl)))); done) | ((with_reducible apply cells_id); (exact cells_by); done) | ((with_reducible apply next_id); (exact next_by); done) | ((with_reducible apply get_id); (exact get_by); done) | ((with_reducible apply setAt_id); (exact setat_by); done) | ((with_reducible apply parts_id); (exact parts_by); done) | exact el75 | exact sz72 | exact ze72 | exact ze105 | exact sz105 | exact fa105_1 _ _ _ | exact fe105_1 _ | exact lnF75 _ | exact lnO75 _ _ _ _ | exact lnN75 | exact ia_fz (iaF75 _ _) (by omega) (by assumption) rfl | exact ia_ow (iaO75 _ _ _ _ _) (by omega) (by omega) rfl | assumption | (intro a h; cases h) | exact rfl) | ((first | apply b_cond) <;> first | refine wo_id ?_ | refine wc_id ?_ | ((with_reducible apply look_id); (exact look_by); done) | (first | exact tt | exact ff | assumption)) | (apply l_norm (q2 - 1) (by omega))))
          exact ⟨j + 1, by omega, by rw [← hwj]; exact lk_by, by exact get_by, by exact nle_by, .inr (by exact lk_by)⟩
        · (repeat (first | refine w_seq ?_ | refine w_regionL ?_ | refine w_norm ?_ | refine w_exit' ?_ | refine w_ret' ?_ | refine w_block ?_ | refine w_scope ?_ | refine w_skip ?_ | refine w_ret ?_ | refine w_exit ?_ | refine w_label ?_ | refine wo_nil ⟨rfl, ?_⟩ | (apply o_bin; (focus exact look_by); (focus exact look_by); (focus first | exact br_addw (hwj) | exact br_subw (hwj) | exact br_mulw (hwj)); (focus exact rfl)) | ((first | apply o_box | apply o_assign | apply o_buildSlice | apply o_move | apply o_bin | apply o_load | apply o_extract | apply o_alloc | apply o_storep | apply o_fieldAddr | apply o_len | apply o_indexAddr) <;> first | refine wo_id ?_ | refine wc_id ?_ | ((with_reducible apply look_id); (exact look_by); done) | ((with_reducible apply bin_id); (exact bin_by); done) | ((with_reducible apply load_id); ((first | (apply ldp; (focus exact get_by); (focus first | exact rfl | assumption)) | apply ldf); (first | exact part_sc (by first | exact ag75) rfl | (apply part_agg; (focus first | exact ag49 | exact ag72); (focus first | exact sz49 | exact sz72); (focus exact rfl); (focus exact rfl)))); done) | ((with_reducible apply cells_id); (exact cells_by); done) | ((with_reducible apply next_id); (exact next_by); done) | ((with_reducible apply get_id); (exact get_by); done) | ((with_reducible apply setAt_id); (exact setat_by); done) | ((with_reducible apply parts_id); (exact parts_by); done) | exact el75 | exact sz72 | exact ze72 | exact ze105 | exact sz105 | exact fa105_1 _ _ _ | exact fe105_1 _ | exact lnF75 _ | exact lnO75 _ _ _ _ | exact lnN75 | exact ia_fz (iaF75 _ _) (by omega) (by assumption) rfl | exact ia_ow (iaO75 _ _ _ _ _) (by omega) (by omega) rfl | assumption | (intro a h; cases h) | exact rfl) | (apply o_pcall; (focus exact args_by); (focus exact hb29); (focus exact rfl); (focus ((repeat (first | exact frzAll_nil | apply frzAll_pv)); done)); (focus exact hwi)) | ((first | apply b_cond) <;> first | refine wo_id ?_ | refine wc_id ?_ | ((with_reducible apply look_id); (exact look_by); done) | (first | exact tt | exact ff | assumption | exact decide_eq_true (by omega))) | (apply l_norm (q2 - 1) (by omega))))
          exact ⟨j + 1, by omega, by rw [← hwj]; exact lk_by, by exact get_by, by exact nle_by, .inr (by exact lk_by)⟩
      · rw [partL_all ps k j (by omega)] at h5
        rcases h5 with ⟨he, h5, hg1⟩ | h5
        all_goals
          (repeat (first | refine w_seq ?_ | refine w_regionL ?_ | refine w_norm ?_ | refine w_exit' ?_ | refine w_ret' ?_ | refine w_block ?_ | refine w_scope ?_ | refine w_skip ?_ | refine w_ret ?_ | refine w_exit ?_ | refine w_label ?_ | refine wo_nil ⟨rfl, ?_⟩ | (apply o_bin; (focus exact look_by); (focus exact look_by); (focus first | exact br_addw (hwk) | exact br_subw (hwk) | exact br_mulw (hwk)); (focus exact rfl)) | ((first | apply o_box | apply o_assign | apply o_buildSlice | apply o_move | apply o_bin | apply o_load | apply o_extract | apply o_alloc | apply o_storep | apply o_fieldAddr | apply o_len | apply o_indexAddr) <;> first | refine wo_id ?_ | refine wc_id ?_ | ((with_reducible apply look_id); (exact look_by); done) | ((with_reducible apply bin_id); (exact bin_by); done) | ((with_reducible apply load_id); ((first | (apply ldp; (focus exact get_by); (focus first | exact rfl | assumption)) | apply ldf); (first | exact part_sc (by first | exact ag75) rfl | (apply part_agg; (focus first | exact ag49 | exact ag72); (focus first | exact sz49 | exact sz72); (focus exact rfl); (focus exact rfl)))); done) | ((with_reducible apply cells_id); (exact cells_by); done) | ((with_reducible apply next_id); (exact next_by); done) | ((with_reducible apply get_id); (exact get_by); done) | ((with_reducible apply setAt_id); (exact setat_by); done) | ((with_reducible apply parts_id); (exact parts_by); done) | exact el75 | exact sz72 | exact ze72 | exact ze105 | exact sz105 | exact fa105_1 _ _ _ | exact fe105_1 _ | exact lnF75 _ | exact lnO75 _ _ _ _ | exact lnN75 | exact ia_fz (iaF75 _ _) (by omega) (by assumption) rfl | exact ia_ow (iaO75 _ _ _ _ _) (by omega) (by omega) rfl | assumption | (intro a h; cases h) | exact rfl) | ((first | apply b_cond) <;> first | refine wo_id ?_ | refine wc_id ?_ | ((with_reducible apply look_id); (exact look_by); done) | (first | exact tt | exact ff | assumption | exact decide_eq_false (by omega))) | (refine l_exit ?_; intro R2 W2) | (apply l_norm (q - 1) (by omega))))
          exact ⟨k + 1, by omega, by rw [← hwk]; exact lk_by, by exact get_by, by exact nle_by, by first | exact .inl ⟨he, by exact lk_by, by exact get_by⟩ | exact .inr (by exact lk_by)⟩
  · have ek : (k : Int) = n := by omega
    rw [ek] at h5
    rcases h5 with ⟨he, h5, hg1⟩ | h5
    · rw [he]
      (repeat (first | refine w_seq ?_ | refine w_regionL ?_ | refine w_norm ?_ | refine w_exit' ?_ | refine w_ret' ?_ | refine w_block ?_ | refine w_scope ?_ | refine w_skip ?_ | refine w_ret ?_ | refine w_exit ?_ | refine w_label ?_ | refine wo_nil ⟨rfl, ?_⟩ | ((first | apply o_box | apply o_assign | apply o_buildSlice | apply o_move | apply o_bin | apply o_load | apply o_extract | apply o_alloc | apply o_storep | apply o_fieldAddr | apply o_len | apply o_indexAddr) <;> first | refine wo_id ?_ | refine wc_id ?_ | ((with_reducible apply look_id); (exact look_by); done) | ((with_reducible apply bin_id); (exact bin_by); done) | ((with_reducible apply load_id); ((first | (apply ldp; (focus exact get_by); (focus first | exact rfl | assumption)) | apply ldf); (first | exact part_sc (by first | exact ag75) rfl | (apply part_agg; (focus first | exact ag49 | exact ag72); (focus first | exact sz49 | exact sz72); (focus exact rfl); (focus exact rfl)))); done) | ((with_reducible apply cells_id); (exact cells_by); done) | ((with_reducible apply next_id); (exact next_by); done) | ((with_reducible apply get_id); (exact get_by); done) | ((with_reducible apply setAt_id); (exact setat_by); done) | ((with_reducible apply parts_id); (exact parts_by); done) | exact el75 | exact sz72 | exact ze72 | exact ze105 | exact sz105 | exact fa105_1 _ _ _ | exact fe105_1 _ | exact lnF75 _ | exact lnO75 _ _ _ _ | exact lnN75 | exact ia_fz (iaF75 _ _) (by omega) (by assumption) rfl | exact ia_ow (iaO75 _ _ _ _ _) (by omega) (by omega) rfl | assumption | (intro a h; cases h) | exact rfl) | ((first | apply b_cond) <;> first | refine wo_id ?_ | refine wc_id ?_ | ((with_reducible apply look_id); (exact look_by); done) | (first | exact tt | exact ff | assumption | exact decide_eq_false (by omega))) | (refine l_exit ?_; intro R2 W2)))
      (apply ends_ret; (focus exact (e_tmp res_nil)))
      exact ⟨_, by exact fz_by⟩
    · (repeat (first | refine w_seq ?_ | refine w_regionL ?_ | refine w_norm ?_ | refine w_exit' ?_ | refine w_ret' ?_ | refine w_block ?_ | refine w_scope ?_ | refine w_skip ?_ | refine w_ret ?_ | refine w_exit ?_ | refine w_label ?_ | refine wo_nil ⟨rfl, ?_⟩ | ((first | apply o_box | apply o_assign | apply o_buildSlice | apply o_move | apply o_bin | apply o_load | apply o_extract | apply o_alloc | apply o_storep | apply o_fieldAddr | apply o_len | apply o_indexAddr) <;> first | refine wo_id ?_ | refine wc_id ?_ | ((with_reducible apply look_id); (exact look_by); done) | ((with_reducible apply bin_id); (exact bin_by); done) | ((with_reducible apply load_id); ((first | (apply ldp; (focus exact get_by); (focus first | exact rfl | assumption)) | apply ldf); (first | exact part_sc (by first | exact ag75) rfl | (apply part_agg; (focus first | exact ag49 | exact ag72); (focus first | exact sz49 | exact sz72); (focus exact rfl); (focus exact rfl)))); done) | ((with_reducible apply cells_id); (exact cells_by); done) | ((with_reducible apply next_id); (exact next_by); done) | ((with_reducible apply get_id); (exact get_by); done) | ((with_reducible apply setAt_id); (exact setat_by); done) | ((with_reducible apply parts_id); (exact parts_by); done) | exact el75 | exact sz72 | exact ze72 | exact ze105 | exact sz105 | exact fa105_1 _ _ _ | exact fe105_1 _ | exact lnF75 _ | exact lnO75 _ _ _ _ | exact lnN75 | exact ia_fz (iaF75 _ _) (by omega) (by assumption) rfl | exact ia_ow (iaO75 _ _ _ _ _) (by omega) (by omega) rfl | assumption | (intro a h; cases h) | exact rfl) | ((first | apply b_cond) <;> first | refine wo_id ?_ | refine wc_id ?_ | ((with_reducible apply look_id); (exact look_by); done) | (first | exact tt | exact ff | assumption | exact decide_eq_false (by omega))) | (refine l_exit ?_; intro R2 W2)))
      (apply ends_ret; (focus exact (e_tmp res_nil)))
      exact ⟨_, by exact fz_by⟩
/-- A run whose shards and calls are looked at. -/
structure FInv (n : Int) (D : DS) : Prop where
  g : GInv MMem (fun _ ps f => MFr f ∧ VF n ps f) D
  c : CInv (fun o f => o.k = f.k) (fun _ _ => True) D
theorem FInv.m {n : Int} {D : DS} (h : FInv n D) : MInv D := ⟨h.g.mem, fun k t ht ho => (h.g.fr k t ht ho).1⟩
theorem finv0 (n : Int) (q : Nat) : FInv n (ds0 q) := ⟨ginv0 ⟨fun _ => gl0, Nat.le_refl 0⟩ q, cinv0 q⟩
theorem wrR_k (ps : Pts) (f : RF) (at_ ver : Int) (l : List It) (a : It) : (wrR ps f at_ ver l a).2.1.k = f.k := by rw [wrR_pc]
theorem multiR_k (n : Int) (ps : Pts) (f : RF) : (multiR n ps f).2.1.k = f.k := by
  unfold multiR
  split
  · unfold insR
    split
    · rfl
    · exact wrR_k _ _ _ _ _ _
  · unfold delR
    split
    · rfl
    · split
      · rfl
      · split
        · exact wrR_k _ _ _ _ _ _
        · exact wrR_k _ _ _ _ _ _
theorem finv_step {n : Int} {ops : List (List Rw)} (hops : ∀ l ∈ ops, ∀ x ∈ l, RwOk x) {D D' : DS} {k : Nat} (hD : D.n < 200) (hI : FInv n D) (hb : dbeg (ownOp 1 2) ops D k = some D') :
    FInv n (dmov (multiR n) D' k) ∧ ∃ t c, CStep (multiR n) D D' (dmov (multiR n) D' k) k t c ∧ c.o.k = t.f.k ∧ MFr t.f ∧ VF n D.ps t.f := by
  have hnew : ∀ N ps x, MMem N ps → RwOk x → MFr (toldF (ownOp 1 2 x)) ∧ VF n ps (toldF (ownOp 1 2 x)) := fun _ _ x _ hx => ⟨mfr_new x hx, vf0 rfl⟩
  have h1 := ginv_step hnew (multi_gstepV n) hops hI.g hb
  obtain ⟨h2, t, c, h3, h4⟩ := c_step (rs := multiR n) (KP := fun o f => o.k = f.k) (AP := fun _ _ => True) (fun x _ => rfl) (fun o ps f h => h.trans (multiR_k n ps f).symm) hops hD hI.c hb (fun _ _ _ _ _ _ _ => trivial)
  obtain ⟨g1, g2, g3, t0, g4, g5⟩ := g_dbeg hnew hops hI.g hb
  have hf := g1.fr k t h3.tk h3.on
  rw [g3] at hf
  exact ⟨⟨h1, h2⟩, t, c, h3, h4, hf.1, hf.2⟩
/-- Of one shard, what is deleted isn't behind what is left. -/
theorem first_fact {D D' : DS} {k : Nat} {t : TH} {c : CL} (hst : CStep (multiR 1) D D' (dmov (multiR 1) D' k) k t c) (hck : c.o.k = t.f.k) (hG : ∀ i, GL (rd D.ps i).2.l) (hf : MFr t.f) (hv : VF 1 D.ps t.f) :
    ∀ (j : Nat) c', (dmov (multiR 1) D' k).C[j]? = some c' → c'.en = D.n → c'.an.ok = true → c'.o.k = 2 → CI c'.an.it ∧ ∀ y, y ∈ allL (dmov (multiR 1) D' k).ps 1 → ivC (ivI c'.an.it) y ≤ 0 := by
  intro j c' hj hen hok hk2
  rw [hst.C2] at hj
  by_cases hd : (multiR 1 D.ps t.f).2.2.2 = true
  · rw [if_pos hd] at hj
    rcases set_cases hj with ⟨rfl, rfl⟩ | ⟨e, hj⟩
    · have hk2 : c.o.k = 2 := hk2
      have hok : (multiR 1 D.ps t.f).2.2.1.ok = true := hok
      show CI (multiR 1 D.ps t.f).2.2.1.it ∧ _
      rw [hst.ps2]
      cases multi_eff (n := 1) (by decide) hG hf hv with
      | go h => rw [hd] at h; cases h
      | no h ho => rw [hok] at ho; cases ho
      | ins h => omega
      | del h _ _ d x l hl hi hp =>
        have hin := into_range d 1 (by decide)
        have h0 : into d 1 = 0 := by omega
        have hGx := hG (into d 1)
        rw [hl] at hGx
        have hcx := hGx.cnl (ivI x) (by simp)
        rw [hi, hp]
        refine ⟨⟨(canonB_eq _).symm.trans hcx.1, hcx.2⟩, fun y hy => ?_⟩
        have hy2 := (allL_perm _ 1).subset hy
        have e1 : flatL (D.ps ++ [⟨into d 1, ⟨0, l⟩⟩]) (1 : Int).toNat = l.map ivI := by
          show flatL _ 1 = _
          simp only [flatL, List.nil_append]
          rw [rd_snoc, if_pos (by rw [h0]; rfl)]
        rw [e1] at hy2
        exact (List.pairwise_cons.1 hGx.srt).1 y hy2
    · exact absurd hen (hst.other j c' (fun h => e h.symm) hj)
  · rw [if_neg hd] at hj
    by_cases e : j = t.call
    · subst e
      rw [hst.call] at hj
      cases hj
      have := hst.en
      omega
    · exact absurd hen (hst.other j c' e hj)
theorem fn_seeF {st : St} {m : Nat} {c : V} {ps : Pts} {C : List CL} {Jc : List Nat} {N : Nat} {d : Bool} (hN : N < 200) (hl : ps.length < 2 ^ 20) (hG : ∀ i, GL (rd ps i).2.l) (hCl : C.length ≤ 201) (hC : SlE st 12 c (C.map cRow) Jc)
    (hf : ∀ (j : Nat) c', C[j]? = some c' → c'.en = N → c'.an.ok = true → c'.o.k = 2 → CI c'.an.it ∧ ∀ y, y ∈ allL ps 1 → ivC (ivI c'.an.it) y ≤ 0) :
    Fn Try.prog cfg 37 [.agg [.ptr m 0 0, .pv (.fz (ps.map rPt)), c, .pv (.sc (.int .i64 ((N + 1 : Nat) : Int)))], .pv (.sc (.bool d))] st (fun v st' _ _ => v = .pv (.sc (.bool true)) ∧ Frm st st' []) := by
  have hc1 := hC.at.cell1.2
  have hcell : ([.ptr m 0 0, .pv (.fz (ps.map rPt)), c, .pv (.sc (.int .i64 ((N + 1 : Nat) : Int)))] : List V).all V.cell1 = true := by
    simp only [List.all_cons, hc1]
    rfl
  have hall := sp_refAll (n := 1) (by decide) hl hG
  have wN : IntKind.i64.wrap (((N + 1 : Nat) : Int) - 1) = (N : Int) := by rw [wrap_id (by omega) (by omega)]; omega
  obtain ⟨nx, hnx⟩ : ∃ y, st.next = y := ⟨_, rfl⟩
  refine fn_keep (.inr rfl) Try.func37 rfl ?_
  show wc _ _ _ (.agg [.ptr m 0 0, .pv (.fz (ps.map rPt)), c, .pv (.sc (.int .i64 ((N + 1 : Nat) : Int)))] :: .pv (.sc (.bool d)) :: List.replicate 50 undefV) st _
  have hLl : ((allL ps 1).map rIV).length = (allL ps 1).length := List.length_map _
  rcases hC with ⟨rfl, hC0, -⟩ | ⟨ci, rfl, hci, hcg, -⟩
  · (repeat (first | refine w_seq ?_ | refine w_regionL ?_ | refine w_norm ?_ | refine w_exit' ?_ | refine w_ret' ?_ | refine w_block ?_ | refine w_scope ?_ | refine w_skip ?_ | refine w_ret ?_ | refine w_exit ?_ | refine w_label ?_ | refine wo_nil ⟨rfl, ?_⟩ | ((first | apply o_box | apply o_assign | apply o_fieldAddr | apply o_load | apply o_len | apply o_move | apply o_bin | apply o_indexAddr | apply o_alloc | apply o_storep) <;> first | refine wo_id ?_ | refine wc_id ?_ | ((with_reducible apply look_id); (exact look_by); done) | ((with_reducible apply bin_id); (exact bin_by); done) | ((with_reducible apply load_id); ((first | (apply ldp; (focus exact get_by); (focus first | exact rfl | assumption)) | apply ldf); (first | exact part_sc (by first | exact ag3 | exact ag4 | exact ag50) rfl | (apply part_agg; (focus first | exact ag36 | exact ag49 | exact ag58 | exact ag72); (focus first | exact sz36 | exact sz49 | exact sz58 | exact sz72); (focus exact rfl); (focus exact rfl)))); done) | ((with_reducible apply cells_id); (exact cells_by); done) | ((with_reducible apply next_id); (exact next_by); done) | ((with_reducible apply get_id); (exact get_by); done) | ((with_reducible apply setAt_id); (exact setat_by); done) | exact fa52_1 _ _ _ | exact fe52_1 _ | exact fa52_2 _ _ _ | exact fe52_2 _ | exact lnF50 _ | exact lnO50 _ _ _ _ | exact lnN50 | exact ia_fz (iaF50 _ _) (by omega) (by assumption) rfl | exact ia_ow (iaO50 _ _ _ _ _) (by omega) (by omega) rfl | exact ze58 | exact sz58 | exact fa58_3 _ _ _ | exact fe58_3 _ | exact fa52_3 _ _ _ | exact fe52_3 _ | exact fa58_4 _ _ _ | exact fe58_4 _ | exact fa38_0 _ _ _ | exact fe38_0 _ | exact fa58_1 _ _ _ | exact fe58_1 _ | exact fa43_0 _ _ _ | exact fe43_0 _ | exact lnF75 _ | exact lnO75 _ _ _ _ | exact lnN75 | exact fa38_1 _ _ _ | exact fe38_1 _ | exact ia_fz (iaF75 _ _) (by omega) (by assumption) rfl | exact ia_ow (iaO75 _ _ _ _ _) (by omega) (by omega) rfl | assumption | (intro a h; cases h) | exact rfl) | (refine wo_nil ⟨dyn_draw (bs := [0, 1, 0, 1, 0, 0, 0, 0, 0, 1, 0, 0, 0, 0, 1, 0, 0, 0, 0, 0, 0, 0, 0, 0, 0, 1, 1, 0, 0, 1, 1, 0, 0]) ?_ ?_, ?_⟩; (focus ((repeat (first | exact Flags.nil | (apply Flags.cons Flag.dry) | (apply Flags.cons Flag.read) | (apply Flags.cons Flag.mk) | (apply Flags.cons Flag.free))); done)); (focus decide +kernel)) | (apply o_pcall; (focus exact args_by); (focus exact hb36); (focus exact rfl); (focus ((repeat (first | exact frzAll_nil | apply frzAll_pv)); done)); (focus exact hall)) | ((first | apply b_cond | apply b_pick | apply b_in) <;> first | refine wo_id ?_ | refine wc_id ?_ | ((with_reducible apply look_id); (exact look_by); done) | ((with_reducible apply yield_id); ((apply yield_of; (focus exact rfl); (focus exact lk_by))); done) | (first | exact tt | exact ff | assumption)) | (apply b_out <;> first | refine wo_id ?_ | ((with_reducible apply yield_id); ((apply yield_of; (focus exact rfl); (focus exact lk_by))); done) | (first | exact tt | exact ff | assumption)) | (apply g_undef; (focus (apply yield_none; (focus exact rfl); (focus exact lk_by))))))
    refine w_loopK (fun q tm s => lk tm 14 = .pv (.sc (.int .i64 0)) ∧ Frm st s []) 0 rfl ⟨by exact lk_by, by exact frm_by⟩ ?_
    rintro q tm1 s ⟨h14, hF⟩ hK
    (repeat (first | refine w_seq ?_ | refine w_regionL ?_ | refine w_norm ?_ | refine w_exit' ?_ | refine w_ret' ?_ | refine w_block ?_ | refine w_scope ?_ | refine w_skip ?_ | refine w_ret ?_ | refine w_exit ?_ | refine w_label ?_ | refine wo_nil ⟨rfl, ?_⟩ | ((first | apply o_box | apply o_assign | apply o_fieldAddr | apply o_load | apply o_len | apply o_move | apply o_bin | apply o_indexAddr | apply o_alloc | apply o_storep) <;> first | refine wo_id ?_ | refine wc_id ?_ | ((with_reducible apply look_id); (exact look_by); done) | ((with_reducible apply bin_id); (exact bin_by); done) | ((with_reducible apply load_id); ((first | (apply ldp; (focus exact get_by); (focus first | exact rfl | assumption)) | apply ldf); (first | exact part_sc (by first | exact ag3 | exact ag4 | exact ag50) rfl | (apply part_agg; (focus first | exact ag36 | exact ag49 | exact ag58 | exact ag72); (focus first | exact sz36 | exact sz49 | exact sz58 | exact sz72); (focus exact rfl); (focus exact rfl)))); done) | ((with_reducible apply cells_id); (exact cells_by); done) | ((with_reducible apply next_id); (exact next_by); done) | ((with_reducible apply get_id); (exact get_by); done) | ((with_reducible apply setAt_id); (exact setat_by); done) | exact fa52_1 _ _ _ | exact fe52_1 _ | exact fa52_2 _ _ _ | exact fe52_2 _ | exact lnF50 _ | exact lnO50 _ _ _ _ | exact lnN50 | exact ia_fz (iaF50 _ _) (by omega) (by assumption) rfl | exact ia_ow (iaO50 _ _ _ _ _) (by omega) (by omega) rfl | exact ze58 | exact sz58 | exact fa58_3 _ _ _ | exact fe58_3 _ | exact fa52_3 _ _ _ | exact fe52_3 _ | exact fa58_4 _ _ _ | exact fe58_4 _ | exact fa38_0 _ _ _ | exact fe38_0 _ | exact fa58_1 _ _ _ | exact fe58_1 _ | exact fa43_0 _ _ _ | exact fe43_0 _ | exact lnF75 _ | exact lnO75 _ _ _ _ | exact lnN75 | exact fa38_1 _ _ _ | exact fe38_1 _ | exact ia_fz (iaF75 _ _) (by omega) (by assumption) rfl | exact ia_ow (iaO75 _ _ _ _ _) (by omega) (by omega) rfl | assumption | (intro a h; cases h) | exact rfl) | (refine wo_nil ⟨dyn_draw (bs := [0, 1, 0, 1, 0, 0, 0, 0, 0, 1, 0, 0, 0, 0, 1, 0, 0, 0, 0, 0, 0, 0, 0, 0, 0, 1, 1, 0, 0, 1, 1, 0, 0]) ?_ ?_, ?_⟩; (focus ((repeat (first | exact Flags.nil | (apply Flags.cons Flag.dry) | (apply Flags.cons Flag.read) | (apply Flags.cons Flag.mk) | (apply Flags.cons Flag.free))); done)); (focus decide +kernel)) | ((first | apply b_cond | apply b_pick | apply b_in) <;> first | refine wo_id ?_ | refine wc_id ?_ | ((with_reducible apply look_id); (exact look_by); done) | ((with_reducible apply yield_id); ((apply yield_of; (focus exact rfl); (focus exact lk_by))); done) | (first | exact tt | exact ff | assumption | ((apply ut); decide) | ((apply uf); decide))) | (apply b_out <;> first | refine wo_id ?_ | ((with_reducible apply yield_id); ((apply yield_of; (focus exact rfl); (focus exact lk_by))); done) | (first | exact tt | exact ff | assumption | ((apply ut); decide) | ((apply uf); decide))) | (apply g_undef; (focus (apply yield_none; (focus exact rfl); (focus exact lk_by)))) | (refine l_exit ?_; intro R2 W2)))
    (apply ends_ret; (focus exact (e_tmp res_nil)))
    exact ⟨_, _, _, Leaves.frz (by decide) _ _ (by exact fz_by), rfl, hF.trans (J := []) (by exact frm_by) (by simp)⟩
  · have hlm : (C.map cRow).length = C.length := List.length_map _
    (repeat (first | refine w_seq ?_ | refine w_regionL ?_ | refine w_norm ?_ | refine w_exit' ?_ | refine w_ret' ?_ | refine w_block ?_ | refine w_scope ?_ | refine w_skip ?_ | refine w_ret ?_ | refine w_exit ?_ | refine w_label ?_ | refine wo_nil ⟨rfl, ?_⟩ | ((first | apply o_box | apply o_assign | apply o_fieldAddr | apply o_load | apply o_len | apply o_move | apply o_bin | apply o_indexAddr | apply o_alloc | apply o_storep) <;> first | refine wo_id ?_ | refine wc_id ?_ | ((with_reducible apply look_id); (exact look_by); done) | ((with_reducible apply bin_id); (exact bin_by); done) | ((with_reducible apply load_id); ((first | (apply ldp; (focus exact get_by); (focus first | exact rfl | assumption)) | apply ldf); (first | exact part_sc (by first | exact ag3 | exact ag4 | exact ag50) rfl | (apply part_agg; (focus first | exact ag36 | exact ag49 | exact ag58 | exact ag72); (focus first | exact sz36 | exact sz49 | exact sz58 | exact sz72); (focus exact rfl); (focus exact rfl)))); done) | ((with_reducible apply cells_id); (exact cells_by); done) | ((with_reducible apply next_id); (exact next_by); done) | ((with_reducible apply get_id); (exact get_by); done) | ((with_reducible apply setAt_id); (exact setat_by); done) | exact fa52_1 _ _ _ | exact fe52_1 _ | exact fa52_2 _ _ _ | exact fe52_2 _ | exact lnF50 _ | exact lnO50 _ _ _ _ | exact lnN50 | exact ia_fz (iaF50 _ _) (by omega) (by assumption) rfl | exact ia_ow (iaO50 _ _ _ _ _) (by omega) (by omega) rfl | exact ze58 | exact sz58 | exact fa58_3 _ _ _ | exact fe58_3 _ | exact fa52_3 _ _ _ | exact fe52_3 _ | exact fa58_4 _ _ _ | exact fe58_4 _ | exact fa38_0 _ _ _ | exact fe38_0 _ | exact fa58_1 _ _ _ | exact fe58_1 _ | exact fa43_0 _ _ _ | exact fe43_0 _ | exact lnF75 _ | exact lnO75 _ _ _ _ | exact lnN75 | exact fa38_1 _ _ _ | exact fe38_1 _ | exact ia_fz (iaF75 _ _) (by omega) (by assumption) rfl | exact ia_ow (iaO75 _ _ _ _ _) (by omega) (by omega) rfl | assumption | (intro a h; cases h) | exact rfl) | (refine wo_nil ⟨dyn_draw (bs := [0, 1, 0, 1, 0, 0, 0, 0, 0, 1, 0, 0, 0, 0, 1, 0, 0, 0, 0, 0, 0, 0, 0, 0, 0, 1, 1, 0, 0, 1, 1, 0, 0]) ?_ ?_, ?_⟩; (focus ((repeat (first | exact Flags.nil | (apply Flags.cons Flag.dry) | (apply Flags.cons Flag.read) | (apply Flags.cons Flag.mk) | (apply Flags.cons Flag.free))); done)); (focus decide +kernel)) | (apply o_pcall; (focus exact args_by); (focus exact hb36); (focus exact rfl); (focus ((repeat (first | exact frzAll_nil | apply frzAll_pv)); done)); (focus exact hall)) | ((first | apply b_cond | apply b_pick | apply b_in) <;> first | refine wo_id ?_ | refine wc_id ?_ | ((with_reducible apply look_id); (exact look_by); done) | ((with_reducible apply yield_id); ((apply yield_of; (focus exact rfl); (focus exact lk_by))); done) | (first | exact tt | exact ff | assumption)) | (apply b_out <;> first | refine wo_id ?_ | ((with_reducible apply yield_id); ((apply yield_of; (focus exact rfl); (focus exact lk_by))); done) | (first | exact tt | exact ff | assumption)) | (apply g_undef; (focus (apply yield_none; (focus exact rfl); (focus exact lk_by))))))
    refine w_loopK (fun q tm s => ∃ k : Nat, k + q = C.length ∧ lk tm 14 = .pv (.sc (.int .i64 k)) ∧ s.get ci = some ⟨12, C.map cRow⟩ ∧ s.get nx = some ⟨4, [[.ptr m 0 0, .pv (.fz (ps.map rPt)), .ow ci 12 0 (C.map cRow).length, .pv (.sc (.int .i64 ((N + 1 : Nat) : Int)))]]⟩ ∧ nx < s.next ∧ Frm st s []) C.length rfl ⟨0, by omega, by exact lk_by, by exact get_by, by exact get_by, by exact nle_by, by exact frm_by⟩ ?_
    rintro q tm1 s ⟨k, hkq, h14, hgc, hgx, hxn, hF⟩ hK
    obtain ⟨S, hS⟩ : ∃ x, s.next = x := ⟨_, rfl⟩
    have hF1 : Frm st s [] ∧ True := ⟨hF, trivial⟩
    clear hF
    by_cases hk : k < C.length
    · obtain ⟨cl, hc⟩ : ∃ cl, C[k]? = some cl := ⟨_, List.getElem?_eq_getElem hk⟩
      have hrow : (C.map cRow)[0 + ((k : Nat) : Int).toNat]? = some [.pv (.sc (.int .i64 cl.th)), .pv (.sc (.int .i64 cl.o.k)), .pv (.sc (.float .f64 cl.o.it.pri)), .pv (.sc (.int .i64 cl.o.it.val)), .pv (.sc (.int .i64 cl.o.d0)), .pv (.sc (.int .i64 cl.o.d1)), .pv (.sc (.int .i64 cl.beg)), .pv (.sc (.int .i64 cl.en)), .pv (.sc (.bool cl.an.ok)), .pv (.sc (.float .f64 cl.an.it.pri)), .pv (.sc (.int .i64 cl.an.it.val)), .pv (.sc (.int .i64 cl.an.n))] := by
        have e1 : 0 + ((k : Nat) : Int).toNat = k := by omega
        rw [e1, List.getElem?_map, hc]
        rfl
      have hk1 : (k : Int) < ((C.map cRow).length : Int) := by omega
      have hwk : IntKind.i64.wrap ((k : Int) + 1) = ((k + 1 : Nat) : Int) := by rw [wrap_id (by omega) (by omega)]; omega
      by_cases hen : cl.en = (N : Int)
      · by_cases hok : cl.an.ok = true
        · by_cases hk2 : cl.o.k = 2
          · obtain ⟨hci2, hle⟩ := hf k cl hc hen hok hk2
            cases hL : allL ps 1 with
            | nil =>
              have hL0 : ((allL ps 1).map rIV).length = 0 := by rw [hL]; rfl
              have hL3 : ¬ (0 : Int) < (((allL ps 1).map rIV).length : Int) := by omega
              (repeat (first | refine w_seq ?_ | refine w_regionL ?_ | refine w_norm ?_ | refine w_exit' ?_ | refine w_ret' ?_ | refine w_block ?_ | refine w_scope ?_ | refine w_skip ?_ | refine w_ret ?_ | refine w_exit ?_ | refine w_label ?_ | refine wo_nil ⟨rfl, ?_⟩ | (apply o_bin; (focus exact look_by); (focus exact look_by); (focus first | exact br_addw (wN) | exact br_subw (wN) | exact br_mulw (wN)); (focus exact rfl)) | (apply o_bin; (focus exact look_by); (focus exact look_by); (focus first | exact br_addw (hwk) | exact br_subw (hwk) | exact br_mulw (hwk)); (focus exact rfl)) | ((first | apply o_box | apply o_assign | apply o_fieldAddr | apply o_load | apply o_len | apply o_move | apply o_bin | apply o_indexAddr | apply o_alloc | apply o_storep) <;> first | refine wo_id ?_ | refine wc_id ?_ | ((with_reducible apply look_id); (exact look_by); done) | ((with_reducible apply bin_id); (exact bin_by); done) | ((with_reducible apply load_id); ((first | (apply ldp; (focus exact get_by); (focus first | exact rfl | assumption)) | apply ldf); (first | exact part_sc (by first | exact ag3 | exact ag4 | exact ag50) rfl | (apply part_agg; (focus first | exact ag36 | exact ag49 | exact ag58 | exact ag72); (focus first | exact sz36 | exact sz49 | exact sz58 | exact sz72); (focus exact rfl); (focus exact rfl)))); done) | ((with_reducible apply cells_id); (exact cells_by); done) | ((with_reducible apply next_id); (exact next_by); done) | ((with_reducible apply get_id); (exact get_by); done) | ((with_reducible apply setAt_id); (exact setat_by); done) | exact fa52_1 _ _ _ | exact fe52_1 _ | exact fa52_2 _ _ _ | exact fe52_2 _ | exact lnF50 _ | exact lnO50 _ _ _ _ | exact lnN50 | exact ia_fz (iaF50 _ _) (by omega) (by assumption) rfl | exact ia_ow (iaO50 _ _ _ _ _) (by omega) (by omega) rfl | exact ze58 | exact sz58 | exact fa58_3 _ _ _ | exact fe58_3 _ | exact fa52_3 _ _ _ | exact fe52_3 _ | exact fa58_4 _ _ _ | exact fe58_4 _ | exact fa38_0 _ _ _ | exact fe38_0 _ | exact fa58_1 _ _ _ | exact fe58_1 _ | exact fa43_0 _ _ _ | exact fe43_0 _ | exact lnF75 _ | exact lnO75 _ _ _ _ | exact lnN75 | exact fa38_1 _ _ _ | exact fe38_1 _ | exact ia_fz (iaF75 _ _) (by omega) (by assumption) rfl | exact ia_ow (iaO75 _ _ _ _ _) (by omega) (by omega) rfl | assumption | (intro a h; cases h) | exact rfl) | (refine wo_nil ⟨dyn_draw (bs := [0, 1, 0, 1, 0, 0, 0, 0, 0, 1, 0, 0, 0, 0, 1, 0, 0, 0, 0, 0, 0, 0, 0, 0, 0, 1, 1, 0, 0, 1, 1, 0, 0]) ?_ ?_, ?_⟩; (focus ((repeat (first | exact Flags.nil | (apply Flags.cons Flag.dry) | (apply Flags.cons Flag.read) | (apply Flags.cons Flag.mk) | (apply Flags.cons Flag.free))); done)); (focus decide +kernel)) | ((first | apply b_cond | apply b_pick | apply b_in) <;> first | refine wo_id ?_ | refine wc_id ?_ | ((with_reducible apply look_id); (exact look_by); done) | ((with_reducible apply yield_id); ((apply yield_of; (focus exact rfl); (focus exact lk_by))); done) | (first | exact tt | exact ff | assumption | exact decide_eq_true hk1 | exact decide_eq_true hen | ((apply ut); exact hok) | ((apply uf); exact hok) | exact decide_eq_true hk2 | exact decide_eq_false hL3)) | (apply b_out <;> first | refine wo_id ?_ | ((with_reducible apply yield_id); ((apply yield_of; (focus exact rfl); (focus exact lk_by))); done) | (first | exact tt | exact ff | assumption | exact decide_eq_true hk1 | exact decide_eq_true hen | ((apply ut); exact hok) | ((apply uf); exact hok) | exact decide_eq_true hk2 | exact decide_eq_false hL3)) | (apply g_undef; (focus (apply yield_none; (focus exact rfl); (focus exact lk_by)))) | (apply l_norm (q - 1) (by omega))))
              exact ⟨k + 1, by omega, by rw [← hwk]; exact lk_by, by exact get_by, by exact get_by, by exact nle_by, hF1.1.trans (J := [S]) (by exact frm_by) (by simp; omega)⟩
            | cons y ys =>
              have hL1 : ((allL ps 1).map rIV).length = ys.length + 1 := by rw [hL]; simp
              have hL2 : (0 : Int) < (((allL ps 1).map rIV).length : Int) := by omega
              have hr0 : ((allL ps 1).map rIV)[(0 : Int).toNat]? = some (rIV y) := by rw [hL]; rfl
              have hyc := allL_cnl hG 1 y (by rw [hL]; simp)
              have hto := sp_told8 cl.an.it hci2
              have hcm := sp_r4Cmp cl.an.it.pri y.1 cl.an.it.val y.2 hci2.2 hyc.2
              have hlt : ¬ 0 < cmpV cl.an.it.pri cl.an.it.val y.1 y.2 := by
                have h9 : cmpV cl.an.it.pri cl.an.it.val y.1 y.2 ≤ 0 := hle y (by rw [hL]; simp)
                omega
              (repeat (first | refine w_seq ?_ | refine w_regionL ?_ | refine w_norm ?_ | refine w_exit' ?_ | refine w_ret' ?_ | refine w_block ?_ | refine w_scope ?_ | refine w_skip ?_ | refine w_ret ?_ | refine w_exit ?_ | refine w_label ?_ | refine wo_nil ⟨rfl, ?_⟩ | (apply o_bin; (focus exact look_by); (focus exact look_by); (focus first | exact br_addw (wN) | exact br_subw (wN) | exact br_mulw (wN)); (focus exact rfl)) | (apply o_bin; (focus exact look_by); (focus exact look_by); (focus first | exact br_addw (hwk) | exact br_subw (hwk) | exact br_mulw (hwk)); (focus exact rfl)) | ((first | apply o_box | apply o_assign | apply o_fieldAddr | apply o_load | apply o_len | apply o_move | apply o_bin | apply o_indexAddr | apply o_alloc | apply o_storep) <;> first | refine wo_id ?_ | refine wc_id ?_ | ((with_reducible apply look_id); (exact look_by); done) | ((with_reducible apply bin_id); (exact bin_by); done) | ((with_reducible apply load_id); ((first | (apply ldp; (focus exact get_by); (focus first | exact rfl | assumption)) | apply ldf); (first | exact part_sc (by first | exact ag3 | exact ag4 | exact ag50) rfl | (apply part_agg; (focus first | exact ag36 | exact ag49 | exact ag58 | exact ag72); (focus first | exact sz36 | exact sz49 | exact sz58 | exact sz72); (focus exact rfl); (focus exact rfl)))); done) | ((with_reducible apply cells_id); (exact cells_by); done) | ((with_reducible apply next_id); (exact next_by); done) | ((with_reducible apply get_id); (exact get_by); done) | ((with_reducible apply setAt_id); (exact setat_by); done) | exact fa52_1 _ _ _ | exact fe52_1 _ | exact fa52_2 _ _ _ | exact fe52_2 _ | exact lnF50 _ | exact lnO50 _ _ _ _ | exact lnN50 | exact ia_fz (iaF50 _ _) (by omega) (by assumption) rfl | exact ia_ow (iaO50 _ _ _ _ _) (by omega) (by omega) rfl | exact ze58 | exact sz58 | exact fa58_3 _ _ _ | exact fe58_3 _ | exact fa52_3 _ _ _ | exact fe52_3 _ | exact fa58_4 _ _ _ | exact fe58_4 _ | exact fa38_0 _ _ _ | exact fe38_0 _ | exact fa58_1 _ _ _ | exact fe58_1 _ | exact fa43_0 _ _ _ | exact fe43_0 _ | exact lnF75 _ | exact lnO75 _ _ _ _ | exact lnN75 | exact fa38_1 _ _ _ | exact fe38_1 _ | exact ia_fz (iaF75 _ _) (by omega) (by assumption) rfl | exact ia_ow (iaO75 _ _ _ _ _) (by omega) (by omega) rfl | assumption | (intro a h; cases h) | exact rfl) | (refine wo_nil ⟨dyn_draw (bs := [0, 1, 0, 1, 0, 0, 0, 0, 0, 1, 0, 0, 0, 0, 1, 0, 0, 0, 0, 0, 0, 0, 0, 0, 0, 1, 1, 0, 0, 1, 1, 0, 0]) ?_ ?_, ?_⟩; (focus ((repeat (first | exact Flags.nil | (apply Flags.cons Flag.dry) | (apply Flags.cons Flag.read) | (apply Flags.cons Flag.mk) | (apply Flags.cons Flag.free))); done)); (focus decide +kernel)) | (apply o_pcall; (focus exact args_by); (focus exact hb34); (focus exact rfl); (focus ((repeat (first | exact frzAll_nil | apply frzAll_pv)); done)); (focus exact hto)) | (apply o_pcall; (focus exact args_by); (focus exact hb30); (focus exact rfl); (focus ((repeat (first | exact frzAll_nil | apply frzAll_pv)); done)); (focus exact hcm)) | ((first | apply b_cond | apply b_pick | apply b_in) <;> first | refine wo_id ?_ | refine wc_id ?_ | ((with_reducible apply look_id); (exact look_by); done) | ((with_reducible apply yield_id); ((apply yield_of; (focus exact rfl); (focus exact lk_by))); done) | (first | exact tt | exact ff | assumption | exact decide_eq_true hk1 | exact decide_eq_true hen | ((apply ut); exact hok) | ((apply uf); exact hok) | exact decide_eq_true hk2 | exact decide_eq_true hL2 | exact decide_eq_false hlt)) | (apply b_out <;> first | refine wo_id ?_ | ((with_reducible apply yield_id); ((apply yield_of; (focus exact rfl); (focus exact lk_by))); done) | (first | exact tt | exact ff | assumption | exact decide_eq_true hk1 | exact decide_eq_true hen | ((apply ut); exact hok) | ((apply uf); exact hok) | exact decide_eq_true hk2 | exact decide_eq_true hL2 | exact decide_eq_false hlt)) | (apply g_undef; (focus (apply yield_none; (focus exact rfl); (focus exact lk_by)))) | (apply l_norm (q - 1) (by omega))))
              exact ⟨k + 1, by omega, by rw [← hwk]; exact lk_by, by exact get_by, by exact get_by, by exact nle_by, hF1.1.trans (J := [S]) (by exact frm_by) (by simp; omega)⟩
          · (repeat (first | refine w_seq ?_ | refine w_regionL ?_ | refine w_norm ?_ | refine w_exit' ?_ | refine w_ret' ?_ | refine w_block ?_ | refine w_scope ?_ | refine w_skip ?_ | refine w_ret ?_ | refine w_exit ?_ | refine w_label ?_ | refine wo_nil ⟨rfl, ?_⟩ | (apply o_bin; (focus exact look_by); (focus exact look_by); (focus first | exact br_addw (wN) | exact br_subw (wN) | exact br_mulw (wN)); (focus exact rfl)) | (apply o_bin; (focus exact look_by); (focus exact look_by); (focus first | exact br_addw (hwk) | exact br_subw (hwk) | exact br_mulw (hwk)); (focus exact rfl)) | ((first | apply o_box | apply o_assign | apply o_fieldAddr | apply o_load | apply o_len | apply o_move | apply o_bin | apply o_indexAddr | apply o_alloc | apply o_storep) <;> first | refine wo_id ?_ | refine wc_id ?_ | ((with_reducible apply look_id); (exact look_by); done) | ((with_reducible apply bin_id); (exact bin_by); done) | ((with_reducible apply load_id); ((first | (apply ldp; (focus exact get_by); (focus first | exact rfl | assumption)) | apply ldf); (first | exact part_sc (by first | exact ag3 | exact ag4 | exact ag50) rfl | (apply part_agg; (focus first | exact ag36 | exact ag49 | exact ag58 | exact ag72); (focus first | exact sz36 | exact sz49 | exact sz58 | exact sz72); (focus exact rfl); (focus exact rfl)))); done) | ((with_reducible apply cells_id); (exact cells_by); done) | ((with_reducible apply next_id); (exact next_by); done) | ((with_reducible apply get_id); (exact get_by); done) | ((with_reducible apply setAt_id); (exact setat_by); done) | exact fa52_1 _ _ _ | exact fe52_1 _ | exact fa52_2 _ _ _ | exact fe52_2 _ | exact lnF50 _ | exact lnO50 _ _ _ _ | exact lnN50 | exact ia_fz (iaF50 _ _) (by omega) (by assumption) rfl | exact ia_ow (iaO50 _ _ _ _ _) (by omega) (by omega) rfl | exact ze58 | exact sz58 | exact fa58_3 _ _ _ | exact fe58_3 _ | exact fa52_3 _ _ _ | exact fe52_3 _ | exact fa58_4 _ _ _ | exact fe58_4 _ | exact fa38_0 _ _ _ | exact fe38_0 _ | exact fa58_1 _ _ _ | exact fe58_1 _ | exact fa43_0 _ _ _ | exact fe43_0 _ | exact lnF75 _ | exact lnO75 _ _ _ _ | exact lnN75 | exact fa38_1 _ _ _ | exact fe38_1 _ | exact ia_fz (iaF75 _ _) (by omega) (by assumption) rfl | exact ia_ow (iaO75 _ _ _ _ _) (by omega) (by omega) rfl | assumption | (intro a h; cases h) | exact rfl) | (refine wo_nil ⟨dyn_draw (bs := [0, 1, 0, 1, 0, 0, 0, 0, 0, 1, 0, 0, 0, 0, 1, 0, 0, 0, 0, 0, 0, 0, 0, 0, 0, 1, 1, 0, 0, 1, 1, 0, 0]) ?_ ?_, ?_⟩; (focus ((repeat (first | exact Flags.nil | (apply Flags.cons Flag.dry) | (apply Flags.cons Flag.read) | (apply Flags.cons Flag.mk) | (apply Flags.cons Flag.free))); done)); (focus decide +kernel)) | ((first | apply b_cond | apply b_pick | apply b_in) <;> first | refine wo_id ?_ | refine wc_id ?_ | ((with_reducible apply look_id); (exact look_by); done) | ((with_reducible apply yield_id); ((apply yield_of; (focus exact rfl); (focus exact lk_by))); done) | (first | exact tt | exact ff | assumption | exact decide_eq_true hk1 | exact decide_eq_true hen | ((apply ut); exact hok) | ((apply uf); exact hok) | exact decide_eq_false hk2)) | (apply b_out <;> first | refine wo_id ?_ | ((with_reducible apply yield_id); ((apply yield_of; (focus exact rfl); (focus exact lk_by))); done) | (first | exact tt | exact ff | assumption | exact decide_eq_true hk1 | exact decide_eq_true hen | ((apply ut); exact hok) | ((apply uf); exact hok) | exact decide_eq_false hk2)) | (apply g_undef; (focus (apply yield_none; (focus exact rfl); (focus exact lk_by)))) | (apply l_norm (q - 1) (by omega))))
            exact ⟨k + 1, by omega, by rw [← hwk]; exact lk_by, by exact get_by, by exact get_by, by exact nle_by, hF1.1.trans (J := [S]) (by exact frm_by) (by simp; omega)⟩
        · have hok : cl.an.ok = false := by simpa using hok
          (repeat (first | refine w_seq ?_ | refine w_regionL ?_ | refine w_norm ?_ | refine w_exit' ?_ | refine w_ret' ?_ | refine w_block ?_ | refine w_scope ?_ | refine w_skip ?_ | refine w_ret ?_ | refine w_exit ?_ | refine w_label ?_ | refine wo_nil ⟨rfl, ?_⟩ | (apply o_bin; (focus exact look_by); (focus exact look_by); (focus first | exact br_addw (wN) | exact br_subw (wN) | exact br_mulw (wN)); (focus exact rfl)) | (apply o_bin; (focus exact look_by); (focus exact look_by); (focus first | exact br_addw (hwk) | exact br_subw (hwk) | exact br_mulw (hwk)); (focus exact rfl)) | ((first | apply o_box | apply o_assign | apply o_fieldAddr | apply o_load | apply o_len | apply o_move | apply o_bin | apply o_indexAddr | apply o_alloc | apply o_storep) <;> first | refine wo_id ?_ | refine wc_id ?_ | ((with_reducible apply look_id); (exact look_by); done) | ((with_reducible apply bin_id); (exact bin_by); done) | ((with_reducible apply load_id); ((first | (apply ldp; (focus exact get_by); (focus first | exact rfl | assumption)) | apply ldf); (first | exact part_sc (by first | exact ag3 | exact ag4 | exact ag50) rfl | (apply part_agg; (focus first | exact ag36 | exact ag49 | exact ag58 | exact ag72); (focus first | exact sz36 | exact sz49 | exact sz58 | exact sz72); (focus exact rfl); (focus exact rfl)))); done) | ((with_reducible apply cells_id); (exact cells_by); done) | ((with_reducible apply next_id); (exact next_by); done) | ((with_reducible apply get_id); (exact get_by); done) | ((with_reducible apply setAt_id); (exact setat_by); done) | exact fa52_1 _ _ _ | exact fe52_1 _ | exact fa52_2 _ _ _ | exact fe52_2 _ | exact lnF50 _ | exact lnO50 _ _ _ _ | exact lnN50 | exact ia_fz (iaF50 _ _) (by omega) (by assumption) rfl | exact ia_ow (iaO50 _ _ _ _ _) (by omega) (by omega) rfl | exact ze58 | exact sz58 | exact fa58_3 _ _ _ | exact fe58_3 _ | exact fa52_3 _ _ _ | exact fe52_3 _ | exact fa58_4 _ _ _ | exact fe58_4 _ | exact fa38_0 _ _ _ | exact fe38_0 _ | exact fa58_1 _ _ _ | exact fe58_1 _ | exact fa43_0 _ _ _ | exact fe43_0 _ | exact lnF75 _ | exact lnO75 _ _ _ _ | exact lnN75 | exact fa38_1 _ _ _ | exact fe38_1 _ | exact ia_fz (iaF75 _ _) (by omega) (by assumption) rfl | exact ia_ow (iaO75 _ _ _ _ _) (by omega) (by omega) rfl | assumption | (intro a h; cases h) | exact rfl) | (refine wo_nil ⟨dyn_draw (bs := [0, 1, 0, 1, 0, 0, 0, 0, 0, 1, 0, 0, 0, 0, 1, 0, 0, 0, 0, 0, 0, 0, 0, 0, 0, 1, 1, 0, 0, 1, 1, 0, 0]) ?_ ?_, ?_⟩; (focus ((repeat (first | exact Flags.nil | (apply Flags.cons Flag.dry) | (apply Flags.cons Flag.read) | (apply Flags.cons Flag.mk) | (apply Flags.cons Flag.free))); done)); (focus decide +kernel)) | ((first | apply b_cond | apply b_pick | apply b_in) <;> first | refine wo_id ?_ | refine wc_id ?_ | ((with_reducible apply look_id); (exact look_by); done) | ((with_reducible apply yield_id); ((apply yield_of; (focus exact rfl); (focus exact lk_by))); done) | (first | exact tt | exact ff | assumption | exact decide_eq_true hk1 | exact decide_eq_true hen | ((apply ut); exact hok) | ((apply uf); exact hok))) | (apply b_out <;> first | refine wo_id ?_ | ((with_reducible apply yield_id); ((apply yield_of; (focus exact rfl); (focus exact lk_by))); done) | (first | exact tt | exact ff | assumption | exact decide_eq_true hk1 | exact decide_eq_true hen | ((apply ut); exact hok) | ((apply uf); exact hok))) | (apply g_undef; (focus (apply yield_none; (focus exact rfl); (focus exact lk_by)))) | (apply l_norm (q - 1) (by omega))))
          exact ⟨k + 1, by omega, by rw [← hwk]; exact lk_by, by exact get_by, by exact get_by, by exact nle_by, hF1.1.trans (J := [S]) (by exact frm_by) (by simp; omega)⟩
      · (repeat (first | refine w_seq ?_ | refine w_regionL ?_ | refine w_norm ?_ | refine w_exit' ?_ | refine w_ret' ?_ | refine w_block ?_ | refine w_scope ?_ | refine w_skip ?_ | refine w_ret ?_ | refine w_exit ?_ | refine w_label ?_ | refine wo_nil ⟨rfl, ?_⟩ | (apply o_bin; (focus exact look_by); (focus exact look_by); (focus first | exact br_addw (wN) | exact br_subw (wN) | exact br_mulw (wN)); (focus exact rfl)) | (apply o_bin; (focus exact look_by); (focus exact look_by); (focus first | exact br_addw (hwk) | exact br_subw (hwk) | exact br_mulw (hwk)); (focus exact rfl)) | ((first | apply o_box | apply o_assign | apply o_fieldAddr | apply o_load | apply o_len | apply o_move | apply o_bin | apply o_indexAddr | apply o_alloc | apply o_storep) <;> first | refine wo_id ?_ | refine wc_id ?_ | ((with_reducible apply look_id); (exact look_by); done) | ((with_reducible apply bin_id); (exact bin_by); done) | ((with_reducible apply load_id); ((first | (apply ldp; (focus exact get_by); (focus first | exact rfl | assumption)) | apply ldf); (first | exact part_sc (by first | exact ag3 | exact ag4 | exact ag50) rfl | (apply part_agg; (focus first | exact ag36 | exact ag49 | exact ag58 | exact ag72); (focus first | exact sz36 | exact sz49 | exact sz58 | exact sz72); (focus exact rfl); (focus exact rfl)))); done) | ((with_reducible apply cells_id); (exact cells_by); done) | ((with_reducible apply next_id); (exact next_by); done) | ((with_reducible apply get_id); (exact get_by); done) | ((with_reducible apply setAt_id); (exact setat_by); done) | exact fa52_1 _ _ _ | exact fe52_1 _ | exact fa52_2 _ _ _ | exact fe52_2 _ | exact lnF50 _ | exact lnO50 _ _ _ _ | exact lnN50 | exact ia_fz (iaF50 _ _) (by omega) (by assumption) rfl | exact ia_ow (iaO50 _ _ _ _ _) (by omega) (by omega) rfl | exact ze58 | exact sz58 | exact fa58_3 _ _ _ | exact fe58_3 _ | exact fa52_3 _ _ _ | exact fe52_3 _ | exact fa58_4 _ _ _ | exact fe58_4 _ | exact fa38_0 _ _ _ | exact fe38_0 _ | exact fa58_1 _ _ _ | exact fe58_1 _ | exact fa43_0 _ _ _ | exact fe43_0 _ | exact lnF75 _ | exact lnO75 _ _ _ _ | exact lnN75 | exact fa38_1 _ _ _ | exact fe38_1 _ | exact ia_fz (iaF75 _ _) (by omega) (by assumption) rfl | exact ia_ow (iaO75 _ _ _ _ _) (by omega) (by omega) rfl | assumption | (intro a h; cases h) | exact rfl) | (refine wo_nil ⟨dyn_draw (bs := [0, 1, 0, 1, 0, 0, 0, 0, 0, 1, 0, 0, 0, 0, 1, 0, 0, 0, 0, 0, 0, 0, 0, 0, 0, 1, 1, 0, 0, 1, 1, 0, 0]) ?_ ?_, ?_⟩; (focus ((repeat (first | exact Flags.nil | (apply Flags.cons Flag.dry) | (apply Flags.cons Flag.read) | (apply Flags.cons Flag.mk) | (apply Flags.cons Flag.free))); done)); (focus decide +kernel)) | ((first | apply b_cond | apply b_pick | apply b_in) <;> first | refine wo_id ?_ | refine wc_id ?_ | ((with_reducible apply look_id); (exact look_by); done) | ((with_reducible apply yield_id); ((apply yield_of; (focus exact rfl); (focus exact lk_by))); done) | (first | exact tt | exact ff | assumption | exact decide_eq_true hk1 | exact decide_eq_false hen)) | (apply b_out <;> first | refine wo_id ?_ | ((with_reducible apply yield_id); ((apply yield_of; (focus exact rfl); (focus exact lk_by))); done) | (first | exact tt | exact ff | assumption | exact decide_eq_true hk1 | exact decide_eq_false hen)) | (apply g_undef; (focus (apply yield_none; (focus exact rfl); (focus exact lk_by)))) | (apply l_norm (q - 1) (by omega))))
        exact ⟨k + 1, by omega, by rw [← hwk]; exact lk_by, by exact get_by, by exact get_by, by exact nle_by, hF1.1.trans (J := [S]) (by exact frm_by) (by simp; omega)⟩
    · (repeat (first | refine w_seq ?_ | refine w_regionL ?_ | refine w_norm ?_ | refine w_exit' ?_ | refine w_ret' ?_ | refine w_block ?_ | refine w_scope ?_ | refine w_skip ?_ | refine w_ret ?_ | refine w_exit ?_ | refine w_label ?_ | refine wo_nil ⟨rfl, ?_⟩ | ((first | apply o_box | apply o_assign | apply o_fieldAddr | apply o_load | apply o_len | apply o_move | apply o_bin | apply o_indexAddr | apply o_alloc | apply o_storep) <;> first | refine wo_id ?_ | refine wc_id ?_ | ((with_reducible apply look_id); (exact look_by); done) | ((with_reducible apply bin_id); (exact bin_by); done) | ((with_reducible apply load_id); ((first | (apply ldp; (focus exact get_by); (focus first | exact rfl | assumption)) | apply ldf); (first | exact part_sc (by first | exact ag3 | exact ag4 | exact ag50) rfl | (apply part_agg; (focus first | exact ag36 | exact ag49 | exact ag58 | exact ag72); (focus first | exact sz36 | exact sz49 | exact sz58 | exact sz72); (focus exact rfl); (focus exact rfl)))); done) | ((with_reducible apply cells_id); (exact cells_by); done) | ((with_reducible apply next_id); (exact next_by); done) | ((with_reducible apply get_id); (exact get_by); done) | ((with_reducible apply setAt_id); (exact setat_by); done) | exact fa52_1 _ _ _ | exact fe52_1 _ | exact fa52_2 _ _ _ | exact fe52_2 _ | exact lnF50 _ | exact lnO50 _ _ _ _ | exact lnN50 | exact ia_fz (iaF50 _ _) (by omega) (by assumption) rfl | exact ia_ow (iaO50 _ _ _ _ _) (by omega) (by omega) rfl | exact ze58 | exact sz58 | exact fa58_3 _ _ _ | exact fe58_3 _ | exact fa52_3 _ _ _ | exact fe52_3 _ | exact fa58_4 _ _ _ | exact fe58_4 _ | exact fa38_0 _ _ _ | exact fe38_0 _ | exact fa58_1 _ _ _ | exact fe58_1 _ | exact fa43_0 _ _ _ | exact fe43_0 _ | exact lnF75 _ | exact lnO75 _ _ _ _ | exact lnN75 | exact fa38_1 _ _ _ | exact fe38_1 _ | exact ia_fz (iaF75 _ _) (by omega) (by assumption) rfl | exact ia_ow (iaO75 _ _ _ _ _) (by omega) (by omega) rfl | assumption | (intro a h; cases h) | exact rfl) | (refine wo_nil ⟨dyn_draw (bs := [0, 1, 0, 1, 0, 0, 0, 0, 0, 1, 0, 0, 0, 0, 1, 0, 0, 0, 0, 0, 0, 0, 0, 0, 0, 1, 1, 0, 0, 1, 1, 0, 0]) ?_ ?_, ?_⟩; (focus ((repeat (first | exact Flags.nil | (apply Flags.cons Flag.dry) | (apply Flags.cons Flag.read) | (apply Flags.cons Flag.mk) | (apply Flags.cons Flag.free))); done)); (focus decide +kernel)) | ((first | apply b_cond | apply b_pick | apply b_in) <;> first | refine wo_id ?_ | refine wc_id ?_ | ((with_reducible apply look_id); (exact look_by); done) | ((with_reducible apply yield_id); ((apply yield_of; (focus exact rfl); (focus exact lk_by))); done) | (first | exact tt | exact ff | assumption | exact decide_eq_false (by omega))) | (apply b_out <;> first | refine wo_id ?_ | ((with_reducible apply yield_id); ((apply yield_of; (focus exact rfl); (focus exact lk_by))); done) | (first | exact tt | exact ff | assumption | exact decide_eq_false (by omega))) | (apply g_undef; (focus (apply yield_none; (focus exact rfl); (focus exact lk_by)))) | (refine l_exit ?_; intro R2 W2)))
      (apply ends_ret; (focus exact (e_tmp res_nil)))
      exact ⟨_, _, _, Leaves.frz (by decide) _ _ (by exact fz_by), rfl, hF1.1.trans (J := []) (by exact frm_by) (by simp)⟩
theorem multiFirst_law {ops : List (List Rw)} (hops : ∀ l ∈ ops, l.length ≤ maxLen ∧ ∀ x ∈ l, RwOk x) (hol : ops.length ≤ maxLen) (picks : List Int) (hpk : ∀ p ∈ picks, i64 p) (hpl : picks.length ≤ maxLen) :
    pcall (Ew Try.prog cfg) 11 [.fz (rOps ops), .fz (picks.map iR)] = some (.pv (.sc (.bool true))) := by
  refine pcall_wc Try.func11 rfl (by decide) ?_ rfl
  show wc _ _ _ (.pv (.fz (rOps ops)) :: .pv (.fz (picks.map iR)) :: List.replicate 14 undefV) _ _
  have hops4 : ∀ l ∈ ops.take 4, ∀ x ∈ l, RwOk x := fun l hl => (hops l (List.mem_of_mem_take hl)).2
  have hA : ∀ b, MAround 1 b (ops.take 4) 37 [] (fun _ K _ => K = []) (FInv 1) := fun b =>
    m_around (by decide) b hops4 hb37 (fun st K D k D' m I c Jc hD hI hbg hK hM hC _ => by
      subst hK
      obtain ⟨h1, t, c0, h2, h3, h4, h5⟩ := finv_step hops4 hD hI hbg
      have hl := h1.g.mem.len
      have hcl := h1.c.cl
      have hn2 := h2.n2
      rw [hn2]
      refine (fn_seeF (N := D.n) hD (by omega) h1.g.mem.gl (by omega) hC (first_fact h2 h3 hI.g.mem.gl h4 h5)).mono ?_
      rintro v st' R W ⟨rfl, hF⟩
      exact ⟨rfl, [], rfl, hF, by simp⟩) (fun _ _ _ _ _ h _ _ => h) (fun _ _ _ h x hx => by rw [h] at hx; cases hx) (fun _ h => h.m) (fun D k D' hD hI hbg => (finv_step hops4 hD hI hbg).1)
  (repeat (first | refine w_seq ?_ | refine w_regionL ?_ | refine w_norm ?_ | refine w_exit' ?_ | refine w_ret' ?_ | refine w_block ?_ | refine w_scope ?_ | refine w_skip ?_ | refine w_ret ?_ | refine w_exit ?_ | refine w_label ?_ | refine wo_nil ⟨rfl, ?_⟩ | ((first | apply o_assign | apply o_not | apply o_move | apply o_extract | apply o_alloc | apply o_storep) <;> first | refine wo_id ?_ | refine wc_id ?_ | ((with_reducible apply look_id); (exact look_by); done) | ((with_reducible apply cells_id); (exact cells_by); done) | ((with_reducible apply next_id); (exact next_by); done) | ((with_reducible apply get_id); (exact get_by); done) | ((with_reducible apply setAt_id); (exact setat_by); done) | exact ze52 | exact sz52 | assumption | exact rfl) | (apply o_pcall; (focus exact args_by); (focus exact hb24); (focus exact rfl); (focus ((repeat (first | exact frzAll_nil | apply frzAll_pv)); done)); (focus exact aw8)) | ((first | apply b_cond) <;> first | refine wo_id ?_ | refine wc_id ?_ | ((with_reducible apply look_id); (exact look_by); done) | (first | exact tt | exact ff | assumption))))
  refine o_call (by exact args_by) hb31 (fn_mdrive (by decide) hops hol picks hpk hpl hA (K0 := []) rfl (by simp) (finv0 1 _)) ?_
  rintro _ s1 R1 W1 ⟨D, m, I, c, Jc, K', hD, rfl, hM, hC, hJ1, hI1, ⟨q1, q2, q3, q4⟩, hF1⟩
  have hc1 : c.cell1 = true := by
    rcases hC with ⟨rfl, -⟩ | h
    · rfl
    · exact h.at.cell1.2
  have hcell : ([.ptr m 0 0, .pv (.fz (D.ps.map rPt)), c, .pv (.sc (.int .i64 D.n))] : List V).all V.cell1 = true := by
    simp only [List.all_cons, hc1]
    rfl
  (repeat (first | refine w_seq ?_ | refine w_regionL ?_ | refine w_norm ?_ | refine w_exit' ?_ | refine w_ret' ?_ | refine w_block ?_ | refine w_scope ?_ | refine w_skip ?_ | refine w_ret ?_ | refine w_exit ?_ | refine w_label ?_ | refine wo_nil ⟨rfl, ?_⟩ | ((first | apply o_assign | apply o_not | apply o_move | apply o_extract | apply o_alloc | apply o_storep) <;> first | refine wo_id ?_ | refine wc_id ?_ | ((with_reducible apply look_id); (exact look_by); done) | ((with_reducible apply cells_id); (exact cells_by); done) | ((with_reducible apply next_id); (exact next_by); done) | ((with_reducible apply get_id); (exact get_by); done) | ((with_reducible apply setAt_id); (exact setat_by); done) | exact ze52 | exact sz52 | assumption | exact rfl) | ((first | apply b_cond) <;> first | refine wo_id ?_ | refine wc_id ?_ | ((with_reducible apply look_id); (exact look_by); done) | (first | exact tt | exact ff | assumption))))
  (apply ends_ret; (focus exact (e_tmp res_nil)))
  exact ⟨_, by exact fz_by⟩
end Go.Proofs.Ytefgpelodpggkaa.Ve
