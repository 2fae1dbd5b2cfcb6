import Derived.Test.YtnolgpagdjcjbaaDa
import Derived.Test.YtnolgpagdjcjbaaDb
set_option linter.unusedVariables false
set_option linter.unusedSimpArgs false
namespace Go.Proofs.Ytnolgpagdjcjbaa.Ve
open Go
set_option maxRecDepth 4000
set_option maxHeartbeats 8000000
theorem len_put {tm : List V} {i n : Nat} {v : V} (h : tm.length = n) : (put tm i v).length = n := by
  unfold put
  rw [List.length_set]
  exact h
theorem dmov_n {rs : StepR} {D : DS} {k : Nat} {t : TH} (hkT : D.T[k]? = some t) : (dmov rs D k).n = D.n + 1 := by
  unfold dmov
  rw [hkT]
  simp only
  split <;> rfl
theorem dbeg_n {own : Rw → Opd} {ops : List (List Rw)} {D D' : DS} {k : Nat} (h : dbeg own ops D k = some D') : D'.n = D.n := by
  unfold dbeg at h
  split at h
  · split at h
    · cases h
      rfl
    · split at h
      · split at h
        · cases h
          rfl
        · cases h
      · cases h
  · cases h
theorem drive_body {kind : Int} {own : Rw → Opd} {rv : V} {g : FuncId} {z : V} {rs : StepR} {FR : List V → RF → Prop} {Ok : Pts → RF → Prop} {ops : List (List Rw)} {gN : FuncId} {cN : List V} {KN : List Nat} {JN : St → Prop} {gS : FuncId} {cS : List V} {J : St → List Nat → DS → Prop} {Inv : DS → Prop}
    (A : Around kind own rv g z rs FR Ok ops gN cN KN JN gS cS J Inv) (hops : ∀ l ∈ ops, l.length ≤ maxLen ∧ ∀ x ∈ l, RwOk x) {n : Nat} (hon : ops.length = n) (hn4 : n ≤ 4)
    (picks : List Int) (hpk : ∀ p ∈ picks, i64 p) (hpl : picks.length ≤ maxLen)
    {nx N m : Nat} {st0 : St} {K0 : List Nat} {s : St} {D : DS} {I Jc K : List Nat} {x c : V} {fr : Nat → Nat} {rA rO rT rC : List (List V)}
    (hI0 : DrI n nx N m st0 K0 FR JN J Inv s D I Jc K x c fr rA rO rT rC) (hnx : st0.next = nx) (hNx : nx < N) (hmN : nx < m ∧ m < N) (hKNl : ∀ y ∈ KN, y < nx) (hKN : ∀ y ∈ K0, y ∉ KN)
    {i : Nat} (hi : i < min picks.length 200) (hDn : D.n ≤ i) (hDC : D.C.length ≤ D.n) {p : Int} (hp : picks[i]? = some p)
    {cd : Code} (hc : Try.f53.body.bind (codeAt 10) = some cd) {tm : List V} (hlen1 : tm.length = 232) (h0 : lk tm 0 = .pv (.sc (.int .i64 kind))) (h1 : lk tm 1 = rv) (h2 : lk tm 2 = .fn (.func gN) [] cN) (h3 : lk tm 3 = .pv (.fz (rOps ops))) (h4 : lk tm 4 = .pv (.fz (picks.map iR))) (h5 : lk tm 5 = .fn (.func gS) [] cS) (h14 : lk tm 14 = .ptr N 0 0) (h15 : lk tm 15 = .ow (N + 1) 1 0 n) (h16 : lk tm 16 = .ow (N + 1 + 1) 1 0 n) (h17 : lk tm 17 = .ow (N + 1 + 1 + 1) 17 0 n) (h18 : lk tm 18 = .ow (N + 1 + 1 + 1 + 1) 1 0 n) (h19 : lk tm 19 = .pv (.sc (.int .i64 i))) :
    wc Try.prog cfg cd tm s fun ex tm' s' R W => (ex = .norm ∨ ex = .exit 1) ∧ ∃ D' I' Jc' K' x' c' fr' rA' rO' rT' rC', D' = dstep own rs ops D p ∧ D'.n ≤ i + 1 ∧ D'.C.length ≤ D'.n ∧ DrI n nx N m st0 K0 FR JN J Inv s' D' I' Jc' K' x' c' fr' rA' rO' rT' rC' := by
  obtain ⟨i1, i2, i3, i4, i5, i6, i7, i8, i9, i10, i11, i12, i13, i14, i15, i16, i17, i18, i19, i20, i21, i22, i23, i24, i25, i26, i27, i28⟩ := hI0
  have hlp : (picks.map iR).length = picks.length := List.length_map _
  have hl4 : (rOps ops).length = n := by simp [rOps]; omega
  refine w_at hc rfl ?_
  clear hc
  have hrow := map_at iR hp
  have hp64 := hpk p (List.mem_of_getElem? hp)
  have hln : ((rOps ops).length : Int) = n := by omega
  have h6 : pcall (Ew Try.prog cfg) 14 [.sc (.int .i64 p), .sc (.int .i64 ((rOps ops).length : Int))] = some (.pv (.sc (.int .i64 (into p n)))) := by
    rw [hln]
    exact sp_into6 p n hp64 (by omega)
  have hwi : IntKind.i64.wrap ((i : Int) + 1) = ((i + 1 : Nat) : Int) := by rw [wrap_id (by omega) (by omega)]; omega
  have hI0 : DrI n nx N m st0 K0 FR JN J Inv s D I Jc K x c fr rA rO rT rC := ⟨i1, i2, i3, i4, i5, i6, i7, i8, i9, i10, i11, i12, i13, i14, i15, i16, i17, i18, i19, i20, i21, i22, i23, i24, i25, i26, i27, i28⟩
  by_cases hn0 : n = 0
  · have hk0 : into p n = 0 := by
      unfold into
      rw [if_pos (by omega)]
    rw [hk0] at h6
    have hds : dstep own rs ops D p = D := by
      unfold dstep
      rw [if_pos (by omega)]
    (repeat (first | refine w_seq ?_ | refine w_regionL ?_ | refine w_norm ?_ | refine w_exit' ?_ | refine w_exit ?_ | refine wo_nil ⟨rfl, ?_⟩ | ((first | apply o_assign | apply o_move | apply o_len | apply o_bin | apply o_indexAddr | apply o_load) <;> first | refine wo_id ?_ | ((with_reducible apply look_id); (exact look_by); done) | ((with_reducible apply bin_id); (exact bin_by); done) | ((with_reducible apply load_id); ((first | apply ldf); (first | exact part_sc (by first | exact ag3) rfl)); done) | exact lnF55 _ | exact ia_fz (iaF56 _ _) (by omega) (by assumption) rfl | (intro a h; cases h) | exact rfl) | (refine wo_nil ⟨dyn_draw (bs := [0, 0, 0, 0, 0, 0, 0, 0, 1, 0, 0, 0, 0, 0, 1, 0, 0, 0, 1, 0, 0, 0, 0, 0]) ?_ ?_, ?_⟩; (focus ((repeat (first | exact Flags.nil | (apply Flags.cons Flag.dry) | (apply Flags.cons Flag.read))); done)); (focus decide +kernel)) | (apply o_pcall; (focus exact args_by); (focus exact hb14); (focus exact rfl); (focus ((repeat (first | exact frzAll_nil | apply frzAll_pv)); done)); (focus exact h6)) | ((first | apply b_cond | apply b_pick | apply b_in) <;> first | refine wo_id ?_ | refine wc_id ?_ | ((with_reducible apply look_id); (exact look_by); done) | ((with_reducible apply yield_id); ((apply yield_of; (focus exact rfl); (focus exact lk_by))); done) | (first | exact tt | exact decide_eq_true (by omega))) | (apply b_out <;> first | refine wo_id ?_ | ((with_reducible apply yield_id); ((apply yield_of; (focus exact rfl); (focus exact lk_by))); done) | (first | exact tt | exact decide_eq_true (by omega))) | (apply g_undef; (focus (apply yield_none; (focus exact rfl); (focus exact lk_by))))))
    exact ⟨.inr rfl, D, I, Jc, K, x, c, fr, rA, rO, rT, rC, hds.symm, by omega, hDC, hI0⟩
  · obtain ⟨hk1, hk2⟩ := into_range p n (by omega)
    obtain ⟨k, hk⟩ : ∃ k : Nat, into p n = k := ⟨(into p n).toNat, by omega⟩
    rw [hk] at h6 hk2
    have hkn : k < n := by omega
    obtain ⟨t, hkT⟩ : ∃ t, D.T[k]? = some t := ⟨_, List.getElem?_eq_getElem (by omega)⟩
    obtain ⟨l, hkO⟩ : ∃ l, ops[k]? = some l := ⟨_, List.getElem?_eq_getElem (by omega)⟩
    have hds : dstep own rs ops D p = match dbeg own ops D k with
      | some D' => dmov rs D' k
      | none => D := by
      unfold dstep
      rw [if_neg (by omega), hon, hk]
      rfl
    have e0 : 0 + ((k : Nat) : Int).toNat = k := by omega
    have hrow1 : (rOps ops)[((k : Nat) : Int).toNat]? = some [.fz (l.map rRw)] := map_at (fun l : List Rw => [PV.fz (l.map rRw)]) hkO
    have hA : rA[0 + ((k : Nat) : Int).toNat]? = some [.pv (.sc (.int .i64 t.at_))] := by
      obtain ⟨r, h1, h2⟩ := i11.2 k t hkT
      rw [e0, h1, h2]
    have hO : rO[0 + ((k : Nat) : Int).toNat]? = some [if t.on = true then .ptr (fr k) 0 0 else nilP] := by
      obtain ⟨r, h1, h2⟩ := i12.2 k t hkT
      rw [e0, h1, h2]
    have hlt := hops l (List.mem_of_getElem? hkO)
    by_cases hton : t.on = true
    · rw [if_pos hton] at hO
      (repeat (first | refine w_seq ?_ | refine w_regionL ?_ | refine w_norm ?_ | refine wo_nil ⟨rfl, ?_⟩ | ((first | apply o_assign | apply o_move | apply o_len | apply o_bin | apply o_indexAddr | apply o_load) <;> first | refine wo_id ?_ | ((with_reducible apply look_id); (exact look_by); done) | ((with_reducible apply bin_id); (exact bin_by); done) | ((with_reducible apply load_id); ((first | (apply ldp; (focus exact get_by); (focus first | assumption)) | apply ldf); (first | exact part_sc (by first | exact ag3) rfl)); done) | exact lnF55 _ | exact ia_fz (iaF56 _ _) (by omega) (by assumption) rfl | exact ia_ow (iaO56 _ _ _ _ _) (by omega) (by omega) rfl | (intro a h; cases h) | exact rfl) | (apply o_pcall; (focus exact args_by); (focus exact hb14); (focus exact rfl); (focus ((repeat (first | exact frzAll_nil | apply frzAll_pv)); done)); (focus exact h6)) | ((first | apply b_in) <;> first | refine wo_id ?_ | ((with_reducible apply yield_id); ((apply yield_of; (focus exact rfl); (focus exact lk_by))); done) | (first | exact ff | exact decide_eq_false (by omega)))))
      refine o_eqlN (p := .ptr (fr k) 0 0) (b := false) (by exact look_by) (by exact look_by) (.inr ⟨⟨_, _, _, rfl⟩, rfl⟩) Try.underlying94 ?_
      (repeat (first | refine w_seq ?_ | refine w_regionL ?_ | refine w_norm ?_ | refine w_skip ?_ | ((first | apply o_move | apply o_bin | apply o_indexAddr | apply o_load) <;> first | refine wo_id ?_ | ((with_reducible apply look_id); (exact look_by); done) | ((with_reducible apply load_id); ((first | (apply ldp; (focus exact get_by); (focus first | assumption))); (first | exact part_sc (by first | exact ag3) rfl)); done) | exact ia_ow (iaO56 _ _ _ _ _) (by omega) (by omega) rfl) | (refine wo_nil ⟨dyn_draw (bs := [0, 0, 0, 0, 0, 0, 0, 0, 1, 0, 0, 0, 0, 0, 1, 0, 0, 0, 1, 0, 0, 0, 0, 0]) ?_ ?_, ?_⟩; (focus ((repeat (first | exact Flags.nil | (apply Flags.cons Flag.dry) | (apply Flags.cons Flag.read))); done)); (focus decide +kernel)) | ((first | apply b_cond | apply b_pick | apply b_in) <;> first | refine wo_id ?_ | refine wc_id ?_ | ((with_reducible apply look_id); (exact look_by); done) | ((with_reducible apply yield_id); ((apply yield_of; (focus exact rfl); (focus exact lk_by))); done) | (first | exact ff | exact decide_eq_false (by omega))) | (apply b_out <;> first | refine wo_id ?_ | ((with_reducible apply yield_id); ((apply yield_of; (focus exact rfl); (focus exact lk_by))); done) | (first | exact ff))))
      refine o_eqlN (p := .ptr (fr k) 0 0) (b := false) (by exact look_by) (by exact look_by) (.inr ⟨⟨_, _, _, rfl⟩, rfl⟩) Try.underlying94 ?_
      refine wo_nil ⟨rfl, ?_⟩
      refine w_norm ?_
      refine w_cond_f (t := false) (by exact look_by) rfl ?_
      refine w_skip ?_
      refine w_norm ?_
      have hbeg : dbeg own ops D k = some D := by
        unfold dbeg
        simp [hkT, hkO, hton]
      rw [hbeg] at hds
      have hI1 : DrI n nx N m st0 K0 FR JN (fun s K _ => J s K D) (fun _ => Inv D) s D I Jc K x c fr rA rO rT rC := ⟨i1, i2, i3, i4, i5, i6, i7, i8, i9, i10, i11, i12, i13, i14, i15, i16, i17, i18, i19, i20, i21, i22, i23, i24, i25, i26, i27, i28⟩
      refine wc_mono (wc_keeps (drive_step A (by omega) hI1 hnx hNx hmN hKNl hKN hkT hton (by omega) rfl hbeg rfl (by repeat (first | apply len_put | exact hlen1)) (by exact lk_by) (by exact lk_by) (by exact lk_by) (by exact lk_by) (by exact lk_by) (by exact lk_by) (by exact lk_by) (by exact lk_by))) ?_
      rintro _ tm2 s2 R2 W2 ⟨⟨rfl, I', K', x', rA', rO', rT', rC', hI2, hC2⟩, hK2⟩
      (repeat (first | refine w_seq ?_))
      exact ⟨.inl rfl, _, I', Jc, K', x', c, fr, rA', rO', rT', rC', hds.symm, by rw [dmov_n hkT]; omega, hC2, hI2⟩
    · rw [if_neg hton] at hO
      have htf : t.on = false := by simpa using hton
      have hlm : (l.map rRw).length = l.length := List.length_map _
      (repeat (first | refine w_seq ?_ | refine w_regionL ?_ | refine w_norm ?_ | refine wo_nil ⟨rfl, ?_⟩ | ((first | apply o_assign | apply o_move | apply o_len | apply o_bin | apply o_indexAddr | apply o_load) <;> first | refine wo_id ?_ | ((with_reducible apply look_id); (exact look_by); done) | ((with_reducible apply bin_id); (exact bin_by); done) | ((with_reducible apply load_id); ((first | (apply ldp; (focus exact get_by); (focus first | assumption)) | apply ldf); (first | exact part_sc (by first | exact ag3) rfl)); done) | exact lnF55 _ | exact ia_fz (iaF56 _ _) (by omega) (by assumption) rfl | exact ia_ow (iaO56 _ _ _ _ _) (by omega) (by omega) rfl | (intro a h; cases h) | exact rfl) | (apply o_pcall; (focus exact args_by); (focus exact hb14); (focus exact rfl); (focus ((repeat (first | exact frzAll_nil | apply frzAll_pv)); done)); (focus exact h6)) | ((first | apply b_in) <;> first | refine wo_id ?_ | ((with_reducible apply yield_id); ((apply yield_of; (focus exact rfl); (focus exact lk_by))); done) | (first | exact ff | exact decide_eq_false (by omega)))))
      refine o_eqlN (p := nilP) (b := true) (by exact look_by) (by exact look_by) (.inl ⟨rfl, rfl⟩) Try.underlying94 ?_
      by_cases hend : t.at_ < 8 ∧ t.at_ < l.length
      · (repeat (first | refine w_seq ?_ | refine w_regionL ?_ | refine w_norm ?_ | refine w_skip ?_ | ((first | apply o_move | apply o_len | apply o_min | apply o_bin | apply o_indexAddr | apply o_load) <;> first | refine wo_id ?_ | ((with_reducible apply look_id); (exact look_by); done) | ((with_reducible apply bin_id); (exact bin_by); done) | ((with_reducible apply load_id); ((first | (apply ldp; (focus exact get_by); (focus first | assumption)) | apply ldf); (first | exact part_sc (by first | exact ag3) rfl)); done) | exact lnF55 _ | exact ia_fz (iaF56 _ _) (by omega) (by assumption) rfl | exact ia_ow (iaO56 _ _ _ _ _) (by omega) (by omega) rfl | (intro a h; cases h) | exact rfl) | (refine wo_nil ⟨dyn_draw (bs := [0, 0, 0, 0, 0, 0, 0, 0, 1, 0, 0, 0, 0, 0, 1, 0, 0, 0, 1, 0, 0, 0, 0, 0]) ?_ ?_, ?_⟩; (focus ((repeat (first | exact Flags.nil | (apply Flags.cons Flag.dry) | (apply Flags.cons Flag.read))); done)); (focus decide +kernel)) | ((first | apply b_cond | apply b_pick | apply b_in) <;> first | refine wo_id ?_ | refine wc_id ?_ | ((with_reducible apply look_id); (exact look_by); done) | ((with_reducible apply yield_id); ((apply yield_of; (focus exact rfl); (focus exact lk_by))); done) | (first | exact tt | exact ff | exact decide_eq_false (by omega)))))
        refine o_eqlN (p := nilP) (b := true) (by exact look_by) (by exact look_by) (.inl ⟨rfl, rfl⟩) Try.underlying94 ?_
        refine wo_nil ⟨rfl, ?_⟩
        refine w_norm ?_
        refine w_cond_t (t := true) (by exact look_by) rfl ?_
        obtain ⟨a, ha⟩ : ∃ a, l[t.at_]? = some a := ⟨_, List.getElem?_eq_getElem hend.2⟩
        refine wc_mono (wc_keeps (drive_begin A hops hon hn4 hI0 hnx hNx hmN.2 hKNl (by omega) hDC hkT hkO htf hend.1 ha rfl (by repeat (first | apply len_put | exact hlen1)) (by exact lk_by) (by exact lk_by) (by exact lk_by) (by exact lk_by) (by exact lk_by) (by exact lk_by) (by exact lk_by) (by exact lk_by))) ?_
        rintro _ tm2 s2 R2 W2 ⟨⟨rfl, D', Jc', c', fr', rA', rO', rT', rC', hbeg, hI1, t', hkT', hton'⟩, hK2⟩
        have hlen2 : tm2.length = 232 := by
          rw [hK2.len]
          repeat (first | apply len_put | exact hlen1)
        refine w_norm ?_
        rw [hbeg] at hds
        have hn' : D'.n = D.n := dbeg_n hbeg
        refine wc_mono (wc_keeps (drive_step A (by omega) hI1 hnx hNx hmN hKNl hKN hkT' hton' (by omega) hn' hbeg rfl hlen2 (by exact lk_by) (by exact lk_by) (by exact lk_by) (by exact lk_by) (by exact lk_by) (by exact lk_by) (by exact lk_by) (by exact lk_by))) ?_
        rintro _ tm3 s3 R3 W3 ⟨⟨rfl, I', K', x', rA', rO', rT', rC', hI2, hC2⟩, hK3⟩
        (repeat (first | refine w_seq ?_))
        exact ⟨.inl rfl, _, I', Jc', K', x', c', fr', rA', rO', rT', rC', hds.symm, by rw [dmov_n hkT']; omega, hC2, hI2⟩
      · have hbeg : dbeg own ops D k = none := by
          unfold dbeg
          simp only [hkT, hkO, if_neg hton]
          split
          · rename_i h
            rw [List.getElem?_eq_none (by omega)]
          · rfl
        rw [hbeg] at hds
        (repeat (first | refine w_norm ?_ | refine w_exit' ?_ | refine w_exit ?_ | ((first | apply o_move | apply o_len | apply o_min | apply o_bin | apply o_indexAddr | apply o_load) <;> first | refine wo_id ?_ | ((with_reducible apply look_id); (exact look_by); done) | ((with_reducible apply bin_id); (exact bin_by); done) | ((with_reducible apply load_id); ((first | (apply ldp; (focus exact get_by); (focus first | assumption)) | apply ldf); (first | exact part_sc (by first | exact ag3) rfl)); done) | exact lnF55 _ | exact ia_fz (iaF56 _ _) (by omega) (by assumption) rfl | exact ia_ow (iaO56 _ _ _ _ _) (by omega) (by omega) rfl | (intro a h; cases h) | exact rfl) | (refine wo_nil ⟨dyn_draw (bs := [0, 0, 0, 0, 0, 0, 0, 0, 1, 0, 0, 0, 0, 0, 1, 0, 0, 0, 1, 0, 0, 0, 0, 0]) ?_ ?_, ?_⟩; (focus ((repeat (first | exact Flags.nil | (apply Flags.cons Flag.dry) | (apply Flags.cons Flag.read))); done)); (focus decide +kernel)) | ((first | apply b_cond | apply b_pick | apply b_in) <;> first | refine wo_id ?_ | refine wc_id ?_ | ((with_reducible apply look_id); (exact look_by); done) | ((with_reducible apply yield_id); ((apply yield_of; (focus exact rfl); (focus exact lk_by))); done) | (first | exact tt | exact ff | exact decide_eq_true (by omega) | exact decide_eq_false (by omega)))))
        exact ⟨.inr rfl, D, I, Jc, K, x, c, fr, rA, rO, rT, rC, hds.symm, by omega, hDC, hI0⟩
end Go.Proofs.Ytnolgpagdjcjbaa.Ve
