import Derived.Test.YtefgpelodpggkaaHj
import Derived.Test.YtefgpelodpggkaaMp
set_option linter.unusedVariables false
set_option linter.unusedSimpArgs false
namespace Go.Proofs.Ytefgpelodpggkaa.Ve
open Go XFlt
set_option maxRecDepth 4000
set_option maxHeartbeats 8000000
theorem fn_pNewL {st : St} {xv : V} {xs : List IV} (hx : Lx xv (xs.map ivP)) (hw : ∀ x ∈ xs, x.1 < 2 ^ 64) (hl : xs.length < 2 ^ 20) : Fn Try.prog cfg 89 [xv] st (fun v st' _ _ => ∃ p l I, v = .ptr p 0 0 ∧ PAt st' p l I ∧ l.Perm (xs.map cn) ∧ st.next ≤ p ∧ (∀ y ∈ I, st.next ≤ y) ∧ Frm st st' []) := by
  rcases hx with rfl | ⟨rfl, h0⟩
  · exact fn_pNew hw hl
  · have e : xs = [] := List.map_eq_nil_iff.1 h0
    subst e
    refine fn_pNew0.mono ?_
    rintro v st' R W ⟨p, rfl, hP, hp, hF⟩
    exact ⟨p, [], [], rfl, hP, List.Perm.refl _, hp, by simp, hF⟩
theorem cnl_map_cn {l : List IV} (h : Cnl l) : l.map cn = l := by
  have : ∀ x ∈ l, cn x = id x := fun x hx => Prod.ext (h x hx).1 rfl
  rw [List.map_congr_left this, List.map_id]
/-- What a frame of the program holds, beside the document's. -/
structure FRm (row : List V) (f : RF) : Prop where
  h : ∃ b l0 l1 a, canon b = f.it.pri ∧ Lx l0 (f.c0.l.map gIt) ∧ Lx l1 (f.c1.l.map gIt) ∧ (f.k = 2 → f.pc = 2 → a = if secB f.c0.l f.c1.l = true then 1 else 0) ∧ row = pRow b { f with at_ := a } l0 l1
theorem frm_init (o : Opd) : FRm (pRow o.it.pri (toldF o) .nl .nl) (toldF o) := ⟨⟨o.it.pri, .nl, .nl, 0, rfl, .inr ⟨rfl, rfl⟩, .inr ⟨rfl, rfl⟩, (fun _ h => by cases h), rfl⟩⟩
abbrev MPost (m fi : Nat) (I : List Nat) (st : St) (r : Pts × RF × An × Bool) : V → St → List Nat → List Nat → Prop := fun v st' _ _ => v = .tup [.pv (.agg (gAn r.2.2.1)), .pv (.sc (.bool r.2.2.2))] ∧ ∃ row' I', st'.get fi = some ⟨17, [row']⟩ ∧ (r.2.2.2 = false → FRm row' r.2.1) ∧ MemAt st' m I' r.1 ∧ Frm st st' (fi :: m :: I) ∧ ∀ x ∈ I', x ∈ I ∨ st.next ≤ x
/-- What comes out of a shard with one more item. -/
theorem ins_eq {f : RF} {b : Nat} {lp l' out : List IV} (hG : GL f.c0.l) (hc : CI f.it) (hb : canon b = f.it.pri) (h1 : lp.Perm ((f.c0.l.map ivI).map cn)) (h2 : l'.Perm (lp ++ [cn (b, f.it.val)])) (h3 : out.Perm l') (hs : Srt out) : out = (withI f.c0.l f.it).map ivI := by
  have ec : cn (b, f.it.val) = ivI f.it := Prod.ext ((canonB_eq b).trans hb) rfl
  rw [cnl_map_cn hG.cnl] at h1
  rw [ec] at h2
  unfold withI
  rw [iv_it]
  have hp : out.Perm (withL (f.c0.l.map ivI) (ivI f.it)) := by
    refine (h3.trans (h2.trans (h1.append_right _))).trans ?_
    exact List.perm_append_comm.trans (withL_perm _ _).symm
  refine srt_eq ?_ hs (withL_srt hG.srt) hp
  intro y hy
  rcases List.mem_cons.1 ((withL_perm _ _).subset (hp.subset hy)) with rfl | hy
  · exact ⟨(canonB_eq _).trans hc.1, hc.2⟩
  · exact hG.cnl y hy
theorem fn_mins (n : Int) {st : St} {m : Nat} {I : List Nat} {ps : Pts} {fi : Nat} {b : Nat} {l0 l1 : V} {a : Int} {f : RF} (hM : MemAt st m I ps) (hfi : fi < st.next) (hfm : fi ≠ m) (hfI : fi ∉ I) (hg : st.get fi = some ⟨17, [pRow b { f with at_ := a } l0 l1]⟩) (hb : canon b = f.it.pri) (hl0 : Lx l0 (f.c0.l.map gIt)) (hl1 : Lx l1 (f.c1.l.map gIt)) (ok : MOk n ps f) (hk : f.k = 1) :
    Fn Try.prog cfg 87 [.pv (.agg [.sc (.int .i64 n)]), .ptr m 0 0, .ptr fi 0 0] st (MPost m fi I st (insR n ps f)) := by
  obtain ⟨nx, hnx⟩ : ∃ x, st.next = x := ⟨_, rfl⟩
  have hmx := hM.lt
  have hIx := hM.ltI
  have hmI := hM.out
  have hn := ok.nn
  have hf := ok.fr
  have hlen := ok.len
  have hin := into_range f.d0 n (by omega)
  have hi := sp_into f.d0 n hf.d0 (by omega)
  have hk2 : ¬ f.k = 2 := by omega
  refine fn_keep (.inr rfl) Try.func87 rfl ?_
  show wc _ _ _ (.pv (.agg [.sc (.int .i64 n)]) :: .ptr m 0 0 :: .ptr fi 0 0 :: List.replicate 76 undefV) st _
  have hM1 : MemAt ((st.new ⟨1, [[.pv (.sc (.int .i64 n))]]⟩).new ⟨4, [[.pv (.sc (.bool false)), .pv (.sc (.float .f64 0)), .pv (.sc (.int .i64 0)), .pv (.sc (.int .i64 0))]]⟩) m I ps := (hM.move frm_new (by simp) (by simp)).move frm_new (by simp) (by simp)
  have hF1 : Frm st ((st.new ⟨1, [[.pv (.sc (.int .i64 n))]]⟩).new ⟨4, [[.pv (.sc (.bool false)), .pv (.sc (.float .f64 0)), .pv (.sc (.int .i64 0)), .pv (.sc (.int .i64 0))]]⟩) [] ∧ True := ⟨frm_new.trans frm_new (by simp), trivial⟩
  unfold MPost insR
  by_cases h0 : f.pc = 0
  · simp only [if_pos h0]
    (repeat (first | refine w_seq ?_ | refine w_regionL ?_ | refine w_norm ?_ | refine wo_nil ⟨rfl, ?_⟩ | ((first | apply o_box | apply o_alloc | apply o_assign | apply o_move | apply o_nil | apply o_fieldAddr | apply o_indexAddr | apply o_load | apply o_bin) <;> first | refine wo_id ?_ | ((with_reducible apply look_id); (exact look_by); done) | ((with_reducible apply bin_id); (exact bin_by); done) | ((with_reducible apply load_id); ((first | (apply ldp; (focus exact get_by); (focus first | exact rfl))); (first | exact part_sc (by first | exact ag3) rfl)); done) | ((with_reducible apply cells_id); (exact cells_by); done) | ((with_reducible apply next_id); (exact next_by); done) | exact ze38 | exact fa102_0 _ _ _ | exact rfl) | (refine wo_nil ⟨dyn_draw (bs := [0, 0, 0, 0, 0, 1, 0, 1, 1, 0]) ?_ ?_, ?_⟩; (focus ((repeat (first | exact Flags.nil | (apply Flags.cons Flag.dry) | (apply Flags.cons Flag.read))); done)); (focus decide +kernel)) | (apply o_pcall; (focus exact args_by); (focus exact hb83); (focus exact rfl); (focus ((repeat (first | exact frzAll_nil | apply frzAll_pv)); done)); (focus exact hi)) | ((first | apply b_cond) <;> first | refine wc_id ?_ | ((with_reducible apply look_id); (exact look_by); done) | (first | exact decide_eq_true h0))))
    refine o_call (by exact args_by) hb39 (fn_read hM1 (into f.d0 n)) ?_
    rintro _ s2 R2 W2 ⟨rfl, hf2, rfl⟩
    have hn2 := hf2.next
    simp only [St.new] at hn2
    have hM3 := hM1.move hf2 (by simp) (by simp)
    have hFF : Frm st s2 (fi :: m :: I) ∧ True := ⟨(hF1.1.trans hf2 (by simp)).wide (by simp), trivial⟩
    obtain ⟨S, hS⟩ : ∃ x, s2.next = x := ⟨_, rfl⟩
    obtain ⟨C, hC⟩ : ∃ x, rd ps (into f.d0 n) = x := ⟨_, rfl⟩
    rw [hC]
    have hIS : ∀ x ∈ I, x ≠ fi ∧ x ≠ nx + 1 := fun x hx => by
      have := hIx _ hx
      exact ⟨by rintro rfl; exact hfI hx, by omega⟩
    have hCl : (C.2.l.map gIt).length = C.2.l.length := List.length_map _
    have ed : decide (61 < C.2.l.length) = decide (62 ≤ ((C.2.l.map gIt).length : Int)) := by
      rw [hCl]
      by_cases h : 61 < C.2.l.length
      · rw [decide_eq_true h, decide_eq_true (by omega)]
      · rw [decide_eq_false h, decide_eq_false (by omega)]
    rw [ed]
    (repeat (first | refine w_seq ?_ | refine w_regionL ?_ | refine w_norm ?_ | refine w_ret' ?_ | refine w_ret ?_ | refine wo_nil ⟨rfl, ?_⟩ | ((first | apply o_assign | apply o_move | apply o_nil | apply o_fieldAddr | apply o_load | apply o_bin | apply o_storep | apply o_buildP | apply o_len) <;> first | refine wo_id ?_ | ((with_reducible apply look_id); (exact look_by); done) | ((with_reducible apply bin_id); (exact bin_by); done) | ((with_reducible apply load_id); ((first | (apply ldp; (focus exact get_by); (focus first | exact rfl))); (first | exact part_sc (by first | exact ag3) rfl)); done) | ((with_reducible apply cells_id); (exact cells_by); done) | ((with_reducible apply get_id); (exact get_by); done) | ((with_reducible apply setAt_id); (exact setat_by); done) | ((with_reducible apply parts_id); (exact parts_by); done) | exact fa102_0 _ _ _ | exact sz89 | exact sz3 | exact bp38 | exact lnF85 _ | exact sz38 | (intro a h; cases h) | exact rfl) | (refine wo_nil ⟨dyn_drawE (bs := [0, 0, 0, 0, 0, 5, 0, 0, 3, 0]) [(5, 8)] ?_ ?_ ?_, ?_⟩; (focus (exact flags_by; done)); (focus decide +kernel); (focus (repeat' (first | exact trivial | refine ⟨noclash rfl rfl ?_, ?_⟩)); (all_goals (first | exact nc1 (by omega)))))))
    (apply ends_ret; (focus exact (e_cela ag38 sz38 (e_tmp res_nil))))
    refine ⟨_, _, _, leaves_pur (by decide) (by exact fz_by), rfl, pRow b { f with pc := 1, v0 := C.1, c0 := C.2, at_ := a } (.pv (.fz (C.2.l.map gIt))) l1, I, by exact get_by, fun _ => ⟨⟨b, _, l1, a, hb, .inl rfl, hl1, fun h => absurd h hk2, rfl⟩⟩, ?_, ?_, fun x hx => .inl hx⟩
    · exact hM3.move (J := [fi, nx + 1]) (by exact frm_by) (by simp; omega) (by simpa using hIS)
    · exact hFF.1.trans (J := [fi, nx + 1]) (by exact frm_by) (by simp; omega)
  · simp only [if_neg h0]
    have h1 : f.pc = 1 := by
      rcases hf.pc with h | h | ⟨-, h⟩
      · exact absurd h h0
      · exact h
      · exact absurd h hk2
    have hG := hf.c0
    have hl61 := hf.ins hk h1
    have hl0' := hl0
    rw [gIt_iv] at hl0'
    have hcb : canonB b = f.it.pri := (canonB_eq b).trans hb
    have hcn : (cn (b, f.it.val)).1 < 2 ^ 64 := by
      show canonB b < _
      rw [hcb]
      exact hf.it.2
    have hcan := sp_itemCanon b f.it.val
    rw [hcb] at hcan
    (repeat (first | refine w_seq ?_ | refine w_regionL ?_ | refine w_norm ?_ | refine w_skip ?_ | refine wo_nil ⟨rfl, ?_⟩ | ((first | apply o_box | apply o_alloc | apply o_assign | apply o_move | apply o_nil | apply o_fieldAddr | apply o_indexAddr | apply o_load | apply o_bin) <;> first | refine wo_id ?_ | ((with_reducible apply look_id); (exact look_by); done) | ((with_reducible apply bin_id); (exact bin_by); done) | ((with_reducible apply load_id); ((first | (apply ldp; (focus exact get_by); (focus first | exact rfl))); (first | exact part_sc (by first | exact ag3) rfl)); done) | ((with_reducible apply cells_id); (exact cells_by); done) | ((with_reducible apply next_id); (exact next_by); done) | exact ze38 | exact fa102_0 _ _ _ | exact rfl) | (refine wo_nil ⟨dyn_draw (bs := [0, 0, 0, 0, 0, 1, 0, 1, 1, 0]) ?_ ?_, ?_⟩; (focus ((repeat (first | exact Flags.nil | (apply Flags.cons Flag.dry) | (apply Flags.cons Flag.read))); done)); (focus decide +kernel)) | (apply o_pcall; (focus exact args_by); (focus exact hb83); (focus exact rfl); (focus ((repeat (first | exact frzAll_nil | apply frzAll_pv)); done)); (focus exact hi)) | ((first | apply b_cond) <;> first | refine wc_id ?_ | ((with_reducible apply look_id); (exact look_by); done) | (first | exact decide_eq_false h0))))
    refine o_call (by exact args_by) hb89 (fn_pNewL hl0' (fun x hx => (hG.cnl x hx).2) (by rw [List.length_map]; omega)) ?_
    rintro _ s1 R1 W1 ⟨p, lp, I1, rfl, hP1, hp1, hpn, hI1, hf1⟩
    have hn1 := hf1.next
    simp only [St.new] at hn1 hpn hI1
    have hlp := hp1.length_eq
    rw [List.length_map, List.length_map] at hlp
    have hM2 := hM1.move hf1 (by simp) (by simp)
    have hFa : Frm st s1 [] ∧ True := ⟨hF1.1.trans hf1 (by simp), trivial⟩
    have hgf1 : s1.get fi = some ⟨17, [pRow b { f with at_ := a } l0 l1]⟩ := hf1.getq (by exact lt_by) (by simp) (by exact get_by)
    have hgr1 : s1.get (nx + 1) = some ⟨4, [[.pv (.sc (.bool false)), .pv (.sc (.float .f64 0)), .pv (.sc (.int .i64 0)), .pv (.sc (.int .i64 0))]]⟩ := hf1.getq (by exact lt_by) (by simp) (by exact get_by)
    clear hf1
    (repeat (first | refine w_seq ?_ | refine w_regionL ?_ | refine w_norm ?_ | refine wo_nil ⟨rfl, ?_⟩ | ((first | apply o_assign | apply o_move | apply o_nil | apply o_fieldAddr | apply o_load) <;> first | refine wo_id ?_ | ((with_reducible apply look_id); (exact look_by); done) | ((with_reducible apply load_id); ((first | (apply ldp; (focus exact get_by); (focus first | exact rfl))); (first | (apply part_agg; (focus first | exact ag36); (focus first | exact sz36); (focus exact rfl); (focus exact rfl)))); done) | exact fa102_0 _ _ _)))
    refine o_call (by exact args_by) hb90 (fn_pPut (x := (b, f.it.val)) hP1 hcn (by omega)) ?_
    rintro _ s2 R2 W2 ⟨a2, l', hP2, hp2, ha2, hf2⟩
    have hn2 := hf2.next
    have hnJ : ∀ y, y < nx + 2 → y ∉ p :: I1 := fun y hy h => by
      rcases List.mem_cons.1 h with rfl | h
      · omega
      · have := hI1 y h
        omega
    have hM3 := hM2.move hf2 (hnJ _ (by omega)) (fun y hy => hnJ _ (by have := hIx y hy; omega))
    have hFb : Frm st s2 [] ∧ True := ⟨hFa.1.trans hf2 (fun y hy hlt => by
      rcases List.mem_cons.1 hy with rfl | h
      · omega
      · have := hI1 y h
        omega), trivial⟩
    have hgf2 : s2.get fi = some ⟨17, [pRow b { f with at_ := a } l0 l1]⟩ := hf2.getq (by omega) (hnJ _ (by omega)) hgf1
    have hgr2 : s2.get (nx + 1) = some ⟨4, [[.pv (.sc (.bool false)), .pv (.sc (.float .f64 0)), .pv (.sc (.int .i64 0)), .pv (.sc (.int .i64 0))]]⟩ := hf2.getq (by omega) (hnJ _ (by omega)) hgr1
    clear hf2 hgf1 hgr1
    have hl' := hp2.length_eq
    rw [List.length_append] at hl'
    have hl'1 : l'.length = lp.length + 1 := hl'
    (repeat (first | refine w_seq ?_ | refine w_regionL ?_ | refine w_norm ?_ | refine wo_nil ⟨rfl, ?_⟩ | ((first | apply o_move | apply o_nil | apply o_fieldAddr | apply o_load) <;> first | refine wo_id ?_ | ((with_reducible apply look_id); (exact look_by); done) | ((with_reducible apply load_id); ((first | (apply ldp; (focus exact get_by); (focus first | exact rfl))); (first | exact part_sc (by first | exact ag3) rfl)); done) | exact fa102_0 _ _ _)))
    refine o_call (by exact args_by) hb91 (fn_pAll hP2 (by omega)) ?_
    rintro _ s3 R3 W3 ⟨out, rfl, ho1, ho2, hf3, rfl⟩
    have hn3 := hf3.next
    have hM4 := hM3.move hf3 (by simp) (by simp)
    have hFc : Frm st s3 (fi :: m :: I) ∧ True := ⟨(hFb.1.trans hf3 (by simp)).wide (by simp), trivial⟩
    have hgf3 : s3.get fi = some ⟨17, [pRow b { f with at_ := a } l0 l1]⟩ := hf3.getq (by omega) (by simp) hgf2
    have hgr3 : s3.get (nx + 1) = some ⟨4, [[.pv (.sc (.bool false)), .pv (.sc (.float .f64 0)), .pv (.sc (.int .i64 0)), .pv (.sc (.int .i64 0))]]⟩ := hf3.getq (by omega) (by simp) hgr2
    clear hf3 hgf2 hgr2
    have ho := ins_eq hG hf.it hb hp1 hp2 ho1 ho2
    have ho' : out.map ivP = (withI f.c0.l f.it).map gIt := by rw [gIt_iv, ho]
    have hwl : (withI f.c0.l f.it).length < 2 ^ 20 := by
      rw [withI_len]
      omega
    rw [ho']
    obtain ⟨L, hL⟩ : ∃ x, withI f.c0.l f.it = x := ⟨_, rfl⟩
    rw [hL] at hwl ⊢
    (repeat (first | ((first | apply o_buildP) <;> first | refine wo_id ?_ | ((with_reducible apply parts_id); (exact parts_by); done) | exact bp87 | exact rfl)))
    refine o_call (by exact args_by) hb84 (fn_write hM4 (into f.d0 n) f.v0 ⟨0, L⟩ hwl (by omega) rfl (by simp)) ?_
    rintro _ s4 R4 W4 ⟨rfl, I4, hM5, hf4, hI4⟩
    have hn4 := hf4.next
    have hgf4 : s4.get fi = some ⟨17, [pRow b { f with at_ := a } l0 l1]⟩ := hf4.getq (by omega) (by simp; exact ⟨hfm, hfI⟩) hgf3
    have hgr4 : s4.get (nx + 1) = some ⟨4, [[.pv (.sc (.bool false)), .pv (.sc (.float .f64 0)), .pv (.sc (.int .i64 0)), .pv (.sc (.int .i64 0))]]⟩ := hf4.getq (by omega) (by simp; exact ⟨by omega, fun h => by have := hIx _ h; omega⟩) hgr3
    have hII : ∀ x ∈ I4, x ∈ I ∨ st.next ≤ x := fun x hx => by
      rcases hI4 x hx with h | h
      · exact .inl h
      · exact .inr (by omega)
    have hnr : nx + 1 ∉ I4 := fun h => by
      rcases hI4 _ h with h | h
      · have := hIx _ h
        omega
      · omega
    have hnf : fi ∉ I4 := fun h => by
      rcases hI4 _ h with h | h
      · exact hfI h
      · omega
    have hF3 : Frm st s4 (fi :: m :: I) ∧ True := ⟨hFc.1.trans hf4 (by simp; intro x hx _; exact .inr (.inr hx)), trivial⟩
    clear hf4 hgf3 hgr3
    unfold wrR
    by_cases hmay : may ps (into f.d0 n) f.v0
    · have e : wr' ps (into f.d0 n) f.v0 ⟨0, L⟩ = ps ++ [⟨into f.d0 n, ⟨0, L⟩⟩] := if_pos hmay
      simp only [if_pos hmay, decide_eq_true hmay]
      rw [e] at hM5
      (repeat (first | refine w_seq ?_ | refine w_regionL ?_ | refine w_norm ?_ | refine w_ret' ?_ | refine w_ret ?_ | refine wo_nil ⟨rfl, ?_⟩ | ((first | apply o_assign | apply o_move | apply o_nil | apply o_fieldAddr | apply o_load | apply o_storep | apply o_buildP) <;> first | refine wo_id ?_ | ((with_reducible apply look_id); (exact look_by); done) | ((with_reducible apply load_id); ((first | (apply ldp; (focus exact get_by); (focus first | exact rfl))); (first | (apply part_agg; (focus first | exact ag36); (focus first | exact sz36); (focus exact rfl); (focus exact rfl)))); done) | ((with_reducible apply cells_id); (exact cells_by); done) | ((with_reducible apply get_id); (exact get_by); done) | ((with_reducible apply setAt_id); (exact setat_by); done) | ((with_reducible apply parts_id); (exact parts_by); done) | exact fa102_0 _ _ _ | exact bp38 | exact sz38 | exact rfl) | (refine wo_nil ⟨dyn_drawE (bs := [0, 0, 0, 0, 0, 5, 0, 3, 0, 3]) [(5, 7)] ?_ ?_ ?_, ?_⟩; (focus (exact flags_by; done)); (focus decide +kernel); (focus (repeat' (first | exact trivial | refine ⟨noclash rfl rfl ?_, ?_⟩)); (all_goals (first | (simp [Ent.clash]; done))))) | (apply o_pcall; (focus exact args_by); (focus exact hb85); (focus exact rfl); (focus ((repeat (first | exact frzAll_nil | apply frzAll_pv)); done)); (focus exact hcan)) | ((first | apply b_cond) <;> first | refine wc_id ?_ | ((with_reducible apply look_id); (exact look_by); done) | (first | exact tt))))
      (apply ends_ret; (focus exact (e_cela ag38 sz38 (e_tmp res_nil))))
      refine ⟨_, _, _, leaves_pur (by decide) (by exact fz_by), rfl, pRow b { f with at_ := a } l0 l1, I4, by exact get_by, (fun h => by cases h), hM5.move (J := [fi, nx + 1]) (by exact frm_by) (by simp; omega) (by simp; intro x hx; exact ⟨by rintro rfl; exact hnf hx, by rintro rfl; exact hnr hx⟩), hF3.1.trans (J := [fi, nx + 1]) (by exact frm_by) (by simp; omega), hII⟩
    · have e : wr' ps (into f.d0 n) f.v0 ⟨0, L⟩ = ps := if_neg hmay
      simp only [if_neg hmay, decide_eq_false hmay]
      rw [e] at hM5
      (repeat (first | refine w_seq ?_ | refine w_regionL ?_ | refine w_norm ?_ | refine w_skip ?_ | refine w_ret ?_ | refine wo_nil ⟨rfl, ?_⟩ | ((first | apply o_assign | apply o_move | apply o_nil | apply o_fieldAddr | apply o_storep | apply o_buildP) <;> first | refine wo_id ?_ | ((with_reducible apply look_id); (exact look_by); done) | ((with_reducible apply cells_id); (exact cells_by); done) | ((with_reducible apply get_id); (exact get_by); done) | ((with_reducible apply setAt_id); (exact setat_by); done) | ((with_reducible apply parts_id); (exact parts_by); done) | exact fa102_0 _ _ _ | exact sz3 | exact bp38 | exact sz38 | exact rfl) | (refine wo_nil ⟨dyn_drawE (bs := [0, 0, 0, 0, 0, 5, 0, 3, 0, 3]) [(5, 7)] ?_ ?_ ?_, ?_⟩; (focus (exact flags_by; done)); (focus decide +kernel); (focus (repeat' (first | exact trivial | refine ⟨noclash rfl rfl ?_, ?_⟩)); (all_goals (first | (simp [Ent.clash]; done))))) | ((first | apply b_cond) <;> first | refine wc_id ?_ | ((with_reducible apply look_id); (exact look_by); done) | (first | exact ff))))
      (apply ends_ret; (focus exact (e_cela ag38 sz38 (e_tmp res_nil))))
      refine ⟨_, _, _, leaves_pur (by decide) (by exact fz_by), rfl, pRow b { f with pc := 0, at_ := a } l0 l1, I4, by exact get_by, fun _ => ⟨⟨b, l0, l1, a, hb, hl0, hl1, fun h => absurd h hk2, rfl⟩⟩, hM5.move (J := [fi, nx + 1]) (by exact frm_by) (by simp; omega) (by simp; intro x hx; exact ⟨by rintro rfl; exact hnf hx, by rintro rfl; exact hnr hx⟩), hF3.1.trans (J := [fi, nx + 1]) (by exact frm_by) (by simp; omega), hII⟩
end Go.Proofs.Ytefgpelodpggkaa.Ve
