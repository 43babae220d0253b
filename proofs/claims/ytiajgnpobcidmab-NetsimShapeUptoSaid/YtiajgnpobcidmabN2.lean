/- NQ4: the plain laws of evaluated nets: made nets are valid; gates; cones; complements. -/
import Derived.Test.YtiajgnpobcidmabVa
import Derived.Test.YtiajgnpobcidmabVb
import Derived.Test.YtiajgnpobcidmabVc
import Derived.Test.YtiajgnpobcidmabVd
import Derived.Test.YtiajgnpobcidmabT
import Derived.Test.YtiajgnpobcidmabN1
set_option linter.unusedSimpArgs false
set_option linter.unusedVariables false
namespace Go.Proofs
open Go.V IntWalk
set_option maxRecDepth 100000
set_option maxHeartbeats 8000000
set_option linter.unusedSimpArgs false
set_option linter.unusedVariables false

theorem ref22_Made_S (x : R22) (ok : x.ok) (h1 : x.ins.length < 9223372036854775808) (h2 : x.gates.length < 9223372036854775808) (h3 : x.outs.length < 9223372036854775808) : FSpec Try.prog 14 [.agg x.c_] [] (.agg (madeN x).c_) [] := by
  refine fspec_intro Try.func14 (by kernel_rfl) rfl Try.vtOK rfl Try.ntmps14 (by simp) ?_
  repeat' (first | ((first | refine awp_seq' fun k hk => awp_region (et := Try.et) Try.vtOK Try.etOK ?_ | refine awp_region (et := Try.et) Try.vtOK Try.etOK ?_); simp (maxSteps := 5000000) (disch := first | (intro _; intros; contradiction) | omega) [i64_in, u8_in, u64_in, vgd_t, vgd_f, wgd_t, wgd_f, i64_quo, u8_quo, Int.tmod_eq_emod_of_nonneg]; (repeat (refine ⟨(by first | omega | assumption), ?_⟩)); skip; (first | (refine hk _ ?_; clear hk; (try clear k)) | (clear hk; (try clear k); refine hk _ ?_; clear hk; (try clear k)) | (clear hk; (try clear k); clear hk; (try clear k); refine hk _ ?_; clear hk; (try clear k)) | (clear hk; (try clear k); clear hk; (try clear k); clear hk; (try clear k); refine hk _ ?_; clear hk; (try clear k)))) | ((first | refine awp_seq' fun k hk => awp_region_draw (et := Try.et) Try.mixed Try.vtOK Try.etOK ?_ | refine awp_region_draw (et := Try.et) Try.mixed Try.vtOK Try.etOK ?_); simp (maxSteps := 5000000) (disch := first | (intro _; intros; contradiction) | omega) [i64_in, u8_in, u64_in, vgd_t, vgd_f, wgd_t, wgd_f, i64_quo, u8_quo, Int.tmod_eq_emod_of_nonneg]; (repeat (refine ⟨(by first | omega | assumption), ?_⟩)); skip; refine ⟨by kernel_rfl, ?_⟩; (first | (refine hk _ ?_; clear hk; (try clear k)) | (clear hk; (try clear k); refine hk _ ?_; clear hk; (try clear k)) | (clear hk; (try clear k); clear hk; (try clear k); refine hk _ ?_; clear hk; (try clear k)) | (clear hk; (try clear k); clear hk; (try clear k); clear hk; (try clear k); refine hk _ ?_; clear hk; (try clear k)))) | (refine awp_cond rfl rfl (fun hc => ?_) (fun hc => ?_) <;> first | (exfalso; simp at hc; done) | (simp at hc) | skip) | (refine awp_skip ?_; (first | (refine hk _ ?_; clear hk; (try clear k)) | (clear hk; (try clear k); refine hk _ ?_; clear hk; (try clear k)) | (clear hk; (try clear k); clear hk; (try clear k); refine hk _ ?_; clear hk; (try clear k)) | (clear hk; (try clear k); clear hk; (try clear k); clear hk; (try clear k); refine hk _ ?_; clear hk; (try clear k)))) | (refine awp_ret ⟨.inr rfl, ?_⟩; (try simp [])) | (refine awp_seq' fun k hk => ?_) | (refine awp_block ?_))
  obtain ⟨B, hB⟩ : ∃ B, B = min x.ins.length 8 := ⟨_, rfl⟩
  refine awp_for (fun q s => ∃ i : Nat, q = B - i ∧ i ≤ B ∧ s = ⟨[(4, tI .i64 i), (3, .c (.ptr 48 0)), (2, .c (.ptr 32 0)), (1, .c (.ptr 16 0))], [(224, .row false 50 3 (i + 1) (rF Wi.c_ (⟨1, 0, 0⟩ :: (x.ins.take i).map mkW))), (48, .box false [.row 224 (i + 1), .d (.s (.slice none 0 0)), .d (.s (.slice none 0 0)), .d (.s (.slice none 0 0))]), (16, .box false x.c_), (32, .box false [.d (.s (.slice none 0 0)), .d (.s (.slice none 0 0)), .d (.s (.slice none 0 0)), .d (.s (.slice none 0 0))])]⟩) (B) (weak_mk (by simp) (by simp <;> first | exact lit rfl | exact .refl _ | exact .nil _) (by simp)) ⟨0, by simp, by simp, rfl⟩ ?_
  rintro q s ⟨i, rfl, hii, rfl⟩ kl hkl
  by_cases hiB : i < B
  · have e1 : (i : Int) < x.ins.length := by omega
    have e2 : (i : Int) < 8 := by omega
    have hi' : i < x.ins.length := by omega
    obtain ⟨b, eb⟩ : ∃ b, x.ins[i] = b := ⟨_, rfl⟩
    obtain ⟨hb1, hb2⟩ : u8 b := eb ▸ ok.ins _ (List.getElem_mem hi')
    have e3 : (x.ins.map mkW).take (i + 1) = (x.ins.map mkW).take i ++ [mkW b] := by rw [take_snoc _ _ (by simpa using hi')]; simp [hi', eb]
    have e4 : ((x.ins.map mkW).take i).length = i := by simp; omega
    rcases (by omega : b % 4 = 0 ∨ b % 4 = 1 ∨ b % 4 = 2 ∨ b % 4 = 3) with hq | hq | hq | hq
    all_goals
      repeat' (first | ((first | refine awp_seq' fun k hk => awp_region (et := Try.et) Try.vtOK Try.etOK ?_ | refine awp_region (et := Try.et) Try.vtOK Try.etOK ?_); simp (maxSteps := 5000000) (disch := first | (intro _; intros; contradiction) | omega) [i64_in, u8_in, u64_in, vgd_t, vgd_f, wgd_t, wgd_f, i64_quo, u8_quo, Int.tmod_eq_emod_of_nonneg, e1, e2, eb, hq]; (repeat (refine ⟨(by first | omega | assumption), ?_⟩)); skip; (first | (refine hk _ ?_; clear hk; (try clear k)) | (clear hk; (try clear k); refine hk _ ?_; clear hk; (try clear k)) | (clear hk; (try clear k); clear hk; (try clear k); refine hk _ ?_; clear hk; (try clear k)) | (clear hk; (try clear k); clear hk; (try clear k); clear hk; (try clear k); refine hk _ ?_; clear hk; (try clear k)))) | ((first | refine awp_seq' fun k hk => awp_region_draw (et := Try.et) Try.mixed Try.vtOK Try.etOK ?_ | refine awp_region_draw (et := Try.et) Try.mixed Try.vtOK Try.etOK ?_); simp (maxSteps := 5000000) (disch := first | (intro _; intros; contradiction) | omega) [i64_in, u8_in, u64_in, vgd_t, vgd_f, wgd_t, wgd_f, i64_quo, u8_quo, Int.tmod_eq_emod_of_nonneg, e1, e2, eb, hq]; (repeat (refine ⟨(by first | omega | assumption), ?_⟩)); skip; refine ⟨by kernel_rfl, ?_⟩; (first | (refine hk _ ?_; clear hk; (try clear k)) | (clear hk; (try clear k); refine hk _ ?_; clear hk; (try clear k)) | (clear hk; (try clear k); clear hk; (try clear k); refine hk _ ?_; clear hk; (try clear k)) | (clear hk; (try clear k); clear hk; (try clear k); clear hk; (try clear k); refine hk _ ?_; clear hk; (try clear k)))) | (refine awp_cond rfl rfl (fun hc => ?_) (fun hc => ?_) <;> first | (exfalso; simp at hc; done) | (simp at hc) | skip) | (refine awp_skip ?_; (first | (refine hk _ ?_; clear hk; (try clear k)) | (clear hk; (try clear k); refine hk _ ?_; clear hk; (try clear k)) | (clear hk; (try clear k); clear hk; (try clear k); refine hk _ ?_; clear hk; (try clear k)) | (clear hk; (try clear k); clear hk; (try clear k); clear hk; (try clear k); refine hk _ ?_; clear hk; (try clear k)))) | (refine awp_ret ⟨.inr rfl, ?_⟩; (try simp [e1, e2, eb, hq])) | (refine awp_seq' fun k hk => ?_) | (refine awp_block ?_))
      any_goals
        refine awp_region (et := Try.et) Try.vtOK Try.etOK ?_
        simp (maxSteps := 5000000) (disch := first | (intro _; intros; contradiction) | omega) [i64_in, u8_in, vgd_t, vgd_f, wgd_t, wgd_f]
        refine hkl _ _ _ (by omega) ⟨i + 1, rfl, by omega, rfl⟩ (weak_mk (by simp) ?_ (by simp)); (try simp)
    all_goals exact app_rF' (mkW b) (by rw [List.length_cons, e4]) (by rw [e3]; rfl) (by simp [mkW, hq])
  · have hEx : i = B := by omega
    subst hEx
    have hil : i ≤ 8 := by omega
    have he : (x.ins.map mkW).take i = (x.ins.take 8).map mkW := by rw [List.map_take, List.take_eq_take_iff]; simp only [List.length_map]; omega
    obtain ⟨I, hI⟩ : ∃ I, I = mkI x := ⟨_, rfl⟩
    have hI2 : I = ⟨1, 0, 0⟩ :: (x.ins.map mkW).take i := by simp only [hI, mkI, he]
    have hmi : I.length = i + 1 := by rw [hI2]; simp; omega
    have hk3 : ∀ s : St, Weak s ⟨[(3, .c (.ptr 48 0)), (2, .c (.ptr 32 0)), (1, .c (.ptr 16 0))], [(224, .row false 50 3 I.length (rF Wi.c_ I)), (48, .box false [.row 224 I.length, .d (.s (.slice none 0 0)), .d (.s (.slice none 0 0)), .d (.s (.slice none 0 0))]), (16, .box false x.c_), (32, .box false [.d (.s (.slice none 0 0)), .d (.s (.slice none 0 0)), .d (.s (.slice none 0 0)), .d (.s (.slice none 0 0))])]⟩ → k s := by
      intro s hw
      refine hk s (awp_weak hw ?_)
      have hmx : I.length ≤ 9 := by omega
      clear hk hw hB he hI2 hil hmi hii hiB hkl
      clear i kl k s
      repeat' (first | ((first | refine awp_seq' fun k hk => awp_region (et := Try.et) Try.vtOK Try.etOK ?_ | refine awp_region (et := Try.et) Try.vtOK Try.etOK ?_); simp (maxSteps := 5000000) (disch := first | (intro _; intros; contradiction) | omega) [i64_in, u8_in, u64_in, vgd_t, vgd_f, wgd_t, wgd_f, i64_quo, u8_quo, Int.tmod_eq_emod_of_nonneg]; (repeat (refine ⟨(by first | omega | assumption), ?_⟩)); skip; (first | (refine hk _ ?_; clear hk; (try clear k)) | (clear hk; (try clear k); refine hk _ ?_; clear hk; (try clear k)) | (clear hk; (try clear k); clear hk; (try clear k); refine hk _ ?_; clear hk; (try clear k)) | (clear hk; (try clear k); clear hk; (try clear k); clear hk; (try clear k); refine hk _ ?_; clear hk; (try clear k)))) | ((first | refine awp_seq' fun k hk => awp_region_draw (et := Try.et) Try.mixed Try.vtOK Try.etOK ?_ | refine awp_region_draw (et := Try.et) Try.mixed Try.vtOK Try.etOK ?_); simp (maxSteps := 5000000) (disch := first | (intro _; intros; contradiction) | omega) [i64_in, u8_in, u64_in, vgd_t, vgd_f, wgd_t, wgd_f, i64_quo, u8_quo, Int.tmod_eq_emod_of_nonneg]; (repeat (refine ⟨(by first | omega | assumption), ?_⟩)); skip; refine ⟨by kernel_rfl, ?_⟩; (first | (refine hk _ ?_; clear hk; (try clear k)) | (clear hk; (try clear k); refine hk _ ?_; clear hk; (try clear k)) | (clear hk; (try clear k); clear hk; (try clear k); refine hk _ ?_; clear hk; (try clear k)) | (clear hk; (try clear k); clear hk; (try clear k); clear hk; (try clear k); refine hk _ ?_; clear hk; (try clear k)))) | (refine awp_cond rfl rfl (fun hc => ?_) (fun hc => ?_) <;> first | (exfalso; simp at hc; done) | (simp at hc) | skip) | (refine awp_skip ?_; (first | (refine hk _ ?_; clear hk; (try clear k)) | (clear hk; (try clear k); refine hk _ ?_; clear hk; (try clear k)) | (clear hk; (try clear k); clear hk; (try clear k); refine hk _ ?_; clear hk; (try clear k)) | (clear hk; (try clear k); clear hk; (try clear k); clear hk; (try clear k); refine hk _ ?_; clear hk; (try clear k)))) | (refine awp_ret ⟨.inr rfl, ?_⟩; (try simp [])) | (refine awp_seq' fun k hk => ?_) | (refine awp_block ?_))
      obtain ⟨B, hB⟩ : ∃ B, B = min x.gates.length 60 := ⟨_, rfl⟩
      refine awp_weak (weak_nilB (cs := [.row 224 I.length, .d (.s (.slice none 0 0)), .d (.s (.slice none 0 0)), .d (.s (.slice none 0 0))]) (b := 48) (i := 1) (n := 3001) (ty := 105) (sz := 5) (rF Ga.c_ []) (by simp) (by simp) (by simp)) ?_
      refine awp_for (fun q s => ∃ i : Nat, q = B - i ∧ i ≤ B ∧ s = ⟨[(6, tI .i64 i), (3, .c (.ptr 48 0)), (2, .c (.ptr 32 0)), (1, .c (.ptr 16 0))], [(3001, .row false 105 5 i (rF Ga.c_ (mkGs I.length x.gates i))), (224, .row false 50 3 I.length (rF Wi.c_ I)), (48, .box false [.row 224 I.length, .row 3001 i, .d (.s (.slice none 0 0)), .d (.s (.slice none 0 0))]), (16, .box false x.c_), (32, .box false [.d (.s (.slice none 0 0)), .d (.s (.slice none 0 0)), .d (.s (.slice none 0 0)), .d (.s (.slice none 0 0))])]⟩) (B) (weak_mk (by simp) (by simp <;> first | exact lit rfl | exact .refl _ | exact .nil _) (by simp)) ⟨0, by simp, by simp, rfl⟩ ?_
      rintro q s ⟨i, rfl, hii, rfl⟩ kl hkl
      by_cases hiB : i < B
      · have e1 : (i : Int) < x.gates.length := by omega
        have e2 : (i : Int) < 60 := by omega
        have hi' : i < x.gates.length := by omega
        obtain ⟨b, eb⟩ : ∃ b, x.gates[i] = b := ⟨_, rfl⟩
        obtain ⟨⟨b1, b2⟩, ⟨b3, b4⟩, ⟨b5, b6⟩, ⟨b7, b8⟩, ⟨b9, b10⟩⟩ := eb ▸ ok.gates _ (List.getElem_mem hi')
        have e3 : mkGs I.length x.gates (i + 1) = mkGs I.length x.gates i ++ [mkG (2 + I.length + i) b] := by simp [mkGs, hi', eb]
        have e4 : (mkGs I.length x.gates i).length = i := by
          have : ∀ i, (mkGs I.length x.gates i).length = i := fun i => by induction i with | zero => rfl | succ i ih => simp [mkGs, ih]
          exact this i
        obtain ⟨op, hop⟩ : ∃ op, b.o % 7 = op := ⟨_, rfl⟩
        rcases (by omega : op = 0 ∨ op = 1 ∨ op = 2 ∨ op = 3 ∨ op = 4 ∨ op = 5 ∨ op = 6) with hq | hq | hq | hq | hq | hq | hq
        all_goals
          rw [hq] at hop
          repeat' (first | ((first | refine awp_seq' fun k hk => awp_region (et := Try.et) Try.vtOK Try.etOK ?_ | refine awp_region (et := Try.et) Try.vtOK Try.etOK ?_); simp (maxSteps := 5000000) (disch := first | (intro _; intros; contradiction) | omega) [i64_in, u8_in, u64_in, vgd_t, vgd_f, wgd_t, wgd_f, i64_quo, u8_quo, Int.tmod_eq_emod_of_nonneg, e1, e2, eb, hop]; (repeat (refine ⟨(by first | omega | assumption), ?_⟩)); skip; (first | (refine hk _ ?_; clear hk; (try clear k)) | (clear hk; (try clear k); refine hk _ ?_; clear hk; (try clear k)) | (clear hk; (try clear k); clear hk; (try clear k); refine hk _ ?_; clear hk; (try clear k)) | (clear hk; (try clear k); clear hk; (try clear k); clear hk; (try clear k); refine hk _ ?_; clear hk; (try clear k)))) | ((first | refine awp_seq' fun k hk => awp_region_draw (et := Try.et) Try.mixed Try.vtOK Try.etOK ?_ | refine awp_region_draw (et := Try.et) Try.mixed Try.vtOK Try.etOK ?_); simp (maxSteps := 5000000) (disch := first | (intro _; intros; contradiction) | omega) [i64_in, u8_in, u64_in, vgd_t, vgd_f, wgd_t, wgd_f, i64_quo, u8_quo, Int.tmod_eq_emod_of_nonneg, e1, e2, eb, hop]; (repeat (refine ⟨(by first | omega | assumption), ?_⟩)); skip; refine ⟨by kernel_rfl, ?_⟩; (first | (refine hk _ ?_; clear hk; (try clear k)) | (clear hk; (try clear k); refine hk _ ?_; clear hk; (try clear k)) | (clear hk; (try clear k); clear hk; (try clear k); refine hk _ ?_; clear hk; (try clear k)) | (clear hk; (try clear k); clear hk; (try clear k); clear hk; (try clear k); refine hk _ ?_; clear hk; (try clear k)))) | (refine awp_cond rfl rfl (fun hc => ?_) (fun hc => ?_) <;> first | (exfalso; simp at hc; done) | (simp at hc) | skip) | (refine awp_skip ?_; (first | (refine hk _ ?_; clear hk; (try clear k)) | (clear hk; (try clear k); refine hk _ ?_; clear hk; (try clear k)) | (clear hk; (try clear k); clear hk; (try clear k); refine hk _ ?_; clear hk; (try clear k)) | (clear hk; (try clear k); clear hk; (try clear k); clear hk; (try clear k); refine hk _ ?_; clear hk; (try clear k)))) | (refine awp_ret ⟨.inr rfl, ?_⟩; (try simp [e1, e2, eb, hop])) | (refine awp_seq' fun k hk => ?_) | (refine awp_block ?_))
          all_goals
            refine awp_region (et := Try.et) Try.vtOK Try.etOK ?_
            simp (maxSteps := 5000000) (disch := first | (intro _; intros; contradiction) | omega) [i64_in, u8_in, vgd_t, vgd_f, wgd_t, wgd_f]
            refine hkl _ _ _ (by omega) ⟨i + 1, rfl, by omega, rfl⟩ (weak_mk (by simp) ?_ (by simp)); (try simp)
        all_goals exact app_rF' (mkG (2 + I.length + i) b) e4.symm e3 (by simp [mkG, hop])
      · have hEx : i = B := by omega
        subst hEx
        have hil : i ≤ 60 := by omega
        obtain ⟨G, hG⟩ : ∃ G, G = mkGs I.length x.gates i := ⟨_, rfl⟩
        have hGl : G.length = i := by
          have : ∀ i, (mkGs I.length x.gates i).length = i := fun i => by induction i with | zero => rfl | succ i ih => simp [mkGs, ih]
          rw [hG]; exact this i
        have hG2 : G = mkGs I.length x.gates (min x.gates.length 60) := by rw [hG, hB]
        have hk4 : ∀ s : St, Weak s ⟨[(3, .c (.ptr 48 0)), (2, .c (.ptr 32 0)), (1, .c (.ptr 16 0))], [(3001, .row false 105 5 G.length (rF Ga.c_ G)), (224, .row false 50 3 I.length (rF Wi.c_ I)), (48, .box false [.row 224 I.length, .row 3001 G.length, .d (.s (.slice none 0 0)), .d (.s (.slice none 0 0))]), (16, .box false x.c_), (32, .box false [.d (.s (.slice none 0 0)), .d (.s (.slice none 0 0)), .d (.s (.slice none 0 0)), .d (.s (.slice none 0 0))])]⟩ → k s := by
          intro s hw
          refine hk s (awp_weak hw ?_)
          have hmg : G.length ≤ 60 := by omega
          clear hk hw hB hG hil hGl hii hiB hkl
          clear i kl k s
          repeat' (first | ((first | refine awp_seq' fun k hk => awp_region (et := Try.et) Try.vtOK Try.etOK ?_ | refine awp_region (et := Try.et) Try.vtOK Try.etOK ?_); simp (maxSteps := 5000000) (disch := first | (intro _; intros; contradiction) | omega) [i64_in, u8_in, u64_in, vgd_t, vgd_f, wgd_t, wgd_f, i64_quo, u8_quo, Int.tmod_eq_emod_of_nonneg]; (repeat (refine ⟨(by first | omega | assumption), ?_⟩)); skip; (first | (refine hk _ ?_; clear hk; (try clear k)) | (clear hk; (try clear k); refine hk _ ?_; clear hk; (try clear k)) | (clear hk; (try clear k); clear hk; (try clear k); refine hk _ ?_; clear hk; (try clear k)) | (clear hk; (try clear k); clear hk; (try clear k); clear hk; (try clear k); refine hk _ ?_; clear hk; (try clear k)))) | ((first | refine awp_seq' fun k hk => awp_region_draw (et := Try.et) Try.mixed Try.vtOK Try.etOK ?_ | refine awp_region_draw (et := Try.et) Try.mixed Try.vtOK Try.etOK ?_); simp (maxSteps := 5000000) (disch := first | (intro _; intros; contradiction) | omega) [i64_in, u8_in, u64_in, vgd_t, vgd_f, wgd_t, wgd_f, i64_quo, u8_quo, Int.tmod_eq_emod_of_nonneg]; (repeat (refine ⟨(by first | omega | assumption), ?_⟩)); skip; refine ⟨by kernel_rfl, ?_⟩; (first | (refine hk _ ?_; clear hk; (try clear k)) | (clear hk; (try clear k); refine hk _ ?_; clear hk; (try clear k)) | (clear hk; (try clear k); clear hk; (try clear k); refine hk _ ?_; clear hk; (try clear k)) | (clear hk; (try clear k); clear hk; (try clear k); clear hk; (try clear k); refine hk _ ?_; clear hk; (try clear k)))) | (refine awp_cond rfl rfl (fun hc => ?_) (fun hc => ?_) <;> first | (exfalso; simp at hc; done) | (simp at hc) | skip) | (refine awp_skip ?_; (first | (refine hk _ ?_; clear hk; (try clear k)) | (clear hk; (try clear k); refine hk _ ?_; clear hk; (try clear k)) | (clear hk; (try clear k); clear hk; (try clear k); refine hk _ ?_; clear hk; (try clear k)) | (clear hk; (try clear k); clear hk; (try clear k); clear hk; (try clear k); refine hk _ ?_; clear hk; (try clear k)))) | (refine awp_ret ⟨.inr rfl, ?_⟩; (try simp [])) | (refine awp_seq' fun k hk => ?_) | (refine awp_block ?_))
          obtain ⟨B, hB⟩ : ∃ B, B = min x.outs.length 9 := ⟨_, rfl⟩
          refine awp_weak (weak_nilB (cs := [.row 224 I.length, .row 3001 G.length, .d (.s (.slice none 0 0)), .d (.s (.slice none 0 0))]) (b := 48) (i := 2) (n := 3002) (ty := 50) (sz := 3) (rF Wi.c_ []) (by simp) (by simp) (by simp)) ?_
          refine awp_weak (weak_nilB (cs := [.row 224 I.length, .row 3001 G.length, .row 3002 0, .d (.s (.slice none 0 0))]) (b := 48) (i := 3) (n := 3003) (ty := 3) (sz := 1) (fun j => [.s (.int .i64 (([] : List Int)[j]?.getD 0))]) (by simp) (by simp) (by simp)) ?_
          refine awp_for (fun q s => ∃ i : Nat, q = B - i ∧ i ≤ B ∧ s = ⟨[(10, tI .i64 i), (3, .c (.ptr 48 0)), (2, .c (.ptr 32 0)), (1, .c (.ptr 16 0))], [(3003, .row false 3 1 i (fun j => [.s (.int .i64 (((x.outs.map (mkD ((I.length : Int) + G.length))).take i)[j]?.getD 0))])), (3002, .row false 50 3 i (rF Wi.c_ ((x.outs.map mkO).take i))), (3001, .row false 105 5 G.length (rF Ga.c_ G)), (224, .row false 50 3 I.length (rF Wi.c_ I)), (48, .box false [.row 224 I.length, .row 3001 G.length, .row 3002 i, .row 3003 i]), (16, .box false x.c_), (32, .box false [.d (.s (.slice none 0 0)), .d (.s (.slice none 0 0)), .d (.s (.slice none 0 0)), .d (.s (.slice none 0 0))])]⟩) (B) (weak_mk (by simp) (by simp <;> first | exact lit rfl | exact .refl _ | exact .nil _) (by simp)) ⟨0, by simp, by simp, rfl⟩ ?_
          rintro q s ⟨i, rfl, hii, rfl⟩ kl hkl
          by_cases hiB : i < B
          · have e1 : (i : Int) < x.outs.length := by omega
            have e2 : (i : Int) < 9 := by omega
            have hi' : i < x.outs.length := by omega
            obtain ⟨b, eb⟩ : ∃ b, x.outs[i] = b := ⟨_, rfl⟩
            obtain ⟨⟨b1, b2⟩, ⟨b3, b4⟩, ⟨b5, b6⟩, ⟨b7, b8⟩⟩ := eb ▸ ok.outs _ (List.getElem_mem hi')
            have e3 : (x.outs.map mkO).take (i + 1) = (x.outs.map mkO).take i ++ [mkO b] := by rw [take_snoc _ _ (by simpa using hi')]; simp [hi', eb]
            have e4 : ((x.outs.map mkO).take i).length = i := by simp; omega
            have e5 : (x.outs.map (mkD ((I.length : Int) + G.length))).take (i + 1) = (x.outs.map (mkD ((I.length : Int) + G.length))).take i ++ [mkD ((I.length : Int) + G.length) b] := by rw [take_snoc _ _ (by simpa using hi')]; simp [hi', eb]
            have e6 : ((x.outs.map (mkD ((I.length : Int) + G.length))).take i).length = i := by simp; omega
            obtain ⟨op, hop⟩ : ∃ op, b.k % 7 = op := ⟨_, rfl⟩
            rcases (by omega : op = 0 ∨ op = 1 ∨ op = 2 ∨ op = 3 ∨ op = 4 ∨ op = 5 ∨ op = 6) with hq | hq | hq | hq | hq | hq | hq
            all_goals
              rw [hq] at hop
              repeat' (first | ((first | refine awp_seq' fun k hk => awp_region (et := Try.et) Try.vtOK Try.etOK ?_ | refine awp_region (et := Try.et) Try.vtOK Try.etOK ?_); simp (maxSteps := 5000000) (disch := first | (intro _; intros; contradiction) | omega) [i64_in, u8_in, u64_in, vgd_t, vgd_f, wgd_t, wgd_f, i64_quo, u8_quo, Int.tmod_eq_emod_of_nonneg, e1, e2, eb, hop, andV_1023]; (repeat (refine ⟨(by first | omega | assumption), ?_⟩)); skip; (first | (refine hk _ ?_; clear hk; (try clear k)) | (clear hk; (try clear k); refine hk _ ?_; clear hk; (try clear k)) | (clear hk; (try clear k); clear hk; (try clear k); refine hk _ ?_; clear hk; (try clear k)) | (clear hk; (try clear k); clear hk; (try clear k); clear hk; (try clear k); refine hk _ ?_; clear hk; (try clear k)))) | ((first | refine awp_seq' fun k hk => awp_region_draw (et := Try.et) Try.mixed Try.vtOK Try.etOK ?_ | refine awp_region_draw (et := Try.et) Try.mixed Try.vtOK Try.etOK ?_); simp (maxSteps := 5000000) (disch := first | (intro _; intros; contradiction) | omega) [i64_in, u8_in, u64_in, vgd_t, vgd_f, wgd_t, wgd_f, i64_quo, u8_quo, Int.tmod_eq_emod_of_nonneg, e1, e2, eb, hop, andV_1023]; (repeat (refine ⟨(by first | omega | assumption), ?_⟩)); skip; refine ⟨by kernel_rfl, ?_⟩; (first | (refine hk _ ?_; clear hk; (try clear k)) | (clear hk; (try clear k); refine hk _ ?_; clear hk; (try clear k)) | (clear hk; (try clear k); clear hk; (try clear k); refine hk _ ?_; clear hk; (try clear k)) | (clear hk; (try clear k); clear hk; (try clear k); clear hk; (try clear k); refine hk _ ?_; clear hk; (try clear k)))) | (refine awp_cond rfl rfl (fun hc => ?_) (fun hc => ?_) <;> first | (exfalso; simp at hc; done) | (simp at hc) | skip) | (refine awp_skip ?_; (first | (refine hk _ ?_; clear hk; (try clear k)) | (clear hk; (try clear k); refine hk _ ?_; clear hk; (try clear k)) | (clear hk; (try clear k); clear hk; (try clear k); refine hk _ ?_; clear hk; (try clear k)) | (clear hk; (try clear k); clear hk; (try clear k); clear hk; (try clear k); refine hk _ ?_; clear hk; (try clear k)))) | (refine awp_ret ⟨.inr rfl, ?_⟩; (try simp [e1, e2, eb, hop, andV_1023])) | (refine awp_seq' fun k hk => ?_) | (refine awp_block ?_))
            all_goals
              refine awp_region (et := Try.et) Try.vtOK Try.etOK ?_
              simp (maxSteps := 5000000) (disch := first | (intro _; intros; contradiction) | omega) [i64_in, u8_in, vgd_t, vgd_f, wgd_t, wgd_f]
              refine hkl _ _ _ (by omega) ⟨i + 1, rfl, by omega, rfl⟩ (weak_mk (by simp) ?_ (by simp)); (try simp)
            all_goals
              refine ⟨?_, app_rF' (mkO b) e4.symm e3 (by simp [mkO, hop, kindO])⟩
              rw [e5]
              have := appWF ((x.outs.map (mkD ((I.length : Int) + G.length))).take i) (mkD ((I.length : Int) + G.length) b)
              rw [e6] at this
              have hz : mkD ((I.length : Int) + G.length) b = (1 + I.length + G.length - b.d) % 1024 % (2 + I.length + G.length) := by unfold mkD; rw [← Int.add_assoc, ← Int.add_assoc]
              rw [hz] at this ⊢
              exact this
          · have hEx : i = B := by omega
            subst hEx
            have hil : i ≤ 9 := by omega
            obtain ⟨O, hO⟩ : ∃ O, O = (x.outs.map mkO).take i := ⟨_, rfl⟩
            obtain ⟨D, hD⟩ : ∃ D, D = (x.outs.map (mkD ((I.length : Int) + G.length))).take i := ⟨_, rfl⟩
            have hOl : O.length = i := by rw [hO]; simp; omega
            have hDl : D.length = i := by rw [hD]; simp; omega
            have hO2 : O = (x.outs.take 9).map mkO := by rw [hO, List.map_take, List.take_eq_take_iff]; simp only [List.length_map]; omega
            have hD2 : D = (x.outs.take 9).map (mkD ((I.length : Int) + G.length)) := by rw [hD, List.map_take, List.take_eq_take_iff]; simp only [List.length_map]; omega
            have hk5 : ∀ s : St, Weak s ⟨[(3, .c (.ptr 48 0)), (2, .c (.ptr 32 0)), (1, .c (.ptr 16 0))], [(3003, .row false 3 1 i (fun j => [.s (.int .i64 (D[j]?.getD 0))])), (3002, .row false 50 3 i (rF Wi.c_ O)), (3001, .row false 105 5 G.length (rF Ga.c_ G)), (224, .row false 50 3 I.length (rF Wi.c_ I)), (48, .box false [.row 224 I.length, .row 3001 G.length, .row 3002 i, .row 3003 i]), (16, .box false x.c_), (32, .box false [.d (.s (.slice none 0 0)), .d (.s (.slice none 0 0)), .d (.s (.slice none 0 0)), .d (.s (.slice none 0 0))])]⟩ → k s := by
              intro s hw
              refine hk s (awp_weak hw ?_)
              by_cases h0 : x.outs = []
              · have h0i : i = 0 := by simp [hB, h0]
                subst h0i
                have hO0 : O = [] := by simpa using hOl
                have hD0 : D = [] := by simpa using hDl
                have hm : madeN x = ⟨I, G, [⟨1, 0, 0⟩], [1 + (I.length : Int) + G.length]⟩ := by simp [madeN, h0, ← hI, ← hG2]
                repeat' (first | ((first | refine awp_seq' fun k hk => awp_region (et := Try.et) Try.vtOK Try.etOK ?_ | refine awp_region (et := Try.et) Try.vtOK Try.etOK ?_); simp (maxSteps := 5000000) (disch := first | (intro _; intros; contradiction) | omega) [i64_in, u8_in, u64_in, vgd_t, vgd_f, wgd_t, wgd_f, i64_quo, u8_quo, Int.tmod_eq_emod_of_nonneg]; (repeat (refine ⟨(by first | omega | assumption), ?_⟩)); skip; (first | (refine hk _ ?_; clear hk; (try clear k)) | (clear hk; (try clear k); refine hk _ ?_; clear hk; (try clear k)) | (clear hk; (try clear k); clear hk; (try clear k); refine hk _ ?_; clear hk; (try clear k)) | (clear hk; (try clear k); clear hk; (try clear k); clear hk; (try clear k); refine hk _ ?_; clear hk; (try clear k)))) | ((first | refine awp_seq' fun k hk => awp_region_draw (et := Try.et) Try.mixed Try.vtOK Try.etOK ?_ | refine awp_region_draw (et := Try.et) Try.mixed Try.vtOK Try.etOK ?_); simp (maxSteps := 5000000) (disch := first | (intro _; intros; contradiction) | omega) [i64_in, u8_in, u64_in, vgd_t, vgd_f, wgd_t, wgd_f, i64_quo, u8_quo, Int.tmod_eq_emod_of_nonneg]; (repeat (refine ⟨(by first | omega | assumption), ?_⟩)); skip; refine ⟨by kernel_rfl, ?_⟩; (first | (refine hk _ ?_; clear hk; (try clear k)) | (clear hk; (try clear k); refine hk _ ?_; clear hk; (try clear k)) | (clear hk; (try clear k); clear hk; (try clear k); refine hk _ ?_; clear hk; (try clear k)) | (clear hk; (try clear k); clear hk; (try clear k); clear hk; (try clear k); refine hk _ ?_; clear hk; (try clear k)))) | (refine awp_cond rfl rfl (fun hc => ?_) (fun hc => ?_) <;> first | (exfalso; simp at hc; done) | (simp at hc) | skip) | (refine awp_skip ?_; (first | (refine hk _ ?_; clear hk; (try clear k)) | (clear hk; (try clear k); refine hk _ ?_; clear hk; (try clear k)) | (clear hk; (try clear k); clear hk; (try clear k); refine hk _ ?_; clear hk; (try clear k)) | (clear hk; (try clear k); clear hk; (try clear k); clear hk; (try clear k); refine hk _ ?_; clear hk; (try clear k)))) | (refine awp_ret ⟨.inr rfl, ?_⟩; (try simp [])) | (refine awp_seq' fun k hk => ?_) | (refine awp_block ?_))
                all_goals
                  rw [hm]
                  exact ⟨.refl _, .refl _, lit rfl, lit rfl⟩
              · have h0i : 0 < i := by
                  have : 0 < x.outs.length := List.length_pos_iff.2 h0
                  omega
                have h0j : ((i : Int) == 0) = false := by simp; omega
                have hm : madeN x = ⟨I, G, O, D⟩ := by simp [madeN, h0, ← hI, ← hG2, ← hO2, ← hD2]
                repeat' (first | ((first | refine awp_seq' fun k hk => awp_region (et := Try.et) Try.vtOK Try.etOK ?_ | refine awp_region (et := Try.et) Try.vtOK Try.etOK ?_); simp (maxSteps := 5000000) (disch := first | (intro _; intros; contradiction) | omega) [i64_in, u8_in, u64_in, vgd_t, vgd_f, wgd_t, wgd_f, i64_quo, u8_quo, Int.tmod_eq_emod_of_nonneg, h0j]; (repeat (refine ⟨(by first | omega | assumption), ?_⟩)); skip; (first | (refine hk _ ?_; clear hk; (try clear k)) | (clear hk; (try clear k); refine hk _ ?_; clear hk; (try clear k)) | (clear hk; (try clear k); clear hk; (try clear k); refine hk _ ?_; clear hk; (try clear k)) | (clear hk; (try clear k); clear hk; (try clear k); clear hk; (try clear k); refine hk _ ?_; clear hk; (try clear k)))) | ((first | refine awp_seq' fun k hk => awp_region_draw (et := Try.et) Try.mixed Try.vtOK Try.etOK ?_ | refine awp_region_draw (et := Try.et) Try.mixed Try.vtOK Try.etOK ?_); simp (maxSteps := 5000000) (disch := first | (intro _; intros; contradiction) | omega) [i64_in, u8_in, u64_in, vgd_t, vgd_f, wgd_t, wgd_f, i64_quo, u8_quo, Int.tmod_eq_emod_of_nonneg, h0j]; (repeat (refine ⟨(by first | omega | assumption), ?_⟩)); skip; refine ⟨by kernel_rfl, ?_⟩; (first | (refine hk _ ?_; clear hk; (try clear k)) | (clear hk; (try clear k); refine hk _ ?_; clear hk; (try clear k)) | (clear hk; (try clear k); clear hk; (try clear k); refine hk _ ?_; clear hk; (try clear k)) | (clear hk; (try clear k); clear hk; (try clear k); clear hk; (try clear k); refine hk _ ?_; clear hk; (try clear k)))) | (refine awp_cond rfl rfl (fun hc => ?_) (fun hc => ?_) <;> first | (exfalso; simp at hc; done) | (simp at hc) | skip) | (refine awp_skip ?_; (first | (refine hk _ ?_; clear hk; (try clear k)) | (clear hk; (try clear k); refine hk _ ?_; clear hk; (try clear k)) | (clear hk; (try clear k); clear hk; (try clear k); refine hk _ ?_; clear hk; (try clear k)) | (clear hk; (try clear k); clear hk; (try clear k); clear hk; (try clear k); refine hk _ ?_; clear hk; (try clear k)))) | (refine awp_ret ⟨.inr rfl, ?_⟩; (try simp [h0j])) | (refine awp_seq' fun k hk => ?_) | (refine awp_block ?_))
                all_goals
                  rw [hm]
                  refine ⟨.refl _, .refl _, ?_, ?_⟩
                  · rw [← hOl]; exact .refl _
                  · rw [← hDl]; exact .refl _
            rcases (by omega : ¬ (i : Int) < x.outs.length ∨ ((i : Int) < x.outs.length ∧ ¬ (i : Int) < 9)) with e1 | ⟨e1, e2⟩
            · repeat' (first | ((first | refine awp_seq' fun k hk => awp_region (et := Try.et) Try.vtOK Try.etOK ?_ | refine awp_region (et := Try.et) Try.vtOK Try.etOK ?_); simp (maxSteps := 5000000) (disch := first | (intro _; intros; contradiction) | omega) [i64_in, u8_in, u64_in, vgd_t, vgd_f, wgd_t, wgd_f, i64_quo, u8_quo, Int.tmod_eq_emod_of_nonneg, e1]; (repeat (refine ⟨(by first | omega | assumption), ?_⟩)); skip; (first | (refine hk _ ?_; clear hk; (try clear k)) | (clear hk; (try clear k); refine hk _ ?_; clear hk; (try clear k)) | (clear hk; (try clear k); clear hk; (try clear k); refine hk _ ?_; clear hk; (try clear k)) | (clear hk; (try clear k); clear hk; (try clear k); clear hk; (try clear k); refine hk _ ?_; clear hk; (try clear k)))) | ((first | refine awp_seq' fun k hk => awp_region_draw (et := Try.et) Try.mixed Try.vtOK Try.etOK ?_ | refine awp_region_draw (et := Try.et) Try.mixed Try.vtOK Try.etOK ?_); simp (maxSteps := 5000000) (disch := first | (intro _; intros; contradiction) | omega) [i64_in, u8_in, u64_in, vgd_t, vgd_f, wgd_t, wgd_f, i64_quo, u8_quo, Int.tmod_eq_emod_of_nonneg, e1]; (repeat (refine ⟨(by first | omega | assumption), ?_⟩)); skip; refine ⟨by kernel_rfl, ?_⟩; (first | (refine hk _ ?_; clear hk; (try clear k)) | (clear hk; (try clear k); refine hk _ ?_; clear hk; (try clear k)) | (clear hk; (try clear k); clear hk; (try clear k); refine hk _ ?_; clear hk; (try clear k)) | (clear hk; (try clear k); clear hk; (try clear k); clear hk; (try clear k); refine hk _ ?_; clear hk; (try clear k)))) | (refine awp_cond rfl rfl (fun hc => ?_) (fun hc => ?_) <;> first | (exfalso; simp at hc; done) | (simp at hc) | skip) | (refine awp_skip ?_; (first | (refine hk _ ?_; clear hk; (try clear k)) | (clear hk; (try clear k); refine hk _ ?_; clear hk; (try clear k)) | (clear hk; (try clear k); clear hk; (try clear k); refine hk _ ?_; clear hk; (try clear k)) | (clear hk; (try clear k); clear hk; (try clear k); clear hk; (try clear k); refine hk _ ?_; clear hk; (try clear k)))) | (refine awp_ret ⟨.inr rfl, ?_⟩; (try simp [e1])) | (refine awp_seq' fun k hk => ?_) | (refine awp_block ?_))
              refine awp_exit ?_
              simp
              exact hk5 _ (weak_mk (by simp) (by simp [← hO, ← hD]) (by simp))
            · repeat' (first | ((first | refine awp_seq' fun k hk => awp_region (et := Try.et) Try.vtOK Try.etOK ?_ | refine awp_region (et := Try.et) Try.vtOK Try.etOK ?_); simp (maxSteps := 5000000) (disch := first | (intro _; intros; contradiction) | omega) [i64_in, u8_in, u64_in, vgd_t, vgd_f, wgd_t, wgd_f, i64_quo, u8_quo, Int.tmod_eq_emod_of_nonneg, e1, e2]; (repeat (refine ⟨(by first | omega | assumption), ?_⟩)); skip; (first | (refine hk _ ?_; clear hk; (try clear k)) | (clear hk; (try clear k); refine hk _ ?_; clear hk; (try clear k)) | (clear hk; (try clear k); clear hk; (try clear k); refine hk _ ?_; clear hk; (try clear k)) | (clear hk; (try clear k); clear hk; (try clear k); clear hk; (try clear k); refine hk _ ?_; clear hk; (try clear k)))) | ((first | refine awp_seq' fun k hk => awp_region_draw (et := Try.et) Try.mixed Try.vtOK Try.etOK ?_ | refine awp_region_draw (et := Try.et) Try.mixed Try.vtOK Try.etOK ?_); simp (maxSteps := 5000000) (disch := first | (intro _; intros; contradiction) | omega) [i64_in, u8_in, u64_in, vgd_t, vgd_f, wgd_t, wgd_f, i64_quo, u8_quo, Int.tmod_eq_emod_of_nonneg, e1, e2]; (repeat (refine ⟨(by first | omega | assumption), ?_⟩)); skip; refine ⟨by kernel_rfl, ?_⟩; (first | (refine hk _ ?_; clear hk; (try clear k)) | (clear hk; (try clear k); refine hk _ ?_; clear hk; (try clear k)) | (clear hk; (try clear k); clear hk; (try clear k); refine hk _ ?_; clear hk; (try clear k)) | (clear hk; (try clear k); clear hk; (try clear k); clear hk; (try clear k); refine hk _ ?_; clear hk; (try clear k)))) | (refine awp_cond rfl rfl (fun hc => ?_) (fun hc => ?_) <;> first | (exfalso; simp at hc; done) | (simp at hc) | skip) | (refine awp_skip ?_; (first | (refine hk _ ?_; clear hk; (try clear k)) | (clear hk; (try clear k); refine hk _ ?_; clear hk; (try clear k)) | (clear hk; (try clear k); clear hk; (try clear k); refine hk _ ?_; clear hk; (try clear k)) | (clear hk; (try clear k); clear hk; (try clear k); clear hk; (try clear k); refine hk _ ?_; clear hk; (try clear k)))) | (refine awp_ret ⟨.inr rfl, ?_⟩; (try simp [e1, e2])) | (refine awp_seq' fun k hk => ?_) | (refine awp_block ?_))
              refine awp_exit ?_
              simp
              exact hk5 _ (weak_mk (by simp) (by simp [← hO, ← hD]) (by simp))
        rcases (by omega : ¬ (i : Int) < x.gates.length ∨ ((i : Int) < x.gates.length ∧ ¬ (i : Int) < 60)) with e1 | ⟨e1, e2⟩
        · repeat' (first | ((first | refine awp_seq' fun k hk => awp_region (et := Try.et) Try.vtOK Try.etOK ?_ | refine awp_region (et := Try.et) Try.vtOK Try.etOK ?_); simp (maxSteps := 5000000) (disch := first | (intro _; intros; contradiction) | omega) [i64_in, u8_in, u64_in, vgd_t, vgd_f, wgd_t, wgd_f, i64_quo, u8_quo, Int.tmod_eq_emod_of_nonneg, e1]; (repeat (refine ⟨(by first | omega | assumption), ?_⟩)); skip; (first | (refine hk _ ?_; clear hk; (try clear k)) | (clear hk; (try clear k); refine hk _ ?_; clear hk; (try clear k)) | (clear hk; (try clear k); clear hk; (try clear k); refine hk _ ?_; clear hk; (try clear k)) | (clear hk; (try clear k); clear hk; (try clear k); clear hk; (try clear k); refine hk _ ?_; clear hk; (try clear k)))) | ((first | refine awp_seq' fun k hk => awp_region_draw (et := Try.et) Try.mixed Try.vtOK Try.etOK ?_ | refine awp_region_draw (et := Try.et) Try.mixed Try.vtOK Try.etOK ?_); simp (maxSteps := 5000000) (disch := first | (intro _; intros; contradiction) | omega) [i64_in, u8_in, u64_in, vgd_t, vgd_f, wgd_t, wgd_f, i64_quo, u8_quo, Int.tmod_eq_emod_of_nonneg, e1]; (repeat (refine ⟨(by first | omega | assumption), ?_⟩)); skip; refine ⟨by kernel_rfl, ?_⟩; (first | (refine hk _ ?_; clear hk; (try clear k)) | (clear hk; (try clear k); refine hk _ ?_; clear hk; (try clear k)) | (clear hk; (try clear k); clear hk; (try clear k); refine hk _ ?_; clear hk; (try clear k)) | (clear hk; (try clear k); clear hk; (try clear k); clear hk; (try clear k); refine hk _ ?_; clear hk; (try clear k)))) | (refine awp_cond rfl rfl (fun hc => ?_) (fun hc => ?_) <;> first | (exfalso; simp at hc; done) | (simp at hc) | skip) | (refine awp_skip ?_; (first | (refine hk _ ?_; clear hk; (try clear k)) | (clear hk; (try clear k); refine hk _ ?_; clear hk; (try clear k)) | (clear hk; (try clear k); clear hk; (try clear k); refine hk _ ?_; clear hk; (try clear k)) | (clear hk; (try clear k); clear hk; (try clear k); clear hk; (try clear k); refine hk _ ?_; clear hk; (try clear k)))) | (refine awp_ret ⟨.inr rfl, ?_⟩; (try simp [e1])) | (refine awp_seq' fun k hk => ?_) | (refine awp_block ?_))
          refine awp_exit ?_
          simp
          exact hk4 _ (weak_mk (by simp [hGl]) (by simp [hGl, ← hG]) (by simp))
        · repeat' (first | ((first | refine awp_seq' fun k hk => awp_region (et := Try.et) Try.vtOK Try.etOK ?_ | refine awp_region (et := Try.et) Try.vtOK Try.etOK ?_); simp (maxSteps := 5000000) (disch := first | (intro _; intros; contradiction) | omega) [i64_in, u8_in, u64_in, vgd_t, vgd_f, wgd_t, wgd_f, i64_quo, u8_quo, Int.tmod_eq_emod_of_nonneg, e1, e2]; (repeat (refine ⟨(by first | omega | assumption), ?_⟩)); skip; (first | (refine hk _ ?_; clear hk; (try clear k)) | (clear hk; (try clear k); refine hk _ ?_; clear hk; (try clear k)) | (clear hk; (try clear k); clear hk; (try clear k); refine hk _ ?_; clear hk; (try clear k)) | (clear hk; (try clear k); clear hk; (try clear k); clear hk; (try clear k); refine hk _ ?_; clear hk; (try clear k)))) | ((first | refine awp_seq' fun k hk => awp_region_draw (et := Try.et) Try.mixed Try.vtOK Try.etOK ?_ | refine awp_region_draw (et := Try.et) Try.mixed Try.vtOK Try.etOK ?_); simp (maxSteps := 5000000) (disch := first | (intro _; intros; contradiction) | omega) [i64_in, u8_in, u64_in, vgd_t, vgd_f, wgd_t, wgd_f, i64_quo, u8_quo, Int.tmod_eq_emod_of_nonneg, e1, e2]; (repeat (refine ⟨(by first | omega | assumption), ?_⟩)); skip; refine ⟨by kernel_rfl, ?_⟩; (first | (refine hk _ ?_; clear hk; (try clear k)) | (clear hk; (try clear k); refine hk _ ?_; clear hk; (try clear k)) | (clear hk; (try clear k); clear hk; (try clear k); refine hk _ ?_; clear hk; (try clear k)) | (clear hk; (try clear k); clear hk; (try clear k); clear hk; (try clear k); refine hk _ ?_; clear hk; (try clear k)))) | (refine awp_cond rfl rfl (fun hc => ?_) (fun hc => ?_) <;> first | (exfalso; simp at hc; done) | (simp at hc) | skip) | (refine awp_skip ?_; (first | (refine hk _ ?_; clear hk; (try clear k)) | (clear hk; (try clear k); refine hk _ ?_; clear hk; (try clear k)) | (clear hk; (try clear k); clear hk; (try clear k); refine hk _ ?_; clear hk; (try clear k)) | (clear hk; (try clear k); clear hk; (try clear k); clear hk; (try clear k); refine hk _ ?_; clear hk; (try clear k)))) | (refine awp_ret ⟨.inr rfl, ?_⟩; (try simp [e1, e2])) | (refine awp_seq' fun k hk => ?_) | (refine awp_block ?_))
          refine awp_exit ?_
          simp
          exact hk4 _ (weak_mk (by simp [hGl]) (by simp [hGl, ← hG]) (by simp))
    rcases (by omega : ¬ (i : Int) < x.ins.length ∨ ((i : Int) < x.ins.length ∧ ¬ (i : Int) < 8)) with e1 | ⟨e1, e2⟩
    · repeat' (first | ((first | refine awp_seq' fun k hk => awp_region (et := Try.et) Try.vtOK Try.etOK ?_ | refine awp_region (et := Try.et) Try.vtOK Try.etOK ?_); simp (maxSteps := 5000000) (disch := first | (intro _; intros; contradiction) | omega) [i64_in, u8_in, u64_in, vgd_t, vgd_f, wgd_t, wgd_f, i64_quo, u8_quo, Int.tmod_eq_emod_of_nonneg, e1]; (repeat (refine ⟨(by first | omega | assumption), ?_⟩)); skip; (first | (refine hk _ ?_; clear hk; (try clear k)) | (clear hk; (try clear k); refine hk _ ?_; clear hk; (try clear k)) | (clear hk; (try clear k); clear hk; (try clear k); refine hk _ ?_; clear hk; (try clear k)) | (clear hk; (try clear k); clear hk; (try clear k); clear hk; (try clear k); refine hk _ ?_; clear hk; (try clear k)))) | ((first | refine awp_seq' fun k hk => awp_region_draw (et := Try.et) Try.mixed Try.vtOK Try.etOK ?_ | refine awp_region_draw (et := Try.et) Try.mixed Try.vtOK Try.etOK ?_); simp (maxSteps := 5000000) (disch := first | (intro _; intros; contradiction) | omega) [i64_in, u8_in, u64_in, vgd_t, vgd_f, wgd_t, wgd_f, i64_quo, u8_quo, Int.tmod_eq_emod_of_nonneg, e1]; (repeat (refine ⟨(by first | omega | assumption), ?_⟩)); skip; refine ⟨by kernel_rfl, ?_⟩; (first | (refine hk _ ?_; clear hk; (try clear k)) | (clear hk; (try clear k); refine hk _ ?_; clear hk; (try clear k)) | (clear hk; (try clear k); clear hk; (try clear k); refine hk _ ?_; clear hk; (try clear k)) | (clear hk; (try clear k); clear hk; (try clear k); clear hk; (try clear k); refine hk _ ?_; clear hk; (try clear k)))) | (refine awp_cond rfl rfl (fun hc => ?_) (fun hc => ?_) <;> first | (exfalso; simp at hc; done) | (simp at hc) | skip) | (refine awp_skip ?_; (first | (refine hk _ ?_; clear hk; (try clear k)) | (clear hk; (try clear k); refine hk _ ?_; clear hk; (try clear k)) | (clear hk; (try clear k); clear hk; (try clear k); refine hk _ ?_; clear hk; (try clear k)) | (clear hk; (try clear k); clear hk; (try clear k); clear hk; (try clear k); refine hk _ ?_; clear hk; (try clear k)))) | (refine awp_ret ⟨.inr rfl, ?_⟩; (try simp [e1])) | (refine awp_seq' fun k hk => ?_) | (refine awp_block ?_))
      refine awp_exit ?_
      simp
      exact hk3 _ (weak_mk (by simp [hmi]) (by simp [hmi, ← hI2]) (by simp))
    · repeat' (first | ((first | refine awp_seq' fun k hk => awp_region (et := Try.et) Try.vtOK Try.etOK ?_ | refine awp_region (et := Try.et) Try.vtOK Try.etOK ?_); simp (maxSteps := 5000000) (disch := first | (intro _; intros; contradiction) | omega) [i64_in, u8_in, u64_in, vgd_t, vgd_f, wgd_t, wgd_f, i64_quo, u8_quo, Int.tmod_eq_emod_of_nonneg, e1, e2]; (repeat (refine ⟨(by first | omega | assumption), ?_⟩)); skip; (first | (refine hk _ ?_; clear hk; (try clear k)) | (clear hk; (try clear k); refine hk _ ?_; clear hk; (try clear k)) | (clear hk; (try clear k); clear hk; (try clear k); refine hk _ ?_; clear hk; (try clear k)) | (clear hk; (try clear k); clear hk; (try clear k); clear hk; (try clear k); refine hk _ ?_; clear hk; (try clear k)))) | ((first | refine awp_seq' fun k hk => awp_region_draw (et := Try.et) Try.mixed Try.vtOK Try.etOK ?_ | refine awp_region_draw (et := Try.et) Try.mixed Try.vtOK Try.etOK ?_); simp (maxSteps := 5000000) (disch := first | (intro _; intros; contradiction) | omega) [i64_in, u8_in, u64_in, vgd_t, vgd_f, wgd_t, wgd_f, i64_quo, u8_quo, Int.tmod_eq_emod_of_nonneg, e1, e2]; (repeat (refine ⟨(by first | omega | assumption), ?_⟩)); skip; refine ⟨by kernel_rfl, ?_⟩; (first | (refine hk _ ?_; clear hk; (try clear k)) | (clear hk; (try clear k); refine hk _ ?_; clear hk; (try clear k)) | (clear hk; (try clear k); clear hk; (try clear k); refine hk _ ?_; clear hk; (try clear k)) | (clear hk; (try clear k); clear hk; (try clear k); clear hk; (try clear k); refine hk _ ?_; clear hk; (try clear k)))) | (refine awp_cond rfl rfl (fun hc => ?_) (fun hc => ?_) <;> first | (exfalso; simp at hc; done) | (simp at hc) | skip) | (refine awp_skip ?_; (first | (refine hk _ ?_; clear hk; (try clear k)) | (clear hk; (try clear k); refine hk _ ?_; clear hk; (try clear k)) | (clear hk; (try clear k); clear hk; (try clear k); refine hk _ ?_; clear hk; (try clear k)) | (clear hk; (try clear k); clear hk; (try clear k); clear hk; (try clear k); refine hk _ ?_; clear hk; (try clear k)))) | (refine awp_ret ⟨.inr rfl, ?_⟩; (try simp [e1, e2])) | (refine awp_seq' fun k hk => ?_) | (refine awp_block ?_))
      refine awp_exit ?_
      simp
      exact hk3 _ (weak_mk (by simp [hmi]) (by simp [hmi, ← hI2]) (by simp))
end Go.Proofs

/- NQ4: the plain laws of evaluated nets: made nets are valid; gates; cones; complements. -/
namespace Go.Proofs
open Go.V

theorem mkGs_len (nin : Nat) (l : List G5) : ∀ n, (mkGs nin l n).length = n
  | 0 => rfl
  | n + 1 => by simp [mkGs, mkGs_len nin l n]
theorem mkGs_at (nin : Nat) (l : List G5) : ∀ n i, i < n → (mkGs nin l n)[i]?.getD default = mkG (2 + nin + i) (l[i]?.getD default)
  | 0, i, h => by omega
  | n + 1, i, h => by
    simp only [mkGs]
    by_cases e : i < n
    · rw [List.getElem?_append_left (by rw [mkGs_len]; exact e)]
      exact mkGs_at nin l n i e
    · have : i = n := by omega
      subst this
      rw [List.getElem?_append_right (by simp [mkGs_len])]
      simp [mkGs_len]
theorem mkG_ok {own : Nat} {g : G5} (h : 0 < own) (g0 : u8 g.o) (g4 : u8 g.n) : (mkG (own : Int) g).ok own := by
  have hp : (0 : Int) < own := by omega
  have ha := Int.emod_nonneg g.a (b := own) (by omega)
  have ha2 := Int.emod_lt_of_pos g.a hp
  have hb := Int.emod_nonneg g.b (b := own) (by omega)
  have hb2 := Int.emod_lt_of_pos g.b hp
  have hc := Int.emod_nonneg g.c (b := own) (by omega)
  have hc2 := Int.emod_lt_of_pos g.c hp
  obtain ⟨o1, o2⟩ := g0
  obtain ⟨n1, n2⟩ := g4
  unfold mkG Ga.ok
  simp only
  refine ⟨by omega, by omega, ha, ha2, ?_, ?_, ?_, ?_, ?_, ?_⟩ <;> split <;> omega
theorem u8_default : u8 (default : G5).o ∧ u8 (default : G5).a ∧ u8 (default : G5).b ∧ u8 (default : G5).c ∧ u8 (default : G5).n := by
  refine ⟨⟨?_, ?_⟩, ⟨?_, ?_⟩, ⟨?_, ?_⟩, ⟨?_, ?_⟩, ⟨?_, ?_⟩⟩ <;> decide
theorem R22.ok.gate {x : R22} (ok : x.ok) (i : Nat) : u8 (x.gates[i]?.getD default).o ∧ u8 (x.gates[i]?.getD default).a ∧ u8 (x.gates[i]?.getD default).b ∧ u8 (x.gates[i]?.getD default).c ∧ u8 (x.gates[i]?.getD default).n := by
  by_cases h : i < x.gates.length
  · have := ok.gates _ (List.getElem_mem h)
    simpa [h] using this
  · rw [List.getElem?_eq_none (by omega)]
    exact u8_default
theorem madeN_ins (x : R22) : (madeN x).ins = mkI x := by unfold madeN; simp only; split <;> rfl
theorem madeN_gates (x : R22) : (madeN x).gates = mkGs (mkI x).length x.gates (min x.gates.length 60) := by unfold madeN; simp only; split <;> rfl
theorem mkI_len (x : R22) : 1 ≤ (mkI x).length ∧ (mkI x).length ≤ 9 := by simp [mkI]; omega

theorem madeN_okX (x : R22) (ok : x.ok) : (madeN x).okX (mkI x).length ∧ (madeN x).okW ∧ (madeN x).gates.length ≤ 60 := by
  have hI := mkI_len x
  have hg : (madeN x).gates.length ≤ 60 := by rw [madeN_gates, mkGs_len]; omega
  have hd : (madeN x).outs.length = (madeN x).drive.length ∧ (madeN x).outs.length ≤ 9 := by
    unfold madeN
    simp only
    split
    · simp
    · simp; omega
  refine ⟨⟨by omega, by omega, by rw [madeN_ins]; omega, by omega, fun i hi => ?_, fun i hi => ?_⟩, ⟨hd.1, fun i hi => ?_, fun i hi => ?_⟩, hg⟩
  · rw [madeN_gates] at hi ⊢
    rw [mkGs_len] at hi
    rw [mkGs_at _ _ _ _ hi]
    have := ok.gate i
    have h := mkG_ok (own := 2 + (mkI x).length + i) (g := x.gates[i]?.getD default) (by omega) this.1 this.2.2.2.2
    simpa using h
  · have e : (madeN x).gates.length = min x.gates.length 60 := by rw [madeN_gates, mkGs_len]
    generalize hgl : (madeN x).gates.length = gl at *
    have : ∀ d ∈ (madeN x).drive, 0 ≤ d ∧ d < 2 + (mkI x).length + gl := by
      intro d hd
      have e2 : (mkGs (mkI x).length x.gates (min x.gates.length 60)).length = gl := by rw [mkGs_len, e]
      unfold madeN at hd
      simp only [e2] at hd
      split at hd
      · simp at hd
        omega
      · simp only [List.mem_map] at hd
        obtain ⟨g, _, rfl⟩ := hd
        unfold mkD
        exact ⟨Int.emod_nonneg _ (by omega), by have := Int.emod_lt_of_pos ((1 + ((mkI x).length + gl : Int) - g.d) % 1024) (b := 2 + ((mkI x).length + gl : Int)) (by omega); omega⟩
    have h := this _ (List.getElem_mem hi)
    simpa [hi] using h
  · rw [madeN_ins] at hi ⊢
    have : ∀ w ∈ mkI x, 0 ≤ w.i ∧ 0 ≤ w.bit := by
      intro w hw
      simp only [mkI, List.mem_cons, List.mem_map] at hw
      rcases hw with rfl | ⟨b, hb, rfl⟩
      · simp
      · obtain ⟨b1, b2⟩ := ok.ins b (List.mem_of_mem_take hb)
        simp only [mkW]
        refine ⟨by omega, ?_⟩
        split <;> omega
    have h := this _ (List.getElem_mem hi)
    simpa [hi] using h
  · have : ∀ w ∈ (madeN x).outs, 0 ≤ w.bit ∧ w.bit < 63 := by
      intro w hw
      unfold madeN at hw
      simp only at hw
      split at hw
      · simp at hw
        subst hw
        simp
      · simp only [List.mem_map] at hw
        obtain ⟨g, _, rfl⟩ := hw
        simp only [mkO]
        omega
    have h := this _ (List.getElem_mem hi)
    simpa [hi] using h
end Go.Proofs

namespace Go.Proofs
open Go.V IntWalk
set_option maxRecDepth 100000
set_option maxHeartbeats 8000000
set_option linter.unusedSimpArgs false
set_option linter.unusedVariables false

/-- The sum of lengths, as a machine adds it. -/
def litS (n0 : Int) (ms : List (List Int)) : Nat → Int
  | 0 => n0
  | i + 1 => IntKind.i64.wrap (litS n0 ms i + ((ms[i]?.getD []).length : Int))
def lit0 (regs : List Int) (mems : List (List Int)) (heads : List (Bool × Int)) (rooms : List Bool) (v : List Int) : Int :=
  IntKind.i64.wrap (IntKind.i64.wrap (IntKind.i64.wrap (IntKind.i64.wrap (regs.length + mems.length) + heads.length) + rooms.length) + v.length)
theorem law22_little_S (regs : List Int) (mems : List (List Int)) (heads : List (Bool × Int)) (rooms : List Bool) (v : List Int) (kk e0 e1 : Int) (hr : regs.length < 9223372036854775808) (hm : mems.length < 9223372036854775808) (hh : heads.length < 9223372036854775808) (ho : rooms.length < 9223372036854775808) (hv : v.length < 9223372036854775808) (hml : ∀ m ∈ mems, m.length < 9223372036854775808) :
    FSpec Try.prog 13 [.agg [.d (dL regs), .d (dLL mems), .d (dH heads), .d (dB rooms), .d (dU v), .d (.s (.int .i64 kk)), .d (.s (.int .i8 e0)), .d (.s (.int .i8 e1))]] [] (tB (decide (litS (lit0 regs mems heads rooms v) mems mems.length ≤ 200))) [] := by
  refine fspec_intro Try.func13 (by kernel_rfl) rfl Try.vtOK rfl Try.ntmps13 (by simp) ?_
  repeat' (first | ((first | refine awp_seq' fun k hk => awp_region (et := Try.et) Try.vtOK Try.etOK ?_ | refine awp_region (et := Try.et) Try.vtOK Try.etOK ?_); simp (maxSteps := 5000000) (disch := first | (intro _; intros; contradiction) | omega) [i64_in, u8_in, u64_in, vgd_t, vgd_f, wgd_t, wgd_f, i64_quo, u8_quo, Int.tmod_eq_emod_of_nonneg]; (repeat (refine ⟨(by first | omega | assumption), ?_⟩)); skip; (first | (refine hk _ ?_; clear hk; (try clear k)) | (clear hk; (try clear k); refine hk _ ?_; clear hk; (try clear k)) | (clear hk; (try clear k); clear hk; (try clear k); refine hk _ ?_; clear hk; (try clear k)) | (clear hk; (try clear k); clear hk; (try clear k); clear hk; (try clear k); refine hk _ ?_; clear hk; (try clear k)))) | ((first | refine awp_seq' fun k hk => awp_region_draw (et := Try.et) Try.mixed Try.vtOK Try.etOK ?_ | refine awp_region_draw (et := Try.et) Try.mixed Try.vtOK Try.etOK ?_); simp (maxSteps := 5000000) (disch := first | (intro _; intros; contradiction) | omega) [i64_in, u8_in, u64_in, vgd_t, vgd_f, wgd_t, wgd_f, i64_quo, u8_quo, Int.tmod_eq_emod_of_nonneg]; (repeat (refine ⟨(by first | omega | assumption), ?_⟩)); skip; refine ⟨by kernel_rfl, ?_⟩; (first | (refine hk _ ?_; clear hk; (try clear k)) | (clear hk; (try clear k); refine hk _ ?_; clear hk; (try clear k)) | (clear hk; (try clear k); clear hk; (try clear k); refine hk _ ?_; clear hk; (try clear k)) | (clear hk; (try clear k); clear hk; (try clear k); clear hk; (try clear k); refine hk _ ?_; clear hk; (try clear k)))) | (refine awp_cond rfl rfl (fun hc => ?_) (fun hc => ?_) <;> first | (exfalso; simp at hc; done) | (simp at hc) | skip) | (refine awp_skip ?_; (first | (refine hk _ ?_; clear hk; (try clear k)) | (clear hk; (try clear k); refine hk _ ?_; clear hk; (try clear k)) | (clear hk; (try clear k); clear hk; (try clear k); refine hk _ ?_; clear hk; (try clear k)) | (clear hk; (try clear k); clear hk; (try clear k); clear hk; (try clear k); refine hk _ ?_; clear hk; (try clear k)))) | (refine awp_ret ⟨.inr rfl, ?_⟩; (try simp [])) | (refine awp_seq' fun k hk => ?_) | (refine awp_block ?_))
  rw [show IntKind.i64.wrap (IntKind.i64.wrap (IntKind.i64.wrap (IntKind.i64.wrap (regs.length + mems.length) + heads.length) + rooms.length) + v.length) = lit0 regs mems heads rooms v from rfl]
  generalize lit0 regs mems heads rooms v = n0 at *
  have h00 : litS n0 mems 0 = n0 := rfl
  refine awp_for (fun q s => ∃ i : Nat, q = mems.length - i ∧ i ≤ mems.length ∧ s = ⟨[(4, tI .i64 i), (3, tI .i64 (litS n0 mems i)), (1, .c (.ptr 16 0))], [(16, .box false [.d (dL regs), .d (dLL mems), .d (dH heads), .d (dB rooms), .d (dU v), .d (.s (.int .i64 kk)), .d (.s (.int .i8 e0)), .d (.s (.int .i8 e1))])]⟩) mems.length (weak_mk (by simp [h00]) (by simp) (by simp)) ⟨0, by simp, by simp, rfl⟩ ?_
  rintro q s ⟨i, rfl, hi, rfl⟩ kl hkl
  repeat' (first | ((first | refine awp_seq' fun k hk => awp_region (et := Try.et) Try.vtOK Try.etOK ?_ | refine awp_region (et := Try.et) Try.vtOK Try.etOK ?_); simp (maxSteps := 5000000) (disch := first | (intro _; intros; contradiction) | omega) [i64_in, u8_in, u64_in, vgd_t, vgd_f, wgd_t, wgd_f, i64_quo, u8_quo, Int.tmod_eq_emod_of_nonneg]; (repeat (refine ⟨(by first | omega | assumption), ?_⟩)); skip; (first | (refine hk _ ?_; clear hk; (try clear k)) | (clear hk; (try clear k); refine hk _ ?_; clear hk; (try clear k)) | (clear hk; (try clear k); clear hk; (try clear k); refine hk _ ?_; clear hk; (try clear k)) | (clear hk; (try clear k); clear hk; (try clear k); clear hk; (try clear k); refine hk _ ?_; clear hk; (try clear k)))) | ((first | refine awp_seq' fun k hk => awp_region_draw (et := Try.et) Try.mixed Try.vtOK Try.etOK ?_ | refine awp_region_draw (et := Try.et) Try.mixed Try.vtOK Try.etOK ?_); simp (maxSteps := 5000000) (disch := first | (intro _; intros; contradiction) | omega) [i64_in, u8_in, u64_in, vgd_t, vgd_f, wgd_t, wgd_f, i64_quo, u8_quo, Int.tmod_eq_emod_of_nonneg]; (repeat (refine ⟨(by first | omega | assumption), ?_⟩)); skip; refine ⟨by kernel_rfl, ?_⟩; (first | (refine hk _ ?_; clear hk; (try clear k)) | (clear hk; (try clear k); refine hk _ ?_; clear hk; (try clear k)) | (clear hk; (try clear k); clear hk; (try clear k); refine hk _ ?_; clear hk; (try clear k)) | (clear hk; (try clear k); clear hk; (try clear k); clear hk; (try clear k); refine hk _ ?_; clear hk; (try clear k)))) | (refine awp_cond rfl rfl (fun hc => ?_) (fun hc => ?_) <;> first | (exfalso; simp at hc; done) | (simp at hc) | skip) | (refine awp_skip ?_; (first | (refine hk _ ?_; clear hk; (try clear k)) | (clear hk; (try clear k); refine hk _ ?_; clear hk; (try clear k)) | (clear hk; (try clear k); clear hk; (try clear k); refine hk _ ?_; clear hk; (try clear k)) | (clear hk; (try clear k); clear hk; (try clear k); clear hk; (try clear k); refine hk _ ?_; clear hk; (try clear k)))) | (refine awp_ret ⟨.inr rfl, ?_⟩; (try simp [])) | (refine awp_seq' fun k hk => ?_) | (refine awp_block ?_))
  · have hs : litS n0 mems (i + 1) = IntKind.i64.wrap (litS n0 mems i + ((mems[i]?.getD []).length : Int)) := rfl
    have hmi : (mems[i]?.getD []) = mems[i] := by simp [hc]
    rw [hmi] at hs
    have hl := hml _ (List.getElem_mem hc)
    refine awp_region (et := Try.et) Try.vtOK Try.etOK ?_
    simp (maxSteps := 5000000) (disch := first | (intro _; intros; contradiction) | omega) [i64_in, u8_in, vgd_t, vgd_f, wgd_t, wgd_f]
    refine hkl _ _ _ (by omega) ⟨i + 1, rfl, by omega, rfl⟩ (weak_mk (by simp [hs]) (by simp) (by simp))
  · refine awp_exit ?_
    simp at hc ⊢
    obtain rfl : i = mems.length := by omega
    (first | (refine hk _ ?_; clear hk; (try clear k)) | (clear hk; (try clear k); refine hk _ ?_; clear hk; (try clear k)) | (clear hk; (try clear k); clear hk; (try clear k); refine hk _ ?_; clear hk; (try clear k)) | (clear hk; (try clear k); clear hk; (try clear k); clear hk; (try clear k); refine hk _ ?_; clear hk; (try clear k)))
    repeat' (first | ((first | refine awp_seq' fun k hk => awp_region (et := Try.et) Try.vtOK Try.etOK ?_ | refine awp_region (et := Try.et) Try.vtOK Try.etOK ?_); simp (maxSteps := 5000000) (disch := first | (intro _; intros; contradiction) | omega) [i64_in, u8_in, u64_in, vgd_t, vgd_f, wgd_t, wgd_f, i64_quo, u8_quo, Int.tmod_eq_emod_of_nonneg]; (repeat (refine ⟨(by first | omega | assumption), ?_⟩)); skip; (first | (refine hk _ ?_; clear hk; (try clear k)) | (clear hk; (try clear k); refine hk _ ?_; clear hk; (try clear k)) | (clear hk; (try clear k); clear hk; (try clear k); refine hk _ ?_; clear hk; (try clear k)) | (clear hk; (try clear k); clear hk; (try clear k); clear hk; (try clear k); refine hk _ ?_; clear hk; (try clear k)))) | ((first | refine awp_seq' fun k hk => awp_region_draw (et := Try.et) Try.mixed Try.vtOK Try.etOK ?_ | refine awp_region_draw (et := Try.et) Try.mixed Try.vtOK Try.etOK ?_); simp (maxSteps := 5000000) (disch := first | (intro _; intros; contradiction) | omega) [i64_in, u8_in, u64_in, vgd_t, vgd_f, wgd_t, wgd_f, i64_quo, u8_quo, Int.tmod_eq_emod_of_nonneg]; (repeat (refine ⟨(by first | omega | assumption), ?_⟩)); skip; refine ⟨by kernel_rfl, ?_⟩; (first | (refine hk _ ?_; clear hk; (try clear k)) | (clear hk; (try clear k); refine hk _ ?_; clear hk; (try clear k)) | (clear hk; (try clear k); clear hk; (try clear k); refine hk _ ?_; clear hk; (try clear k)) | (clear hk; (try clear k); clear hk; (try clear k); clear hk; (try clear k); refine hk _ ?_; clear hk; (try clear k)))) | (refine awp_cond rfl rfl (fun hc => ?_) (fun hc => ?_) <;> first | (exfalso; simp at hc; done) | (simp at hc) | skip) | (refine awp_skip ?_; (first | (refine hk _ ?_; clear hk; (try clear k)) | (clear hk; (try clear k); refine hk _ ?_; clear hk; (try clear k)) | (clear hk; (try clear k); clear hk; (try clear k); refine hk _ ?_; clear hk; (try clear k)) | (clear hk; (try clear k); clear hk; (try clear k); clear hk; (try clear k); refine hk _ ?_; clear hk; (try clear k)))) | (refine awp_ret ⟨.inr rfl, ?_⟩; (try simp [])) | (refine awp_seq' fun k hk => ?_) | (refine awp_block ?_))

end Go.Proofs

/- NQ5: the plain laws: gates, cones, complements. -/
namespace Go.Proofs
open Go.V

theorem evI_prefix (gs : List Ga) (ms : List (List Int)) (v : List Bool) (i : Nat) : ∀ n, i ≤ n → ∃ r, evI gs ms v n = evI gs ms v i ++ r
  | 0, h => ⟨[], by rw [show i = 0 by omega]; simp⟩
  | n + 1, h => by
    by_cases e : i = n + 1
    · subst e; exact ⟨[], by simp⟩
    · obtain ⟨r, hr⟩ := evI_prefix gs ms v i n (by omega)
      exact ⟨r ++ [_], by simp only [evI]; rw [hr, List.append_assoc, ← hr]⟩
theorem evI_get {gs : List Ga} {ms : List (List Int)} {v : List Bool} {i n j : Nat} (h : i ≤ n) (hj : j < v.length + i) : (evI gs ms v n)[j]?.getD false = (evI gs ms v i)[j]?.getD false := by
  obtain ⟨r, hr⟩ := evI_prefix gs ms v i n h
  rw [hr, List.getElem?_append_left (by rw [evI_length]; exact hj)]
/-- How many operands a gate has. -/
theorem gateV_congr {ms : List (List Int)} {u v : List Bool} {g : Ga} (ha : u[g.a.toNat]?.getD false = v[g.a.toNat]?.getD false) (hb : g.op ≠ 1 → u[g.b.toNat]?.getD false = v[g.b.toNat]?.getD false) (hc : 5 ≤ g.op → u[g.c.toNat]?.getD false = v[g.c.toNat]?.getD false) (h : 1 ≤ g.op ∧ g.op ≤ 7) : gateV ms u g = gateV ms v g := by
  unfold gateV
  rcases (by omega : g.op = 1 ∨ g.op = 2 ∨ g.op = 3 ∨ g.op = 4 ∨ g.op = 5 ∨ g.op = 6 ∨ g.op = 7) with e | e | e | e | e | e | e
  · simp only [e, ha, opV]; simp
  · simp only [e, ha, hb (by omega), opV]; simp
  · simp only [e, ha, hb (by omega), opV]; simp
  · simp only [e, ha, hb (by omega), opV]; simp
  · simp only [e, ha, hb (by omega), hc (by omega)]
  · simp only [e, ha, hb (by omega), hc (by omega)]
  · simp only [e, ha, hb (by omega), hc (by omega)]
theorem evI_at {gs : List Ga} {ms : List (List Int)} {v : List Bool} {i n : Nat} (h : i < n) (ok : (gs[i]?.getD default).ok (v.length + i)) : (evI gs ms v n)[v.length + i]?.getD false = gateV ms (evI gs ms v n) (gs[i]?.getD default) := by
  rw [evI_get (i := i + 1) (by omega) (by omega)]
  simp only [evI]
  rw [List.getElem?_append_right (by rw [evI_length]; omega), evI_length]
  obtain ⟨g1, g2, g3, g4, g5, g6, g7, g8, g9, g10⟩ := ok
  simp only [Nat.sub_self, List.getElem?_cons_zero, Option.getD_some]
  exact gateV_congr (evI_get (by omega) (by omega)).symm (fun _ => (evI_get (by omega) (by omega)).symm) (fun _ => (evI_get (by omega) (by omega)).symm) ⟨g1, g2⟩
/-- States, heads, rooms, values and numbers. -/
structure Od where
  regs : List Int
  mems : List (List Int)
  heads : List (Bool × Int)
  rooms : List Bool
  v : List Int
  kk : Int
  e0 : Int
  e1 : Int
@[simp] def Od.c_ (z : Od) : List C := [.d (dL z.regs), .d (dLL z.mems), .d (dH z.heads), .d (dB z.rooms), .d (dU z.v), .d (.s (.int .i64 z.kk)), .d (.s (.int .i8 z.e0)), .d (.s (.int .i8 z.e1))]
structure Od.ok (z : Od) : Prop where
  regs : z.regs.length < 9223372036854775808
  mems : z.mems.length < 9223372036854775808
  heads : z.heads.length < 9223372036854775808
  rooms : z.rooms.length < 9223372036854775808
  v : z.v.length < 9223372036854775808
  ml : ∀ m ∈ z.mems, m.length < 9223372036854775808
  u8 : ∀ b ∈ z.v, 0 ≤ b ∧ b < 256
structure R22.fit (x : R22) : Prop where
  ok : x.ok
  ins : x.ins.length < 9223372036854775808
  gates : x.gates.length < 9223372036854775808
  outs : x.outs.length < 9223372036854775808
end Go.Proofs

/- NQ6: rows of data that come in, as lists. -/
namespace Go.Proofs
open Go.V

def LeDs (a b : List D) : Prop := a.length = b.length ∧ ∀ (q : Nat) u v, a[q]? = some u → b[q]? = some v → LeD u v
theorem LeDs.refl (a : List D) : LeDs a a := ⟨rfl, fun q u v hu hv => by rw [hu] at hv; injection hv with hv; subst hv; exact .refl _⟩
theorem LeDs.nil : LeDs [] [] := .refl _
theorem LeDs.cons {x y : D} {a b : List D} (h : LeD x y) (k : LeDs a b) : LeDs (x :: a) (y :: b) := ⟨by simp [k.1], fun q u v hu hv => by
  cases q with
  | zero => simp at hu hv; subst hu hv; exact h
  | succ q => exact k.2 q u v (by simpa using hu) (by simpa using hv)⟩
theorem fitsL_of : ∀ {ss : List Sh} {ds : List D}, ds.length = ss.length → (∀ (q : Nat) s d, ss[q]? = some s → ds[q]? = some d → Fits s d) → FitsL ss ds
  | [], [], _, _ => trivial
  | s :: ss, d :: ds, hl, h => ⟨h 0 s d rfl rfl, fitsL_of (by simpa using hl) fun q s d hs hd => h (q + 1) s d (by simpa using hs) (by simpa using hd)⟩
  | [], _ :: _, hl, _ => by simp at hl
  | _ :: _, [], hl, _ => by simp at hl
/-- A row whose elements can be said one by one. -/
theorem fits_row {α : Type} [Inhabited α] (c : α → List D) (P : α → Prop) {ss : List Sh} {n : Nat} {f : Nat → List D} (h : Fits (.slice ss) (.l n f)) (hs : ∀ ds, FitsL ss ds → ∃ y, LeDs ds (c y) ∧ P y) :
    ∃ l : List α, l.length = n ∧ n ≤ maxLen ∧ (∀ y ∈ l, P y) ∧ LeD (.l n f) (.l l.length (rF c l)) := by
  cases h with
  | slice hn hl h =>
    have hx : ∀ j, ∃ y : α, j < n → LeDs (f j) (c y) ∧ P y := fun j => by
      by_cases hj : j < n
      · obtain ⟨y, hy⟩ := hs (f j) (fitsL_of (hl j hj) fun q s d hs hd => h j q s d hj hs hd)
        exact ⟨y, fun _ => hy⟩
      · exact ⟨default, fun h => absurd h hj⟩
    obtain ⟨g, hg⟩ := Classical.axiomOfChoice hx
    refine ⟨(List.range n).map g, by simp, hn, fun y hy => ?_, ?_⟩
    · obtain ⟨j, hj, rfl⟩ := List.mem_map.1 hy
      exact (hg j (by simpa using hj)).2
    · rw [show ((List.range n).map g).length = n by simp]
      have e : ∀ j, j < n → rF c ((List.range n).map g) j = c (g j) := fun j hj => by simp [hj]
      exact .l (fun j hj => by rw [e j hj]; exact (hg j hj).1.1) fun j q u v hj hu hv => (hg j hj).1.2 q u v hu (by rw [← e j hj]; exact hv)
theorem u8_wf {b : Int} (h : (Lit.int .u8 b).wf = true) : 0 ≤ b ∧ b < 256 := by
  simp [Lit.wf, IntKind.min, IntKind.max, IntKind.signed, IntKind.bits] at h
  omega
theorem fits_u8s {n : Nat} {f : Nat → List D} (h : Fits (.slice [.int .u8]) (.l n f)) : ∃ l : List Int, l.length = n ∧ n ≤ maxLen ∧ (∀ b ∈ l, 0 ≤ b ∧ b < 256) ∧ LeD (.l n f) (dU l) :=
  fits_row (fun b : Int => [.s (.int .u8 b)]) (fun b => 0 ≤ b ∧ b < 256) h fun ds hd => by
    match ds, hd with
    | [d], hd =>
      obtain ⟨hd, _⟩ := hd
      cases hd with
      | @int _ b hw => exact ⟨b, .refl _, u8_wf hw⟩
theorem fits_i64s {n : Nat} {f : Nat → List D} (h : Fits (.slice [.int .i64]) (.l n f)) : ∃ l : List Int, l.length = n ∧ n ≤ maxLen ∧ LeD (.l n f) (dL l) := by
  obtain ⟨l, h1, h2, _, h3⟩ := fits_row (fun b : Int => [.s (.int .i64 b)]) (fun _ => True) h fun ds hd => by
    match ds, hd with
    | [d], hd =>
      obtain ⟨hd, _⟩ := hd
      cases hd with
      | @int _ b hw => exact ⟨b, .refl _, trivial⟩
  exact ⟨l, h1, h2, h3⟩
theorem fits_bools {n : Nat} {f : Nat → List D} (h : Fits (.slice [.bool]) (.l n f)) : ∃ l : List Bool, l.length = n ∧ n ≤ maxLen ∧ LeD (.l n f) (dB l) := by
  obtain ⟨l, h1, h2, _, h3⟩ := fits_row (fun b : Bool => [.s (.bool b)]) (fun _ => True) h fun ds hd => by
    match ds, hd with
    | [d], hd =>
      obtain ⟨hd, _⟩ := hd
      cases hd with
      | bool b => exact ⟨b, .refl _, trivial⟩
  exact ⟨l, h1, h2, h3⟩
theorem fits_heads {n : Nat} {f : Nat → List D} (h : Fits (.slice [.bool, .int .i64]) (.l n f)) : ∃ l : List (Bool × Int), l.length = n ∧ n ≤ maxLen ∧ LeD (.l n f) (dH l) := by
  obtain ⟨l, h1, h2, _, h3⟩ := fits_row (α := Bool × Int) (fun b => [.s (.bool b.1), .s (.int .i64 b.2)]) (fun _ => True) h fun ds hd => by
    match ds, hd with
    | [d, e], hd =>
      obtain ⟨hd, he, _⟩ := hd
      cases hd with
      | bool b => cases he with
        | @int _ v _ => exact ⟨(b, v), .refl _, trivial⟩
  exact ⟨l, h1, h2, h3⟩
theorem fits_lls {n : Nat} {f : Nat → List D} (h : Fits (.slice [.slice [.int .i64]]) (.l n f)) : ∃ l : List (List Int), l.length = n ∧ n ≤ maxLen ∧ (∀ m ∈ l, m.length ≤ maxLen) ∧ LeD (.l n f) (dLL l) :=
  fits_row (fun m : List Int => [dL m]) (fun m => m.length ≤ maxLen) h fun ds hd => by
    match ds, hd with
    | [d], hd =>
      obtain ⟨hd, _⟩ := hd
      cases hd with
      | @slice _ n f hn hl h =>
        obtain ⟨l, e1, e2, e3⟩ := fits_i64s (.slice hn hl h)
        exact ⟨l, .cons e3 .nil, by omega⟩
theorem fits_g5 {n : Nat} {f : Nat → List D} (h : Fits (.slice [.int .u8, .int .u8, .int .u8, .int .u8, .int .u8]) (.l n f)) : ∃ l : List G5, l.length = n ∧ n ≤ maxLen ∧ (∀ g ∈ l, u8 g.o ∧ u8 g.a ∧ u8 g.b ∧ u8 g.c ∧ u8 g.n) ∧ LeD (.l n f) (dG5 l) :=
  fits_row G5.c_ (fun g => u8 g.o ∧ u8 g.a ∧ u8 g.b ∧ u8 g.c ∧ u8 g.n) h fun ds hd => by
    match ds, hd with
    | [a, b, c, d, e], hd =>
      obtain ⟨ha, hb, hc, hd, he, _⟩ := hd
      cases ha with
      | @int _ a wa => cases hb with
        | @int _ b wb => cases hc with
          | @int _ c wc => cases hd with
            | @int _ d wd => cases he with
              | @int _ e we => exact ⟨⟨a, b, c, d, e⟩, .refl _, u8_wf wa, u8_wf wb, u8_wf wc, u8_wf wd, u8_wf we⟩
theorem fits_o4 {n : Nat} {f : Nat → List D} (h : Fits (.slice [.int .u8, .int .u8, .int .u8, .int .u8]) (.l n f)) : ∃ l : List O4, l.length = n ∧ n ≤ maxLen ∧ (∀ g ∈ l, u8 g.k ∧ u8 g.i ∧ u8 g.b ∧ u8 g.d) ∧ LeD (.l n f) (dO4 l) :=
  fits_row O4.c_ (fun g => u8 g.k ∧ u8 g.i ∧ u8 g.b ∧ u8 g.d) h fun ds hd => by
    match ds, hd with
    | [a, b, c, d], hd =>
      obtain ⟨ha, hb, hc, hd, _⟩ := hd
      cases ha with
      | @int _ a wa => cases hb with
        | @int _ b wb => cases hc with
          | @int _ c wc => cases hd with
            | @int _ d wd => exact ⟨⟨a, b, c, d⟩, .refl _, u8_wf wa, u8_wf wb, u8_wf wc, u8_wf wd⟩
end Go.Proofs

/- NQ9: sums of lengths; the shape of a step, in plain Lean. -/
namespace Go.Proofs
open Go.V

def sumL (ms : List (List Int)) : Nat → Nat
  | 0 => 0
  | i + 1 => sumL ms i + (ms[i]?.getD []).length
theorem sumL_le {ms : List (List Int)} {B : Nat} (h : ∀ m ∈ ms, m.length ≤ B) : ∀ i, sumL ms i ≤ i * B
  | 0 => by simp [sumL]
  | i + 1 => by
    have h1 := sumL_le h i
    have h2 : (ms[i]?.getD []).length ≤ B := by
      by_cases hi : i < ms.length
      · simpa [hi] using h _ (List.getElem_mem hi)
      · rw [List.getElem?_eq_none (by omega)]; simp
    simp only [sumL, Nat.add_mul]
    omega
theorem sumL_mem {ms : List (List Int)} : ∀ n, n ≤ ms.length → ∀ j, j < n → (ms[j]?.getD []).length ≤ sumL ms n
  | n + 1, hn, j, hj => by
    simp only [sumL]
    by_cases e : j = n
    · subst e; omega
    · have := sumL_mem (ms := ms) n (by omega) j (by omega)
      omega
structure Od.bnd (z : Od) (B : Nat) : Prop where
  regs : z.regs.length ≤ B
  mems : z.mems.length ≤ B
  heads : z.heads.length ≤ B
  rooms : z.rooms.length ≤ B
  v : z.v.length ≤ B
  ml : ∀ m ∈ z.mems, m.length ≤ B
theorem litS_eq {z : Od} (h : z.bnd 1048576) : ∀ i, i ≤ z.mems.length → litS (lit0 z.regs z.mems z.heads z.rooms z.v) z.mems i = ((z.regs.length + z.mems.length + z.heads.length + z.rooms.length + z.v.length + sumL z.mems i : Nat) : Int)
  | 0, _ => by
    have h1 := h.regs; have h2 := h.mems; have h3 := h.heads; have h4 := h.rooms; have h5 := h.v
    simp only [litS, lit0, sumL]
    rw [wrap_in (x := (z.regs.length : Int) + z.mems.length) (by omega), wrap_in (x := (z.regs.length : Int) + z.mems.length + z.heads.length) (by omega), wrap_in (x := (z.regs.length : Int) + z.mems.length + z.heads.length + z.rooms.length) (by omega), wrap_in (by omega)]
    omega
  | i + 1, hi => by
    have ih := litS_eq h i (by omega)
    have h1 := h.regs; have h2 := h.mems; have h3 := h.heads; have h4 := h.rooms; have h5 := h.v
    have h6 := sumL_le h.ml (i + 1)
    have h7 : (i + 1) * 1048576 ≤ 1048576 * 1048576 := Nat.mul_le_mul_right _ (by omega)
    simp only [litS]
    rw [ih]
    simp only [sumL] at h6 ⊢
    rw [wrap_in (by omega)]
    omega
/-- What is little is of few elements. -/
theorem little_bnd {z : Od} (h : z.bnd 1048576) (hl : litS (lit0 z.regs z.mems z.heads z.rooms z.v) z.mems z.mems.length ≤ 200) : z.bnd 200 := by
  rw [litS_eq h _ (Nat.le_refl _)] at hl
  refine ⟨by omega, by omega, by omega, by omega, by omega, fun m hm => ?_⟩
  obtain ⟨j, hj, rfl⟩ := List.getElem_of_mem hm
  have := sumL_mem z.mems.length (Nat.le_refl _) j hj
  simp only [List.getElem?_eq_getElem hj, Option.getD_some] at this
  omega

theorem pget_setM (outs : List Wi) (vals : List Bool) (x : List Int) : ∀ n, pget false (setM outs vals n) x = true → ∃ q < n, [(outs[q]?.getD default).kind, (outs[q]?.getD default).i] = x
  | 0, h => by simp [setM, pget] at h
  | n + 1, h => by
    simp only [setM] at h
    split at h
    · rw [pget_pput] at h
      by_cases e : [(outs[n]?.getD default).kind, (outs[n]?.getD default).i] = x
      · exact ⟨n, by omega, e⟩
      · rw [if_neg e] at h
        obtain ⟨q, hq, e2⟩ := pget_setM outs vals x n h
        exact ⟨q, by omega, e2⟩
    · obtain ⟨q, hq, e2⟩ := pget_setM outs vals x n h
      exact ⟨q, by omega, e2⟩
/-- How many words have changed; whether an output of a kind with an index is there. -/
def chI (a b : List Int) : Nat → Nat
  | 0 => 0
  | i + 1 => if a[i]?.getD 0 = b[i]?.getD 0 then chI a b i else chI a b i + 1
def enI (outs : List Wi) (x : Int) : Nat → Bool
  | 0 => false
  | i + 1 => enI outs x i || ((outs[i]?.getD default).kind == 8 && (outs[i]?.getD default).i == x)
@[simp] theorem enI_z (outs : List Wi) (x : Int) : enI outs x 0 = false := rfl
@[simp] theorem chI_z (a b : List Int) : chI a b 0 = 0 := rfl
theorem enI_of {outs : List Wi} {x : Int} {q : Nat} (h1 : (outs[q]?.getD default).kind = 8) (h2 : (outs[q]?.getD default).i = x) : ∀ n, q < n → enI outs x n = true
  | n + 1, h => by
    simp only [enI]
    by_cases e : q = n
    · subst e; simp [h1, h2]
    · simp [enI_of h1 h2 n (by omega)]
theorem chI_same (a : List Int) : ∀ n, chI a a n = 0
  | 0 => rfl
  | n + 1 => by simp [chI, chI_same a n]
theorem chI_set (a : List Int) (p : Nat) (v : Int) : ∀ n, chI (a.set p v) a n ≤ if p < n then 1 else 0
  | 0 => by simp [chI]
  | n + 1 => by
    have ih := chI_set a p v n
    simp only [chI]
    by_cases e : p = n
    · subst e
      rw [if_neg (Nat.lt_irrefl _)] at ih
      rw [if_pos (Nat.lt_succ_self p)]
      split
      · omega
      · omega
    · have e2 : (a.set p v)[n]?.getD 0 = a[n]?.getD 0 := by rw [List.getElem?_set_ne (by omega)]
      rw [if_pos e2]
      split
      · rw [if_pos (by omega)] at ih; exact ih
      · rw [if_neg (by omega)] at ih; exact ih
theorem memO_len (S : List (List Int × Bool)) (W : List (List Int × Int)) (mems : List (List Int)) (j : Nat) : (memO S W mems j).length = (mems[j]?.getD []).length := by
  unfold memO memB
  split <;> simp
theorem memO_ch (outs : List Wi) (vals : List Bool) (W : List (List Int × Int)) (mems : List (List Int)) (j n : Nat) : chI (memO (setM outs vals outs.length) W mems j) (mems[j]?.getD []) n ≤ 1 ∧ (0 < chI (memO (setM outs vals outs.length) W mems j) (mems[j]?.getD []) n → enI outs j outs.length = true) := by
  unfold memO memB
  split
  · rename_i h
    refine ⟨Nat.le_trans (chI_set _ _ _ n) (by split <;> omega), fun _ => ?_⟩
    simp only [Bool.and_eq_true] at h
    obtain ⟨q, hq, e⟩ := pget_setM outs vals _ _ h.1
    simp at e
    exact enI_of e.1 e.2 _ hq
  · exact ⟨by rw [chI_same]; omega, fun h => by rw [chI_same] at h; omega⟩
end Go.Proofs

namespace Go.Proofs
open Go.V
set_option maxRecDepth 100000
set_option linter.unusedVariables false

theorem mx (n : Nat) (h : n ≤ maxLen) : n < 9223372036854775808 := by simp [maxLen] at h; omega
abbrev sh22 : List (List Sh) := [[.slice [.int .u8], .slice [.int .u8, .int .u8, .int .u8, .int .u8, .int .u8], .slice [.int .u8, .int .u8, .int .u8, .int .u8]], [.slice [.int .i64], .slice [.slice [.int .i64]], .slice [.bool, .int .i64], .slice [.bool], .slice [.int .u8], .int .i64, .int .i8, .int .i8]]
/-- The laws over a described net and odd data: from lists to what comes in. -/
theorem spec22 {f : FuncId} (H : ∀ (x : R22) (z : Od), x.fit → z.ok → FSpec Try.prog f [.agg x.c_, .agg z.c_] [] (tB true) []) (dss : List (List D))
    (h : FitsLL sh22 dss) : FSpec Try.prog f (tsOf Try.vt [26, 38] dss) [] (tB true) [] := by
  match dss, h with
  | [[a, b, c], [r, m, hd, ro, v, k, e0, e1]], h =>
    simp only [FitsLL, FitsL, and_true] at h
    obtain ⟨⟨ha, hb, hc⟩, hr, hm, hh, ho, hv, hk, he0, he1⟩ := h
    cases ha with
    | @slice _ na fa ga la ia => cases hb with
      | @slice _ nb fb gb lb ib => cases hc with
        | @slice _ nc fc gc lc ic => cases hr with
          | @slice _ nr fr gr lr ir => cases hm with
            | @slice _ nm fm gm lm im => cases hh with
              | @slice _ nh fh gh lh ih => cases ho with
                | @slice _ no fo go lo io => cases hv with
                  | @slice _ nv fv gv lv iv => cases hk with
                    | @int _ k _ => cases he0 with
                      | @int _ e0 _ => cases he1 with
                        | @int _ e1 _ =>
                          obtain ⟨xa, a1, a2, a3, a4⟩ := fits_u8s (.slice ga la ia)
                          obtain ⟨xb, b1, b2, b3, b4⟩ := fits_g5 (.slice gb lb ib)
                          obtain ⟨xc, c1, c2, c3, c4⟩ := fits_o4 (.slice gc lc ic)
                          obtain ⟨xr, r1, r2, r3⟩ := fits_i64s (.slice gr lr ir)
                          obtain ⟨xm, m1, m2, m3, m4⟩ := fits_lls (.slice gm lm im)
                          obtain ⟨xh, h1, h2, h3⟩ := fits_heads (.slice gh lh ih)
                          obtain ⟨xo, o1, o2, o3⟩ := fits_bools (.slice go lo io)
                          obtain ⟨xv, v1, v2, v3, v4⟩ := fits_u8s (.slice gv lv iv)
                          refine FSpec.le (H ⟨xa, xb, xc⟩ ⟨xr, xm, xh, xo, xv, k, e0, e1⟩ ⟨⟨a3, b3, c3⟩, by simp only; exact mx _ (by omega), by simp only; exact mx _ (by omega), by simp only; exact mx _ (by omega)⟩ ⟨by simp only; exact mx _ (by omega), by simp only; exact mx _ (by omega), by simp only; exact mx _ (by omega), by simp only; exact mx _ (by omega), by simp only; exact mx _ (by omega), fun q hq => mx _ (m3 q hq), v3⟩) ?_
                          simp [tsOf, tOf]
                          exact ⟨⟨a4, b4, c4⟩, r3, m4, h3, o3, v4⟩
end Go.Proofs

/- NQ10: rows of data that come in, of bounded bulk. -/
namespace Go.Proofs
open Go.V

theorem fits_rowB {α : Type} [Inhabited α] (c : α → List D) (P : α → Prop) {B : Nat} {ss : List Sh} {n : Nat} {f : Nat → List D} (h : Fits (.slice ss) (.l n f)) (hb : BndD B (.l n f)) (hs : ∀ ds, FitsL ss ds → (∀ d ∈ ds, BndD B d) → ∃ y, LeDs ds (c y) ∧ P y) :
    ∃ l : List α, l.length = n ∧ n ≤ B ∧ (∀ y ∈ l, P y) ∧ LeD (.l n f) (.l l.length (rF c l)) := by
  cases hb with
  | l hB hbd =>
    cases h with
    | slice hn hl h =>
      have hx : ∀ j, ∃ y : α, j < n → LeDs (f j) (c y) ∧ P y := fun j => by
        by_cases hj : j < n
        · obtain ⟨y, hy⟩ := hs (f j) (fitsL_of (hl j hj) fun q s d hs hd => h j q s d hj hs hd) (hbd j hj)
          exact ⟨y, fun _ => hy⟩
        · exact ⟨default, fun h => absurd h hj⟩
      obtain ⟨g, hg⟩ := Classical.axiomOfChoice hx
      refine ⟨(List.range n).map g, by simp, hB, fun y hy => ?_, ?_⟩
      · obtain ⟨j, hj, rfl⟩ := List.mem_map.1 hy
        exact (hg j (by simpa using hj)).2
      · rw [show ((List.range n).map g).length = n by simp]
        have e : ∀ j, j < n → rF c ((List.range n).map g) j = c (g j) := fun j hj => by simp [hj]
        exact .l (fun j hj => by rw [e j hj]; exact (hg j hj).1.1) fun j q u v hj hu hv => (hg j hj).1.2 q u v hu (by rw [← e j hj]; exact hv)
theorem bnd_le {B n : Nat} {f : Nat → List D} (h : BndD B (.l n f)) : n ≤ B := by
  cases h with
  | l hn _ => exact hn
theorem fits_llsB {B n : Nat} {f : Nat → List D} (h : Fits (.slice [.slice [.int .i64]]) (.l n f)) (hb : BndD B (.l n f)) : ∃ l : List (List Int), l.length = n ∧ n ≤ B ∧ (∀ m ∈ l, m.length ≤ B) ∧ LeD (.l n f) (dLL l) :=
  fits_rowB (fun m : List Int => [dL m]) (fun m => m.length ≤ B) h hb fun ds hd hb => by
    match ds, hd with
    | [d], hd =>
      obtain ⟨hd, _⟩ := hd
      cases hd with
      | @slice _ n f hn hl h =>
        obtain ⟨l, e1, e2, e3⟩ := fits_i64s (.slice hn hl h)
        have := bnd_le (hb (.l n f) (by simp))
        exact ⟨l, .cons e3 .nil, by omega⟩
end Go.Proofs

namespace Go.Proofs
open Go.V IntWalk
set_option maxRecDepth 100000
set_option maxHeartbeats 8000000
set_option linter.unusedSimpArgs false
set_option linter.unusedVariables false

theorem law22_NetsimShape_S (x : R22) (z : Od) (hx : x.fit) (hz : z.ok) (hzb : z.bnd 1048576) : FSpec Try.prog 3 [.agg x.c_, .agg z.c_] [] (tB true) [] := by
  obtain ⟨okx, okw, hgl⟩ := madeN_okX x hx.ok
  have hI := mkI_len x
  rw [← madeN_ins x] at okx hI
  have cm := ref22_Made_S x hx.ok hx.ins hx.gates hx.outs
  generalize madeN x = n at *
  refine fspec_intro Try.func3 (by kernel_rfl) rfl Try.vtOK rfl Try.ntmps3 (by simp) ?_
  repeat' (first | ((first | refine awp_seq' fun k hk => awp_region (et := Try.et) Try.vtOK Try.etOK ?_ | refine awp_region (et := Try.et) Try.vtOK Try.etOK ?_); simp (maxSteps := 5000000) (disch := first | (intro _; intros; contradiction) | omega) [i64_in, u8_in, u64_in, vgd_t, vgd_f, wgd_t, wgd_f, i64_quo, u8_quo, Int.tmod_eq_emod_of_nonneg]; (repeat (refine ⟨(by first | omega | assumption), ?_⟩)); (repeat ((first | refine vcall_fn rfl (by simp) (LeTs.refl _) (law22_examples_S) ?_ | refine vcall_fn rfl (by simp) (LeTs.refl _) (law22_little_S z.regs z.mems z.heads z.rooms z.v z.kk z.e0 z.e1 hz.regs hz.mems hz.heads hz.rooms hz.v hz.ml) ?_ | refine vcall_fn rfl (by simp) (LeTs.refl _) (cm) ?_); simp (maxSteps := 5000000) (disch := first | (intro _; intros; contradiction) | omega) [i64_in, u8_in, u64_in, vgd_t, vgd_f, wgd_t, wgd_f, i64_quo, u8_quo, Int.tmod_eq_emod_of_nonneg]; (repeat (refine ⟨(by first | omega | assumption), ?_⟩)))); (first | (refine hk _ ?_; clear hk; (try clear k)) | (clear hk; (try clear k); refine hk _ ?_; clear hk; (try clear k)) | (clear hk; (try clear k); clear hk; (try clear k); refine hk _ ?_; clear hk; (try clear k)) | (clear hk; (try clear k); clear hk; (try clear k); clear hk; (try clear k); refine hk _ ?_; clear hk; (try clear k)))) | ((first | refine awp_seq' fun k hk => awp_region_draw (et := Try.et) Try.mixed Try.vtOK Try.etOK ?_ | refine awp_region_draw (et := Try.et) Try.mixed Try.vtOK Try.etOK ?_); simp (maxSteps := 5000000) (disch := first | (intro _; intros; contradiction) | omega) [i64_in, u8_in, u64_in, vgd_t, vgd_f, wgd_t, wgd_f, i64_quo, u8_quo, Int.tmod_eq_emod_of_nonneg]; (repeat (refine ⟨(by first | omega | assumption), ?_⟩)); (repeat ((first | refine wcall_fn rfl (by simp) (LeTs.refl _) (law22_examples_S) ?_ | refine wcall_fn rfl (by simp) (LeTs.refl _) (law22_little_S z.regs z.mems z.heads z.rooms z.v z.kk z.e0 z.e1 hz.regs hz.mems hz.heads hz.rooms hz.v hz.ml) ?_ | refine wcall_fn rfl (by simp) (LeTs.refl _) (cm) ?_); simp (maxSteps := 5000000) (disch := first | (intro _; intros; contradiction) | omega) [i64_in, u8_in, u64_in, vgd_t, vgd_f, wgd_t, wgd_f, i64_quo, u8_quo, Int.tmod_eq_emod_of_nonneg]; (repeat (refine ⟨(by first | omega | assumption), ?_⟩)))); refine ⟨by kernel_rfl, ?_⟩; (first | (refine hk _ ?_; clear hk; (try clear k)) | (clear hk; (try clear k); refine hk _ ?_; clear hk; (try clear k)) | (clear hk; (try clear k); clear hk; (try clear k); refine hk _ ?_; clear hk; (try clear k)) | (clear hk; (try clear k); clear hk; (try clear k); clear hk; (try clear k); refine hk _ ?_; clear hk; (try clear k)))) | (refine awp_cond rfl rfl (fun hc => ?_) (fun hc => ?_) <;> first | (exfalso; simp at hc; done) | (simp at hc) | skip) | (refine awp_skip ?_; (first | (refine hk _ ?_; clear hk; (try clear k)) | (clear hk; (try clear k); refine hk _ ?_; clear hk; (try clear k)) | (clear hk; (try clear k); clear hk; (try clear k); refine hk _ ?_; clear hk; (try clear k)) | (clear hk; (try clear k); clear hk; (try clear k); clear hk; (try clear k); refine hk _ ?_; clear hk; (try clear k)))) | (refine awp_ret ⟨.inr rfl, ?_⟩; (try simp [])) | (refine awp_region (et := Try.et) Try.vtOK Try.etOK ?_; simp (maxSteps := 5000000) (disch := first | (intro _; intros; contradiction) | omega) [i64_in, u8_in, u64_in, vgd_t, vgd_f, wgd_t, wgd_f, i64_quo, u8_quo, Int.tmod_eq_emod_of_nonneg]; (repeat (refine ⟨(by first | omega | assumption), ?_⟩)); (repeat ((first | refine vcall_fn rfl (by simp) (LeTs.refl _) (law22_examples_S) ?_ | refine vcall_fn rfl (by simp) (LeTs.refl _) (law22_little_S z.regs z.mems z.heads z.rooms z.v z.kk z.e0 z.e1 hz.regs hz.mems hz.heads hz.rooms hz.v hz.ml) ?_ | refine vcall_fn rfl (by simp) (LeTs.refl _) (cm) ?_); simp (maxSteps := 5000000) (disch := first | (intro _; intros; contradiction) | omega) [i64_in, u8_in, u64_in, vgd_t, vgd_f, wgd_t, wgd_f, i64_quo, u8_quo, Int.tmod_eq_emod_of_nonneg]; (repeat (refine ⟨(by first | omega | assumption), ?_⟩)))); guard_target =~ kl _) | (refine awp_region_draw (et := Try.et) Try.mixed Try.vtOK Try.etOK ?_; simp (maxSteps := 5000000) (disch := first | (intro _; intros; contradiction) | omega) [i64_in, u8_in, u64_in, vgd_t, vgd_f, wgd_t, wgd_f, i64_quo, u8_quo, Int.tmod_eq_emod_of_nonneg]; (repeat (refine ⟨(by first | omega | assumption), ?_⟩)); (repeat ((first | refine wcall_fn rfl (by simp) (LeTs.refl _) (law22_examples_S) ?_ | refine wcall_fn rfl (by simp) (LeTs.refl _) (law22_little_S z.regs z.mems z.heads z.rooms z.v z.kk z.e0 z.e1 hz.regs hz.mems hz.heads hz.rooms hz.v hz.ml) ?_ | refine wcall_fn rfl (by simp) (LeTs.refl _) (cm) ?_); simp (maxSteps := 5000000) (disch := first | (intro _; intros; contradiction) | omega) [i64_in, u8_in, u64_in, vgd_t, vgd_f, wgd_t, wgd_f, i64_quo, u8_quo, Int.tmod_eq_emod_of_nonneg]; (repeat (refine ⟨(by first | omega | assumption), ?_⟩)))); refine ⟨by kernel_rfl, ?_⟩; guard_target =~ kl _) | (refine awp_seq' fun k hk => ?_) | (refine awp_block ?_))
  have hb := little_bnd hzb hc
  have b1 := hb.regs
  have b2 := hb.mems
  have b3 := hb.heads
  have b4 := hb.rooms
  have cst := law22_step_S n z.regs z.mems z.heads z.rooms (by omega) (by omega) (fun m hm => by have := hb.ml m hm; omega) (by omega) (by omega) okx okw
  generalize n.sv z.regs z.mems z.heads z.rooms = vals at cst
  simp only [fiC] at cst
  have hR : (n.eR vals z.regs.length).length = z.regs.length := by simp [Nt.eR]
  have hM : (n.eM vals z.mems).length = z.mems.length := by simp [Nt.eM]
  have hP : (n.eP vals z.heads.length).length = z.heads.length := by simp [Nt.eP]
  have hU : (n.eU vals z.rooms.length).length = z.rooms.length := by simp [Nt.eU]
  have hMi : ∀ i (h : i < z.mems.length) (h2 : i < (n.eM vals z.mems).length), (n.eM vals z.mems)[i].length = z.mems[i].length ∧ ∀ q, chI (n.eM vals z.mems)[i] z.mems[i] q ≤ 1 ∧ (0 < chI (n.eM vals z.mems)[i] z.mems[i] q → enI n.outs i n.outs.length = true) := fun i h h2 => by
    have e1 : (n.eM vals z.mems)[i] = memO (setM n.outs vals n.outs.length) (wordM n.outs vals n.outs.length) z.mems i := by simp [Nt.eM]
    have e2 : z.mems[i]?.getD [] = z.mems[i] := by simp [h]
    rw [e1, ← e2]
    exact ⟨memO_len _ _ _ _, fun q => memO_ch _ _ _ _ _ _⟩
  have hUi : ∀ i (h : i < (n.eU vals z.rooms.length).length), (n.eU vals z.rooms.length)[i].1 = false → (n.eU vals z.rooms.length)[i].2 = 0 := fun i h => by
    simp [Nt.eU]
    intro h1 h2
    rw [h1] at h2
    cases h2
  generalize n.eR vals z.regs.length = R at *
  generalize n.eM vals z.mems = M at *
  generalize n.eP vals z.heads.length = P at *
  generalize n.eU vals z.rooms.length = U at *
  have hq1 : ((R.length : Int) != z.regs.length) = false := by simp; omega
  have hq2 : ((M.length : Int) != z.mems.length) = false := by simp; omega
  have hq3 : ((P.length : Int) != z.heads.length) = false := by simp; omega
  have hq4 : ((U.length : Int) != z.rooms.length) = false := by simp; omega
  repeat' (first | ((first | refine awp_seq' fun k hk => awp_region (et := Try.et) Try.vtOK Try.etOK ?_ | refine awp_region (et := Try.et) Try.vtOK Try.etOK ?_); simp (maxSteps := 5000000) (disch := first | (intro _; intros; contradiction) | omega) [i64_in, u8_in, u64_in, vgd_t, vgd_f, wgd_t, wgd_f, i64_quo, u8_quo, Int.tmod_eq_emod_of_nonneg, hq1, hq2, hq3, hq4]; (repeat (refine ⟨(by first | omega | assumption), ?_⟩)); (repeat ((first | refine vcall_fn rfl (by simp) (LeTs.refl _) (cst) ?_); simp (maxSteps := 5000000) (disch := first | (intro _; intros; contradiction) | omega) [i64_in, u8_in, u64_in, vgd_t, vgd_f, wgd_t, wgd_f, i64_quo, u8_quo, Int.tmod_eq_emod_of_nonneg, hq1, hq2, hq3, hq4]; (repeat (refine ⟨(by first | omega | assumption), ?_⟩)))); (first | (refine hk _ ?_; clear hk; (try clear k)) | (clear hk; (try clear k); refine hk _ ?_; clear hk; (try clear k)) | (clear hk; (try clear k); clear hk; (try clear k); refine hk _ ?_; clear hk; (try clear k)) | (clear hk; (try clear k); clear hk; (try clear k); clear hk; (try clear k); refine hk _ ?_; clear hk; (try clear k)))) | ((first | refine awp_seq' fun k hk => awp_region_draw (et := Try.et) Try.mixed Try.vtOK Try.etOK ?_ | refine awp_region_draw (et := Try.et) Try.mixed Try.vtOK Try.etOK ?_); simp (maxSteps := 5000000) (disch := first | (intro _; intros; contradiction) | omega) [i64_in, u8_in, u64_in, vgd_t, vgd_f, wgd_t, wgd_f, i64_quo, u8_quo, Int.tmod_eq_emod_of_nonneg, hq1, hq2, hq3, hq4]; (repeat (refine ⟨(by first | omega | assumption), ?_⟩)); (repeat ((first | refine wcall_fn rfl (by simp) (LeTs.refl _) (cst) ?_); simp (maxSteps := 5000000) (disch := first | (intro _; intros; contradiction) | omega) [i64_in, u8_in, u64_in, vgd_t, vgd_f, wgd_t, wgd_f, i64_quo, u8_quo, Int.tmod_eq_emod_of_nonneg, hq1, hq2, hq3, hq4]; (repeat (refine ⟨(by first | omega | assumption), ?_⟩)))); refine ⟨by kernel_rfl, ?_⟩; (first | (refine hk _ ?_; clear hk; (try clear k)) | (clear hk; (try clear k); refine hk _ ?_; clear hk; (try clear k)) | (clear hk; (try clear k); clear hk; (try clear k); refine hk _ ?_; clear hk; (try clear k)) | (clear hk; (try clear k); clear hk; (try clear k); clear hk; (try clear k); refine hk _ ?_; clear hk; (try clear k)))) | (refine awp_cond rfl rfl (fun hc => ?_) (fun hc => ?_) <;> first | (exfalso; simp at hc; done) | (simp at hc) | skip) | (refine awp_skip ?_; (first | (refine hk _ ?_; clear hk; (try clear k)) | (clear hk; (try clear k); refine hk _ ?_; clear hk; (try clear k)) | (clear hk; (try clear k); clear hk; (try clear k); refine hk _ ?_; clear hk; (try clear k)) | (clear hk; (try clear k); clear hk; (try clear k); clear hk; (try clear k); refine hk _ ?_; clear hk; (try clear k)))) | (refine awp_ret ⟨.inr rfl, ?_⟩; (try simp [hq1, hq2, hq3, hq4])) | (refine awp_region (et := Try.et) Try.vtOK Try.etOK ?_; simp (maxSteps := 5000000) (disch := first | (intro _; intros; contradiction) | omega) [i64_in, u8_in, u64_in, vgd_t, vgd_f, wgd_t, wgd_f, i64_quo, u8_quo, Int.tmod_eq_emod_of_nonneg, hq1, hq2, hq3, hq4]; (repeat (refine ⟨(by first | omega | assumption), ?_⟩)); (repeat ((first | refine vcall_fn rfl (by simp) (LeTs.refl _) (cst) ?_); simp (maxSteps := 5000000) (disch := first | (intro _; intros; contradiction) | omega) [i64_in, u8_in, u64_in, vgd_t, vgd_f, wgd_t, wgd_f, i64_quo, u8_quo, Int.tmod_eq_emod_of_nonneg, hq1, hq2, hq3, hq4]; (repeat (refine ⟨(by first | omega | assumption), ?_⟩)))); guard_target =~ kl _) | (refine awp_region_draw (et := Try.et) Try.mixed Try.vtOK Try.etOK ?_; simp (maxSteps := 5000000) (disch := first | (intro _; intros; contradiction) | omega) [i64_in, u8_in, u64_in, vgd_t, vgd_f, wgd_t, wgd_f, i64_quo, u8_quo, Int.tmod_eq_emod_of_nonneg, hq1, hq2, hq3, hq4]; (repeat (refine ⟨(by first | omega | assumption), ?_⟩)); (repeat ((first | refine wcall_fn rfl (by simp) (LeTs.refl _) (cst) ?_); simp (maxSteps := 5000000) (disch := first | (intro _; intros; contradiction) | omega) [i64_in, u8_in, u64_in, vgd_t, vgd_f, wgd_t, wgd_f, i64_quo, u8_quo, Int.tmod_eq_emod_of_nonneg, hq1, hq2, hq3, hq4]; (repeat (refine ⟨(by first | omega | assumption), ?_⟩)))); refine ⟨by kernel_rfl, ?_⟩; guard_target =~ kl _) | (refine awp_seq' fun k hk => ?_) | (refine awp_block ?_))
  refine awp_for (fun q s => ∃ i : Nat, q = z.mems.length - i ∧ i ≤ z.mems.length ∧ s = ⟨[(8, tI .i64 i), (7, .c (.ptr 112 0)), (6, .c (.ptr 96 0)), (5, tB true), (3, .c (.ptr 48 0))], [(112, .box false [.d (.s (.bool false)), .d (dL R), .d (dLL M), .d (dB P), .d (dH U)]), (96, .box false n.c_), (48, .box false z.c_)]⟩) (z.mems.length) (weak_mk (by simp) (by simp <;> first | exact lit rfl | exact .refl _ | exact .nil _) (by simp)) ⟨0, by simp, by simp, rfl⟩ ?_
  rintro q s ⟨i, rfl, hii, rfl⟩ kl hkl
  by_cases hi : i < z.mems.length
  · have hi2 : i < M.length := by omega
    obtain ⟨hml, hch⟩ := hMi i hi hi2
    obtain ⟨m', hm'⟩ : ∃ m', M[i] = m' := ⟨_, rfl⟩
    obtain ⟨m, hm⟩ : ∃ m, z.mems[i] = m := ⟨_, rfl⟩
    rw [hm', hm] at hml hch
    have hmb : m.length ≤ 200 := hm ▸ hb.ml _ (List.getElem_mem hi)
    have hq5 : ((m'.length : Int) != m.length) = false := by simp; omega
    repeat' (first | ((first | refine awp_seq' fun k hk => awp_region (et := Try.et) Try.vtOK Try.etOK ?_ | refine awp_region (et := Try.et) Try.vtOK Try.etOK ?_); simp (maxSteps := 5000000) (disch := first | (intro _; intros; contradiction) | omega) [i64_in, u8_in, u64_in, vgd_t, vgd_f, wgd_t, wgd_f, i64_quo, u8_quo, Int.tmod_eq_emod_of_nonneg, hi, hi2, hm', hm, hq5]; (repeat (refine ⟨(by first | omega | assumption), ?_⟩)); skip; (first | (refine hk _ ?_; clear hk; (try clear k)) | (clear hk; (try clear k); refine hk _ ?_; clear hk; (try clear k)) | (clear hk; (try clear k); clear hk; (try clear k); refine hk _ ?_; clear hk; (try clear k)) | (clear hk; (try clear k); clear hk; (try clear k); clear hk; (try clear k); refine hk _ ?_; clear hk; (try clear k)))) | ((first | refine awp_seq' fun k hk => awp_region_draw (et := Try.et) Try.mixed Try.vtOK Try.etOK ?_ | refine awp_region_draw (et := Try.et) Try.mixed Try.vtOK Try.etOK ?_); simp (maxSteps := 5000000) (disch := first | (intro _; intros; contradiction) | omega) [i64_in, u8_in, u64_in, vgd_t, vgd_f, wgd_t, wgd_f, i64_quo, u8_quo, Int.tmod_eq_emod_of_nonneg, hi, hi2, hm', hm, hq5]; (repeat (refine ⟨(by first | omega | assumption), ?_⟩)); skip; refine ⟨by kernel_rfl, ?_⟩; (first | (refine hk _ ?_; clear hk; (try clear k)) | (clear hk; (try clear k); refine hk _ ?_; clear hk; (try clear k)) | (clear hk; (try clear k); clear hk; (try clear k); refine hk _ ?_; clear hk; (try clear k)) | (clear hk; (try clear k); clear hk; (try clear k); clear hk; (try clear k); refine hk _ ?_; clear hk; (try clear k)))) | (refine awp_cond rfl rfl (fun hc => ?_) (fun hc => ?_) <;> first | (exfalso; simp at hc; done) | (simp at hc) | skip) | (refine awp_skip ?_; (first | (refine hk _ ?_; clear hk; (try clear k)) | (clear hk; (try clear k); refine hk _ ?_; clear hk; (try clear k)) | (clear hk; (try clear k); clear hk; (try clear k); refine hk _ ?_; clear hk; (try clear k)) | (clear hk; (try clear k); clear hk; (try clear k); clear hk; (try clear k); refine hk _ ?_; clear hk; (try clear k)))) | (refine awp_ret ⟨.inr rfl, ?_⟩; (try simp [hi, hi2, hm', hm, hq5])) | (refine awp_region (et := Try.et) Try.vtOK Try.etOK ?_; simp (maxSteps := 5000000) (disch := first | (intro _; intros; contradiction) | omega) [i64_in, u8_in, u64_in, vgd_t, vgd_f, wgd_t, wgd_f, i64_quo, u8_quo, Int.tmod_eq_emod_of_nonneg, hi, hi2, hm', hm, hq5]; (repeat (refine ⟨(by first | omega | assumption), ?_⟩)); skip; guard_target =~ kl _) | (refine awp_region_draw (et := Try.et) Try.mixed Try.vtOK Try.etOK ?_; simp (maxSteps := 5000000) (disch := first | (intro _; intros; contradiction) | omega) [i64_in, u8_in, u64_in, vgd_t, vgd_f, wgd_t, wgd_f, i64_quo, u8_quo, Int.tmod_eq_emod_of_nonneg, hi, hi2, hm', hm, hq5]; (repeat (refine ⟨(by first | omega | assumption), ?_⟩)); skip; refine ⟨by kernel_rfl, ?_⟩; guard_target =~ kl _) | (refine awp_seq' fun k hk => ?_) | (refine awp_block ?_))
    have hI1 : (i : Int) < z.mems.length := by omega
    have hol := okx.2.2.2.1
    refine awp_for (fun q s => ∃ j : Nat, q = n.outs.length - j ∧ j ≤ n.outs.length ∧ s = ⟨[(11, tI .i64 j), (10, tI .i64 0), (9, tB (enI n.outs i j)), (8, tI .i64 i), (7, .c (.ptr 112 0)), (6, .c (.ptr 96 0)), (5, tB true), (3, .c (.ptr 48 0))], [(112, .box false [.d (.s (.bool false)), .d (dL R), .d (dLL M), .d (dB P), .d (dH U)]), (96, .box false n.c_), (48, .box false z.c_)]⟩) (n.outs.length) (weak_mk (by simp) (by simp <;> first | exact lit rfl | exact .refl _ | exact .nil _) (by simp)) ⟨0, by simp, by simp, rfl⟩ ?_
    rintro q s ⟨j, rfl, hij, rfl⟩ kl hkl
    repeat' (first | ((first | refine awp_seq' fun k hk => awp_region (et := Try.et) Try.vtOK Try.etOK ?_ | refine awp_region (et := Try.et) Try.vtOK Try.etOK ?_); simp (maxSteps := 5000000) (disch := first | (intro _; intros; contradiction) | omega) [i64_in, u8_in, u64_in, vgd_t, vgd_f, wgd_t, wgd_f, i64_quo, u8_quo, Int.tmod_eq_emod_of_nonneg]; (repeat (refine ⟨(by first | omega | assumption), ?_⟩)); skip; (first | (refine hk _ ?_; clear hk; (try clear k)) | (clear hk; (try clear k); refine hk _ ?_; clear hk; (try clear k)) | (clear hk; (try clear k); clear hk; (try clear k); refine hk _ ?_; clear hk; (try clear k)) | (clear hk; (try clear k); clear hk; (try clear k); clear hk; (try clear k); refine hk _ ?_; clear hk; (try clear k)))) | ((first | refine awp_seq' fun k hk => awp_region_draw (et := Try.et) Try.mixed Try.vtOK Try.etOK ?_ | refine awp_region_draw (et := Try.et) Try.mixed Try.vtOK Try.etOK ?_); simp (maxSteps := 5000000) (disch := first | (intro _; intros; contradiction) | omega) [i64_in, u8_in, u64_in, vgd_t, vgd_f, wgd_t, wgd_f, i64_quo, u8_quo, Int.tmod_eq_emod_of_nonneg]; (repeat (refine ⟨(by first | omega | assumption), ?_⟩)); skip; refine ⟨by kernel_rfl, ?_⟩; (first | (refine hk _ ?_; clear hk; (try clear k)) | (clear hk; (try clear k); refine hk _ ?_; clear hk; (try clear k)) | (clear hk; (try clear k); clear hk; (try clear k); refine hk _ ?_; clear hk; (try clear k)) | (clear hk; (try clear k); clear hk; (try clear k); clear hk; (try clear k); refine hk _ ?_; clear hk; (try clear k)))) | (refine awp_cond rfl rfl (fun hc => ?_) (fun hc => ?_) <;> first | (exfalso; simp at hc; done) | (simp at hc) | skip) | (refine awp_skip ?_; (first | (refine hk _ ?_; clear hk; (try clear k)) | (clear hk; (try clear k); refine hk _ ?_; clear hk; (try clear k)) | (clear hk; (try clear k); clear hk; (try clear k); refine hk _ ?_; clear hk; (try clear k)) | (clear hk; (try clear k); clear hk; (try clear k); clear hk; (try clear k); refine hk _ ?_; clear hk; (try clear k)))) | (refine awp_ret ⟨.inr rfl, ?_⟩; (try simp [])) | (refine awp_region (et := Try.et) Try.vtOK Try.etOK ?_; simp (maxSteps := 5000000) (disch := first | (intro _; intros; contradiction) | omega) [i64_in, u8_in, u64_in, vgd_t, vgd_f, wgd_t, wgd_f, i64_quo, u8_quo, Int.tmod_eq_emod_of_nonneg]; (repeat (refine ⟨(by first | omega | assumption), ?_⟩)); skip; guard_target =~ kl _) | (refine awp_region_draw (et := Try.et) Try.mixed Try.vtOK Try.etOK ?_; simp (maxSteps := 5000000) (disch := first | (intro _; intros; contradiction) | omega) [i64_in, u8_in, u64_in, vgd_t, vgd_f, wgd_t, wgd_f, i64_quo, u8_quo, Int.tmod_eq_emod_of_nonneg]; (repeat (refine ⟨(by first | omega | assumption), ?_⟩)); skip; refine ⟨by kernel_rfl, ?_⟩; guard_target =~ kl _) | (refine awp_seq' fun k hk => ?_) | (refine awp_block ?_))
    · have hs : enI n.outs i (j + 1) = (enI n.outs i j || ((n.outs[j]?.getD default).kind == 8 && (n.outs[j]?.getD default).i == (i : Int))) := rfl
      have hoe : n.outs[j]?.getD default = n.outs[j] := by simp [hc]
      rw [hoe] at hs
      generalize hw : n.outs[j] = w at *
      cases he : enI n.outs i j with
      | true =>
        rw [he] at hs
        repeat' (first | ((first | refine awp_seq' fun k hk => awp_region (et := Try.et) Try.vtOK Try.etOK ?_ | refine awp_region (et := Try.et) Try.vtOK Try.etOK ?_); simp (maxSteps := 5000000) (disch := first | (intro _; intros; contradiction) | omega) [i64_in, u8_in, u64_in, vgd_t, vgd_f, wgd_t, wgd_f, i64_quo, u8_quo, Int.tmod_eq_emod_of_nonneg, he]; (repeat (refine ⟨(by first | omega | assumption), ?_⟩)); skip; (first | (refine hk _ ?_; clear hk; (try clear k)) | (clear hk; (try clear k); refine hk _ ?_; clear hk; (try clear k)) | (clear hk; (try clear k); clear hk; (try clear k); refine hk _ ?_; clear hk; (try clear k)) | (clear hk; (try clear k); clear hk; (try clear k); clear hk; (try clear k); refine hk _ ?_; clear hk; (try clear k)))) | ((first | refine awp_seq' fun k hk => awp_region_draw (et := Try.et) Try.mixed Try.vtOK Try.etOK ?_ | refine awp_region_draw (et := Try.et) Try.mixed Try.vtOK Try.etOK ?_); simp (maxSteps := 5000000) (disch := first | (intro _; intros; contradiction) | omega) [i64_in, u8_in, u64_in, vgd_t, vgd_f, wgd_t, wgd_f, i64_quo, u8_quo, Int.tmod_eq_emod_of_nonneg, he]; (repeat (refine ⟨(by first | omega | assumption), ?_⟩)); skip; refine ⟨by kernel_rfl, ?_⟩; (first | (refine hk _ ?_; clear hk; (try clear k)) | (clear hk; (try clear k); refine hk _ ?_; clear hk; (try clear k)) | (clear hk; (try clear k); clear hk; (try clear k); refine hk _ ?_; clear hk; (try clear k)) | (clear hk; (try clear k); clear hk; (try clear k); clear hk; (try clear k); refine hk _ ?_; clear hk; (try clear k)))) | (refine awp_cond rfl rfl (fun hc => ?_) (fun hc => ?_) <;> first | (exfalso; simp at hc; done) | (simp at hc) | skip) | (refine awp_skip ?_; (first | (refine hk _ ?_; clear hk; (try clear k)) | (clear hk; (try clear k); refine hk _ ?_; clear hk; (try clear k)) | (clear hk; (try clear k); clear hk; (try clear k); refine hk _ ?_; clear hk; (try clear k)) | (clear hk; (try clear k); clear hk; (try clear k); clear hk; (try clear k); refine hk _ ?_; clear hk; (try clear k)))) | (refine awp_ret ⟨.inr rfl, ?_⟩; (try simp [he])) | (refine awp_region (et := Try.et) Try.vtOK Try.etOK ?_; simp (maxSteps := 5000000) (disch := first | (intro _; intros; contradiction) | omega) [i64_in, u8_in, u64_in, vgd_t, vgd_f, wgd_t, wgd_f, i64_quo, u8_quo, Int.tmod_eq_emod_of_nonneg, he]; (repeat (refine ⟨(by first | omega | assumption), ?_⟩)); skip; guard_target =~ kl _) | (refine awp_region_draw (et := Try.et) Try.mixed Try.vtOK Try.etOK ?_; simp (maxSteps := 5000000) (disch := first | (intro _; intros; contradiction) | omega) [i64_in, u8_in, u64_in, vgd_t, vgd_f, wgd_t, wgd_f, i64_quo, u8_quo, Int.tmod_eq_emod_of_nonneg, he]; (repeat (refine ⟨(by first | omega | assumption), ?_⟩)); skip; refine ⟨by kernel_rfl, ?_⟩; guard_target =~ kl _) | (refine awp_seq' fun k hk => ?_) | (refine awp_block ?_))
        refine hkl _ _ _ (by omega) ⟨j + 1, rfl, by omega, rfl⟩ (weak_mk (by simp [hs]) (by simp) (by simp))
      | false =>
        rw [he] at hs
        cases h8 : (w.kind == 8) with
        | true =>
          rw [h8] at hs
          repeat' (first | ((first | refine awp_seq' fun k hk => awp_region (et := Try.et) Try.vtOK Try.etOK ?_ | refine awp_region (et := Try.et) Try.vtOK Try.etOK ?_); simp (maxSteps := 5000000) (disch := first | (intro _; intros; contradiction) | omega) [i64_in, u8_in, u64_in, vgd_t, vgd_f, wgd_t, wgd_f, i64_quo, u8_quo, Int.tmod_eq_emod_of_nonneg, he, hw, h8]; (repeat (refine ⟨(by first | omega | assumption), ?_⟩)); skip; (first | (refine hk _ ?_; clear hk; (try clear k)) | (clear hk; (try clear k); refine hk _ ?_; clear hk; (try clear k)) | (clear hk; (try clear k); clear hk; (try clear k); refine hk _ ?_; clear hk; (try clear k)) | (clear hk; (try clear k); clear hk; (try clear k); clear hk; (try clear k); refine hk _ ?_; clear hk; (try clear k)))) | ((first | refine awp_seq' fun k hk => awp_region_draw (et := Try.et) Try.mixed Try.vtOK Try.etOK ?_ | refine awp_region_draw (et := Try.et) Try.mixed Try.vtOK Try.etOK ?_); simp (maxSteps := 5000000) (disch := first | (intro _; intros; contradiction) | omega) [i64_in, u8_in, u64_in, vgd_t, vgd_f, wgd_t, wgd_f, i64_quo, u8_quo, Int.tmod_eq_emod_of_nonneg, he, hw, h8]; (repeat (refine ⟨(by first | omega | assumption), ?_⟩)); skip; refine ⟨by kernel_rfl, ?_⟩; (first | (refine hk _ ?_; clear hk; (try clear k)) | (clear hk; (try clear k); refine hk _ ?_; clear hk; (try clear k)) | (clear hk; (try clear k); clear hk; (try clear k); refine hk _ ?_; clear hk; (try clear k)) | (clear hk; (try clear k); clear hk; (try clear k); clear hk; (try clear k); refine hk _ ?_; clear hk; (try clear k)))) | (refine awp_cond rfl rfl (fun hc => ?_) (fun hc => ?_) <;> first | (exfalso; simp at hc; done) | (simp at hc) | skip) | (refine awp_skip ?_; (first | (refine hk _ ?_; clear hk; (try clear k)) | (clear hk; (try clear k); refine hk _ ?_; clear hk; (try clear k)) | (clear hk; (try clear k); clear hk; (try clear k); refine hk _ ?_; clear hk; (try clear k)) | (clear hk; (try clear k); clear hk; (try clear k); clear hk; (try clear k); refine hk _ ?_; clear hk; (try clear k)))) | (refine awp_ret ⟨.inr rfl, ?_⟩; (try simp [he, hw, h8])) | (refine awp_region (et := Try.et) Try.vtOK Try.etOK ?_; simp (maxSteps := 5000000) (disch := first | (intro _; intros; contradiction) | omega) [i64_in, u8_in, u64_in, vgd_t, vgd_f, wgd_t, wgd_f, i64_quo, u8_quo, Int.tmod_eq_emod_of_nonneg, he, hw, h8]; (repeat (refine ⟨(by first | omega | assumption), ?_⟩)); skip; guard_target =~ kl _) | (refine awp_region_draw (et := Try.et) Try.mixed Try.vtOK Try.etOK ?_; simp (maxSteps := 5000000) (disch := first | (intro _; intros; contradiction) | omega) [i64_in, u8_in, u64_in, vgd_t, vgd_f, wgd_t, wgd_f, i64_quo, u8_quo, Int.tmod_eq_emod_of_nonneg, he, hw, h8]; (repeat (refine ⟨(by first | omega | assumption), ?_⟩)); skip; refine ⟨by kernel_rfl, ?_⟩; guard_target =~ kl _) | (refine awp_seq' fun k hk => ?_) | (refine awp_block ?_))
          refine hkl _ _ _ (by omega) ⟨j + 1, rfl, by omega, rfl⟩ (weak_mk (by simp [hs]) (by simp) (by simp))
        | false =>
          rw [h8] at hs
          repeat' (first | ((first | refine awp_seq' fun k hk => awp_region (et := Try.et) Try.vtOK Try.etOK ?_ | refine awp_region (et := Try.et) Try.vtOK Try.etOK ?_); simp (maxSteps := 5000000) (disch := first | (intro _; intros; contradiction) | omega) [i64_in, u8_in, u64_in, vgd_t, vgd_f, wgd_t, wgd_f, i64_quo, u8_quo, Int.tmod_eq_emod_of_nonneg, he, hw, h8]; (repeat (refine ⟨(by first | omega | assumption), ?_⟩)); skip; (first | (refine hk _ ?_; clear hk; (try clear k)) | (clear hk; (try clear k); refine hk _ ?_; clear hk; (try clear k)) | (clear hk; (try clear k); clear hk; (try clear k); refine hk _ ?_; clear hk; (try clear k)) | (clear hk; (try clear k); clear hk; (try clear k); clear hk; (try clear k); refine hk _ ?_; clear hk; (try clear k)))) | ((first | refine awp_seq' fun k hk => awp_region_draw (et := Try.et) Try.mixed Try.vtOK Try.etOK ?_ | refine awp_region_draw (et := Try.et) Try.mixed Try.vtOK Try.etOK ?_); simp (maxSteps := 5000000) (disch := first | (intro _; intros; contradiction) | omega) [i64_in, u8_in, u64_in, vgd_t, vgd_f, wgd_t, wgd_f, i64_quo, u8_quo, Int.tmod_eq_emod_of_nonneg, he, hw, h8]; (repeat (refine ⟨(by first | omega | assumption), ?_⟩)); skip; refine ⟨by kernel_rfl, ?_⟩; (first | (refine hk _ ?_; clear hk; (try clear k)) | (clear hk; (try clear k); refine hk _ ?_; clear hk; (try clear k)) | (clear hk; (try clear k); clear hk; (try clear k); refine hk _ ?_; clear hk; (try clear k)) | (clear hk; (try clear k); clear hk; (try clear k); clear hk; (try clear k); refine hk _ ?_; clear hk; (try clear k)))) | (refine awp_cond rfl rfl (fun hc => ?_) (fun hc => ?_) <;> first | (exfalso; simp at hc; done) | (simp at hc) | skip) | (refine awp_skip ?_; (first | (refine hk _ ?_; clear hk; (try clear k)) | (clear hk; (try clear k); refine hk _ ?_; clear hk; (try clear k)) | (clear hk; (try clear k); clear hk; (try clear k); refine hk _ ?_; clear hk; (try clear k)) | (clear hk; (try clear k); clear hk; (try clear k); clear hk; (try clear k); refine hk _ ?_; clear hk; (try clear k)))) | (refine awp_ret ⟨.inr rfl, ?_⟩; (try simp [he, hw, h8])) | (refine awp_region (et := Try.et) Try.vtOK Try.etOK ?_; simp (maxSteps := 5000000) (disch := first | (intro _; intros; contradiction) | omega) [i64_in, u8_in, u64_in, vgd_t, vgd_f, wgd_t, wgd_f, i64_quo, u8_quo, Int.tmod_eq_emod_of_nonneg, he, hw, h8]; (repeat (refine ⟨(by first | omega | assumption), ?_⟩)); skip; guard_target =~ kl _) | (refine awp_region_draw (et := Try.et) Try.mixed Try.vtOK Try.etOK ?_; simp (maxSteps := 5000000) (disch := first | (intro _; intros; contradiction) | omega) [i64_in, u8_in, u64_in, vgd_t, vgd_f, wgd_t, wgd_f, i64_quo, u8_quo, Int.tmod_eq_emod_of_nonneg, he, hw, h8]; (repeat (refine ⟨(by first | omega | assumption), ?_⟩)); skip; refine ⟨by kernel_rfl, ?_⟩; guard_target =~ kl _) | (refine awp_seq' fun k hk => ?_) | (refine awp_block ?_))
          refine hkl _ _ _ (by omega) ⟨j + 1, rfl, by omega, rfl⟩ (weak_mk (by simp [hs]) (by simp) (by simp))
    · refine awp_exit ?_; simp at hc ⊢; clear hkl; obtain rfl : j = n.outs.length := (by omega); (first | (refine hk _ ?_; clear hk; (try clear k)) | (clear hk; (try clear k); refine hk _ ?_; clear hk; (try clear k)) | (clear hk; (try clear k); clear hk; (try clear k); refine hk _ ?_; clear hk; (try clear k)) | (clear hk; (try clear k); clear hk; (try clear k); clear hk; (try clear k); refine hk _ ?_; clear hk; (try clear k))); (try clear kl)
      repeat' (first | ((first | refine awp_seq' fun k hk => awp_region (et := Try.et) Try.vtOK Try.etOK ?_ | refine awp_region (et := Try.et) Try.vtOK Try.etOK ?_); simp (maxSteps := 5000000) (disch := first | (intro _; intros; contradiction) | omega) [i64_in, u8_in, u64_in, vgd_t, vgd_f, wgd_t, wgd_f, i64_quo, u8_quo, Int.tmod_eq_emod_of_nonneg]; (repeat (refine ⟨(by first | omega | assumption), ?_⟩)); skip; (first | (refine hk _ ?_; clear hk; (try clear k)) | (clear hk; (try clear k); refine hk _ ?_; clear hk; (try clear k)) | (clear hk; (try clear k); clear hk; (try clear k); refine hk _ ?_; clear hk; (try clear k)) | (clear hk; (try clear k); clear hk; (try clear k); clear hk; (try clear k); refine hk _ ?_; clear hk; (try clear k)))) | ((first | refine awp_seq' fun k hk => awp_region_draw (et := Try.et) Try.mixed Try.vtOK Try.etOK ?_ | refine awp_region_draw (et := Try.et) Try.mixed Try.vtOK Try.etOK ?_); simp (maxSteps := 5000000) (disch := first | (intro _; intros; contradiction) | omega) [i64_in, u8_in, u64_in, vgd_t, vgd_f, wgd_t, wgd_f, i64_quo, u8_quo, Int.tmod_eq_emod_of_nonneg]; (repeat (refine ⟨(by first | omega | assumption), ?_⟩)); skip; refine ⟨by kernel_rfl, ?_⟩; (first | (refine hk _ ?_; clear hk; (try clear k)) | (clear hk; (try clear k); refine hk _ ?_; clear hk; (try clear k)) | (clear hk; (try clear k); clear hk; (try clear k); refine hk _ ?_; clear hk; (try clear k)) | (clear hk; (try clear k); clear hk; (try clear k); clear hk; (try clear k); refine hk _ ?_; clear hk; (try clear k)))) | (refine awp_cond rfl rfl (fun hc => ?_) (fun hc => ?_) <;> first | (exfalso; simp at hc; done) | (simp at hc) | skip) | (refine awp_skip ?_; (first | (refine hk _ ?_; clear hk; (try clear k)) | (clear hk; (try clear k); refine hk _ ?_; clear hk; (try clear k)) | (clear hk; (try clear k); clear hk; (try clear k); refine hk _ ?_; clear hk; (try clear k)) | (clear hk; (try clear k); clear hk; (try clear k); clear hk; (try clear k); refine hk _ ?_; clear hk; (try clear k)))) | (refine awp_ret ⟨.inr rfl, ?_⟩; (try simp [])) | (refine awp_region (et := Try.et) Try.vtOK Try.etOK ?_; simp (maxSteps := 5000000) (disch := first | (intro _; intros; contradiction) | omega) [i64_in, u8_in, u64_in, vgd_t, vgd_f, wgd_t, wgd_f, i64_quo, u8_quo, Int.tmod_eq_emod_of_nonneg]; (repeat (refine ⟨(by first | omega | assumption), ?_⟩)); skip; guard_target =~ kl _) | (refine awp_region_draw (et := Try.et) Try.mixed Try.vtOK Try.etOK ?_; simp (maxSteps := 5000000) (disch := first | (intro _; intros; contradiction) | omega) [i64_in, u8_in, u64_in, vgd_t, vgd_f, wgd_t, wgd_f, i64_quo, u8_quo, Int.tmod_eq_emod_of_nonneg]; (repeat (refine ⟨(by first | omega | assumption), ?_⟩)); skip; refine ⟨by kernel_rfl, ?_⟩; guard_target =~ kl _) | (refine awp_seq' fun k hk => ?_) | (refine awp_block ?_))
      refine awp_for (fun q s => ∃ j : Nat, q = m.length - j ∧ j ≤ m.length ∧ s = ⟨[(12, tI .i64 j), (10, tI .i64 (chI m' m j : Nat)), (9, tB (enI n.outs i n.outs.length)), (8, tI .i64 i), (7, .c (.ptr 112 0)), (6, .c (.ptr 96 0)), (5, tB true), (3, .c (.ptr 48 0))], [(112, .box false [.d (.s (.bool false)), .d (dL R), .d (dLL M), .d (dB P), .d (dH U)]), (96, .box false n.c_), (48, .box false z.c_)]⟩) (m.length) (weak_mk (by simp) (by simp <;> first | exact lit rfl | exact .refl _ | exact .nil _) (by simp)) ⟨0, by simp, by simp, rfl⟩ ?_
      rintro q s ⟨j, rfl, hij, rfl⟩ kl hkl
      by_cases hj : j < m.length
      · have hj2 : j < m'.length := by omega
        have hs : chI m' m (j + 1) = if m'[j]?.getD 0 = m[j]?.getD 0 then chI m' m j else chI m' m j + 1 := rfl
        rw [List.getElem?_eq_getElem hj, List.getElem?_eq_getElem hj2, Option.getD_some, Option.getD_some] at hs
        have hc1 := (hch j).1
        have hc2 := (hch j).2
        generalize hx1 : m'[j] = x1 at *
        generalize hx2 : m[j] = x2 at *
        by_cases hxx : x1 = x2
        · rw [if_pos hxx] at hs
          have hq6 : (x1 != x2) = false := by simp [hxx]
          repeat' (first | ((first | refine awp_seq' fun k hk => awp_region (et := Try.et) Try.vtOK Try.etOK ?_ | refine awp_region (et := Try.et) Try.vtOK Try.etOK ?_); simp (maxSteps := 5000000) (disch := first | (intro _; intros; contradiction) | omega) [i64_in, u8_in, u64_in, vgd_t, vgd_f, wgd_t, wgd_f, i64_quo, u8_quo, Int.tmod_eq_emod_of_nonneg, hi, hi2, hm', hm, hx1, hx2, hq6, hj, hj2]; (repeat (refine ⟨(by first | omega | assumption), ?_⟩)); skip; (first | (refine hk _ ?_; clear hk; (try clear k)) | (clear hk; (try clear k); refine hk _ ?_; clear hk; (try clear k)) | (clear hk; (try clear k); clear hk; (try clear k); refine hk _ ?_; clear hk; (try clear k)) | (clear hk; (try clear k); clear hk; (try clear k); clear hk; (try clear k); refine hk _ ?_; clear hk; (try clear k)))) | ((first | refine awp_seq' fun k hk => awp_region_draw (et := Try.et) Try.mixed Try.vtOK Try.etOK ?_ | refine awp_region_draw (et := Try.et) Try.mixed Try.vtOK Try.etOK ?_); simp (maxSteps := 5000000) (disch := first | (intro _; intros; contradiction) | omega) [i64_in, u8_in, u64_in, vgd_t, vgd_f, wgd_t, wgd_f, i64_quo, u8_quo, Int.tmod_eq_emod_of_nonneg, hi, hi2, hm', hm, hx1, hx2, hq6, hj, hj2]; (repeat (refine ⟨(by first | omega | assumption), ?_⟩)); skip; refine ⟨by kernel_rfl, ?_⟩; (first | (refine hk _ ?_; clear hk; (try clear k)) | (clear hk; (try clear k); refine hk _ ?_; clear hk; (try clear k)) | (clear hk; (try clear k); clear hk; (try clear k); refine hk _ ?_; clear hk; (try clear k)) | (clear hk; (try clear k); clear hk; (try clear k); clear hk; (try clear k); refine hk _ ?_; clear hk; (try clear k)))) | (refine awp_cond rfl rfl (fun hc => ?_) (fun hc => ?_) <;> first | (exfalso; simp at hc; done) | (simp at hc) | skip) | (refine awp_skip ?_; (first | (refine hk _ ?_; clear hk; (try clear k)) | (clear hk; (try clear k); refine hk _ ?_; clear hk; (try clear k)) | (clear hk; (try clear k); clear hk; (try clear k); refine hk _ ?_; clear hk; (try clear k)) | (clear hk; (try clear k); clear hk; (try clear k); clear hk; (try clear k); refine hk _ ?_; clear hk; (try clear k)))) | (refine awp_ret ⟨.inr rfl, ?_⟩; (try simp [hi, hi2, hm', hm, hx1, hx2, hq6, hj, hj2])) | (refine awp_region (et := Try.et) Try.vtOK Try.etOK ?_; simp (maxSteps := 5000000) (disch := first | (intro _; intros; contradiction) | omega) [i64_in, u8_in, u64_in, vgd_t, vgd_f, wgd_t, wgd_f, i64_quo, u8_quo, Int.tmod_eq_emod_of_nonneg, hi, hi2, hm', hm, hx1, hx2, hq6, hj, hj2]; (repeat (refine ⟨(by first | omega | assumption), ?_⟩)); skip; guard_target =~ kl _) | (refine awp_region_draw (et := Try.et) Try.mixed Try.vtOK Try.etOK ?_; simp (maxSteps := 5000000) (disch := first | (intro _; intros; contradiction) | omega) [i64_in, u8_in, u64_in, vgd_t, vgd_f, wgd_t, wgd_f, i64_quo, u8_quo, Int.tmod_eq_emod_of_nonneg, hi, hi2, hm', hm, hx1, hx2, hq6, hj, hj2]; (repeat (refine ⟨(by first | omega | assumption), ?_⟩)); skip; refine ⟨by kernel_rfl, ?_⟩; guard_target =~ kl _) | (refine awp_seq' fun k hk => ?_) | (refine awp_block ?_))
          refine hkl _ _ _ (by omega) ⟨j + 1, rfl, by omega, rfl⟩ (weak_mk (by simp [hs]) (by simp) (by simp))
        · rw [if_neg hxx] at hs
          have hq6 : (x1 != x2) = true := by simp [hxx]
          repeat' (first | ((first | refine awp_seq' fun k hk => awp_region (et := Try.et) Try.vtOK Try.etOK ?_ | refine awp_region (et := Try.et) Try.vtOK Try.etOK ?_); simp (maxSteps := 5000000) (disch := first | (intro _; intros; contradiction) | omega) [i64_in, u8_in, u64_in, vgd_t, vgd_f, wgd_t, wgd_f, i64_quo, u8_quo, Int.tmod_eq_emod_of_nonneg, hi, hi2, hm', hm, hx1, hx2, hq6, hj, hj2]; (repeat (refine ⟨(by first | omega | assumption), ?_⟩)); skip; (first | (refine hk _ ?_; clear hk; (try clear k)) | (clear hk; (try clear k); refine hk _ ?_; clear hk; (try clear k)) | (clear hk; (try clear k); clear hk; (try clear k); refine hk _ ?_; clear hk; (try clear k)) | (clear hk; (try clear k); clear hk; (try clear k); clear hk; (try clear k); refine hk _ ?_; clear hk; (try clear k)))) | ((first | refine awp_seq' fun k hk => awp_region_draw (et := Try.et) Try.mixed Try.vtOK Try.etOK ?_ | refine awp_region_draw (et := Try.et) Try.mixed Try.vtOK Try.etOK ?_); simp (maxSteps := 5000000) (disch := first | (intro _; intros; contradiction) | omega) [i64_in, u8_in, u64_in, vgd_t, vgd_f, wgd_t, wgd_f, i64_quo, u8_quo, Int.tmod_eq_emod_of_nonneg, hi, hi2, hm', hm, hx1, hx2, hq6, hj, hj2]; (repeat (refine ⟨(by first | omega | assumption), ?_⟩)); skip; refine ⟨by kernel_rfl, ?_⟩; (first | (refine hk _ ?_; clear hk; (try clear k)) | (clear hk; (try clear k); refine hk _ ?_; clear hk; (try clear k)) | (clear hk; (try clear k); clear hk; (try clear k); refine hk _ ?_; clear hk; (try clear k)) | (clear hk; (try clear k); clear hk; (try clear k); clear hk; (try clear k); refine hk _ ?_; clear hk; (try clear k)))) | (refine awp_cond rfl rfl (fun hc => ?_) (fun hc => ?_) <;> first | (exfalso; simp at hc; done) | (simp at hc) | skip) | (refine awp_skip ?_; (first | (refine hk _ ?_; clear hk; (try clear k)) | (clear hk; (try clear k); refine hk _ ?_; clear hk; (try clear k)) | (clear hk; (try clear k); clear hk; (try clear k); refine hk _ ?_; clear hk; (try clear k)) | (clear hk; (try clear k); clear hk; (try clear k); clear hk; (try clear k); refine hk _ ?_; clear hk; (try clear k)))) | (refine awp_ret ⟨.inr rfl, ?_⟩; (try simp [hi, hi2, hm', hm, hx1, hx2, hq6, hj, hj2])) | (refine awp_region (et := Try.et) Try.vtOK Try.etOK ?_; simp (maxSteps := 5000000) (disch := first | (intro _; intros; contradiction) | omega) [i64_in, u8_in, u64_in, vgd_t, vgd_f, wgd_t, wgd_f, i64_quo, u8_quo, Int.tmod_eq_emod_of_nonneg, hi, hi2, hm', hm, hx1, hx2, hq6, hj, hj2]; (repeat (refine ⟨(by first | omega | assumption), ?_⟩)); skip; guard_target =~ kl _) | (refine awp_region_draw (et := Try.et) Try.mixed Try.vtOK Try.etOK ?_; simp (maxSteps := 5000000) (disch := first | (intro _; intros; contradiction) | omega) [i64_in, u8_in, u64_in, vgd_t, vgd_f, wgd_t, wgd_f, i64_quo, u8_quo, Int.tmod_eq_emod_of_nonneg, hi, hi2, hm', hm, hx1, hx2, hq6, hj, hj2]; (repeat (refine ⟨(by first | omega | assumption), ?_⟩)); skip; refine ⟨by kernel_rfl, ?_⟩; guard_target =~ kl _) | (refine awp_seq' fun k hk => ?_) | (refine awp_block ?_))
          refine hkl _ _ _ (by omega) ⟨j + 1, rfl, by omega, rfl⟩ (weak_mk (by simp [hs]) (by simp) (by simp))
      · repeat' (first | ((first | refine awp_seq' fun k hk => awp_region (et := Try.et) Try.vtOK Try.etOK ?_ | refine awp_region (et := Try.et) Try.vtOK Try.etOK ?_); simp (maxSteps := 5000000) (disch := first | (intro _; intros; contradiction) | omega) [i64_in, u8_in, u64_in, vgd_t, vgd_f, wgd_t, wgd_f, i64_quo, u8_quo, Int.tmod_eq_emod_of_nonneg, hi, hi2, hm', hm, hj]; (repeat (refine ⟨(by first | omega | assumption), ?_⟩)); skip; (first | (refine hk _ ?_; clear hk; (try clear k)) | (clear hk; (try clear k); refine hk _ ?_; clear hk; (try clear k)) | (clear hk; (try clear k); clear hk; (try clear k); refine hk _ ?_; clear hk; (try clear k)) | (clear hk; (try clear k); clear hk; (try clear k); clear hk; (try clear k); refine hk _ ?_; clear hk; (try clear k)))) | ((first | refine awp_seq' fun k hk => awp_region_draw (et := Try.et) Try.mixed Try.vtOK Try.etOK ?_ | refine awp_region_draw (et := Try.et) Try.mixed Try.vtOK Try.etOK ?_); simp (maxSteps := 5000000) (disch := first | (intro _; intros; contradiction) | omega) [i64_in, u8_in, u64_in, vgd_t, vgd_f, wgd_t, wgd_f, i64_quo, u8_quo, Int.tmod_eq_emod_of_nonneg, hi, hi2, hm', hm, hj]; (repeat (refine ⟨(by first | omega | assumption), ?_⟩)); skip; refine ⟨by kernel_rfl, ?_⟩; (first | (refine hk _ ?_; clear hk; (try clear k)) | (clear hk; (try clear k); refine hk _ ?_; clear hk; (try clear k)) | (clear hk; (try clear k); clear hk; (try clear k); refine hk _ ?_; clear hk; (try clear k)) | (clear hk; (try clear k); clear hk; (try clear k); clear hk; (try clear k); refine hk _ ?_; clear hk; (try clear k)))) | (refine awp_cond rfl rfl (fun hc => ?_) (fun hc => ?_) <;> first | (exfalso; simp at hc; done) | (simp at hc) | skip) | (refine awp_skip ?_; (first | (refine hk _ ?_; clear hk; (try clear k)) | (clear hk; (try clear k); refine hk _ ?_; clear hk; (try clear k)) | (clear hk; (try clear k); clear hk; (try clear k); refine hk _ ?_; clear hk; (try clear k)) | (clear hk; (try clear k); clear hk; (try clear k); clear hk; (try clear k); refine hk _ ?_; clear hk; (try clear k)))) | (refine awp_ret ⟨.inr rfl, ?_⟩; (try simp [hi, hi2, hm', hm, hj])) | (refine awp_region (et := Try.et) Try.vtOK Try.etOK ?_; simp (maxSteps := 5000000) (disch := first | (intro _; intros; contradiction) | omega) [i64_in, u8_in, u64_in, vgd_t, vgd_f, wgd_t, wgd_f, i64_quo, u8_quo, Int.tmod_eq_emod_of_nonneg, hi, hi2, hm', hm, hj]; (repeat (refine ⟨(by first | omega | assumption), ?_⟩)); skip; guard_target =~ kl _) | (refine awp_region_draw (et := Try.et) Try.mixed Try.vtOK Try.etOK ?_; simp (maxSteps := 5000000) (disch := first | (intro _; intros; contradiction) | omega) [i64_in, u8_in, u64_in, vgd_t, vgd_f, wgd_t, wgd_f, i64_quo, u8_quo, Int.tmod_eq_emod_of_nonneg, hi, hi2, hm', hm, hj]; (repeat (refine ⟨(by first | omega | assumption), ?_⟩)); skip; refine ⟨by kernel_rfl, ?_⟩; guard_target =~ kl _) | (refine awp_seq' fun k hk => ?_) | (refine awp_block ?_))
        refine awp_exit ?_; simp at hc ⊢; clear hkl; obtain rfl : j = m.length := (by omega); (first | (refine hk _ ?_; clear hk; (try clear k)) | (clear hk; (try clear k); refine hk _ ?_; clear hk; (try clear k)) | (clear hk; (try clear k); clear hk; (try clear k); refine hk _ ?_; clear hk; (try clear k)) | (clear hk; (try clear k); clear hk; (try clear k); clear hk; (try clear k); refine hk _ ?_; clear hk; (try clear k))); (try clear kl)
        have hc1 := (hch m.length).1
        have hc2 := (hch m.length).2
        rcases (by omega : chI m' m m.length = 0 ∨ chI m' m m.length = 1) with h0 | h0
        · repeat' (first | ((first | refine awp_seq' fun k hk => awp_region (et := Try.et) Try.vtOK Try.etOK ?_ | refine awp_region (et := Try.et) Try.vtOK Try.etOK ?_); simp (maxSteps := 5000000) (disch := first | (intro _; intros; contradiction) | omega) [i64_in, u8_in, u64_in, vgd_t, vgd_f, wgd_t, wgd_f, i64_quo, u8_quo, Int.tmod_eq_emod_of_nonneg, h0]; (repeat (refine ⟨(by first | omega | assumption), ?_⟩)); skip; (first | (refine hk _ ?_; clear hk; (try clear k)) | (clear hk; (try clear k); refine hk _ ?_; clear hk; (try clear k)) | (clear hk; (try clear k); clear hk; (try clear k); refine hk _ ?_; clear hk; (try clear k)) | (clear hk; (try clear k); clear hk; (try clear k); clear hk; (try clear k); refine hk _ ?_; clear hk; (try clear k)))) | ((first | refine awp_seq' fun k hk => awp_region_draw (et := Try.et) Try.mixed Try.vtOK Try.etOK ?_ | refine awp_region_draw (et := Try.et) Try.mixed Try.vtOK Try.etOK ?_); simp (maxSteps := 5000000) (disch := first | (intro _; intros; contradiction) | omega) [i64_in, u8_in, u64_in, vgd_t, vgd_f, wgd_t, wgd_f, i64_quo, u8_quo, Int.tmod_eq_emod_of_nonneg, h0]; (repeat (refine ⟨(by first | omega | assumption), ?_⟩)); skip; refine ⟨by kernel_rfl, ?_⟩; (first | (refine hk _ ?_; clear hk; (try clear k)) | (clear hk; (try clear k); refine hk _ ?_; clear hk; (try clear k)) | (clear hk; (try clear k); clear hk; (try clear k); refine hk _ ?_; clear hk; (try clear k)) | (clear hk; (try clear k); clear hk; (try clear k); clear hk; (try clear k); refine hk _ ?_; clear hk; (try clear k)))) | (refine awp_cond rfl rfl (fun hc => ?_) (fun hc => ?_) <;> first | (exfalso; simp at hc; done) | (simp at hc) | skip) | (refine awp_skip ?_; (first | (refine hk _ ?_; clear hk; (try clear k)) | (clear hk; (try clear k); refine hk _ ?_; clear hk; (try clear k)) | (clear hk; (try clear k); clear hk; (try clear k); refine hk _ ?_; clear hk; (try clear k)) | (clear hk; (try clear k); clear hk; (try clear k); clear hk; (try clear k); refine hk _ ?_; clear hk; (try clear k)))) | (refine awp_ret ⟨.inr rfl, ?_⟩; (try simp [h0])) | (refine awp_region (et := Try.et) Try.vtOK Try.etOK ?_; simp (maxSteps := 5000000) (disch := first | (intro _; intros; contradiction) | omega) [i64_in, u8_in, u64_in, vgd_t, vgd_f, wgd_t, wgd_f, i64_quo, u8_quo, Int.tmod_eq_emod_of_nonneg, h0]; (repeat (refine ⟨(by first | omega | assumption), ?_⟩)); skip; guard_target =~ kl _) | (refine awp_region_draw (et := Try.et) Try.mixed Try.vtOK Try.etOK ?_; simp (maxSteps := 5000000) (disch := first | (intro _; intros; contradiction) | omega) [i64_in, u8_in, u64_in, vgd_t, vgd_f, wgd_t, wgd_f, i64_quo, u8_quo, Int.tmod_eq_emod_of_nonneg, h0]; (repeat (refine ⟨(by first | omega | assumption), ?_⟩)); skip; refine ⟨by kernel_rfl, ?_⟩; guard_target =~ kl _) | (refine awp_seq' fun k hk => ?_) | (refine awp_block ?_))
          refine hkl _ _ _ (by omega) ⟨i + 1, rfl, by omega, rfl⟩ (weak_mk (by simp) (by simp) (by simp))
        · have h1 := hc2 (by omega)
          repeat' (first | ((first | refine awp_seq' fun k hk => awp_region (et := Try.et) Try.vtOK Try.etOK ?_ | refine awp_region (et := Try.et) Try.vtOK Try.etOK ?_); simp (maxSteps := 5000000) (disch := first | (intro _; intros; contradiction) | omega) [i64_in, u8_in, u64_in, vgd_t, vgd_f, wgd_t, wgd_f, i64_quo, u8_quo, Int.tmod_eq_emod_of_nonneg, h0, h1]; (repeat (refine ⟨(by first | omega | assumption), ?_⟩)); skip; (first | (refine hk _ ?_; clear hk; (try clear k)) | (clear hk; (try clear k); refine hk _ ?_; clear hk; (try clear k)) | (clear hk; (try clear k); clear hk; (try clear k); refine hk _ ?_; clear hk; (try clear k)) | (clear hk; (try clear k); clear hk; (try clear k); clear hk; (try clear k); refine hk _ ?_; clear hk; (try clear k)))) | ((first | refine awp_seq' fun k hk => awp_region_draw (et := Try.et) Try.mixed Try.vtOK Try.etOK ?_ | refine awp_region_draw (et := Try.et) Try.mixed Try.vtOK Try.etOK ?_); simp (maxSteps := 5000000) (disch := first | (intro _; intros; contradiction) | omega) [i64_in, u8_in, u64_in, vgd_t, vgd_f, wgd_t, wgd_f, i64_quo, u8_quo, Int.tmod_eq_emod_of_nonneg, h0, h1]; (repeat (refine ⟨(by first | omega | assumption), ?_⟩)); skip; refine ⟨by kernel_rfl, ?_⟩; (first | (refine hk _ ?_; clear hk; (try clear k)) | (clear hk; (try clear k); refine hk _ ?_; clear hk; (try clear k)) | (clear hk; (try clear k); clear hk; (try clear k); refine hk _ ?_; clear hk; (try clear k)) | (clear hk; (try clear k); clear hk; (try clear k); clear hk; (try clear k); refine hk _ ?_; clear hk; (try clear k)))) | (refine awp_cond rfl rfl (fun hc => ?_) (fun hc => ?_) <;> first | (exfalso; simp at hc; done) | (simp at hc) | skip) | (refine awp_skip ?_; (first | (refine hk _ ?_; clear hk; (try clear k)) | (clear hk; (try clear k); refine hk _ ?_; clear hk; (try clear k)) | (clear hk; (try clear k); clear hk; (try clear k); refine hk _ ?_; clear hk; (try clear k)) | (clear hk; (try clear k); clear hk; (try clear k); clear hk; (try clear k); refine hk _ ?_; clear hk; (try clear k)))) | (refine awp_ret ⟨.inr rfl, ?_⟩; (try simp [h0, h1])) | (refine awp_region (et := Try.et) Try.vtOK Try.etOK ?_; simp (maxSteps := 5000000) (disch := first | (intro _; intros; contradiction) | omega) [i64_in, u8_in, u64_in, vgd_t, vgd_f, wgd_t, wgd_f, i64_quo, u8_quo, Int.tmod_eq_emod_of_nonneg, h0, h1]; (repeat (refine ⟨(by first | omega | assumption), ?_⟩)); skip; guard_target =~ kl _) | (refine awp_region_draw (et := Try.et) Try.mixed Try.vtOK Try.etOK ?_; simp (maxSteps := 5000000) (disch := first | (intro _; intros; contradiction) | omega) [i64_in, u8_in, u64_in, vgd_t, vgd_f, wgd_t, wgd_f, i64_quo, u8_quo, Int.tmod_eq_emod_of_nonneg, h0, h1]; (repeat (refine ⟨(by first | omega | assumption), ?_⟩)); skip; refine ⟨by kernel_rfl, ?_⟩; guard_target =~ kl _) | (refine awp_seq' fun k hk => ?_) | (refine awp_block ?_))
          refine hkl _ _ _ (by omega) ⟨i + 1, rfl, by omega, rfl⟩ (weak_mk (by simp) (by simp) (by simp))
  · have hI1 : ¬ (i : Int) < z.mems.length := by omega
    repeat' (first | ((first | refine awp_seq' fun k hk => awp_region (et := Try.et) Try.vtOK Try.etOK ?_ | refine awp_region (et := Try.et) Try.vtOK Try.etOK ?_); simp (maxSteps := 5000000) (disch := first | (intro _; intros; contradiction) | omega) [i64_in, u8_in, u64_in, vgd_t, vgd_f, wgd_t, wgd_f, i64_quo, u8_quo, Int.tmod_eq_emod_of_nonneg, hi]; (repeat (refine ⟨(by first | omega | assumption), ?_⟩)); skip; (first | (refine hk _ ?_; clear hk; (try clear k)) | (clear hk; (try clear k); refine hk _ ?_; clear hk; (try clear k)) | (clear hk; (try clear k); clear hk; (try clear k); refine hk _ ?_; clear hk; (try clear k)) | (clear hk; (try clear k); clear hk; (try clear k); clear hk; (try clear k); refine hk _ ?_; clear hk; (try clear k)))) | ((first | refine awp_seq' fun k hk => awp_region_draw (et := Try.et) Try.mixed Try.vtOK Try.etOK ?_ | refine awp_region_draw (et := Try.et) Try.mixed Try.vtOK Try.etOK ?_); simp (maxSteps := 5000000) (disch := first | (intro _; intros; contradiction) | omega) [i64_in, u8_in, u64_in, vgd_t, vgd_f, wgd_t, wgd_f, i64_quo, u8_quo, Int.tmod_eq_emod_of_nonneg, hi]; (repeat (refine ⟨(by first | omega | assumption), ?_⟩)); skip; refine ⟨by kernel_rfl, ?_⟩; (first | (refine hk _ ?_; clear hk; (try clear k)) | (clear hk; (try clear k); refine hk _ ?_; clear hk; (try clear k)) | (clear hk; (try clear k); clear hk; (try clear k); refine hk _ ?_; clear hk; (try clear k)) | (clear hk; (try clear k); clear hk; (try clear k); clear hk; (try clear k); refine hk _ ?_; clear hk; (try clear k)))) | (refine awp_cond rfl rfl (fun hc => ?_) (fun hc => ?_) <;> first | (exfalso; simp at hc; done) | (simp at hc) | skip) | (refine awp_skip ?_; (first | (refine hk _ ?_; clear hk; (try clear k)) | (clear hk; (try clear k); refine hk _ ?_; clear hk; (try clear k)) | (clear hk; (try clear k); clear hk; (try clear k); refine hk _ ?_; clear hk; (try clear k)) | (clear hk; (try clear k); clear hk; (try clear k); clear hk; (try clear k); refine hk _ ?_; clear hk; (try clear k)))) | (refine awp_ret ⟨.inr rfl, ?_⟩; (try simp [hi])) | (refine awp_region (et := Try.et) Try.vtOK Try.etOK ?_; simp (maxSteps := 5000000) (disch := first | (intro _; intros; contradiction) | omega) [i64_in, u8_in, u64_in, vgd_t, vgd_f, wgd_t, wgd_f, i64_quo, u8_quo, Int.tmod_eq_emod_of_nonneg, hi]; (repeat (refine ⟨(by first | omega | assumption), ?_⟩)); skip; guard_target =~ kl _) | (refine awp_region_draw (et := Try.et) Try.mixed Try.vtOK Try.etOK ?_; simp (maxSteps := 5000000) (disch := first | (intro _; intros; contradiction) | omega) [i64_in, u8_in, u64_in, vgd_t, vgd_f, wgd_t, wgd_f, i64_quo, u8_quo, Int.tmod_eq_emod_of_nonneg, hi]; (repeat (refine ⟨(by first | omega | assumption), ?_⟩)); skip; refine ⟨by kernel_rfl, ?_⟩; guard_target =~ kl _) | (refine awp_seq' fun k hk => ?_) | (refine awp_block ?_))
    refine awp_exit ?_; simp at hc ⊢; clear hkl; obtain rfl : i = z.mems.length := (by omega); (first | (refine hk _ ?_; clear hk; (try clear k)) | (clear hk; (try clear k); refine hk _ ?_; clear hk; (try clear k)) | (clear hk; (try clear k); clear hk; (try clear k); refine hk _ ?_; clear hk; (try clear k)) | (clear hk; (try clear k); clear hk; (try clear k); clear hk; (try clear k); refine hk _ ?_; clear hk; (try clear k))); (try clear kl)
    repeat' (first | ((first | refine awp_seq' fun k hk => awp_region (et := Try.et) Try.vtOK Try.etOK ?_ | refine awp_region (et := Try.et) Try.vtOK Try.etOK ?_); simp (maxSteps := 5000000) (disch := first | (intro _; intros; contradiction) | omega) [i64_in, u8_in, u64_in, vgd_t, vgd_f, wgd_t, wgd_f, i64_quo, u8_quo, Int.tmod_eq_emod_of_nonneg]; (repeat (refine ⟨(by first | omega | assumption), ?_⟩)); skip; (first | (refine hk _ ?_; clear hk; (try clear k)) | (clear hk; (try clear k); refine hk _ ?_; clear hk; (try clear k)) | (clear hk; (try clear k); clear hk; (try clear k); refine hk _ ?_; clear hk; (try clear k)) | (clear hk; (try clear k); clear hk; (try clear k); clear hk; (try clear k); refine hk _ ?_; clear hk; (try clear k)))) | ((first | refine awp_seq' fun k hk => awp_region_draw (et := Try.et) Try.mixed Try.vtOK Try.etOK ?_ | refine awp_region_draw (et := Try.et) Try.mixed Try.vtOK Try.etOK ?_); simp (maxSteps := 5000000) (disch := first | (intro _; intros; contradiction) | omega) [i64_in, u8_in, u64_in, vgd_t, vgd_f, wgd_t, wgd_f, i64_quo, u8_quo, Int.tmod_eq_emod_of_nonneg]; (repeat (refine ⟨(by first | omega | assumption), ?_⟩)); skip; refine ⟨by kernel_rfl, ?_⟩; (first | (refine hk _ ?_; clear hk; (try clear k)) | (clear hk; (try clear k); refine hk _ ?_; clear hk; (try clear k)) | (clear hk; (try clear k); clear hk; (try clear k); refine hk _ ?_; clear hk; (try clear k)) | (clear hk; (try clear k); clear hk; (try clear k); clear hk; (try clear k); refine hk _ ?_; clear hk; (try clear k)))) | (refine awp_cond rfl rfl (fun hc => ?_) (fun hc => ?_) <;> first | (exfalso; simp at hc; done) | (simp at hc) | skip) | (refine awp_skip ?_; (first | (refine hk _ ?_; clear hk; (try clear k)) | (clear hk; (try clear k); refine hk _ ?_; clear hk; (try clear k)) | (clear hk; (try clear k); clear hk; (try clear k); refine hk _ ?_; clear hk; (try clear k)) | (clear hk; (try clear k); clear hk; (try clear k); clear hk; (try clear k); refine hk _ ?_; clear hk; (try clear k)))) | (refine awp_ret ⟨.inr rfl, ?_⟩; (try simp [])) | (refine awp_region (et := Try.et) Try.vtOK Try.etOK ?_; simp (maxSteps := 5000000) (disch := first | (intro _; intros; contradiction) | omega) [i64_in, u8_in, u64_in, vgd_t, vgd_f, wgd_t, wgd_f, i64_quo, u8_quo, Int.tmod_eq_emod_of_nonneg]; (repeat (refine ⟨(by first | omega | assumption), ?_⟩)); skip; guard_target =~ kl _) | (refine awp_region_draw (et := Try.et) Try.mixed Try.vtOK Try.etOK ?_; simp (maxSteps := 5000000) (disch := first | (intro _; intros; contradiction) | omega) [i64_in, u8_in, u64_in, vgd_t, vgd_f, wgd_t, wgd_f, i64_quo, u8_quo, Int.tmod_eq_emod_of_nonneg]; (repeat (refine ⟨(by first | omega | assumption), ?_⟩)); skip; refine ⟨by kernel_rfl, ?_⟩; guard_target =~ kl _) | (refine awp_seq' fun k hk => ?_) | (refine awp_block ?_))
    refine awp_for (fun q s => ∃ i : Nat, q = U.length - i ∧ i ≤ U.length ∧ s = ⟨[(13, tI .i64 i), (7, .c (.ptr 112 0)), (5, tB true)], [(112, .box false [.d (.s (.bool false)), .d (dL R), .d (dLL M), .d (dB P), .d (dH U)])]⟩) (U.length) (weak_mk (by simp) (by simp <;> first | exact lit rfl | exact .refl _ | exact .nil _) (by simp)) ⟨0, by simp, by simp, rfl⟩ ?_
    rintro q s ⟨i, rfl, hii, rfl⟩ kl hkl
    by_cases hi : i < U.length
    · have hu := hUi i hi
      obtain ⟨uh, huh⟩ : ∃ b, U[i].1 = b := ⟨_, rfl⟩
      obtain ⟨uv, huv⟩ : ∃ b, U[i].2 = b := ⟨_, rfl⟩
      rw [huh, huv] at hu
      cases uh with
      | true =>
        repeat' (first | ((first | refine awp_seq' fun k hk => awp_region (et := Try.et) Try.vtOK Try.etOK ?_ | refine awp_region (et := Try.et) Try.vtOK Try.etOK ?_); simp (maxSteps := 5000000) (disch := first | (intro _; intros; contradiction) | omega) [i64_in, u8_in, u64_in, vgd_t, vgd_f, wgd_t, wgd_f, i64_quo, u8_quo, Int.tmod_eq_emod_of_nonneg, hi, huh, huv]; (repeat (refine ⟨(by first | omega | assumption), ?_⟩)); skip; (first | (refine hk _ ?_; clear hk; (try clear k)) | (clear hk; (try clear k); refine hk _ ?_; clear hk; (try clear k)) | (clear hk; (try clear k); clear hk; (try clear k); refine hk _ ?_; clear hk; (try clear k)) | (clear hk; (try clear k); clear hk; (try clear k); clear hk; (try clear k); refine hk _ ?_; clear hk; (try clear k)))) | ((first | refine awp_seq' fun k hk => awp_region_draw (et := Try.et) Try.mixed Try.vtOK Try.etOK ?_ | refine awp_region_draw (et := Try.et) Try.mixed Try.vtOK Try.etOK ?_); simp (maxSteps := 5000000) (disch := first | (intro _; intros; contradiction) | omega) [i64_in, u8_in, u64_in, vgd_t, vgd_f, wgd_t, wgd_f, i64_quo, u8_quo, Int.tmod_eq_emod_of_nonneg, hi, huh, huv]; (repeat (refine ⟨(by first | omega | assumption), ?_⟩)); skip; refine ⟨by kernel_rfl, ?_⟩; (first | (refine hk _ ?_; clear hk; (try clear k)) | (clear hk; (try clear k); refine hk _ ?_; clear hk; (try clear k)) | (clear hk; (try clear k); clear hk; (try clear k); refine hk _ ?_; clear hk; (try clear k)) | (clear hk; (try clear k); clear hk; (try clear k); clear hk; (try clear k); refine hk _ ?_; clear hk; (try clear k)))) | (refine awp_cond rfl rfl (fun hc => ?_) (fun hc => ?_) <;> first | (exfalso; simp at hc; done) | (simp at hc) | skip) | (refine awp_skip ?_; (first | (refine hk _ ?_; clear hk; (try clear k)) | (clear hk; (try clear k); refine hk _ ?_; clear hk; (try clear k)) | (clear hk; (try clear k); clear hk; (try clear k); refine hk _ ?_; clear hk; (try clear k)) | (clear hk; (try clear k); clear hk; (try clear k); clear hk; (try clear k); refine hk _ ?_; clear hk; (try clear k)))) | (refine awp_ret ⟨.inr rfl, ?_⟩; (try simp [hi, huh, huv])) | (refine awp_region (et := Try.et) Try.vtOK Try.etOK ?_; simp (maxSteps := 5000000) (disch := first | (intro _; intros; contradiction) | omega) [i64_in, u8_in, u64_in, vgd_t, vgd_f, wgd_t, wgd_f, i64_quo, u8_quo, Int.tmod_eq_emod_of_nonneg, hi, huh, huv]; (repeat (refine ⟨(by first | omega | assumption), ?_⟩)); skip; guard_target =~ kl _) | (refine awp_region_draw (et := Try.et) Try.mixed Try.vtOK Try.etOK ?_; simp (maxSteps := 5000000) (disch := first | (intro _; intros; contradiction) | omega) [i64_in, u8_in, u64_in, vgd_t, vgd_f, wgd_t, wgd_f, i64_quo, u8_quo, Int.tmod_eq_emod_of_nonneg, hi, huh, huv]; (repeat (refine ⟨(by first | omega | assumption), ?_⟩)); skip; refine ⟨by kernel_rfl, ?_⟩; guard_target =~ kl _) | (refine awp_seq' fun k hk => ?_) | (refine awp_block ?_))
        refine hkl _ _ _ (by omega) ⟨i + 1, rfl, by omega, rfl⟩ (weak_mk (by simp) ?_ (by simp)); (try simp)
      | false =>
        have hu0 := hu rfl
        subst hu0
        repeat' (first | ((first | refine awp_seq' fun k hk => awp_region (et := Try.et) Try.vtOK Try.etOK ?_ | refine awp_region (et := Try.et) Try.vtOK Try.etOK ?_); simp (maxSteps := 5000000) (disch := first | (intro _; intros; contradiction) | omega) [i64_in, u8_in, u64_in, vgd_t, vgd_f, wgd_t, wgd_f, i64_quo, u8_quo, Int.tmod_eq_emod_of_nonneg, hi, huh, huv]; (repeat (refine ⟨(by first | omega | assumption), ?_⟩)); skip; (first | (refine hk _ ?_; clear hk; (try clear k)) | (clear hk; (try clear k); refine hk _ ?_; clear hk; (try clear k)) | (clear hk; (try clear k); clear hk; (try clear k); refine hk _ ?_; clear hk; (try clear k)) | (clear hk; (try clear k); clear hk; (try clear k); clear hk; (try clear k); refine hk _ ?_; clear hk; (try clear k)))) | ((first | refine awp_seq' fun k hk => awp_region_draw (et := Try.et) Try.mixed Try.vtOK Try.etOK ?_ | refine awp_region_draw (et := Try.et) Try.mixed Try.vtOK Try.etOK ?_); simp (maxSteps := 5000000) (disch := first | (intro _; intros; contradiction) | omega) [i64_in, u8_in, u64_in, vgd_t, vgd_f, wgd_t, wgd_f, i64_quo, u8_quo, Int.tmod_eq_emod_of_nonneg, hi, huh, huv]; (repeat (refine ⟨(by first | omega | assumption), ?_⟩)); skip; refine ⟨by kernel_rfl, ?_⟩; (first | (refine hk _ ?_; clear hk; (try clear k)) | (clear hk; (try clear k); refine hk _ ?_; clear hk; (try clear k)) | (clear hk; (try clear k); clear hk; (try clear k); refine hk _ ?_; clear hk; (try clear k)) | (clear hk; (try clear k); clear hk; (try clear k); clear hk; (try clear k); refine hk _ ?_; clear hk; (try clear k)))) | (refine awp_cond rfl rfl (fun hc => ?_) (fun hc => ?_) <;> first | (exfalso; simp at hc; done) | (simp at hc) | skip) | (refine awp_skip ?_; (first | (refine hk _ ?_; clear hk; (try clear k)) | (clear hk; (try clear k); refine hk _ ?_; clear hk; (try clear k)) | (clear hk; (try clear k); clear hk; (try clear k); refine hk _ ?_; clear hk; (try clear k)) | (clear hk; (try clear k); clear hk; (try clear k); clear hk; (try clear k); refine hk _ ?_; clear hk; (try clear k)))) | (refine awp_ret ⟨.inr rfl, ?_⟩; (try simp [hi, huh, huv])) | (refine awp_region (et := Try.et) Try.vtOK Try.etOK ?_; simp (maxSteps := 5000000) (disch := first | (intro _; intros; contradiction) | omega) [i64_in, u8_in, u64_in, vgd_t, vgd_f, wgd_t, wgd_f, i64_quo, u8_quo, Int.tmod_eq_emod_of_nonneg, hi, huh, huv]; (repeat (refine ⟨(by first | omega | assumption), ?_⟩)); skip; guard_target =~ kl _) | (refine awp_region_draw (et := Try.et) Try.mixed Try.vtOK Try.etOK ?_; simp (maxSteps := 5000000) (disch := first | (intro _; intros; contradiction) | omega) [i64_in, u8_in, u64_in, vgd_t, vgd_f, wgd_t, wgd_f, i64_quo, u8_quo, Int.tmod_eq_emod_of_nonneg, hi, huh, huv]; (repeat (refine ⟨(by first | omega | assumption), ?_⟩)); skip; refine ⟨by kernel_rfl, ?_⟩; guard_target =~ kl _) | (refine awp_seq' fun k hk => ?_) | (refine awp_block ?_))
        refine hkl _ _ _ (by omega) ⟨i + 1, rfl, by omega, rfl⟩ (weak_mk (by simp) ?_ (by simp)); (try simp)
    · repeat' (first | ((first | refine awp_seq' fun k hk => awp_region (et := Try.et) Try.vtOK Try.etOK ?_ | refine awp_region (et := Try.et) Try.vtOK Try.etOK ?_); simp (maxSteps := 5000000) (disch := first | (intro _; intros; contradiction) | omega) [i64_in, u8_in, u64_in, vgd_t, vgd_f, wgd_t, wgd_f, i64_quo, u8_quo, Int.tmod_eq_emod_of_nonneg, hi]; (repeat (refine ⟨(by first | omega | assumption), ?_⟩)); skip; (first | (refine hk _ ?_; clear hk; (try clear k)) | (clear hk; (try clear k); refine hk _ ?_; clear hk; (try clear k)) | (clear hk; (try clear k); clear hk; (try clear k); refine hk _ ?_; clear hk; (try clear k)) | (clear hk; (try clear k); clear hk; (try clear k); clear hk; (try clear k); refine hk _ ?_; clear hk; (try clear k)))) | ((first | refine awp_seq' fun k hk => awp_region_draw (et := Try.et) Try.mixed Try.vtOK Try.etOK ?_ | refine awp_region_draw (et := Try.et) Try.mixed Try.vtOK Try.etOK ?_); simp (maxSteps := 5000000) (disch := first | (intro _; intros; contradiction) | omega) [i64_in, u8_in, u64_in, vgd_t, vgd_f, wgd_t, wgd_f, i64_quo, u8_quo, Int.tmod_eq_emod_of_nonneg, hi]; (repeat (refine ⟨(by first | omega | assumption), ?_⟩)); skip; refine ⟨by kernel_rfl, ?_⟩; (first | (refine hk _ ?_; clear hk; (try clear k)) | (clear hk; (try clear k); refine hk _ ?_; clear hk; (try clear k)) | (clear hk; (try clear k); clear hk; (try clear k); refine hk _ ?_; clear hk; (try clear k)) | (clear hk; (try clear k); clear hk; (try clear k); clear hk; (try clear k); refine hk _ ?_; clear hk; (try clear k)))) | (refine awp_cond rfl rfl (fun hc => ?_) (fun hc => ?_) <;> first | (exfalso; simp at hc; done) | (simp at hc) | skip) | (refine awp_skip ?_; (first | (refine hk _ ?_; clear hk; (try clear k)) | (clear hk; (try clear k); refine hk _ ?_; clear hk; (try clear k)) | (clear hk; (try clear k); clear hk; (try clear k); refine hk _ ?_; clear hk; (try clear k)) | (clear hk; (try clear k); clear hk; (try clear k); clear hk; (try clear k); refine hk _ ?_; clear hk; (try clear k)))) | (refine awp_ret ⟨.inr rfl, ?_⟩; (try simp [hi])) | (refine awp_region (et := Try.et) Try.vtOK Try.etOK ?_; simp (maxSteps := 5000000) (disch := first | (intro _; intros; contradiction) | omega) [i64_in, u8_in, u64_in, vgd_t, vgd_f, wgd_t, wgd_f, i64_quo, u8_quo, Int.tmod_eq_emod_of_nonneg, hi]; (repeat (refine ⟨(by first | omega | assumption), ?_⟩)); skip; guard_target =~ kl _) | (refine awp_region_draw (et := Try.et) Try.mixed Try.vtOK Try.etOK ?_; simp (maxSteps := 5000000) (disch := first | (intro _; intros; contradiction) | omega) [i64_in, u8_in, u64_in, vgd_t, vgd_f, wgd_t, wgd_f, i64_quo, u8_quo, Int.tmod_eq_emod_of_nonneg, hi]; (repeat (refine ⟨(by first | omega | assumption), ?_⟩)); skip; refine ⟨by kernel_rfl, ?_⟩; guard_target =~ kl _) | (refine awp_seq' fun k hk => ?_) | (refine awp_block ?_))
      refine awp_exit ?_; simp at hc ⊢; clear hkl; obtain rfl : i = U.length := (by omega); (first | (refine hk _ ?_; clear hk; (try clear k)) | (clear hk; (try clear k); refine hk _ ?_; clear hk; (try clear k)) | (clear hk; (try clear k); clear hk; (try clear k); refine hk _ ?_; clear hk; (try clear k)) | (clear hk; (try clear k); clear hk; (try clear k); clear hk; (try clear k); refine hk _ ?_; clear hk; (try clear k))); (try clear kl)
      repeat' (first | ((first | refine awp_seq' fun k hk => awp_region (et := Try.et) Try.vtOK Try.etOK ?_ | refine awp_region (et := Try.et) Try.vtOK Try.etOK ?_); simp (maxSteps := 5000000) (disch := first | (intro _; intros; contradiction) | omega) [i64_in, u8_in, u64_in, vgd_t, vgd_f, wgd_t, wgd_f, i64_quo, u8_quo, Int.tmod_eq_emod_of_nonneg]; (repeat (refine ⟨(by first | omega | assumption), ?_⟩)); skip; (first | (refine hk _ ?_; clear hk; (try clear k)) | (clear hk; (try clear k); refine hk _ ?_; clear hk; (try clear k)) | (clear hk; (try clear k); clear hk; (try clear k); refine hk _ ?_; clear hk; (try clear k)) | (clear hk; (try clear k); clear hk; (try clear k); clear hk; (try clear k); refine hk _ ?_; clear hk; (try clear k)))) | ((first | refine awp_seq' fun k hk => awp_region_draw (et := Try.et) Try.mixed Try.vtOK Try.etOK ?_ | refine awp_region_draw (et := Try.et) Try.mixed Try.vtOK Try.etOK ?_); simp (maxSteps := 5000000) (disch := first | (intro _; intros; contradiction) | omega) [i64_in, u8_in, u64_in, vgd_t, vgd_f, wgd_t, wgd_f, i64_quo, u8_quo, Int.tmod_eq_emod_of_nonneg]; (repeat (refine ⟨(by first | omega | assumption), ?_⟩)); skip; refine ⟨by kernel_rfl, ?_⟩; (first | (refine hk _ ?_; clear hk; (try clear k)) | (clear hk; (try clear k); refine hk _ ?_; clear hk; (try clear k)) | (clear hk; (try clear k); clear hk; (try clear k); refine hk _ ?_; clear hk; (try clear k)) | (clear hk; (try clear k); clear hk; (try clear k); clear hk; (try clear k); refine hk _ ?_; clear hk; (try clear k)))) | (refine awp_cond rfl rfl (fun hc => ?_) (fun hc => ?_) <;> first | (exfalso; simp at hc; done) | (simp at hc) | skip) | (refine awp_skip ?_; (first | (refine hk _ ?_; clear hk; (try clear k)) | (clear hk; (try clear k); refine hk _ ?_; clear hk; (try clear k)) | (clear hk; (try clear k); clear hk; (try clear k); refine hk _ ?_; clear hk; (try clear k)) | (clear hk; (try clear k); clear hk; (try clear k); clear hk; (try clear k); refine hk _ ?_; clear hk; (try clear k)))) | (refine awp_ret ⟨.inr rfl, ?_⟩; (try simp [])) | (refine awp_region (et := Try.et) Try.vtOK Try.etOK ?_; simp (maxSteps := 5000000) (disch := first | (intro _; intros; contradiction) | omega) [i64_in, u8_in, u64_in, vgd_t, vgd_f, wgd_t, wgd_f, i64_quo, u8_quo, Int.tmod_eq_emod_of_nonneg]; (repeat (refine ⟨(by first | omega | assumption), ?_⟩)); skip; guard_target =~ kl _) | (refine awp_region_draw (et := Try.et) Try.mixed Try.vtOK Try.etOK ?_; simp (maxSteps := 5000000) (disch := first | (intro _; intros; contradiction) | omega) [i64_in, u8_in, u64_in, vgd_t, vgd_f, wgd_t, wgd_f, i64_quo, u8_quo, Int.tmod_eq_emod_of_nonneg]; (repeat (refine ⟨(by first | omega | assumption), ?_⟩)); skip; refine ⟨by kernel_rfl, ?_⟩; guard_target =~ kl _) | (refine awp_seq' fun k hk => ?_) | (refine awp_block ?_))
end Go.Proofs

namespace Go.Proofs
open Go.V
set_option maxRecDepth 100000
set_option linter.unusedVariables false

theorem maxLen_eq : maxLen = 9223372036854775807 := rfl
/-- The laws over a described net and odd data: from lists to what comes in. -/
theorem spec22B {f : FuncId} (H : ∀ (x : R22) (z : Od), x.fit → z.ok → z.bnd 1048576 → FSpec Try.prog f [.agg x.c_, .agg z.c_] [] (tB true) []) (dss : List (List D))
    (h : FitsLL sh22 dss) (hb : ∀ l ∈ dss, ∀ x ∈ l, BndD 1048576 x) : FSpec Try.prog f (tsOf Try.vt [26, 38] dss) [] (tB true) [] := by
  match dss, h, hb with
  | [[a, b, c], [r, m, hd, ro, v, k, e0, e1]], h, hb =>
    simp only [FitsLL, FitsL, and_true] at h
    simp only [List.mem_cons, List.not_mem_nil, or_false, forall_eq_or_imp, forall_eq] at hb
    obtain ⟨⟨_, _, _⟩, qr, qm, qh, qo, qv, _⟩ := hb
    obtain ⟨⟨ha, hb, hc⟩, hr, hm, hh, ho, hv, hk, he0, he1⟩ := h
    cases ha with
    | @slice _ na fa ga la ia => cases hb with
      | @slice _ nb fb gb lb ib => cases hc with
        | @slice _ nc fc gc lc ic => cases hr with
          | @slice _ nr fr gr lr ir => cases hm with
            | @slice _ nm fm gm lm im => cases hh with
              | @slice _ nh fh gh lh ih => cases ho with
                | @slice _ no fo go lo io => cases hv with
                  | @slice _ nv fv gv lv iv => cases hk with
                    | @int _ k _ => cases he0 with
                      | @int _ e0 _ => cases he1 with
                        | @int _ e1 _ =>
                          obtain ⟨xa, a1, a2, a3, a4⟩ := fits_u8s (.slice ga la ia)
                          obtain ⟨xb, b1, b2, b3, b4⟩ := fits_g5 (.slice gb lb ib)
                          obtain ⟨xc, c1, c2, c3, c4⟩ := fits_o4 (.slice gc lc ic)
                          obtain ⟨xr, r1, r2, r3⟩ := fits_i64s (.slice gr lr ir)
                          obtain ⟨xm, m1, m2, m3, m4⟩ := fits_llsB (.slice gm lm im) qm
                          obtain ⟨xh, h1, h2, h3⟩ := fits_heads (.slice gh lh ih)
                          obtain ⟨xo, o1, o2, o3⟩ := fits_bools (.slice go lo io)
                          obtain ⟨xv, v1, v2, v3, v4⟩ := fits_u8s (.slice gv lv iv)
                          have q1 := bnd_le qr; have q2 := bnd_le qh; have q3 := bnd_le qo; have q4 := bnd_le qv
                          refine FSpec.le (H ⟨xa, xb, xc⟩ ⟨xr, xm, xh, xo, xv, k, e0, e1⟩ ⟨⟨a3, b3, c3⟩, by simp only; have := maxLen_eq; omega, by simp only; have := maxLen_eq; omega, by simp only; have := maxLen_eq; omega⟩ ⟨by simp only; have := maxLen_eq; omega, by simp only; have := maxLen_eq; omega, by simp only; have := maxLen_eq; omega, by simp only; have := maxLen_eq; omega, by simp only; have := maxLen_eq; omega, fun q hq => by have := m3 q hq; omega, v3⟩ ⟨by simp only; omega, by simp only; omega, by simp only; omega, by simp only; omega, by simp only; omega, m3⟩) ?_
                          simp [tsOf, tOf]
                          exact ⟨⟨a4, b4, c4⟩, r3, m4, h3, o3, v4⟩
end Go.Proofs
