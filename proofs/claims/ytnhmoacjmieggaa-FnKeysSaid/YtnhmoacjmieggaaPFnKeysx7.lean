-- Written by xprint.py (this claim's own program, over the kit's printer); Lean checks it.
import Derived.Test.YtnhmoacjmieggaaPFnKeysx0
import Derived.Test.YtnhmoacjmieggaaPFnKeysx1
import Derived.Test.YtnhmoacjmieggaaPFnKeysx4
import Derived.Test.YtnhmoacjmieggaaPFnKeysx5
import Derived.Test.YtnhmoacjmieggaaPFnKeysx6
namespace Go.Proofs.Ytnhmoacjmieggaa.PFnKeys
open Go.RowKit Go.Proofs.YtnhmoacjmieggaaW.PrintWords Go.Proofs.YtnhmoacjmieggaaW.PrintLast Go.Proofs.YtnhmoacjmieggaaW.PrintMore
attribute [local go_sem] max2_int min2_int max_two min_two max_three min_three max_four min_four   -- for this text's walks alone
set_option linter.unusedVariables false
set_option linter.unusedSimpArgs false   -- squeezed
set_option maxHeartbeats 8000000
set_option maxRecDepth 100000

/-! ### spec_DrawKeyFeed: function 13 -/
def spec_DrawKeyFeed.f (k : Nat) (l0 : List Int) : Option ((List (S40)) × Int × ByteArray × Bool) := (spec_l01Source.f k l0).bind fun bt309 => ((spec_l01Src_l07Keys.f k bt309.1 bt309.2.1 bt309.2.2.1 bt309.2.2.2).bind fun bt314 => ((spec_l01Src_n.f bt309.1 bt314.2.1 bt314.2.2.1 bt314.2.2.2 2).bind fun bt320 => ((spec_l01Src_one.f bt309.1 bt320.2.1 bt320.2.2.1 bt320.2.2.2 25).bind fun bt324 => (if bt324.1 = true then ((spec_l01Src_n.f bt309.1 bt324.2.1 bt324.2.2.1 bt324.2.2.2 2).bind fun bt328 => ((spec_l01Src_n.f bt309.1 bt328.2.1 bt328.2.2.1 bt328.2.2.2 (wrap64 (10 + bt328.2.2.2))).bind fun bt332 => ((spec_l01Src_l07Bytes.f k bt309.1 bt332.2.1 bt332.2.2.1 bt332.2.2.2 bt332.1).bind fun bt336 => ((spec_l01Src_one.f bt309.1 bt336.2.1 bt336.2.2.1 bt336.2.2.2 3).bind fun bt340 => (some (bt314.1, wrap64 (10 * bt328.1), bt336.1, bt340.1)))))) else ((spec_l01Src_n.f bt309.1 bt324.2.1 bt324.2.2.1 bt324.2.2.2 (wrap64 (10 + bt324.2.2.2))).bind fun bt344 => ((spec_l01Src_l07Bytes.f k bt309.1 bt344.2.1 bt344.2.2.1 bt344.2.2.2 bt344.1).bind fun bt348 => ((spec_l01Src_one.f bt309.1 bt348.2.1 bt348.2.2.1 bt348.2.2.2 3).bind fun bt352 => (some (bt314.1, wrap64 (1 + bt320.1), bt348.1, bt352.1)))))))))
theorem spec_DrawKeyFeed.mono : ∀ a0 k, LeO (spec_DrawKeyFeed.f k a0) (spec_DrawKeyFeed.f (k + 1) a0) := by
 intro a0 k
 unfold spec_DrawKeyFeed.f
 repeat' first
   | (with_reducible exact spec_l01Source.mono _ _)
   | (with_reducible exact spec_l01Src_l07Bytes.mono _ _ _ _ _ _)
   | (with_reducible exact spec_l01Src_l07Keys.mono _ _ _ _ _)
   | (with_reducible exact LeO.refl _)
   | (with_reducible exact LeO.none _)
   | (with_reducible refine LeO.ite ?_ ?_)
   | (with_reducible refine LeO.bind ?_ (fun _ => ?_))
   | exact spec_l01Source.mono _ _
   | exact spec_l01Src_l07Bytes.mono _ _ _ _ _ _
   | exact spec_l01Src_l07Keys.mono _ _ _ _ _
   | refine LeO.bind ?_ (fun _ => ?_)
theorem spec_DrawKeyFeed.calls (k : Nat) (A0 : Option Addr) (c0 : Nat) (l0 : List Int) (r1 : List (S40)) (r2 : Int) (r3 : ByteArray) (r4 : Bool) (w : World) (hr0 : Kd.C (Kd.int .u8) w A0 l0.length l0) (hc0 : l0.length ≤ c0) (h : spec_DrawKeyFeed.f k l0 = some (r1, r2, r3, r4)) :
  Calls Try.prog 13 #[.slice A0 l0.length c0] w fun e w' => ∃ v0_ : Value, e = .returned (.tuple #[v0_, .int .i64 r2, .string r3, .bool r4]) ∧ Kd.R k40 40 w' w.heap.size (fun _ => True) v0_ r1 ∧ Below w.heap.size w w' := by
 have HR0 := am hr0
 have HC0 := am hc0
 clear hr0 hc0
 have HB := am (Below.refl w.heap.size w)
 have H : ((spec_l01Source.f k l0).bind fun bt309 => ((spec_l01Src_l07Keys.f k bt309.1 bt309.2.1 bt309.2.2.1 bt309.2.2.2).bind fun bt314 => ((spec_l01Src_n.f bt309.1 bt314.2.1 bt314.2.2.1 bt314.2.2.2 2).bind fun bt320 => ((spec_l01Src_one.f bt309.1 bt320.2.1 bt320.2.2.1 bt320.2.2.2 25).bind fun bt324 => (if bt324.1 = true then ((spec_l01Src_n.f bt309.1 bt324.2.1 bt324.2.2.1 bt324.2.2.2 2).bind fun bt328 => ((spec_l01Src_n.f bt309.1 bt328.2.1 bt328.2.2.1 bt328.2.2.2 (wrap64 (10 + bt328.2.2.2))).bind fun bt332 => ((spec_l01Src_l07Bytes.f k bt309.1 bt332.2.1 bt332.2.2.1 bt332.2.2.2 bt332.1).bind fun bt336 => ((spec_l01Src_one.f bt309.1 bt336.2.1 bt336.2.2.1 bt336.2.2.2 3).bind fun bt340 => (some (bt314.1, wrap64 (10 * bt328.1), bt336.1, bt340.1)))))) else ((spec_l01Src_n.f bt309.1 bt324.2.1 bt324.2.2.1 bt324.2.2.2 (wrap64 (10 + bt324.2.2.2))).bind fun bt344 => ((spec_l01Src_l07Bytes.f k bt309.1 bt344.2.1 bt344.2.2.1 bt344.2.2.2 bt344.1).bind fun bt348 => ((spec_l01Src_one.f bt309.1 bt348.2.1 bt348.2.2.1 bt348.2.2.2 3).bind fun bt352 => (some (bt314.1, wrap64 (1 + bt320.1), bt348.1, bt352.1)))))))))) = some (r1, r2, r3, r4) := h
 clear h
 replace H := Option.bind_eq_some_iff.mp H
 obtain ⟨⟨t309, t310, t311, t312⟩, A20, H⟩ := H
 replace H : ((spec_l01Src_l07Keys.f k t309 t310 t311 t312).bind fun bt314 => ((spec_l01Src_n.f t309 bt314.2.1 bt314.2.2.1 bt314.2.2.2 2).bind fun bt320 => ((spec_l01Src_one.f t309 bt320.2.1 bt320.2.2.1 bt320.2.2.2 25).bind fun bt324 => (if bt324.1 = true then ((spec_l01Src_n.f t309 bt324.2.1 bt324.2.2.1 bt324.2.2.2 2).bind fun bt328 => ((spec_l01Src_n.f t309 bt328.2.1 bt328.2.2.1 bt328.2.2.2 (wrap64 (10 + bt328.2.2.2))).bind fun bt332 => ((spec_l01Src_l07Bytes.f k t309 bt332.2.1 bt332.2.2.1 bt332.2.2.2 bt332.1).bind fun bt336 => ((spec_l01Src_one.f t309 bt336.2.1 bt336.2.2.1 bt336.2.2.2 3).bind fun bt340 => (some (bt314.1, wrap64 (10 * bt328.1), bt336.1, bt340.1)))))) else ((spec_l01Src_n.f t309 bt324.2.1 bt324.2.2.1 bt324.2.2.2 (wrap64 (10 + bt324.2.2.2))).bind fun bt344 => ((spec_l01Src_l07Bytes.f k t309 bt344.2.1 bt344.2.2.1 bt344.2.2.2 bt344.1).bind fun bt348 => ((spec_l01Src_one.f t309 bt348.2.1 bt348.2.2.1 bt348.2.2.2 3).bind fun bt352 => (some (bt314.1, wrap64 (1 + bt320.1), bt348.1, bt352.1))))))))) = some (r1, r2, r3, r4) := H
 have A2 := Aside0.mk A20
 clear A20
 replace H := Option.bind_eq_some_iff.mp H
 obtain ⟨⟨t314, t317, t318, t319⟩, A30, H⟩ := H
 replace H : ((spec_l01Src_n.f t309 t317 t318 t319 2).bind fun bt320 => ((spec_l01Src_one.f t309 bt320.2.1 bt320.2.2.1 bt320.2.2.2 25).bind fun bt324 => (if bt324.1 = true then ((spec_l01Src_n.f t309 bt324.2.1 bt324.2.2.1 bt324.2.2.2 2).bind fun bt328 => ((spec_l01Src_n.f t309 bt328.2.1 bt328.2.2.1 bt328.2.2.2 (wrap64 (10 + bt328.2.2.2))).bind fun bt332 => ((spec_l01Src_l07Bytes.f k t309 bt332.2.1 bt332.2.2.1 bt332.2.2.2 bt332.1).bind fun bt336 => ((spec_l01Src_one.f t309 bt336.2.1 bt336.2.2.1 bt336.2.2.2 3).bind fun bt340 => (some (t314, wrap64 (10 * bt328.1), bt336.1, bt340.1)))))) else ((spec_l01Src_n.f t309 bt324.2.1 bt324.2.2.1 bt324.2.2.2 (wrap64 (10 + bt324.2.2.2))).bind fun bt344 => ((spec_l01Src_l07Bytes.f k t309 bt344.2.1 bt344.2.2.1 bt344.2.2.2 bt344.1).bind fun bt348 => ((spec_l01Src_one.f t309 bt348.2.1 bt348.2.2.1 bt348.2.2.2 3).bind fun bt352 => (some (t314, wrap64 (1 + bt320.1), bt348.1, bt352.1)))))))) = some (r1, r2, r3, r4) := H
 have A3 := Aside0.mk A30
 clear A30
 replace H := Option.bind_eq_some_iff.mp H
 obtain ⟨⟨t320, t321, t322, t323⟩, A40, H⟩ := H
 replace H : ((spec_l01Src_one.f t309 t321 t322 t323 25).bind fun bt324 => (if bt324.1 = true then ((spec_l01Src_n.f t309 bt324.2.1 bt324.2.2.1 bt324.2.2.2 2).bind fun bt328 => ((spec_l01Src_n.f t309 bt328.2.1 bt328.2.2.1 bt328.2.2.2 (wrap64 (10 + bt328.2.2.2))).bind fun bt332 => ((spec_l01Src_l07Bytes.f k t309 bt332.2.1 bt332.2.2.1 bt332.2.2.2 bt332.1).bind fun bt336 => ((spec_l01Src_one.f t309 bt336.2.1 bt336.2.2.1 bt336.2.2.2 3).bind fun bt340 => (some (t314, wrap64 (10 * bt328.1), bt336.1, bt340.1)))))) else ((spec_l01Src_n.f t309 bt324.2.1 bt324.2.2.1 bt324.2.2.2 (wrap64 (10 + bt324.2.2.2))).bind fun bt344 => ((spec_l01Src_l07Bytes.f k t309 bt344.2.1 bt344.2.2.1 bt344.2.2.2 bt344.1).bind fun bt348 => ((spec_l01Src_one.f t309 bt348.2.1 bt348.2.2.1 bt348.2.2.2 3).bind fun bt352 => (some (t314, wrap64 (1 + t320), bt348.1, bt352.1))))))) = some (r1, r2, r3, r4) := H
 have A4 := Aside0.mk A40
 clear A40
 replace H := Option.bind_eq_some_iff.mp H
 obtain ⟨⟨t324, t325, t326, t327⟩, A50, H⟩ := H
 replace H : (if t324 = true then ((spec_l01Src_n.f t309 t325 t326 t327 2).bind fun bt328 => ((spec_l01Src_n.f t309 bt328.2.1 bt328.2.2.1 bt328.2.2.2 (wrap64 (10 + bt328.2.2.2))).bind fun bt332 => ((spec_l01Src_l07Bytes.f k t309 bt332.2.1 bt332.2.2.1 bt332.2.2.2 bt332.1).bind fun bt336 => ((spec_l01Src_one.f t309 bt336.2.1 bt336.2.2.1 bt336.2.2.2 3).bind fun bt340 => (some (t314, wrap64 (10 * bt328.1), bt336.1, bt340.1)))))) else ((spec_l01Src_n.f t309 t325 t326 t327 (wrap64 (10 + t327))).bind fun bt344 => ((spec_l01Src_l07Bytes.f k t309 bt344.2.1 bt344.2.2.1 bt344.2.2.2 bt344.1).bind fun bt348 => ((spec_l01Src_one.f t309 bt348.2.1 bt348.2.2.1 bt348.2.2.2 3).bind fun bt352 => (some (t314, wrap64 (1 + t320), bt348.1, bt352.1)))))) = some (r1, r2, r3, r4) := H
 have A5 := Aside0.mk A50
 clear A50
 by_cases c6 : t324 = true
 ·subst c6
  have H1 : ((spec_l01Src_n.f t309 t325 t326 t327 2).bind fun bt328 => ((spec_l01Src_n.f t309 bt328.2.1 bt328.2.2.1 bt328.2.2.2 (wrap64 (10 + bt328.2.2.2))).bind fun bt332 => ((spec_l01Src_l07Bytes.f k t309 bt332.2.1 bt332.2.2.1 bt332.2.2.2 bt332.1).bind fun bt336 => ((spec_l01Src_one.f t309 bt336.2.1 bt336.2.2.1 bt336.2.2.2 3).bind fun bt340 => (some (t314, wrap64 (10 * bt328.1), bt336.1, bt340.1)))))) = some (r1, r2, r3, r4) := by rw [if_pos rfl] at H; exact H
  clear H
  have H := H1
  clear H1
  replace H := Option.bind_eq_some_iff.mp H
  obtain ⟨⟨t328, t329, t330, t331⟩, A70, H⟩ := H
  replace H : ((spec_l01Src_n.f t309 t329 t330 t331 (wrap64 (10 + t331))).bind fun bt332 => ((spec_l01Src_l07Bytes.f k t309 bt332.2.1 bt332.2.2.1 bt332.2.2.2 bt332.1).bind fun bt336 => ((spec_l01Src_one.f t309 bt336.2.1 bt336.2.2.1 bt336.2.2.2 3).bind fun bt340 => (some (t314, wrap64 (10 * t328), bt336.1, bt340.1))))) = some (r1, r2, r3, r4) := H
  have A7 := Aside0.mk A70
  clear A70
  replace H := Option.bind_eq_some_iff.mp H
  obtain ⟨⟨t332, t333, t334, t335⟩, A80, H⟩ := H
  replace H : ((spec_l01Src_l07Bytes.f k t309 t333 t334 t335 t332).bind fun bt336 => ((spec_l01Src_one.f t309 bt336.2.1 bt336.2.2.1 bt336.2.2.2 3).bind fun bt340 => (some (t314, wrap64 (10 * t328), bt336.1, bt340.1)))) = some (r1, r2, r3, r4) := H
  have A8 := Aside0.mk A80
  clear A80
  replace H := Option.bind_eq_some_iff.mp H
  obtain ⟨⟨t336, t337, t338, t339⟩, A90, H⟩ := H
  replace H : ((spec_l01Src_one.f t309 t337 t338 t339 3).bind fun bt340 => (some (t314, wrap64 (10 * t328), t336, bt340.1))) = some (r1, r2, r3, r4) := H
  have A9 := Aside0.mk A90
  clear A90
  replace H := Option.bind_eq_some_iff.mp H
  obtain ⟨⟨t340, t341, t342, t343⟩, A100, H⟩ := H
  replace H : (some (t314, wrap64 (10 * t328), t336, t340)) = some (r1, r2, r3, r4) := H
  have A10 := Aside0.mk A100
  clear A100
  simp only [Option.some.injEq, Prod.mk.injEq] at H
  obtain ⟨rfl, rfl, rfl, rfl⟩ := H
  go_enter Try.func13, Try.ntmps13
  go_wp2_with (first | ((with_reducible refine gate_callee (f := 29) rfl ?_); refine gl (some 10) Try.func29 #[.slice A0 l0.length c0] ?_; (with_reducible refine (spec_l01Source.calls k _ _ l0 t309 t310 t311 t312 w _ ?side1 ?side2 ?side3 A2.out).mono ?_); (case side1 => repeat (first | (with_reducible first | exact HB.out | apply below_alloc | apply pw_below_drewN | apply below_drew1) | exact HB.out)); (case side2 => exact HR0.out); (case side3 => exact HC0.out); rintro e w11 ⟨g313, rfl, hi, hb, hb2⟩; refine ⟨_, rfl, ?_⟩; replace HB := am (hb); have HI313 := am (hi); (try clear hb); (try clear hb2); (try clear hk); (try clear hi)) | ((with_reducible refine gate_callee (f := 30) rfl ?_); refine gl (some 12) Try.func30 #[.pointer (some ⟨g313, 0, none⟩)] ?_; (with_reducible refine (spec_l01Src_l07Keys.calls k g313 t309 t310 t311 t312 t314 t317 t318 t319 w _ ?side1 ?side2 A3.out).mono ?_); (case side1 => repeat (first | (with_reducible first | exact HI313.out | apply IsS63.alloc | apply IsS63.drewN | apply IsS63.drew | apply IsS63.set_1 | apply IsS63.set_2 | apply IsS63.set_3) | exact HI313.out)); (case side2 => repeat (first | (with_reducible first | exact HB.out | apply below_alloc | apply pw_below_drewN | apply below_drew1 | refine below_set ?_ (IsS63.ge HI313.out)) | exact HB.out)); rintro e w12 ⟨v315, rfl, ho0, hi, hb, hk⟩; refine ⟨_, rfl, ?_⟩; have HO316 := am (Kd.R_lower ho0 (below_size (by repeat (first | (with_reducible first | exact HB.out | apply below_alloc | apply pw_below_drewN | apply below_drew1 | refine below_set ?_ (IsS63.ge HI313.out)) | exact HB.out)))); replace HB := am (hb); replace HI313 := am (hi); (try clear hb); (try clear hb2); (try clear hk); (try clear hi); (try clear ho0)) | ((with_reducible refine gate_callee (f := 31) rfl ?_); refine gl (some 14) Try.func31 #[.pointer (some ⟨g313, 0, none⟩), .int .i64 2] ?_; (with_reducible refine (spec_l01Src_n.calls g313 t309 t317 t318 t319 2 t320 t321 t322 t323 w _ ?side1 ?side2 A4.out).mono ?_); (case side1 => repeat (first | (with_reducible first | exact HI313.out | apply IsS63.alloc | apply IsS63.drewN | apply IsS63.drew | apply IsS63.set_1 | apply IsS63.set_2 | apply IsS63.set_3) | exact HI313.out)); (case side2 => repeat (first | (with_reducible first | exact HB.out | apply below_alloc | apply pw_below_drewN | apply below_drew1 | refine below_set ?_ (IsS63.ge HI313.out)) | exact HB.out)); rintro e w13 ⟨rfl, hi, hb, hk⟩; refine ⟨_, rfl, ?_⟩; replace HO316 := am (Kd.R_mono (Kd.R_keep (IsS63.apart (show IsS63 w _ g313 t309 t317 t318 t319 from by repeat (first | (with_reducible first | exact HI313.out | apply IsS63.alloc | apply IsS63.drewN | apply IsS63.drew | apply IsS63.set_1 | apply IsS63.set_2 | apply IsS63.set_3) | exact HI313.out)) (kr HO316.out) (by decide)) hk (fun _ h => h.2)) (fun _ h => h.1)); replace HB := am (hb); replace HI313 := am (hi); (try clear hb); (try clear hb2); (try clear hk); (try clear hi)) | ((with_reducible refine gate_callee (f := 32) rfl ?_); refine gl (some 17) Try.func32 #[.pointer (some ⟨g313, 0, none⟩), .int .i64 25] ?_; (with_reducible refine (spec_l01Src_one.calls g313 t309 t321 t322 t323 25 true t325 t326 t327 w _ ?side1 ?side2 A5.out).mono ?_); (case side1 => repeat (first | (with_reducible first | exact HI313.out | apply IsS63.alloc | apply IsS63.drewN | apply IsS63.drew | apply IsS63.set_1 | apply IsS63.set_2 | apply IsS63.set_3) | exact HI313.out)); (case side2 => repeat (first | (with_reducible first | exact HB.out | apply below_alloc | apply pw_below_drewN | apply below_drew1 | refine below_set ?_ (IsS63.ge HI313.out)) | exact HB.out)); rintro e w14 ⟨rfl, hi, hb, hk⟩; refine ⟨_, rfl, ?_⟩; replace HO316 := am (Kd.R_mono (Kd.R_keep (IsS63.apart (show IsS63 w _ g313 t309 t321 t322 t323 from by repeat (first | (with_reducible first | exact HI313.out | apply IsS63.alloc | apply IsS63.drewN | apply IsS63.drew | apply IsS63.set_1 | apply IsS63.set_2 | apply IsS63.set_3) | exact HI313.out)) (kr HO316.out) (by decide)) hk (fun _ h => h.2)) (fun _ h => h.1)); replace HB := am (hb); replace HI313 := am (hi); (try clear hb); (try clear hb2); (try clear hk); (try clear hi)) | ((with_reducible refine gate_callee (f := 31) rfl ?_); refine gl (some 19) Try.func31 #[.pointer (some ⟨g313, 0, none⟩), .int .i64 2] ?_; (with_reducible refine (spec_l01Src_n.calls g313 t309 t325 t326 t327 2 t328 t329 t330 t331 w _ ?side1 ?side2 A7.out).mono ?_); (case side1 => repeat (first | (with_reducible first | exact HI313.out | apply IsS63.alloc | apply IsS63.drewN | apply IsS63.drew | apply IsS63.set_1 | apply IsS63.set_2 | apply IsS63.set_3) | exact HI313.out)); (case side2 => repeat (first | (with_reducible first | exact HB.out | apply below_alloc | apply pw_below_drewN | apply below_drew1 | refine below_set ?_ (IsS63.ge HI313.out)) | exact HB.out)); rintro e w15 ⟨rfl, hi, hb, hk⟩; refine ⟨_, rfl, ?_⟩; replace HO316 := am (Kd.R_mono (Kd.R_keep (IsS63.apart (show IsS63 w _ g313 t309 t325 t326 t327 from by repeat (first | (with_reducible first | exact HI313.out | apply IsS63.alloc | apply IsS63.drewN | apply IsS63.drew | apply IsS63.set_1 | apply IsS63.set_2 | apply IsS63.set_3) | exact HI313.out)) (kr HO316.out) (by decide)) hk (fun _ h => h.2)) (fun _ h => h.1)); replace HB := am (hb); replace HI313 := am (hi); (try clear hb); (try clear hb2); (try clear hk); (try clear hi); obtain ⟨ASz16_0, cSz16_0, HGz16, hgz16, HSz16_0⟩ := HI313.out; have hcz16_0 := cellS63_0 HGz16; have hcz16_1 := cellS63_1 HGz16; have hcz16_2 := cellS63_2 HGz16; have hcz16_3 := cellS63_3 HGz16; have hfz16_1 := blk_frozen HGz16 1; have hfz16_2 := blk_frozen HGz16 2; have hfz16_3 := blk_frozen HGz16 3; clear HGz16 hgz16) | ((with_reducible refine gate_callee (f := 31) rfl ?_); refine gl (some 30) Try.func31 #[.pointer (some ⟨g313, 0, none⟩), .int .i64 (wrap64 (10 + t331))] ?_; (with_reducible refine (spec_l01Src_n.calls g313 t309 t329 t330 t331 (wrap64 (10 + t331)) t332 t333 t334 t335 w _ ?side1 ?side2 A8.out).mono ?_); (case side1 => repeat (first | (with_reducible first | exact HI313.out | apply IsS63.alloc | apply IsS63.drewN | apply IsS63.drew | apply IsS63.set_1 | apply IsS63.set_2 | apply IsS63.set_3) | exact HI313.out)); (case side2 => repeat (first | (with_reducible first | exact HB.out | apply below_alloc | apply pw_below_drewN | apply below_drew1 | refine below_set ?_ (IsS63.ge HI313.out)) | exact HB.out)); rintro e w17 ⟨rfl, hi, hb, hk⟩; refine ⟨_, rfl, ?_⟩; replace HO316 := am (Kd.R_mono (Kd.R_keep (IsS63.apart (show IsS63 w _ g313 t309 t329 t330 t331 from by repeat (first | (with_reducible first | exact HI313.out | apply IsS63.alloc | apply IsS63.drewN | apply IsS63.drew | apply IsS63.set_1 | apply IsS63.set_2 | apply IsS63.set_3) | exact HI313.out)) (kr HO316.out) (by decide)) hk (fun _ h => h.2)) (fun _ h => h.1)); replace HB := am (hb); replace HI313 := am (hi); (try clear hb); (try clear hb2); (try clear hk); (try clear hi)) | ((with_reducible refine gate_callee (f := 33) rfl ?_); refine gl (some 31) Try.func33 #[.pointer (some ⟨g313, 0, none⟩), .int .i64 t332] ?_; (with_reducible refine (spec_l01Src_l07Bytes.calls k g313 t309 t333 t334 t335 t332 t336 t337 t338 t339 w _ ?side1 ?side2 A9.out).mono ?_); (case side1 => repeat (first | (with_reducible first | exact HI313.out | apply IsS63.alloc | apply IsS63.drewN | apply IsS63.drew | apply IsS63.set_1 | apply IsS63.set_2 | apply IsS63.set_3) | exact HI313.out)); (case side2 => repeat (first | (with_reducible first | exact HB.out | apply below_alloc | apply pw_below_drewN | apply below_drew1 | refine below_set ?_ (IsS63.ge HI313.out)) | exact HB.out)); rintro e w18 ⟨rfl, hi, hb, hk⟩; refine ⟨_, rfl, ?_⟩; replace HO316 := am (Kd.R_mono (Kd.R_keep (IsS63.apart (show IsS63 w _ g313 t309 t333 t334 t335 from by repeat (first | (with_reducible first | exact HI313.out | apply IsS63.alloc | apply IsS63.drewN | apply IsS63.drew | apply IsS63.set_1 | apply IsS63.set_2 | apply IsS63.set_3) | exact HI313.out)) (kr HO316.out) (by decide)) hk (fun _ h => h.2)) (fun _ h => h.1)); replace HB := am (hb); replace HI313 := am (hi); (try clear hb); (try clear hb2); (try clear hk); (try clear hi)) | ((with_reducible refine gate_callee (f := 32) rfl ?_); refine gl (some 33) Try.func32 #[.pointer (some ⟨g313, 0, none⟩), .int .i64 3] ?_; (with_reducible refine (spec_l01Src_one.calls g313 t309 t337 t338 t339 3 t340 t341 t342 t343 w _ ?side1 ?side2 A10.out).mono ?_); (case side1 => repeat (first | (with_reducible first | exact HI313.out | apply IsS63.alloc | apply IsS63.drewN | apply IsS63.drew | apply IsS63.set_1 | apply IsS63.set_2 | apply IsS63.set_3) | exact HI313.out)); (case side2 => repeat (first | (with_reducible first | exact HB.out | apply below_alloc | apply pw_below_drewN | apply below_drew1 | refine below_set ?_ (IsS63.ge HI313.out)) | exact HB.out)); rintro e w19 ⟨rfl, hi, hb, hk⟩; refine ⟨_, rfl, ?_⟩; replace HO316 := am (Kd.R_mono (Kd.R_keep (IsS63.apart (show IsS63 w _ g313 t309 t337 t338 t339 from by repeat (first | (with_reducible first | exact HI313.out | apply IsS63.alloc | apply IsS63.drewN | apply IsS63.drew | apply IsS63.set_1 | apply IsS63.set_2 | apply IsS63.set_3) | exact HI313.out)) (kr HO316.out) (by decide)) hk (fun _ h => h.2)) (fun _ h => h.1)); replace HB := am (hb); replace HI313 := am (hi); (try clear hb); (try clear hb2); (try clear hk); (try clear hi)))
  refine bodyPost_ret (results_list (rs := [.tmp 2, .tmp 3, .tmp 4, .tmp 5]) rfl (by simp) (.tmp (.tmp (.tmp (.tmp .nil))))) rfl ?_
  exact ⟨_, by first | rfl | (simp [errW_none, errW_some] <;> rfl) | (simp [*, errW_none, errW_some] <;> rfl), kr HO316.out, by repeat (first | (with_reducible first | exact HB.out | apply below_alloc | apply pw_below_drewN | apply below_drew1 | refine below_set ?_ (IsS63.ge HI313.out)) | exact HB.out)⟩
 ·replace c6 := Bool.eq_false_iff.mpr c6
  subst c6
  have H1 : ((spec_l01Src_n.f t309 t325 t326 t327 (wrap64 (10 + t327))).bind fun bt344 => ((spec_l01Src_l07Bytes.f k t309 bt344.2.1 bt344.2.2.1 bt344.2.2.2 bt344.1).bind fun bt348 => ((spec_l01Src_one.f t309 bt348.2.1 bt348.2.2.1 bt348.2.2.2 3).bind fun bt352 => (some (t314, wrap64 (1 + t320), bt348.1, bt352.1))))) = some (r1, r2, r3, r4) := by rw [if_neg (show ¬ (false = true) by decide)] at H; exact H
  clear H
  have H := H1
  clear H1
  replace H := Option.bind_eq_some_iff.mp H
  obtain ⟨⟨t344, t345, t346, t347⟩, A200, H⟩ := H
  replace H : ((spec_l01Src_l07Bytes.f k t309 t345 t346 t347 t344).bind fun bt348 => ((spec_l01Src_one.f t309 bt348.2.1 bt348.2.2.1 bt348.2.2.2 3).bind fun bt352 => (some (t314, wrap64 (1 + t320), bt348.1, bt352.1)))) = some (r1, r2, r3, r4) := H
  have A20 := Aside0.mk A200
  clear A200
  replace H := Option.bind_eq_some_iff.mp H
  obtain ⟨⟨t348, t349, t350, t351⟩, A210, H⟩ := H
  replace H : ((spec_l01Src_one.f t309 t349 t350 t351 3).bind fun bt352 => (some (t314, wrap64 (1 + t320), t348, bt352.1))) = some (r1, r2, r3, r4) := H
  have A21 := Aside0.mk A210
  clear A210
  replace H := Option.bind_eq_some_iff.mp H
  obtain ⟨⟨t352, t353, t354, t355⟩, A220, H⟩ := H
  replace H : (some (t314, wrap64 (1 + t320), t348, t352)) = some (r1, r2, r3, r4) := H
  have A22 := Aside0.mk A220
  clear A220
  simp only [Option.some.injEq, Prod.mk.injEq] at H
  obtain ⟨rfl, rfl, rfl, rfl⟩ := H
  go_enter Try.func13, Try.ntmps13
  go_wp2_with (first | ((with_reducible refine gate_callee (f := 29) rfl ?_); refine gl (some 10) Try.func29 #[.slice A0 l0.length c0] ?_; (with_reducible refine (spec_l01Source.calls k _ _ l0 t309 t310 t311 t312 w _ ?side1 ?side2 ?side3 A2.out).mono ?_); (case side1 => repeat (first | (with_reducible first | exact HB.out | apply below_alloc | apply pw_below_drewN | apply below_drew1) | exact HB.out)); (case side2 => exact HR0.out); (case side3 => exact HC0.out); rintro e w23 ⟨g313, rfl, hi, hb, hb2⟩; refine ⟨_, rfl, ?_⟩; replace HB := am (hb); have HI313 := am (hi); (try clear hb); (try clear hb2); (try clear hk); (try clear hi)) | ((with_reducible refine gate_callee (f := 30) rfl ?_); refine gl (some 12) Try.func30 #[.pointer (some ⟨g313, 0, none⟩)] ?_; (with_reducible refine (spec_l01Src_l07Keys.calls k g313 t309 t310 t311 t312 t314 t317 t318 t319 w _ ?side1 ?side2 A3.out).mono ?_); (case side1 => repeat (first | (with_reducible first | exact HI313.out | apply IsS63.alloc | apply IsS63.drewN | apply IsS63.drew | apply IsS63.set_1 | apply IsS63.set_2 | apply IsS63.set_3) | exact HI313.out)); (case side2 => repeat (first | (with_reducible first | exact HB.out | apply below_alloc | apply pw_below_drewN | apply below_drew1 | refine below_set ?_ (IsS63.ge HI313.out)) | exact HB.out)); rintro e w24 ⟨v315, rfl, ho0, hi, hb, hk⟩; refine ⟨_, rfl, ?_⟩; have HO316 := am (Kd.R_lower ho0 (below_size (by repeat (first | (with_reducible first | exact HB.out | apply below_alloc | apply pw_below_drewN | apply below_drew1 | refine below_set ?_ (IsS63.ge HI313.out)) | exact HB.out)))); replace HB := am (hb); replace HI313 := am (hi); (try clear hb); (try clear hb2); (try clear hk); (try clear hi); (try clear ho0)) | ((with_reducible refine gate_callee (f := 31) rfl ?_); refine gl (some 14) Try.func31 #[.pointer (some ⟨g313, 0, none⟩), .int .i64 2] ?_; (with_reducible refine (spec_l01Src_n.calls g313 t309 t317 t318 t319 2 t320 t321 t322 t323 w _ ?side1 ?side2 A4.out).mono ?_); (case side1 => repeat (first | (with_reducible first | exact HI313.out | apply IsS63.alloc | apply IsS63.drewN | apply IsS63.drew | apply IsS63.set_1 | apply IsS63.set_2 | apply IsS63.set_3) | exact HI313.out)); (case side2 => repeat (first | (with_reducible first | exact HB.out | apply below_alloc | apply pw_below_drewN | apply below_drew1 | refine below_set ?_ (IsS63.ge HI313.out)) | exact HB.out)); rintro e w25 ⟨rfl, hi, hb, hk⟩; refine ⟨_, rfl, ?_⟩; replace HO316 := am (Kd.R_mono (Kd.R_keep (IsS63.apart (show IsS63 w _ g313 t309 t317 t318 t319 from by repeat (first | (with_reducible first | exact HI313.out | apply IsS63.alloc | apply IsS63.drewN | apply IsS63.drew | apply IsS63.set_1 | apply IsS63.set_2 | apply IsS63.set_3) | exact HI313.out)) (kr HO316.out) (by decide)) hk (fun _ h => h.2)) (fun _ h => h.1)); replace HB := am (hb); replace HI313 := am (hi); (try clear hb); (try clear hb2); (try clear hk); (try clear hi)) | ((with_reducible refine gate_callee (f := 32) rfl ?_); refine gl (some 17) Try.func32 #[.pointer (some ⟨g313, 0, none⟩), .int .i64 25] ?_; (with_reducible refine (spec_l01Src_one.calls g313 t309 t321 t322 t323 25 false t325 t326 t327 w _ ?side1 ?side2 A5.out).mono ?_); (case side1 => repeat (first | (with_reducible first | exact HI313.out | apply IsS63.alloc | apply IsS63.drewN | apply IsS63.drew | apply IsS63.set_1 | apply IsS63.set_2 | apply IsS63.set_3) | exact HI313.out)); (case side2 => repeat (first | (with_reducible first | exact HB.out | apply below_alloc | apply pw_below_drewN | apply below_drew1 | refine below_set ?_ (IsS63.ge HI313.out)) | exact HB.out)); rintro e w26 ⟨rfl, hi, hb, hk⟩; refine ⟨_, rfl, ?_⟩; replace HO316 := am (Kd.R_mono (Kd.R_keep (IsS63.apart (show IsS63 w _ g313 t309 t321 t322 t323 from by repeat (first | (with_reducible first | exact HI313.out | apply IsS63.alloc | apply IsS63.drewN | apply IsS63.drew | apply IsS63.set_1 | apply IsS63.set_2 | apply IsS63.set_3) | exact HI313.out)) (kr HO316.out) (by decide)) hk (fun _ h => h.2)) (fun _ h => h.1)); replace HB := am (hb); replace HI313 := am (hi); (try clear hb); (try clear hb2); (try clear hk); (try clear hi); obtain ⟨ASz27_0, cSz27_0, HGz27, hgz27, HSz27_0⟩ := HI313.out; have hcz27_0 := cellS63_0 HGz27; have hcz27_1 := cellS63_1 HGz27; have hcz27_2 := cellS63_2 HGz27; have hcz27_3 := cellS63_3 HGz27; have hfz27_1 := blk_frozen HGz27 1; have hfz27_2 := blk_frozen HGz27 2; have hfz27_3 := blk_frozen HGz27 3; clear HGz27 hgz27) | ((with_reducible refine gate_callee (f := 31) rfl ?_); refine gl (some 30) Try.func31 #[.pointer (some ⟨g313, 0, none⟩), .int .i64 (wrap64 (10 + t327))] ?_; (with_reducible refine (spec_l01Src_n.calls g313 t309 t325 t326 t327 (wrap64 (10 + t327)) t344 t345 t346 t347 w _ ?side1 ?side2 A20.out).mono ?_); (case side1 => repeat (first | (with_reducible first | exact HI313.out | apply IsS63.alloc | apply IsS63.drewN | apply IsS63.drew | apply IsS63.set_1 | apply IsS63.set_2 | apply IsS63.set_3) | exact HI313.out)); (case side2 => repeat (first | (with_reducible first | exact HB.out | apply below_alloc | apply pw_below_drewN | apply below_drew1 | refine below_set ?_ (IsS63.ge HI313.out)) | exact HB.out)); rintro e w28 ⟨rfl, hi, hb, hk⟩; refine ⟨_, rfl, ?_⟩; replace HO316 := am (Kd.R_mono (Kd.R_keep (IsS63.apart (show IsS63 w _ g313 t309 t325 t326 t327 from by repeat (first | (with_reducible first | exact HI313.out | apply IsS63.alloc | apply IsS63.drewN | apply IsS63.drew | apply IsS63.set_1 | apply IsS63.set_2 | apply IsS63.set_3) | exact HI313.out)) (kr HO316.out) (by decide)) hk (fun _ h => h.2)) (fun _ h => h.1)); replace HB := am (hb); replace HI313 := am (hi); (try clear hb); (try clear hb2); (try clear hk); (try clear hi)) | ((with_reducible refine gate_callee (f := 33) rfl ?_); refine gl (some 31) Try.func33 #[.pointer (some ⟨g313, 0, none⟩), .int .i64 t344] ?_; (with_reducible refine (spec_l01Src_l07Bytes.calls k g313 t309 t345 t346 t347 t344 t348 t349 t350 t351 w _ ?side1 ?side2 A21.out).mono ?_); (case side1 => repeat (first | (with_reducible first | exact HI313.out | apply IsS63.alloc | apply IsS63.drewN | apply IsS63.drew | apply IsS63.set_1 | apply IsS63.set_2 | apply IsS63.set_3) | exact HI313.out)); (case side2 => repeat (first | (with_reducible first | exact HB.out | apply below_alloc | apply pw_below_drewN | apply below_drew1 | refine below_set ?_ (IsS63.ge HI313.out)) | exact HB.out)); rintro e w29 ⟨rfl, hi, hb, hk⟩; refine ⟨_, rfl, ?_⟩; replace HO316 := am (Kd.R_mono (Kd.R_keep (IsS63.apart (show IsS63 w _ g313 t309 t345 t346 t347 from by repeat (first | (with_reducible first | exact HI313.out | apply IsS63.alloc | apply IsS63.drewN | apply IsS63.drew | apply IsS63.set_1 | apply IsS63.set_2 | apply IsS63.set_3) | exact HI313.out)) (kr HO316.out) (by decide)) hk (fun _ h => h.2)) (fun _ h => h.1)); replace HB := am (hb); replace HI313 := am (hi); (try clear hb); (try clear hb2); (try clear hk); (try clear hi)) | ((with_reducible refine gate_callee (f := 32) rfl ?_); refine gl (some 33) Try.func32 #[.pointer (some ⟨g313, 0, none⟩), .int .i64 3] ?_; (with_reducible refine (spec_l01Src_one.calls g313 t309 t349 t350 t351 3 t352 t353 t354 t355 w _ ?side1 ?side2 A22.out).mono ?_); (case side1 => repeat (first | (with_reducible first | exact HI313.out | apply IsS63.alloc | apply IsS63.drewN | apply IsS63.drew | apply IsS63.set_1 | apply IsS63.set_2 | apply IsS63.set_3) | exact HI313.out)); (case side2 => repeat (first | (with_reducible first | exact HB.out | apply below_alloc | apply pw_below_drewN | apply below_drew1 | refine below_set ?_ (IsS63.ge HI313.out)) | exact HB.out)); rintro e w30 ⟨rfl, hi, hb, hk⟩; refine ⟨_, rfl, ?_⟩; replace HO316 := am (Kd.R_mono (Kd.R_keep (IsS63.apart (show IsS63 w _ g313 t309 t349 t350 t351 from by repeat (first | (with_reducible first | exact HI313.out | apply IsS63.alloc | apply IsS63.drewN | apply IsS63.drew | apply IsS63.set_1 | apply IsS63.set_2 | apply IsS63.set_3) | exact HI313.out)) (kr HO316.out) (by decide)) hk (fun _ h => h.2)) (fun _ h => h.1)); replace HB := am (hb); replace HI313 := am (hi); (try clear hb); (try clear hb2); (try clear hk); (try clear hi)))
  refine bodyPost_ret (results_list (rs := [.tmp 2, .tmp 3, .tmp 4, .tmp 5]) rfl (by simp) (.tmp (.tmp (.tmp (.tmp .nil))))) rfl ?_
  exact ⟨_, by first | rfl | (simp [errW_none, errW_some] <;> rfl) | (simp [*, errW_none, errW_some] <;> rfl), kr HO316.out, by repeat (first | (with_reducible first | exact HB.out | apply below_alloc | apply pw_below_drewN | apply below_drew1 | refine below_set ?_ (IsS63.ge HI313.out)) | exact HB.out)⟩

/-! ### spec_l07Look: function 48 -/
mutual
def spec_l07Look.l0 : Nat → List (S40) → Int → ByteArray → Bool → Int → Int → ByteArray → Int → Option (Int × ByteArray × Int)
 | 0, _, _, _, _, _, _, _, _ => none
 | k + 1, x0, x1, x2, x3, x10, x358000, x358001, x358002 => if x10 < (x0.length : Int) then (if 0 ≤ x10 then (if ((rd_T40 x0 x10).f0) = x1 then (if (((rd_T40 x0 x10).f1).size : Int) > (x2.size : Int) then (if x3 = true then (spec_l07Look.j1 k x0 x1 x2 x3 x10 false x358000 x358001 x358002) else (if 0 ≤ (x2.size : Int) then (if (x2.size : Int) ≤ (((rd_T40 x0 x10).f1).size : Int) then (spec_l07Look.j1 k x0 x1 x2 x3 x10 ((((rd_T40 x0 x10).f1).extract 0 ((x2.size : Int) : Int).toNat).toList == x2.toList) x358000 x358001 x358002) else (none)) else (none))) else (if 0 ≤ (((rd_T40 x0 x10).f1).size : Int) then (if (((rd_T40 x0 x10).f1).size : Int) ≤ (x2.size : Int) then (if (x2.extract 0 ((((rd_T40 x0 x10).f1).size : Int) : Int).toNat).toList = ((rd_T40 x0 x10).f1).toList then (if (((rd_T40 x0 x10).f1).size : Int) > x358002 then (spec_l07Look.l0 k x0 x1 x2 x3 (wrap64 (x10 + 1)) 3 ((rd_T40 x0 x10).f2) (((rd_T40 x0 x10).f1).size : Int)) else (spec_l07Look.l0 k x0 x1 x2 x3 (wrap64 (x10 + 1)) x358000 x358001 x358002)) else (spec_l07Look.l0 k x0 x1 x2 x3 (wrap64 (x10 + 1)) x358000 x358001 x358002)) else (none)) else (none))) else (spec_l07Look.l0 k x0 x1 x2 x3 (wrap64 (x10 + 1)) x358000 x358001 x358002)) else (none)) else (some (x358000, x358001, x358002))
def spec_l07Look.j1 : Nat → List (S40) → Int → ByteArray → Bool → Int → Bool → Int → ByteArray → Int → Option (Int × ByteArray × Int)
 | 0, _, _, _, _, _, _, _, _, _ => none
 | k + 1, x0, x1, x2, x3, x10, x45, x358000, x358001, x358002 => if x45 = true then (some (2, (⟨#[]⟩ : ByteArray), 0)) else (spec_l07Look.l0 k x0 x1 x2 x3 (wrap64 (x10 + 1)) x358000 x358001 x358002)
end
def spec_l07Look.f (k : Nat) (l0 : List (S40)) (a1 : Int) (a2 : ByteArray) (a3 : Bool) : Option (Int × ByteArray × Int) := spec_l07Look.l0 k l0 a1 a2 a3 0 1 (⟨#[]⟩ : ByteArray) 0
theorem spec_l07Look.mono_l : ∀ k, (∀ y0 y1 y2 y3 y4 y5 y6 y7, LeO (spec_l07Look.l0 k y0 y1 y2 y3 y4 y5 y6 y7) (spec_l07Look.l0 (k + 1) y0 y1 y2 y3 y4 y5 y6 y7)) ∧ (∀ y0 y1 y2 y3 y4 y5 y6 y7 y8, LeO (spec_l07Look.j1 k y0 y1 y2 y3 y4 y5 y6 y7 y8) (spec_l07Look.j1 (k + 1) y0 y1 y2 y3 y4 y5 y6 y7 y8))
 | 0 => ⟨fun _ _ _ _ _ _ _ _ r h => by simp [spec_l07Look.l0] at h, fun _ _ _ _ _ _ _ _ _ r h => by simp [spec_l07Look.j1] at h⟩
 | k + 1 => by
  obtain ⟨ih0, ih1⟩ := spec_l07Look.mono_l k
  refine ⟨?_, ?_⟩
  ·intro y0 y1 y2 y3 y4 y5 y6 y7
   unfold spec_l07Look.l0
   repeat' first
   | (with_reducible exact ih0 _ _ _ _ _ _ _ _)
   | (with_reducible exact ih1 _ _ _ _ _ _ _ _ _)
   | (with_reducible exact LeO.refl _)
   | (with_reducible exact LeO.none _)
   | (with_reducible refine LeO.ite ?_ ?_)
   | (with_reducible refine LeO.bind ?_ (fun _ => ?_))
   | exact ih0 _ _ _ _ _ _ _ _
   | exact ih1 _ _ _ _ _ _ _ _ _
   | refine LeO.bind ?_ (fun _ => ?_)
  ·intro y0 y1 y2 y3 y4 y5 y6 y7 y8
   unfold spec_l07Look.j1
   repeat' first
   | (with_reducible exact ih0 _ _ _ _ _ _ _ _)
   | (with_reducible exact ih1 _ _ _ _ _ _ _ _ _)
   | (with_reducible exact LeO.refl _)
   | (with_reducible exact LeO.none _)
   | (with_reducible refine LeO.ite ?_ ?_)
   | (with_reducible refine LeO.bind ?_ (fun _ => ?_))
   | exact ih0 _ _ _ _ _ _ _ _
   | exact ih1 _ _ _ _ _ _ _ _ _
   | refine LeO.bind ?_ (fun _ => ?_)
theorem spec_l07Look.mono : ∀ a0 a1 a2 a3 k, LeO (spec_l07Look.f k a0 a1 a2 a3) (spec_l07Look.f (k + 1) a0 a1 a2 a3) := by
 intro a0 a1 a2 a3 k
 obtain ⟨ih0, ih1⟩ := spec_l07Look.mono_l k
 unfold spec_l07Look.f
 repeat' first
   | (with_reducible exact ih0 _ _ _ _ _ _ _ _)
   | (with_reducible exact ih1 _ _ _ _ _ _ _ _ _)
   | (with_reducible exact LeO.refl _)
   | (with_reducible exact LeO.none _)
   | (with_reducible refine LeO.ite ?_ ?_)
   | (with_reducible refine LeO.bind ?_ (fun _ => ?_))
   | exact ih0 _ _ _ _ _ _ _ _
   | exact ih1 _ _ _ _ _ _ _ _ _
   | refine LeO.bind ?_ (fun _ => ?_)
theorem spec_l07Look.calls (k : Nat) (A0 : Option Addr) (c0 : Nat) (l0 : List (S40)) (a1 : Int) (a2 : ByteArray) (a3 : Bool) (r1 : Int) (r2 : ByteArray) (r3 : Int) (w : World) (hr0 : Kd.C k40 w A0 l0.length l0) (hc0 : l0.length ≤ c0) (h : spec_l07Look.f k l0 a1 a2 a3 = some (r1, r2, r3)) :
  Calls Try.prog 48 #[.slice A0 l0.length c0, .int .i64 a1, .string a2, .bool a3] w fun e w' => e = .returned (.agg #[.int .i64 r1, .string r2, .int .i64 r3]) ∧ Below w.heap.size w w' := by
 have hu79 := Try.underlying79
 have hu40 := Try.underlying40
 have HR0 := am hr0
 have HC0 := am hc0
 clear hr0 hc0
 have HB := am (Below.refl w.heap.size w)
 have H : (spec_l07Look.l0 k l0 a1 a2 a3 0 1 (⟨#[]⟩ : ByteArray) 0) = some (r1, r2, r3) := h
 clear h
 have H' := Aside0.mk H
 clear H
 go_enter Try.func48, Try.ntmps48
 go_wp2_with (first | ((with_reducible refine gate_dst (N := 8) rfl ?_); (try (refine gate_guard (by rfl) ?_; dsimp only)); refine box_event ?hg (N := 8) ?hd (cs := #[.int .i64 0, .string (⟨#[]⟩ : ByteArray), .int .i64 0]) (t := 79) ?hr ?_; (case hd => rfl); (case hg => rfl); (case hr => first | (go_simp; done) | (go_simp; rfl)); intro gb356 hg w5 hbox hb; have BK356 := am (hbox); have GW356 := am ((by rw [hg]; exact (below_size (bl HB.out)) : w.heap.size ≤ gb356)); have GE356 := GW356; replace HB := am (below_step (bl HB.out) hb); clear hb hbox hg) | ((with_reducible refine gate_dst (N := 9) rfl ?_); (try (refine gate_guard (by rfl) ?_; dsimp only)); refine box_event ?hg (N := 9) ?hd (cs := #[.int .i64 0, .string (⟨#[]⟩ : ByteArray), .int .i64 0]) (t := 79) ?hr ?_; (case hd => rfl); (case hg => rfl); (case hr => first | (go_simp; done) | (go_simp; rfl)); intro gb357 hg w6 hbox hb; have BK357 := am (hbox); have GW357 := am ((by rw [hg]; exact (below_size (bl HB.out)) : w.heap.size ≤ gb357)); have GE357 := GW357; replace HB := am (below_step (bl HB.out) hb); have NB356_357 := am ((by rw [hg]; exact Nat.ne_of_lt (blk_lt (pk BK356.out)) : gb356 ≠ gb357)); have NB357_356 := am ((by rw [hg]; exact Nat.ne_of_gt (blk_lt (pk BK356.out)) : gb357 ≠ gb356)); replace BK356 := am (blk_below (pk BK356.out) hb); clear hb hbox hg; have hnb7 := NB357_356.out; have hnc7 := NB356_357.out; have hcz8_0 : w6.cell? ⟨gb357, 0, none⟩ = some (.int .i64 0) := bc BK357.out 0; have hcz8_1 : w6.cell? ⟨gb357, 1, none⟩ = some (.string (⟨#[]⟩ : ByteArray)) := bc BK357.out 1; have hcz8_2 : w6.cell? ⟨gb357, 2, none⟩ = some (.int .i64 0) := bc BK357.out 2; have hfz8_0 := blk_frozen BK357.out 0; have hfz8_1 := blk_frozen BK357.out 1; have hfz8_2 := blk_frozen BK357.out 2))
 repeat (go_quiet (first | ((with_reducible refine gate_dst (N := 8) rfl ?_); (try (refine gate_guard (by rfl) ?_; dsimp only)); refine box_event ?hg (N := 8) ?hd (cs := #[.int .i64 0, .string (⟨#[]⟩ : ByteArray), .int .i64 0]) (t := 79) ?hr ?_; (case hd => rfl); (case hg => rfl); (case hr => first | (go_simp; done) | (go_simp; rfl)); intro gb356 hg w5 hbox hb; have BK356 := am (hbox); have GW356 := am ((by rw [hg]; exact (below_size (bl HB.out)) : w.heap.size ≤ gb356)); have GE356 := GW356; replace HB := am (below_step (bl HB.out) hb); clear hb hbox hg) | ((with_reducible refine gate_dst (N := 9) rfl ?_); (try (refine gate_guard (by rfl) ?_; dsimp only)); refine box_event ?hg (N := 9) ?hd (cs := #[.int .i64 0, .string (⟨#[]⟩ : ByteArray), .int .i64 0]) (t := 79) ?hr ?_; (case hd => rfl); (case hg => rfl); (case hr => first | (go_simp; done) | (go_simp; rfl)); intro gb357 hg w6 hbox hb; have BK357 := am (hbox); have GW357 := am ((by rw [hg]; exact (below_size (bl HB.out)) : w.heap.size ≤ gb357)); have GE357 := GW357; replace HB := am (below_step (bl HB.out) hb); have NB356_357 := am ((by rw [hg]; exact Nat.ne_of_lt (blk_lt (pk BK356.out)) : gb356 ≠ gb357)); have NB357_356 := am ((by rw [hg]; exact Nat.ne_of_gt (blk_lt (pk BK356.out)) : gb357 ≠ gb356)); replace BK356 := am (blk_below (pk BK356.out) hb); clear hb hbox hg; have hnb7 := NB357_356.out; have hnc7 := NB356_357.out; have hcz8_0 : w6.cell? ⟨gb357, 0, none⟩ = some (.int .i64 0) := bc BK357.out 0; have hcz8_1 : w6.cell? ⟨gb357, 1, none⟩ = some (.string (⟨#[]⟩ : ByteArray)) := bc BK357.out 1; have hcz8_2 : w6.cell? ⟨gb357, 2, none⟩ = some (.int .i64 0) := bc BK357.out 2; have hfz8_0 := blk_frozen BK357.out 0; have hfz8_1 := blk_frozen BK357.out 1; have hfz8_2 := blk_frozen BK357.out 2)); try go_wp2_with (first | ((with_reducible refine gate_dst (N := 8) rfl ?_); (try (refine gate_guard (by rfl) ?_; dsimp only)); refine box_event ?hg (N := 8) ?hd (cs := #[.int .i64 0, .string (⟨#[]⟩ : ByteArray), .int .i64 0]) (t := 79) ?hr ?_; (case hd => rfl); (case hg => rfl); (case hr => first | (go_simp; done) | (go_simp; rfl)); intro gb356 hg w5 hbox hb; have BK356 := am (hbox); have GW356 := am ((by rw [hg]; exact (below_size (bl HB.out)) : w.heap.size ≤ gb356)); have GE356 := GW356; replace HB := am (below_step (bl HB.out) hb); clear hb hbox hg) | ((with_reducible refine gate_dst (N := 9) rfl ?_); (try (refine gate_guard (by rfl) ?_; dsimp only)); refine box_event ?hg (N := 9) ?hd (cs := #[.int .i64 0, .string (⟨#[]⟩ : ByteArray), .int .i64 0]) (t := 79) ?hr ?_; (case hd => rfl); (case hg => rfl); (case hr => first | (go_simp; done) | (go_simp; rfl)); intro gb357 hg w6 hbox hb; have BK357 := am (hbox); have GW357 := am ((by rw [hg]; exact (below_size (bl HB.out)) : w.heap.size ≤ gb357)); have GE357 := GW357; replace HB := am (below_step (bl HB.out) hb); have NB356_357 := am ((by rw [hg]; exact Nat.ne_of_lt (blk_lt (pk BK356.out)) : gb356 ≠ gb357)); have NB357_356 := am ((by rw [hg]; exact Nat.ne_of_gt (blk_lt (pk BK356.out)) : gb357 ≠ gb356)); replace BK356 := am (blk_below (pk BK356.out) hb); clear hb hbox hg; have hnb7 := NB357_356.out; have hnc7 := NB356_357.out; have hcz8_0 : w6.cell? ⟨gb357, 0, none⟩ = some (.int .i64 0) := bc BK357.out 0; have hcz8_1 : w6.cell? ⟨gb357, 1, none⟩ = some (.string (⟨#[]⟩ : ByteArray)) := bc BK357.out 1; have hcz8_2 : w6.cell? ⟨gb357, 2, none⟩ = some (.int .i64 0) := bc BK357.out 2; have hfz8_0 := blk_frozen BK357.out 0; have hfz8_1 := blk_frozen BK357.out 1; have hfz8_2 := blk_frozen BK357.out 2)))
 go_loopg [10] k (fun kq v10 w' => ∃ (x10_1 : Int) (x357000_1 : Int) (x357001_1 : ByteArray) (x357002_1 : Int) (x358000_1 : Int) (x358001_1 : ByteArray) (x358002_1 : Int), v10 = .int .i64 x10_1 ∧ Aside0 (spec_l07Look.l0 kq l0 a1 a2 a3 x10_1 x358000_1 x358001_1 x358002_1 = some (r1, r2, r3)) ∧ Aside0 (kq ≤ k) ∧ Aside0 (w'.heap[gb356]? = some (.cells #[.int .i64 x357000_1, .string x357001_1, .int .i64 x357002_1] 79 (0, 0))) ∧ Aside0 (w'.heap[gb357]? = some (.cells #[.int .i64 x358000_1, .string x358001_1, .int .i64 x358002_1] 79 (0, 0))) ∧ Aside0 (Below w.heap.size w w'))
 case atStart => exact ⟨(0), (0), ((⟨#[]⟩ : ByteArray)), (0), (1), ((⟨#[]⟩ : ByteArray)), (0), (by first | rfl | (simp; done) | (simp [*]; done)), H', ⟨Nat.le_refl _⟩, ⟨by refine pk ?_; refine blk_far ?_ NB356_357.out _; refine pk ?_; refine blk_far ?_ NB356_357.out _; refine pk ?_; refine blk_far ?_ NB356_357.out _; refine pk ?_; exact BK356.out⟩, ⟨by refine pk ?_; refine blk_put (cs := #[.int .i64 1, .string (⟨#[]⟩ : ByteArray), .int .i64 0]) ?_ 2 _ rfl; refine pk ?_; refine blk_put (cs := #[.int .i64 1, .string (⟨#[]⟩ : ByteArray), .int .i64 0]) ?_ 1 _ rfl; refine pk ?_; refine blk_put (cs := #[.int .i64 0, .string (⟨#[]⟩ : ByteArray), .int .i64 0]) ?_ 0 _ rfl; refine pk ?_; exact BK357.out⟩, ⟨by repeat (first | (with_reducible first | exact HB.out | apply below_alloc | apply pw_below_drewN | apply below_drew1 | refine below_set ?_ GE356.out | refine below_set ?_ GE357.out) | exact HB.out)⟩⟩
 case round =>
  clear H'
  try clear p2
  try clear c4
  try clear c7
  try clear hcz8_0
  try clear hcz8_1
  try clear hcz8_2
  try clear hfz8_0
  try clear hfz8_1
  try clear hfz8_2
  obtain ⟨x10_1, x357000_1, x357001_1, x357002_1, x358000_1, x358001_1, x358002_1, rfl, HA, HK1, BK356, BK357, HB⟩ := hrel
  cases gk with
  | zero => exact absurd HA.out (by simp [spec_l07Look.l0])
  | succ k1 =>
   have H := HA.out
   clear HA
   simp only [spec_l07Look.l0] at H
   by_cases c9 : x10_1 < (l0.length : Int)
   ·rw [if_pos c9] at H
    have c9b0 : decide (x10_1 < (l0.length : Int)) = true := decide_eq_true c9
    clear c9
    by_cases c10 : 0 ≤ x10_1
    ·rw [if_pos c10] at H
     have c10b0 : decide (0 ≤ x10_1) = true := decide_eq_true c10
     clear c10
     by_cases c11 : ((rd_T40 l0 x10_1).f0) = a1
     ·rw [if_pos c11] at H
      have c11b0 : (((rd_T40 l0 x10_1).f0) == a1) = true := beq_iff_eq.mpr c11
      have c11b1 : (((rd_T40 l0 x10_1).f0) != a1) = false := bne_eq_false_iff_eq.mpr c11
      clear c11
      by_cases c12 : (((rd_T40 l0 x10_1).f1).size : Int) > (a2.size : Int)
      ·rw [if_pos c12] at H
       have c12b0 : decide ((a2.size : Int) < (((rd_T40 l0 x10_1).f1).size : Int)) = true := decide_eq_true c12
       have c12b1 : decide (a2.size < ((rd_T40 l0 x10_1).f1).size) = true := decide_eq_true (Int.ofNat_lt.mp c12)
       clear c12
       have HC13 := Aside0.mk H
       clear H
       have p358 : 0 ≤ (x10_1 : Int) := of_decide_eq_true (by first | (with_reducible assumption) | assumption)
       have q358 : x10_1 < (l0.length : Int) := of_decide_eq_true (by first | (with_reducible assumption) | assumption)
       obtain ⟨ad358, e358, hx358_0, hx358_1, hx358_2⟩ := at_T40 HR0.out x10_1 p358 q358
       cases e358
       replace hx358_0 := (HB.out.cell (World.block_lt_of_cell? w _ hx358_0)).trans hx358_0
       replace hx358_1 := (HB.out.cell (World.block_lt_of_cell? w _ hx358_1)).trans hx358_1
       replace hx358_2 := (HB.out.cell (World.block_lt_of_cell? w _ hx358_2)).trans hx358_2
       replace p358 := eq_true p358
       replace q358 := eq_true q358
       go_upto_region 9 with (first | ((with_reducible refine gate_dst (N := 11) rfl ?_); (try (refine gate_guard (by rfl) ?_; dsimp only)); refine box_event ?hg (N := 11) ?hd (cs := #[.int .i64 0, .string (⟨#[]⟩ : ByteArray), .string (⟨#[]⟩ : ByteArray)]) (t := 40) ?hr ?_; (case hd => rfl); (case hg => rfl); (case hr => first | (go_simp; done) | (go_simp; rfl)); intro gb359 hg w14 hbox hb; have BK359 := am (hbox); have GW359 := am ((by rw [hg]; exact (below_size (bl HB.out)) : w.heap.size ≤ gb359)); have GE359 := GW359; replace HB := am (below_step (bl HB.out) hb); have NB356_359 := am ((by rw [hg]; exact Nat.ne_of_lt (blk_lt (pk BK356.out)) : gb356 ≠ gb359)); have NB359_356 := am ((by rw [hg]; exact Nat.ne_of_gt (blk_lt (pk BK356.out)) : gb359 ≠ gb356)); replace BK356 := am (blk_below (pk BK356.out) hb); have NB357_359 := am ((by rw [hg]; exact Nat.ne_of_lt (blk_lt (pk BK357.out)) : gb357 ≠ gb359)); have NB359_357 := am ((by rw [hg]; exact Nat.ne_of_gt (blk_lt (pk BK357.out)) : gb359 ≠ gb357)); replace BK357 := am (blk_below (pk BK357.out) hb); clear hb hbox hg; have hnb15 := NB359_356.out; have hnc15 := NB356_359.out; have hnb16 := NB359_357.out; have hnc16 := NB357_359.out; have hcz17_0 : w14.cell? ⟨gb359, 0, none⟩ = some (.int .i64 0) := bc BK359.out 0; have hcz17_1 : w14.cell? ⟨gb359, 1, none⟩ = some (.string (⟨#[]⟩ : ByteArray)) := bc BK359.out 1; have hcz17_2 : w14.cell? ⟨gb359, 2, none⟩ = some (.string (⟨#[]⟩ : ByteArray)) := bc BK359.out 2; have hfz17_0 := blk_frozen BK359.out 0; have hfz17_1 := blk_frozen BK359.out 1; have hfz17_2 := blk_frozen BK359.out 2))
       repeat (go_quiet (first | ((with_reducible refine gate_dst (N := 11) rfl ?_); (try (refine gate_guard (by rfl) ?_; dsimp only)); refine box_event ?hg (N := 11) ?hd (cs := #[.int .i64 0, .string (⟨#[]⟩ : ByteArray), .string (⟨#[]⟩ : ByteArray)]) (t := 40) ?hr ?_; (case hd => rfl); (case hg => rfl); (case hr => first | (go_simp; done) | (go_simp; rfl)); intro gb359 hg w14 hbox hb; have BK359 := am (hbox); have GW359 := am ((by rw [hg]; exact (below_size (bl HB.out)) : w.heap.size ≤ gb359)); have GE359 := GW359; replace HB := am (below_step (bl HB.out) hb); have NB356_359 := am ((by rw [hg]; exact Nat.ne_of_lt (blk_lt (pk BK356.out)) : gb356 ≠ gb359)); have NB359_356 := am ((by rw [hg]; exact Nat.ne_of_gt (blk_lt (pk BK356.out)) : gb359 ≠ gb356)); replace BK356 := am (blk_below (pk BK356.out) hb); have NB357_359 := am ((by rw [hg]; exact Nat.ne_of_lt (blk_lt (pk BK357.out)) : gb357 ≠ gb359)); have NB359_357 := am ((by rw [hg]; exact Nat.ne_of_gt (blk_lt (pk BK357.out)) : gb359 ≠ gb357)); replace BK357 := am (blk_below (pk BK357.out) hb); clear hb hbox hg; have hnb15 := NB359_356.out; have hnc15 := NB356_359.out; have hnb16 := NB359_357.out; have hnc16 := NB357_359.out; have hcz17_0 : w14.cell? ⟨gb359, 0, none⟩ = some (.int .i64 0) := bc BK359.out 0; have hcz17_1 : w14.cell? ⟨gb359, 1, none⟩ = some (.string (⟨#[]⟩ : ByteArray)) := bc BK359.out 1; have hcz17_2 : w14.cell? ⟨gb359, 2, none⟩ = some (.string (⟨#[]⟩ : ByteArray)) := bc BK359.out 2; have hfz17_0 := blk_frozen BK359.out 0; have hfz17_1 := blk_frozen BK359.out 1; have hfz17_2 := blk_frozen BK359.out 2)); go_upto_region 9 with (first | ((with_reducible refine gate_dst (N := 11) rfl ?_); (try (refine gate_guard (by rfl) ?_; dsimp only)); refine box_event ?hg (N := 11) ?hd (cs := #[.int .i64 0, .string (⟨#[]⟩ : ByteArray), .string (⟨#[]⟩ : ByteArray)]) (t := 40) ?hr ?_; (case hd => rfl); (case hg => rfl); (case hr => first | (go_simp; done) | (go_simp; rfl)); intro gb359 hg w14 hbox hb; have BK359 := am (hbox); have GW359 := am ((by rw [hg]; exact (below_size (bl HB.out)) : w.heap.size ≤ gb359)); have GE359 := GW359; replace HB := am (below_step (bl HB.out) hb); have NB356_359 := am ((by rw [hg]; exact Nat.ne_of_lt (blk_lt (pk BK356.out)) : gb356 ≠ gb359)); have NB359_356 := am ((by rw [hg]; exact Nat.ne_of_gt (blk_lt (pk BK356.out)) : gb359 ≠ gb356)); replace BK356 := am (blk_below (pk BK356.out) hb); have NB357_359 := am ((by rw [hg]; exact Nat.ne_of_lt (blk_lt (pk BK357.out)) : gb357 ≠ gb359)); have NB359_357 := am ((by rw [hg]; exact Nat.ne_of_gt (blk_lt (pk BK357.out)) : gb359 ≠ gb357)); replace BK357 := am (blk_below (pk BK357.out) hb); clear hb hbox hg; have hnb15 := NB359_356.out; have hnc15 := NB356_359.out; have hnb16 := NB359_357.out; have hnc16 := NB357_359.out; have hcz17_0 : w14.cell? ⟨gb359, 0, none⟩ = some (.int .i64 0) := bc BK359.out 0; have hcz17_1 : w14.cell? ⟨gb359, 1, none⟩ = some (.string (⟨#[]⟩ : ByteArray)) := bc BK359.out 1; have hcz17_2 : w14.cell? ⟨gb359, 2, none⟩ = some (.string (⟨#[]⟩ : ByteArray)) := bc BK359.out 2; have hfz17_0 := blk_frozen BK359.out 0; have hfz17_1 := blk_frozen BK359.out 1; have hfz17_2 := blk_frozen BK359.out 2)))
       (try simp only [Act.put, sa_, s0_, ss_])
       go_cut [45] (fun v45 wc => ∃ (kq : Nat) (x45_12 : Bool), v45 = .bool x45_12 ∧ Aside0 (spec_l07Look.j1 kq l0 a1 a2 a3 x10_1 x45_12 x358000_1 x358001_1 x358002_1 = some (r1, r2, r3)) ∧ Aside0 (kq ≤ k1) ∧ Aside0 (wc.heap[gb356]? = some (.cells #[.int .i64 x357000_1, .string x357001_1, .int .i64 x357002_1] 79 (0, 0))) ∧ Aside0 (wc.heap[gb357]? = some (.cells #[.int .i64 x358000_1, .string x358001_1, .int .i64 x358002_1] 79 (0, 0))) ∧ Aside0 (wc.heap[gb359]? = some (.cells #[.int .i64 ((rd_T40 l0 x10_1).f0), .string ((rd_T40 l0 x10_1).f1), .string ((rd_T40 l0 x10_1).f2)] 40 (0, 0))) ∧ Aside0 (Below w.heap.size w wc))
       case first =>
        have H := HC13.out
        clear HC13
        by_cases c18 : a3 = true
        ·subst c18
         have H1 : (spec_l07Look.j1 k1 l0 a1 a2 true x10_1 false x358000_1 x358001_1 x358002_1) = some (r1, r2, r3) := by rw [if_pos rfl] at H; exact H
         clear H
         have H := H1
         clear H1
         have H' := Aside0.mk H
         clear H
         go_wp2
         repeat (go_quiet (fail); try go_wp2)
         go_meet
         case rel => exact ⟨_, (false), (by first | rfl | (simp; done) | (simp [*]; done)), H', ⟨by have := HK1.out; first | omega | exact Nat.le_refl _⟩, ⟨by refine pk ?_; refine blk_far ?_ NB356_359.out _; refine pk ?_; refine blk_far ?_ NB356_359.out _; refine pk ?_; refine blk_far ?_ NB356_359.out _; refine pk ?_; exact BK356.out⟩, ⟨by refine pk ?_; refine blk_far ?_ NB357_359.out _; refine pk ?_; refine blk_far ?_ NB357_359.out _; refine pk ?_; refine blk_far ?_ NB357_359.out _; refine pk ?_; exact BK357.out⟩, ⟨by refine pk ?_; refine blk_put (cs := #[.int .i64 ((rd_T40 l0 x10_1).f0), .string ((rd_T40 l0 x10_1).f1), .string (⟨#[]⟩ : ByteArray)]) ?_ 2 _ rfl; refine pk ?_; refine blk_put (cs := #[.int .i64 ((rd_T40 l0 x10_1).f0), .string (⟨#[]⟩ : ByteArray), .string (⟨#[]⟩ : ByteArray)]) ?_ 1 _ rfl; refine pk ?_; refine blk_put (cs := #[.int .i64 0, .string (⟨#[]⟩ : ByteArray), .string (⟨#[]⟩ : ByteArray)]) ?_ 0 _ rfl; refine pk ?_; exact BK359.out⟩, ⟨by repeat (first | (with_reducible first | exact HB.out | apply below_alloc | apply pw_below_drewN | apply below_drew1 | refine below_set ?_ GE356.out | refine below_set ?_ GE357.out | refine below_set ?_ GE359.out) | exact HB.out)⟩⟩
        ·replace c18 := Bool.eq_false_iff.mpr c18
         subst c18
         have H1 : (if 0 ≤ (a2.size : Int) then (if (a2.size : Int) ≤ (((rd_T40 l0 x10_1).f1).size : Int) then (spec_l07Look.j1 k1 l0 a1 a2 false x10_1 ((((rd_T40 l0 x10_1).f1).extract 0 ((a2.size : Int) : Int).toNat).toList == a2.toList) x358000_1 x358001_1 x358002_1) else (none)) else (none)) = some (r1, r2, r3) := by rw [if_neg (show ¬ (false = true) by decide)] at H; exact H
         clear H
         have H := H1
         clear H1
         by_cases c19 : 0 ≤ (a2.size : Int)
         ·rw [if_pos c19] at H
          have c19b0 := eq_true c19
          have c19b1 : decide (0 ≤ (a2.size : Int)) = true := decide_eq_true c19
          clear c19
          by_cases c20 : (a2.size : Int) ≤ (((rd_T40 l0 x10_1).f1).size : Int)
          ·rw [if_pos c20] at H
           have c20b0 := eq_true c20
           have c20b1 : decide ((a2.size : Int) ≤ (((rd_T40 l0 x10_1).f1).size : Int)) = true := decide_eq_true c20
           clear c20
           have H' := Aside0.mk H
           clear H
           have hnb21 := NB359_356.out
           have hnc21 := NB356_359.out
           have hnb22 := NB359_357.out
           have hnc22 := NB357_359.out
           have hcz23_0 : w14.cell? ⟨gb359, 0, none⟩ = some (.int .i64 0) := bc BK359.out 0
           have hcz23_1 : w14.cell? ⟨gb359, 1, none⟩ = some (.string (⟨#[]⟩ : ByteArray)) := bc BK359.out 1
           have hcz23_2 : w14.cell? ⟨gb359, 2, none⟩ = some (.string (⟨#[]⟩ : ByteArray)) := bc BK359.out 2
           have hfz23_0 := blk_frozen BK359.out 0
           have hfz23_1 := blk_frozen BK359.out 1
           have hfz23_2 := blk_frozen BK359.out 2
           go_wp2
           repeat (go_quiet (fail); try go_wp2)
           go_meet
           case rel => exact ⟨_, (((((rd_T40 l0 x10_1).f1).extract 0 ((a2.size : Int) : Int).toNat).toList == a2.toList)), (by first | rfl | (simp; done) | (simp [*]; done)), H', ⟨by have := HK1.out; first | omega | exact Nat.le_refl _⟩, ⟨by refine pk ?_; refine blk_far ?_ NB356_359.out _; refine pk ?_; refine blk_far ?_ NB356_359.out _; refine pk ?_; refine blk_far ?_ NB356_359.out _; refine pk ?_; exact BK356.out⟩, ⟨by refine pk ?_; refine blk_far ?_ NB357_359.out _; refine pk ?_; refine blk_far ?_ NB357_359.out _; refine pk ?_; refine blk_far ?_ NB357_359.out _; refine pk ?_; exact BK357.out⟩, ⟨by refine pk ?_; refine blk_put (cs := #[.int .i64 ((rd_T40 l0 x10_1).f0), .string ((rd_T40 l0 x10_1).f1), .string (⟨#[]⟩ : ByteArray)]) ?_ 2 _ rfl; refine pk ?_; refine blk_put (cs := #[.int .i64 ((rd_T40 l0 x10_1).f0), .string (⟨#[]⟩ : ByteArray), .string (⟨#[]⟩ : ByteArray)]) ?_ 1 _ rfl; refine pk ?_; refine blk_put (cs := #[.int .i64 0, .string (⟨#[]⟩ : ByteArray), .string (⟨#[]⟩ : ByteArray)]) ?_ 0 _ rfl; refine pk ?_; exact BK359.out⟩, ⟨by repeat (first | (with_reducible first | exact HB.out | apply below_alloc | apply pw_below_drewN | apply below_drew1 | refine below_set ?_ GE356.out | refine below_set ?_ GE357.out | refine below_set ?_ GE359.out) | exact HB.out)⟩⟩
          ·rw [if_neg c20] at H
           exact absurd H (by simp)
         ·rw [if_neg c19] at H
          exact absurd H (by simp)
       case rest =>
        clear HC13
        try clear c1
        try clear c2
        try clear p2
        try clear p3
        try clear q3
        try clear hx3
        try clear c4
        try clear c7
        try clear c9
        try clear c9b0
        try clear c10
        try clear c10b0
        try clear c11
        try clear c11b0
        try clear c11b1
        try clear c12
        try clear c12b0
        try clear c12b1
        try clear c15
        try clear c16
        try clear c18
        try clear c19
        try clear c19b0
        try clear c19b1
        try clear c20
        try clear c20b0
        try clear c20b1
        try clear c21
        try clear c22
        try clear hcz17_0
        try clear hcz17_1
        try clear hcz17_2
        try clear hcz23_0
        try clear hcz23_1
        try clear hcz23_2
        try clear hcz8_0
        try clear hcz8_1
        try clear hcz8_2
        try clear hfz17_0
        try clear hfz17_1
        try clear hfz17_2
        try clear hfz23_0
        try clear hfz23_1
        try clear hfz23_2
        try clear hfz8_0
        try clear hfz8_1
        try clear hfz8_2
        try clear hx358_0
        try clear hx358_1
        try clear hx358_2
        try clear p2
        try clear p358
        try clear q358
        obtain ⟨kq, x45_12, rfl, HA, HJ12, BK356, BK357, BK359, HB⟩ := hcut
        cases kq with
        | zero => exact absurd HA.out (by simp [spec_l07Look.j1])
        | succ kj12 =>
         have H := HA.out
         clear HA
         simp only [spec_l07Look.j1] at H
         by_cases c24 : x45_12 = true
         ·subst c24
          have H1 : (some (2, (⟨#[]⟩ : ByteArray), 0)) = some (r1, r2, r3) := by rw [if_pos rfl] at H; exact H
          clear H
          have H := H1
          clear H1
          simp only [Option.some.injEq, Prod.mk.injEq] at H
          obtain ⟨rfl, rfl, rfl⟩ := H
          have hnb25 := NB356_357.out
          have hnc25 := NB357_356.out
          have hnb26 := NB356_359.out
          have hnc26 := NB359_356.out
          have hcz27_0 : wc.cell? ⟨gb356, 0, none⟩ = some (.int .i64 x357000_1) := bc BK356.out 0
          have hcz27_1 : wc.cell? ⟨gb356, 1, none⟩ = some (.string x357001_1) := bc BK356.out 1
          have hcz27_2 : wc.cell? ⟨gb356, 2, none⟩ = some (.int .i64 x357002_1) := bc BK356.out 2
          have hfz27_0 := blk_frozen BK356.out 0
          have hfz27_1 := blk_frozen BK356.out 1
          have hfz27_2 := blk_frozen BK356.out 2
          go_wp2
          repeat (go_quiet (fail); try go_wp2)
          refine bodyPost_ret (results_cell_row rfl _ _ gb356 79 #[.int .i64 2, .string (⟨#[]⟩ : ByteArray), .int .i64 0] (0, 0) _ rfl (by refine pk ?_; refine blk_put (cs := #[.int .i64 2, .string (⟨#[]⟩ : ByteArray), .int .i64 x357002_1]) ?_ 2 _ rfl; refine pk ?_; refine blk_put (cs := #[.int .i64 2, .string x357001_1, .int .i64 x357002_1]) ?_ 1 _ rfl; refine pk ?_; refine blk_put (cs := #[.int .i64 x357000_1, .string x357001_1, .int .i64 x357002_1]) ?_ 0 _ rfl; refine pk ?_; exact BK356.out) Try.underlying79 rfl (by kernel_rfl)) rfl ?_
          exact ⟨by first | rfl | (simp [errW_none, errW_some] <;> rfl) | (simp [*, errW_none, errW_some] <;> rfl), by repeat (first | (with_reducible first | exact HB.out | apply below_alloc | apply pw_below_drewN | apply below_drew1 | refine below_set ?_ GE356.out | refine below_set ?_ GE357.out | refine below_set ?_ GE359.out) | exact HB.out)⟩
         ·replace c24 := Bool.eq_false_iff.mpr c24
          subst c24
          have H1 : (spec_l07Look.l0 kj12 l0 a1 a2 a3 (wrap64 (x10_1 + 1)) x358000_1 x358001_1 x358002_1) = some (r1, r2, r3) := by rw [if_neg (show ¬ (false = true) by decide)] at H; exact H
          clear H
          have H := H1
          clear H1
          have H' := Aside0.mk H
          clear H
          go_wp2
          repeat (go_quiet (fail); try go_wp2)
          go_roundg kj12
          case measure => have := HK1.out; have := HJ12.out; omega
          case rel => exact ⟨(wrap64 (x10_1 + 1)), (x357000_1), (x357001_1), (x357002_1), (x358000_1), (x358001_1), (x358002_1), (by first | rfl | (simp; done) | (simp [*]; done)), H', ⟨by have := HK1.out; have := HJ12.out; omega⟩, ⟨pk BK356.out⟩, ⟨pk BK357.out⟩, ⟨by repeat (first | (with_reducible first | exact HB.out | apply below_alloc | apply pw_below_drewN | apply below_drew1 | refine below_set ?_ GE356.out | refine below_set ?_ GE357.out | refine below_set ?_ GE359.out) | exact HB.out)⟩⟩
      ·rw [if_neg c12] at H
       have c12b0 : decide ((a2.size : Int) < (((rd_T40 l0 x10_1).f1).size : Int)) = false := decide_eq_false c12
       have c12b1 : decide (a2.size < ((rd_T40 l0 x10_1).f1).size) = false := decide_eq_false (fun h => c12 (Int.ofNat_lt.mpr h))
       clear c12
       by_cases c28 : 0 ≤ (((rd_T40 l0 x10_1).f1).size : Int)
       ·rw [if_pos c28] at H
        have c28b0 := eq_true c28
        have c28b1 : decide (0 ≤ (((rd_T40 l0 x10_1).f1).size : Int)) = true := decide_eq_true c28
        clear c28
        by_cases c29 : (((rd_T40 l0 x10_1).f1).size : Int) ≤ (a2.size : Int)
        ·rw [if_pos c29] at H
         have c29b0 := eq_true c29
         have c29b1 : decide ((((rd_T40 l0 x10_1).f1).size : Int) ≤ (a2.size : Int)) = true := decide_eq_true c29
         clear c29
         by_cases c30 : (a2.extract 0 ((((rd_T40 l0 x10_1).f1).size : Int) : Int).toNat).toList = ((rd_T40 l0 x10_1).f1).toList
         ·rw [if_pos c30] at H
          have c30b0 : ((a2.extract 0 ((((rd_T40 l0 x10_1).f1).size : Int) : Int).toNat).toList == ((rd_T40 l0 x10_1).f1).toList) = true := beq_iff_eq.mpr c30
          (try (have c30b0q := c30b0; simp only [Int.toNat_natCast] at c30b0q))
          have c30b1 : ((a2.extract 0 ((((rd_T40 l0 x10_1).f1).size : Int) : Int).toNat).toList != ((rd_T40 l0 x10_1).f1).toList) = false := bne_eq_false_iff_eq.mpr c30
          clear c30
          by_cases c31 : (((rd_T40 l0 x10_1).f1).size : Int) > x358002_1
          ·rw [if_pos c31] at H
           have c31b0 : decide (x358002_1 < (((rd_T40 l0 x10_1).f1).size : Int)) = true := decide_eq_true c31
           clear c31
           have H' := Aside0.mk H
           clear H
           have p358 : 0 ≤ (x10_1 : Int) := of_decide_eq_true (by first | (with_reducible assumption) | assumption)
           have q358 : x10_1 < (l0.length : Int) := of_decide_eq_true (by first | (with_reducible assumption) | assumption)
           obtain ⟨ad358, e358, hx358_0, hx358_1, hx358_2⟩ := at_T40 HR0.out x10_1 p358 q358
           cases e358
           replace hx358_0 := (HB.out.cell (World.block_lt_of_cell? w _ hx358_0)).trans hx358_0
           replace hx358_1 := (HB.out.cell (World.block_lt_of_cell? w _ hx358_1)).trans hx358_1
           replace hx358_2 := (HB.out.cell (World.block_lt_of_cell? w _ hx358_2)).trans hx358_2
           replace p358 := eq_true p358
           replace q358 := eq_true q358
           go_wp2_with (first | ((with_reducible refine gate_dst (N := 11) rfl ?_); (try (refine gate_guard (by rfl) ?_; dsimp only)); refine box_event ?hg (N := 11) ?hd (cs := #[.int .i64 0, .string (⟨#[]⟩ : ByteArray), .string (⟨#[]⟩ : ByteArray)]) (t := 40) ?hr ?_; (case hd => rfl); (case hg => rfl); (case hr => first | (go_simp; done) | (go_simp; rfl)); intro gb359 hg w32 hbox hb; have BK359 := am (hbox); have GW359 := am ((by rw [hg]; exact (below_size (bl HB.out)) : w.heap.size ≤ gb359)); have GE359 := GW359; replace HB := am (below_step (bl HB.out) hb); have NB356_359 := am ((by rw [hg]; exact Nat.ne_of_lt (blk_lt (pk BK356.out)) : gb356 ≠ gb359)); have NB359_356 := am ((by rw [hg]; exact Nat.ne_of_gt (blk_lt (pk BK356.out)) : gb359 ≠ gb356)); replace BK356 := am (blk_below (pk BK356.out) hb); have NB357_359 := am ((by rw [hg]; exact Nat.ne_of_lt (blk_lt (pk BK357.out)) : gb357 ≠ gb359)); have NB359_357 := am ((by rw [hg]; exact Nat.ne_of_gt (blk_lt (pk BK357.out)) : gb359 ≠ gb357)); replace BK357 := am (blk_below (pk BK357.out) hb); clear hb hbox hg; have hnb33 := NB359_356.out; have hnc33 := NB356_359.out; have hnb34 := NB359_357.out; have hnc34 := NB357_359.out; have hcz35_0 : w32.cell? ⟨gb359, 0, none⟩ = some (.int .i64 0) := bc BK359.out 0; have hcz35_1 : w32.cell? ⟨gb359, 1, none⟩ = some (.string (⟨#[]⟩ : ByteArray)) := bc BK359.out 1; have hcz35_2 : w32.cell? ⟨gb359, 2, none⟩ = some (.string (⟨#[]⟩ : ByteArray)) := bc BK359.out 2; have hfz35_0 := blk_frozen BK359.out 0; have hfz35_1 := blk_frozen BK359.out 1; have hfz35_2 := blk_frozen BK359.out 2; have hnb36 := NB357_356.out; have hnc36 := NB356_357.out; have hcz37_0 : w32.cell? ⟨gb357, 0, none⟩ = some (.int .i64 x358000_1) := bc BK357.out 0; have hcz37_1 : w32.cell? ⟨gb357, 1, none⟩ = some (.string x358001_1) := bc BK357.out 1; have hcz37_2 : w32.cell? ⟨gb357, 2, none⟩ = some (.int .i64 x358002_1) := bc BK357.out 2; have hfz37_0 := blk_frozen BK357.out 0; have hfz37_1 := blk_frozen BK357.out 1; have hfz37_2 := blk_frozen BK357.out 2))
           repeat (go_quiet (first | ((with_reducible refine gate_dst (N := 11) rfl ?_); (try (refine gate_guard (by rfl) ?_; dsimp only)); refine box_event ?hg (N := 11) ?hd (cs := #[.int .i64 0, .string (⟨#[]⟩ : ByteArray), .string (⟨#[]⟩ : ByteArray)]) (t := 40) ?hr ?_; (case hd => rfl); (case hg => rfl); (case hr => first | (go_simp; done) | (go_simp; rfl)); intro gb359 hg w32 hbox hb; have BK359 := am (hbox); have GW359 := am ((by rw [hg]; exact (below_size (bl HB.out)) : w.heap.size ≤ gb359)); have GE359 := GW359; replace HB := am (below_step (bl HB.out) hb); have NB356_359 := am ((by rw [hg]; exact Nat.ne_of_lt (blk_lt (pk BK356.out)) : gb356 ≠ gb359)); have NB359_356 := am ((by rw [hg]; exact Nat.ne_of_gt (blk_lt (pk BK356.out)) : gb359 ≠ gb356)); replace BK356 := am (blk_below (pk BK356.out) hb); have NB357_359 := am ((by rw [hg]; exact Nat.ne_of_lt (blk_lt (pk BK357.out)) : gb357 ≠ gb359)); have NB359_357 := am ((by rw [hg]; exact Nat.ne_of_gt (blk_lt (pk BK357.out)) : gb359 ≠ gb357)); replace BK357 := am (blk_below (pk BK357.out) hb); clear hb hbox hg; have hnb33 := NB359_356.out; have hnc33 := NB356_359.out; have hnb34 := NB359_357.out; have hnc34 := NB357_359.out; have hcz35_0 : w32.cell? ⟨gb359, 0, none⟩ = some (.int .i64 0) := bc BK359.out 0; have hcz35_1 : w32.cell? ⟨gb359, 1, none⟩ = some (.string (⟨#[]⟩ : ByteArray)) := bc BK359.out 1; have hcz35_2 : w32.cell? ⟨gb359, 2, none⟩ = some (.string (⟨#[]⟩ : ByteArray)) := bc BK359.out 2; have hfz35_0 := blk_frozen BK359.out 0; have hfz35_1 := blk_frozen BK359.out 1; have hfz35_2 := blk_frozen BK359.out 2; have hnb36 := NB357_356.out; have hnc36 := NB356_357.out; have hcz37_0 : w32.cell? ⟨gb357, 0, none⟩ = some (.int .i64 x358000_1) := bc BK357.out 0; have hcz37_1 : w32.cell? ⟨gb357, 1, none⟩ = some (.string x358001_1) := bc BK357.out 1; have hcz37_2 : w32.cell? ⟨gb357, 2, none⟩ = some (.int .i64 x358002_1) := bc BK357.out 2; have hfz37_0 := blk_frozen BK357.out 0; have hfz37_1 := blk_frozen BK357.out 1; have hfz37_2 := blk_frozen BK357.out 2)); try go_wp2_with (first | ((with_reducible refine gate_dst (N := 11) rfl ?_); (try (refine gate_guard (by rfl) ?_; dsimp only)); refine box_event ?hg (N := 11) ?hd (cs := #[.int .i64 0, .string (⟨#[]⟩ : ByteArray), .string (⟨#[]⟩ : ByteArray)]) (t := 40) ?hr ?_; (case hd => rfl); (case hg => rfl); (case hr => first | (go_simp; done) | (go_simp; rfl)); intro gb359 hg w32 hbox hb; have BK359 := am (hbox); have GW359 := am ((by rw [hg]; exact (below_size (bl HB.out)) : w.heap.size ≤ gb359)); have GE359 := GW359; replace HB := am (below_step (bl HB.out) hb); have NB356_359 := am ((by rw [hg]; exact Nat.ne_of_lt (blk_lt (pk BK356.out)) : gb356 ≠ gb359)); have NB359_356 := am ((by rw [hg]; exact Nat.ne_of_gt (blk_lt (pk BK356.out)) : gb359 ≠ gb356)); replace BK356 := am (blk_below (pk BK356.out) hb); have NB357_359 := am ((by rw [hg]; exact Nat.ne_of_lt (blk_lt (pk BK357.out)) : gb357 ≠ gb359)); have NB359_357 := am ((by rw [hg]; exact Nat.ne_of_gt (blk_lt (pk BK357.out)) : gb359 ≠ gb357)); replace BK357 := am (blk_below (pk BK357.out) hb); clear hb hbox hg; have hnb33 := NB359_356.out; have hnc33 := NB356_359.out; have hnb34 := NB359_357.out; have hnc34 := NB357_359.out; have hcz35_0 : w32.cell? ⟨gb359, 0, none⟩ = some (.int .i64 0) := bc BK359.out 0; have hcz35_1 : w32.cell? ⟨gb359, 1, none⟩ = some (.string (⟨#[]⟩ : ByteArray)) := bc BK359.out 1; have hcz35_2 : w32.cell? ⟨gb359, 2, none⟩ = some (.string (⟨#[]⟩ : ByteArray)) := bc BK359.out 2; have hfz35_0 := blk_frozen BK359.out 0; have hfz35_1 := blk_frozen BK359.out 1; have hfz35_2 := blk_frozen BK359.out 2; have hnb36 := NB357_356.out; have hnc36 := NB356_357.out; have hcz37_0 : w32.cell? ⟨gb357, 0, none⟩ = some (.int .i64 x358000_1) := bc BK357.out 0; have hcz37_1 : w32.cell? ⟨gb357, 1, none⟩ = some (.string x358001_1) := bc BK357.out 1; have hcz37_2 : w32.cell? ⟨gb357, 2, none⟩ = some (.int .i64 x358002_1) := bc BK357.out 2; have hfz37_0 := blk_frozen BK357.out 0; have hfz37_1 := blk_frozen BK357.out 1; have hfz37_2 := blk_frozen BK357.out 2)))
           go_roundg k1
           case measure => have := HK1.out; omega
           case rel => exact ⟨(wrap64 (x10_1 + 1)), (x357000_1), (x357001_1), (x357002_1), (3), ((rd_T40 l0 x10_1).f2), ((((rd_T40 l0 x10_1).f1).size : Int)), (by first | rfl | (simp; done) | (simp [*]; done)), H', ⟨by have := HK1.out; omega⟩, ⟨by refine pk ?_; refine blk_far ?_ NB356_357.out _; refine pk ?_; refine blk_far ?_ NB356_357.out _; refine pk ?_; refine blk_far ?_ NB356_357.out _; refine pk ?_; refine blk_far ?_ NB356_359.out _; refine pk ?_; refine blk_far ?_ NB356_359.out _; refine pk ?_; refine blk_far ?_ NB356_359.out _; refine pk ?_; exact BK356.out⟩, ⟨by refine pk ?_; refine blk_put (cs := #[.int .i64 3, .string ((rd_T40 l0 x10_1).f2), .int .i64 x358002_1]) ?_ 2 _ rfl; refine pk ?_; refine blk_put (cs := #[.int .i64 3, .string x358001_1, .int .i64 x358002_1]) ?_ 1 _ rfl; refine pk ?_; refine blk_put (cs := #[.int .i64 x358000_1, .string x358001_1, .int .i64 x358002_1]) ?_ 0 _ rfl; refine pk ?_; refine blk_far ?_ NB357_359.out _; refine pk ?_; refine blk_far ?_ NB357_359.out _; refine pk ?_; refine blk_far ?_ NB357_359.out _; refine pk ?_; exact BK357.out⟩, ⟨by repeat (first | (with_reducible first | exact HB.out | apply below_alloc | apply pw_below_drewN | apply below_drew1 | refine below_set ?_ GE356.out | refine below_set ?_ GE357.out | refine below_set ?_ GE359.out) | exact HB.out)⟩⟩
          ·rw [if_neg c31] at H
           have c31b0 : decide (x358002_1 < (((rd_T40 l0 x10_1).f1).size : Int)) = false := decide_eq_false c31
           clear c31
           have H' := Aside0.mk H
           clear H
           have p358 : 0 ≤ (x10_1 : Int) := of_decide_eq_true (by first | (with_reducible assumption) | assumption)
           have q358 : x10_1 < (l0.length : Int) := of_decide_eq_true (by first | (with_reducible assumption) | assumption)
           obtain ⟨ad358, e358, hx358_0, hx358_1, hx358_2⟩ := at_T40 HR0.out x10_1 p358 q358
           cases e358
           replace hx358_0 := (HB.out.cell (World.block_lt_of_cell? w _ hx358_0)).trans hx358_0
           replace hx358_1 := (HB.out.cell (World.block_lt_of_cell? w _ hx358_1)).trans hx358_1
           replace hx358_2 := (HB.out.cell (World.block_lt_of_cell? w _ hx358_2)).trans hx358_2
           replace p358 := eq_true p358
           replace q358 := eq_true q358
           go_wp2_with (first | ((with_reducible refine gate_dst (N := 11) rfl ?_); (try (refine gate_guard (by rfl) ?_; dsimp only)); refine box_event ?hg (N := 11) ?hd (cs := #[.int .i64 0, .string (⟨#[]⟩ : ByteArray), .string (⟨#[]⟩ : ByteArray)]) (t := 40) ?hr ?_; (case hd => rfl); (case hg => rfl); (case hr => first | (go_simp; done) | (go_simp; rfl)); intro gb359 hg w38 hbox hb; have BK359 := am (hbox); have GW359 := am ((by rw [hg]; exact (below_size (bl HB.out)) : w.heap.size ≤ gb359)); have GE359 := GW359; replace HB := am (below_step (bl HB.out) hb); have NB356_359 := am ((by rw [hg]; exact Nat.ne_of_lt (blk_lt (pk BK356.out)) : gb356 ≠ gb359)); have NB359_356 := am ((by rw [hg]; exact Nat.ne_of_gt (blk_lt (pk BK356.out)) : gb359 ≠ gb356)); replace BK356 := am (blk_below (pk BK356.out) hb); have NB357_359 := am ((by rw [hg]; exact Nat.ne_of_lt (blk_lt (pk BK357.out)) : gb357 ≠ gb359)); have NB359_357 := am ((by rw [hg]; exact Nat.ne_of_gt (blk_lt (pk BK357.out)) : gb359 ≠ gb357)); replace BK357 := am (blk_below (pk BK357.out) hb); clear hb hbox hg; have hnb39 := NB359_356.out; have hnc39 := NB356_359.out; have hnb40 := NB359_357.out; have hnc40 := NB357_359.out; have hcz41_0 : w38.cell? ⟨gb359, 0, none⟩ = some (.int .i64 0) := bc BK359.out 0; have hcz41_1 : w38.cell? ⟨gb359, 1, none⟩ = some (.string (⟨#[]⟩ : ByteArray)) := bc BK359.out 1; have hcz41_2 : w38.cell? ⟨gb359, 2, none⟩ = some (.string (⟨#[]⟩ : ByteArray)) := bc BK359.out 2; have hfz41_0 := blk_frozen BK359.out 0; have hfz41_1 := blk_frozen BK359.out 1; have hfz41_2 := blk_frozen BK359.out 2; have hnb42 := NB357_356.out; have hnc42 := NB356_357.out; have hcz43_0 : w38.cell? ⟨gb357, 0, none⟩ = some (.int .i64 x358000_1) := bc BK357.out 0; have hcz43_1 : w38.cell? ⟨gb357, 1, none⟩ = some (.string x358001_1) := bc BK357.out 1; have hcz43_2 : w38.cell? ⟨gb357, 2, none⟩ = some (.int .i64 x358002_1) := bc BK357.out 2; have hfz43_0 := blk_frozen BK357.out 0; have hfz43_1 := blk_frozen BK357.out 1; have hfz43_2 := blk_frozen BK357.out 2))
           repeat (go_quiet (first | ((with_reducible refine gate_dst (N := 11) rfl ?_); (try (refine gate_guard (by rfl) ?_; dsimp only)); refine box_event ?hg (N := 11) ?hd (cs := #[.int .i64 0, .string (⟨#[]⟩ : ByteArray), .string (⟨#[]⟩ : ByteArray)]) (t := 40) ?hr ?_; (case hd => rfl); (case hg => rfl); (case hr => first | (go_simp; done) | (go_simp; rfl)); intro gb359 hg w38 hbox hb; have BK359 := am (hbox); have GW359 := am ((by rw [hg]; exact (below_size (bl HB.out)) : w.heap.size ≤ gb359)); have GE359 := GW359; replace HB := am (below_step (bl HB.out) hb); have NB356_359 := am ((by rw [hg]; exact Nat.ne_of_lt (blk_lt (pk BK356.out)) : gb356 ≠ gb359)); have NB359_356 := am ((by rw [hg]; exact Nat.ne_of_gt (blk_lt (pk BK356.out)) : gb359 ≠ gb356)); replace BK356 := am (blk_below (pk BK356.out) hb); have NB357_359 := am ((by rw [hg]; exact Nat.ne_of_lt (blk_lt (pk BK357.out)) : gb357 ≠ gb359)); have NB359_357 := am ((by rw [hg]; exact Nat.ne_of_gt (blk_lt (pk BK357.out)) : gb359 ≠ gb357)); replace BK357 := am (blk_below (pk BK357.out) hb); clear hb hbox hg; have hnb39 := NB359_356.out; have hnc39 := NB356_359.out; have hnb40 := NB359_357.out; have hnc40 := NB357_359.out; have hcz41_0 : w38.cell? ⟨gb359, 0, none⟩ = some (.int .i64 0) := bc BK359.out 0; have hcz41_1 : w38.cell? ⟨gb359, 1, none⟩ = some (.string (⟨#[]⟩ : ByteArray)) := bc BK359.out 1; have hcz41_2 : w38.cell? ⟨gb359, 2, none⟩ = some (.string (⟨#[]⟩ : ByteArray)) := bc BK359.out 2; have hfz41_0 := blk_frozen BK359.out 0; have hfz41_1 := blk_frozen BK359.out 1; have hfz41_2 := blk_frozen BK359.out 2; have hnb42 := NB357_356.out; have hnc42 := NB356_357.out; have hcz43_0 : w38.cell? ⟨gb357, 0, none⟩ = some (.int .i64 x358000_1) := bc BK357.out 0; have hcz43_1 : w38.cell? ⟨gb357, 1, none⟩ = some (.string x358001_1) := bc BK357.out 1; have hcz43_2 : w38.cell? ⟨gb357, 2, none⟩ = some (.int .i64 x358002_1) := bc BK357.out 2; have hfz43_0 := blk_frozen BK357.out 0; have hfz43_1 := blk_frozen BK357.out 1; have hfz43_2 := blk_frozen BK357.out 2)); try go_wp2_with (first | ((with_reducible refine gate_dst (N := 11) rfl ?_); (try (refine gate_guard (by rfl) ?_; dsimp only)); refine box_event ?hg (N := 11) ?hd (cs := #[.int .i64 0, .string (⟨#[]⟩ : ByteArray), .string (⟨#[]⟩ : ByteArray)]) (t := 40) ?hr ?_; (case hd => rfl); (case hg => rfl); (case hr => first | (go_simp; done) | (go_simp; rfl)); intro gb359 hg w38 hbox hb; have BK359 := am (hbox); have GW359 := am ((by rw [hg]; exact (below_size (bl HB.out)) : w.heap.size ≤ gb359)); have GE359 := GW359; replace HB := am (below_step (bl HB.out) hb); have NB356_359 := am ((by rw [hg]; exact Nat.ne_of_lt (blk_lt (pk BK356.out)) : gb356 ≠ gb359)); have NB359_356 := am ((by rw [hg]; exact Nat.ne_of_gt (blk_lt (pk BK356.out)) : gb359 ≠ gb356)); replace BK356 := am (blk_below (pk BK356.out) hb); have NB357_359 := am ((by rw [hg]; exact Nat.ne_of_lt (blk_lt (pk BK357.out)) : gb357 ≠ gb359)); have NB359_357 := am ((by rw [hg]; exact Nat.ne_of_gt (blk_lt (pk BK357.out)) : gb359 ≠ gb357)); replace BK357 := am (blk_below (pk BK357.out) hb); clear hb hbox hg; have hnb39 := NB359_356.out; have hnc39 := NB356_359.out; have hnb40 := NB359_357.out; have hnc40 := NB357_359.out; have hcz41_0 : w38.cell? ⟨gb359, 0, none⟩ = some (.int .i64 0) := bc BK359.out 0; have hcz41_1 : w38.cell? ⟨gb359, 1, none⟩ = some (.string (⟨#[]⟩ : ByteArray)) := bc BK359.out 1; have hcz41_2 : w38.cell? ⟨gb359, 2, none⟩ = some (.string (⟨#[]⟩ : ByteArray)) := bc BK359.out 2; have hfz41_0 := blk_frozen BK359.out 0; have hfz41_1 := blk_frozen BK359.out 1; have hfz41_2 := blk_frozen BK359.out 2; have hnb42 := NB357_356.out; have hnc42 := NB356_357.out; have hcz43_0 : w38.cell? ⟨gb357, 0, none⟩ = some (.int .i64 x358000_1) := bc BK357.out 0; have hcz43_1 : w38.cell? ⟨gb357, 1, none⟩ = some (.string x358001_1) := bc BK357.out 1; have hcz43_2 : w38.cell? ⟨gb357, 2, none⟩ = some (.int .i64 x358002_1) := bc BK357.out 2; have hfz43_0 := blk_frozen BK357.out 0; have hfz43_1 := blk_frozen BK357.out 1; have hfz43_2 := blk_frozen BK357.out 2)))
           go_roundg k1
           case measure => have := HK1.out; omega
           case rel => exact ⟨(wrap64 (x10_1 + 1)), (x357000_1), (x357001_1), (x357002_1), (x358000_1), (x358001_1), (x358002_1), (by first | rfl | (simp; done) | (simp [*]; done)), H', ⟨by have := HK1.out; omega⟩, ⟨by refine pk ?_; refine blk_far ?_ NB356_359.out _; refine pk ?_; refine blk_far ?_ NB356_359.out _; refine pk ?_; refine blk_far ?_ NB356_359.out _; refine pk ?_; exact BK356.out⟩, ⟨by refine pk ?_; refine blk_far ?_ NB357_359.out _; refine pk ?_; refine blk_far ?_ NB357_359.out _; refine pk ?_; refine blk_far ?_ NB357_359.out _; refine pk ?_; exact BK357.out⟩, ⟨by repeat (first | (with_reducible first | exact HB.out | apply below_alloc | apply pw_below_drewN | apply below_drew1 | refine below_set ?_ GE356.out | refine below_set ?_ GE357.out | refine below_set ?_ GE359.out) | exact HB.out)⟩⟩
         ·rw [if_neg c30] at H
          have c30b0 : ((a2.extract 0 ((((rd_T40 l0 x10_1).f1).size : Int) : Int).toNat).toList == ((rd_T40 l0 x10_1).f1).toList) = false := beq_eq_false_iff_ne.mpr c30
          (try (have c30b0q := c30b0; simp only [Int.toNat_natCast] at c30b0q))
          have c30b1 : ((a2.extract 0 ((((rd_T40 l0 x10_1).f1).size : Int) : Int).toNat).toList != ((rd_T40 l0 x10_1).f1).toList) = true := bne_iff_ne.mpr c30
          have H' := Aside0.mk H
          clear H
          have p358 : 0 ≤ (x10_1 : Int) := of_decide_eq_true (by first | (with_reducible assumption) | assumption)
          have q358 : x10_1 < (l0.length : Int) := of_decide_eq_true (by first | (with_reducible assumption) | assumption)
          obtain ⟨ad358, e358, hx358_0, hx358_1, hx358_2⟩ := at_T40 HR0.out x10_1 p358 q358
          cases e358
          replace hx358_0 := (HB.out.cell (World.block_lt_of_cell? w _ hx358_0)).trans hx358_0
          replace hx358_1 := (HB.out.cell (World.block_lt_of_cell? w _ hx358_1)).trans hx358_1
          replace hx358_2 := (HB.out.cell (World.block_lt_of_cell? w _ hx358_2)).trans hx358_2
          replace p358 := eq_true p358
          replace q358 := eq_true q358
          go_wp2_with (first | ((with_reducible refine gate_dst (N := 11) rfl ?_); (try (refine gate_guard (by rfl) ?_; dsimp only)); refine box_event ?hg (N := 11) ?hd (cs := #[.int .i64 0, .string (⟨#[]⟩ : ByteArray), .string (⟨#[]⟩ : ByteArray)]) (t := 40) ?hr ?_; (case hd => rfl); (case hg => rfl); (case hr => first | (go_simp; done) | (go_simp; rfl)); intro gb359 hg w44 hbox hb; have BK359 := am (hbox); have GW359 := am ((by rw [hg]; exact (below_size (bl HB.out)) : w.heap.size ≤ gb359)); have GE359 := GW359; replace HB := am (below_step (bl HB.out) hb); have NB356_359 := am ((by rw [hg]; exact Nat.ne_of_lt (blk_lt (pk BK356.out)) : gb356 ≠ gb359)); have NB359_356 := am ((by rw [hg]; exact Nat.ne_of_gt (blk_lt (pk BK356.out)) : gb359 ≠ gb356)); replace BK356 := am (blk_below (pk BK356.out) hb); have NB357_359 := am ((by rw [hg]; exact Nat.ne_of_lt (blk_lt (pk BK357.out)) : gb357 ≠ gb359)); have NB359_357 := am ((by rw [hg]; exact Nat.ne_of_gt (blk_lt (pk BK357.out)) : gb359 ≠ gb357)); replace BK357 := am (blk_below (pk BK357.out) hb); clear hb hbox hg; have hnb45 := NB359_356.out; have hnc45 := NB356_359.out; have hnb46 := NB359_357.out; have hnc46 := NB357_359.out; have hcz47_0 : w44.cell? ⟨gb359, 0, none⟩ = some (.int .i64 0) := bc BK359.out 0; have hcz47_1 : w44.cell? ⟨gb359, 1, none⟩ = some (.string (⟨#[]⟩ : ByteArray)) := bc BK359.out 1; have hcz47_2 : w44.cell? ⟨gb359, 2, none⟩ = some (.string (⟨#[]⟩ : ByteArray)) := bc BK359.out 2; have hfz47_0 := blk_frozen BK359.out 0; have hfz47_1 := blk_frozen BK359.out 1; have hfz47_2 := blk_frozen BK359.out 2))
          repeat (go_quiet (first | ((with_reducible refine gate_dst (N := 11) rfl ?_); (try (refine gate_guard (by rfl) ?_; dsimp only)); refine box_event ?hg (N := 11) ?hd (cs := #[.int .i64 0, .string (⟨#[]⟩ : ByteArray), .string (⟨#[]⟩ : ByteArray)]) (t := 40) ?hr ?_; (case hd => rfl); (case hg => rfl); (case hr => first | (go_simp; done) | (go_simp; rfl)); intro gb359 hg w44 hbox hb; have BK359 := am (hbox); have GW359 := am ((by rw [hg]; exact (below_size (bl HB.out)) : w.heap.size ≤ gb359)); have GE359 := GW359; replace HB := am (below_step (bl HB.out) hb); have NB356_359 := am ((by rw [hg]; exact Nat.ne_of_lt (blk_lt (pk BK356.out)) : gb356 ≠ gb359)); have NB359_356 := am ((by rw [hg]; exact Nat.ne_of_gt (blk_lt (pk BK356.out)) : gb359 ≠ gb356)); replace BK356 := am (blk_below (pk BK356.out) hb); have NB357_359 := am ((by rw [hg]; exact Nat.ne_of_lt (blk_lt (pk BK357.out)) : gb357 ≠ gb359)); have NB359_357 := am ((by rw [hg]; exact Nat.ne_of_gt (blk_lt (pk BK357.out)) : gb359 ≠ gb357)); replace BK357 := am (blk_below (pk BK357.out) hb); clear hb hbox hg; have hnb45 := NB359_356.out; have hnc45 := NB356_359.out; have hnb46 := NB359_357.out; have hnc46 := NB357_359.out; have hcz47_0 : w44.cell? ⟨gb359, 0, none⟩ = some (.int .i64 0) := bc BK359.out 0; have hcz47_1 : w44.cell? ⟨gb359, 1, none⟩ = some (.string (⟨#[]⟩ : ByteArray)) := bc BK359.out 1; have hcz47_2 : w44.cell? ⟨gb359, 2, none⟩ = some (.string (⟨#[]⟩ : ByteArray)) := bc BK359.out 2; have hfz47_0 := blk_frozen BK359.out 0; have hfz47_1 := blk_frozen BK359.out 1; have hfz47_2 := blk_frozen BK359.out 2)); try go_wp2_with (first | ((with_reducible refine gate_dst (N := 11) rfl ?_); (try (refine gate_guard (by rfl) ?_; dsimp only)); refine box_event ?hg (N := 11) ?hd (cs := #[.int .i64 0, .string (⟨#[]⟩ : ByteArray), .string (⟨#[]⟩ : ByteArray)]) (t := 40) ?hr ?_; (case hd => rfl); (case hg => rfl); (case hr => first | (go_simp; done) | (go_simp; rfl)); intro gb359 hg w44 hbox hb; have BK359 := am (hbox); have GW359 := am ((by rw [hg]; exact (below_size (bl HB.out)) : w.heap.size ≤ gb359)); have GE359 := GW359; replace HB := am (below_step (bl HB.out) hb); have NB356_359 := am ((by rw [hg]; exact Nat.ne_of_lt (blk_lt (pk BK356.out)) : gb356 ≠ gb359)); have NB359_356 := am ((by rw [hg]; exact Nat.ne_of_gt (blk_lt (pk BK356.out)) : gb359 ≠ gb356)); replace BK356 := am (blk_below (pk BK356.out) hb); have NB357_359 := am ((by rw [hg]; exact Nat.ne_of_lt (blk_lt (pk BK357.out)) : gb357 ≠ gb359)); have NB359_357 := am ((by rw [hg]; exact Nat.ne_of_gt (blk_lt (pk BK357.out)) : gb359 ≠ gb357)); replace BK357 := am (blk_below (pk BK357.out) hb); clear hb hbox hg; have hnb45 := NB359_356.out; have hnc45 := NB356_359.out; have hnb46 := NB359_357.out; have hnc46 := NB357_359.out; have hcz47_0 : w44.cell? ⟨gb359, 0, none⟩ = some (.int .i64 0) := bc BK359.out 0; have hcz47_1 : w44.cell? ⟨gb359, 1, none⟩ = some (.string (⟨#[]⟩ : ByteArray)) := bc BK359.out 1; have hcz47_2 : w44.cell? ⟨gb359, 2, none⟩ = some (.string (⟨#[]⟩ : ByteArray)) := bc BK359.out 2; have hfz47_0 := blk_frozen BK359.out 0; have hfz47_1 := blk_frozen BK359.out 1; have hfz47_2 := blk_frozen BK359.out 2)))
          go_roundg k1
          case measure => have := HK1.out; omega
          case rel => exact ⟨(wrap64 (x10_1 + 1)), (x357000_1), (x357001_1), (x357002_1), (x358000_1), (x358001_1), (x358002_1), (by first | rfl | (simp; done) | (simp [*]; done)), H', ⟨by have := HK1.out; omega⟩, ⟨by refine pk ?_; refine blk_far ?_ NB356_359.out _; refine pk ?_; refine blk_far ?_ NB356_359.out _; refine pk ?_; refine blk_far ?_ NB356_359.out _; refine pk ?_; exact BK356.out⟩, ⟨by refine pk ?_; refine blk_far ?_ NB357_359.out _; refine pk ?_; refine blk_far ?_ NB357_359.out _; refine pk ?_; refine blk_far ?_ NB357_359.out _; refine pk ?_; exact BK357.out⟩, ⟨by repeat (first | (with_reducible first | exact HB.out | apply below_alloc | apply pw_below_drewN | apply below_drew1 | refine below_set ?_ GE356.out | refine below_set ?_ GE357.out | refine below_set ?_ GE359.out) | exact HB.out)⟩⟩
        ·rw [if_neg c29] at H
         exact absurd H (by simp)
       ·rw [if_neg c28] at H
        exact absurd H (by simp)
     ·rw [if_neg c11] at H
      have c11b0 : (((rd_T40 l0 x10_1).f0) == a1) = false := beq_eq_false_iff_ne.mpr c11
      have c11b1 : (((rd_T40 l0 x10_1).f0) != a1) = true := bne_iff_ne.mpr c11
      have H' := Aside0.mk H
      clear H
      have p358 : 0 ≤ (x10_1 : Int) := of_decide_eq_true (by first | (with_reducible assumption) | assumption)
      have q358 : x10_1 < (l0.length : Int) := of_decide_eq_true (by first | (with_reducible assumption) | assumption)
      obtain ⟨ad358, e358, hx358_0, hx358_1, hx358_2⟩ := at_T40 HR0.out x10_1 p358 q358
      cases e358
      replace hx358_0 := (HB.out.cell (World.block_lt_of_cell? w _ hx358_0)).trans hx358_0
      replace hx358_1 := (HB.out.cell (World.block_lt_of_cell? w _ hx358_1)).trans hx358_1
      replace hx358_2 := (HB.out.cell (World.block_lt_of_cell? w _ hx358_2)).trans hx358_2
      replace p358 := eq_true p358
      replace q358 := eq_true q358
      go_wp2_with (first | ((with_reducible refine gate_dst (N := 11) rfl ?_); (try (refine gate_guard (by rfl) ?_; dsimp only)); refine box_event ?hg (N := 11) ?hd (cs := #[.int .i64 0, .string (⟨#[]⟩ : ByteArray), .string (⟨#[]⟩ : ByteArray)]) (t := 40) ?hr ?_; (case hd => rfl); (case hg => rfl); (case hr => first | (go_simp; done) | (go_simp; rfl)); intro gb359 hg w48 hbox hb; have BK359 := am (hbox); have GW359 := am ((by rw [hg]; exact (below_size (bl HB.out)) : w.heap.size ≤ gb359)); have GE359 := GW359; replace HB := am (below_step (bl HB.out) hb); have NB356_359 := am ((by rw [hg]; exact Nat.ne_of_lt (blk_lt (pk BK356.out)) : gb356 ≠ gb359)); have NB359_356 := am ((by rw [hg]; exact Nat.ne_of_gt (blk_lt (pk BK356.out)) : gb359 ≠ gb356)); replace BK356 := am (blk_below (pk BK356.out) hb); have NB357_359 := am ((by rw [hg]; exact Nat.ne_of_lt (blk_lt (pk BK357.out)) : gb357 ≠ gb359)); have NB359_357 := am ((by rw [hg]; exact Nat.ne_of_gt (blk_lt (pk BK357.out)) : gb359 ≠ gb357)); replace BK357 := am (blk_below (pk BK357.out) hb); clear hb hbox hg; have hnb49 := NB359_356.out; have hnc49 := NB356_359.out; have hnb50 := NB359_357.out; have hnc50 := NB357_359.out; have hcz51_0 : w48.cell? ⟨gb359, 0, none⟩ = some (.int .i64 0) := bc BK359.out 0; have hcz51_1 : w48.cell? ⟨gb359, 1, none⟩ = some (.string (⟨#[]⟩ : ByteArray)) := bc BK359.out 1; have hcz51_2 : w48.cell? ⟨gb359, 2, none⟩ = some (.string (⟨#[]⟩ : ByteArray)) := bc BK359.out 2; have hfz51_0 := blk_frozen BK359.out 0; have hfz51_1 := blk_frozen BK359.out 1; have hfz51_2 := blk_frozen BK359.out 2))
      repeat (go_quiet (first | ((with_reducible refine gate_dst (N := 11) rfl ?_); (try (refine gate_guard (by rfl) ?_; dsimp only)); refine box_event ?hg (N := 11) ?hd (cs := #[.int .i64 0, .string (⟨#[]⟩ : ByteArray), .string (⟨#[]⟩ : ByteArray)]) (t := 40) ?hr ?_; (case hd => rfl); (case hg => rfl); (case hr => first | (go_simp; done) | (go_simp; rfl)); intro gb359 hg w48 hbox hb; have BK359 := am (hbox); have GW359 := am ((by rw [hg]; exact (below_size (bl HB.out)) : w.heap.size ≤ gb359)); have GE359 := GW359; replace HB := am (below_step (bl HB.out) hb); have NB356_359 := am ((by rw [hg]; exact Nat.ne_of_lt (blk_lt (pk BK356.out)) : gb356 ≠ gb359)); have NB359_356 := am ((by rw [hg]; exact Nat.ne_of_gt (blk_lt (pk BK356.out)) : gb359 ≠ gb356)); replace BK356 := am (blk_below (pk BK356.out) hb); have NB357_359 := am ((by rw [hg]; exact Nat.ne_of_lt (blk_lt (pk BK357.out)) : gb357 ≠ gb359)); have NB359_357 := am ((by rw [hg]; exact Nat.ne_of_gt (blk_lt (pk BK357.out)) : gb359 ≠ gb357)); replace BK357 := am (blk_below (pk BK357.out) hb); clear hb hbox hg; have hnb49 := NB359_356.out; have hnc49 := NB356_359.out; have hnb50 := NB359_357.out; have hnc50 := NB357_359.out; have hcz51_0 : w48.cell? ⟨gb359, 0, none⟩ = some (.int .i64 0) := bc BK359.out 0; have hcz51_1 : w48.cell? ⟨gb359, 1, none⟩ = some (.string (⟨#[]⟩ : ByteArray)) := bc BK359.out 1; have hcz51_2 : w48.cell? ⟨gb359, 2, none⟩ = some (.string (⟨#[]⟩ : ByteArray)) := bc BK359.out 2; have hfz51_0 := blk_frozen BK359.out 0; have hfz51_1 := blk_frozen BK359.out 1; have hfz51_2 := blk_frozen BK359.out 2)); try go_wp2_with (first | ((with_reducible refine gate_dst (N := 11) rfl ?_); (try (refine gate_guard (by rfl) ?_; dsimp only)); refine box_event ?hg (N := 11) ?hd (cs := #[.int .i64 0, .string (⟨#[]⟩ : ByteArray), .string (⟨#[]⟩ : ByteArray)]) (t := 40) ?hr ?_; (case hd => rfl); (case hg => rfl); (case hr => first | (go_simp; done) | (go_simp; rfl)); intro gb359 hg w48 hbox hb; have BK359 := am (hbox); have GW359 := am ((by rw [hg]; exact (below_size (bl HB.out)) : w.heap.size ≤ gb359)); have GE359 := GW359; replace HB := am (below_step (bl HB.out) hb); have NB356_359 := am ((by rw [hg]; exact Nat.ne_of_lt (blk_lt (pk BK356.out)) : gb356 ≠ gb359)); have NB359_356 := am ((by rw [hg]; exact Nat.ne_of_gt (blk_lt (pk BK356.out)) : gb359 ≠ gb356)); replace BK356 := am (blk_below (pk BK356.out) hb); have NB357_359 := am ((by rw [hg]; exact Nat.ne_of_lt (blk_lt (pk BK357.out)) : gb357 ≠ gb359)); have NB359_357 := am ((by rw [hg]; exact Nat.ne_of_gt (blk_lt (pk BK357.out)) : gb359 ≠ gb357)); replace BK357 := am (blk_below (pk BK357.out) hb); clear hb hbox hg; have hnb49 := NB359_356.out; have hnc49 := NB356_359.out; have hnb50 := NB359_357.out; have hnc50 := NB357_359.out; have hcz51_0 : w48.cell? ⟨gb359, 0, none⟩ = some (.int .i64 0) := bc BK359.out 0; have hcz51_1 : w48.cell? ⟨gb359, 1, none⟩ = some (.string (⟨#[]⟩ : ByteArray)) := bc BK359.out 1; have hcz51_2 : w48.cell? ⟨gb359, 2, none⟩ = some (.string (⟨#[]⟩ : ByteArray)) := bc BK359.out 2; have hfz51_0 := blk_frozen BK359.out 0; have hfz51_1 := blk_frozen BK359.out 1; have hfz51_2 := blk_frozen BK359.out 2)))
      go_roundg k1
      case measure => have := HK1.out; omega
      case rel => exact ⟨(wrap64 (x10_1 + 1)), (x357000_1), (x357001_1), (x357002_1), (x358000_1), (x358001_1), (x358002_1), (by first | rfl | (simp; done) | (simp [*]; done)), H', ⟨by have := HK1.out; omega⟩, ⟨by refine pk ?_; refine blk_far ?_ NB356_359.out _; refine pk ?_; refine blk_far ?_ NB356_359.out _; refine pk ?_; refine blk_far ?_ NB356_359.out _; refine pk ?_; exact BK356.out⟩, ⟨by refine pk ?_; refine blk_far ?_ NB357_359.out _; refine pk ?_; refine blk_far ?_ NB357_359.out _; refine pk ?_; refine blk_far ?_ NB357_359.out _; refine pk ?_; exact BK357.out⟩, ⟨by repeat (first | (with_reducible first | exact HB.out | apply below_alloc | apply pw_below_drewN | apply below_drew1 | refine below_set ?_ GE356.out | refine below_set ?_ GE357.out | refine below_set ?_ GE359.out) | exact HB.out)⟩⟩
    ·rw [if_neg c10] at H
     exact absurd H (by simp)
   ·rw [if_neg c9] at H
    have c9b0 : decide (x10_1 < (l0.length : Int)) = false := decide_eq_false c9
    clear c9
    simp only [Option.some.injEq, Prod.mk.injEq] at H
    obtain ⟨rfl, rfl, rfl⟩ := H
    have hnb52 := NB357_356.out
    have hnc52 := NB356_357.out
    have hcz53_0 : wr.cell? ⟨gb357, 0, none⟩ = some (.int .i64 x358000_1) := bc BK357.out 0
    have hcz53_1 : wr.cell? ⟨gb357, 1, none⟩ = some (.string x358001_1) := bc BK357.out 1
    have hcz53_2 : wr.cell? ⟨gb357, 2, none⟩ = some (.int .i64 x358002_1) := bc BK357.out 2
    have hfz53_0 := blk_frozen BK357.out 0
    have hfz53_1 := blk_frozen BK357.out 1
    have hfz53_2 := blk_frozen BK357.out 2
    have hcz54_0 : wr.cell? ⟨gb356, 0, none⟩ = some (.int .i64 x357000_1) := bc BK356.out 0
    have hcz54_1 : wr.cell? ⟨gb356, 1, none⟩ = some (.string x357001_1) := bc BK356.out 1
    have hcz54_2 : wr.cell? ⟨gb356, 2, none⟩ = some (.int .i64 x357002_1) := bc BK356.out 2
    have hfz54_0 := blk_frozen BK356.out 0
    have hfz54_1 := blk_frozen BK356.out 1
    have hfz54_2 := blk_frozen BK356.out 2
    go_wp2
    repeat (go_quiet (fail); try go_wp2)
    refine bodyPost_ret (results_cell_row rfl _ _ gb356 79 #[.int .i64 x358000_1, .string x358001_1, .int .i64 x358002_1] (0, 0) _ rfl (by refine pk ?_; refine blk_put (cs := #[.int .i64 x358000_1, .string x358001_1, .int .i64 x357002_1]) ?_ 2 _ rfl; refine pk ?_; refine blk_put (cs := #[.int .i64 x358000_1, .string x357001_1, .int .i64 x357002_1]) ?_ 1 _ rfl; refine pk ?_; refine blk_put (cs := #[.int .i64 x357000_1, .string x357001_1, .int .i64 x357002_1]) ?_ 0 _ rfl; refine pk ?_; exact BK356.out) Try.underlying79 rfl (by kernel_rfl)) rfl ?_
    exact ⟨by first | rfl | (simp [errW_none, errW_some] <;> rfl) | (simp [*, errW_none, errW_some] <;> rfl), by repeat (first | (with_reducible first | exact HB.out | apply below_alloc | apply pw_below_drewN | apply below_drew1 | refine below_set ?_ GE356.out | refine below_set ?_ GE357.out) | exact HB.out)⟩

end Go.Proofs.Ytnhmoacjmieggaa.PFnKeys
