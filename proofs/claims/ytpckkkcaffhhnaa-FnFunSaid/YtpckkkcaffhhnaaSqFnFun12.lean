-- PxlawsFnFun: put together by squash.py
import Derived.Test.YtpckkkcaffhhnaaSqFnFun3
import Derived.Test.YtpckkkcaffhhnaaSqFnFun5
import Derived.Test.YtpckkkcaffhhnaaSqFnFun10
import Derived.Test.YtpckkkcaffhhnaaSqFnFun11

-- made by printx.py (own driver over the kit's print); Lean checks it
namespace Go.Proofs.Ytpckkkcaffhhnaa.P
open Go.RowKit Go.Proofs.YtpckkkcaffhhnaaW.PrintWords Go.Proofs.YtpckkkcaffhhnaaW.PrintLast Go.Proofs.YtpckkkcaffhhnaaW.PrintMore
attribute [local go_sem] max2_int min2_int max_two min_two max_three min_three max_four min_four   -- for this text's walks alone
set_option linter.unusedVariables false
set_option linter.unusedSimpArgs false

/-! ### laws_FnFun: function 5 -/
mutual
def laws_FnFun.j0 : Nat → List Int → Option (Bool)
  | 0, _ => none
  | k + 1, x0 => (spec_DrawFunSame.f k x0).bind fun bt322 => ((spec_DrawFunOk.f k x0).bind fun bt334 => ((impl_FunRefs.f k bt334.1 bt334.2.1 bt334.2.2).bind fun t340 => ((spec_FunRefs.f k bt334.1 bt334.2.1 bt334.2.2).bind fun t343 => ((impl_FunSame.f k bt322.1 bt322.2.1 bt322.2.2.1 bt322.2.2.2.1 bt322.2.2.2.2.1 bt322.2.2.2.2.2).bind fun t346 => ((spec_FunSame.f k bt322.1 bt322.2.1 bt322.2.2.1 bt322.2.2.2.1 bt322.2.2.2.2.1 bt322.2.2.2.2.2).bind fun t347 => (if (t346 != t347) = true then (laws_FnFun.j1 k t340 t343 true bt334.1 bt334.2.1 bt334.2.2) else ((impl_FunSame.f k bt322.1 bt322.2.1 bt322.2.2.1 bt322.1 bt322.2.1 bt322.2.2.1).bind fun t348 => (if t348 = true then ((impl_FunOk.f bt334.1 bt334.2.1 bt334.2.2).bind fun t349 => ((spec_FunOk.f k bt334.1 bt334.2.1 bt334.2.2).bind fun t350 => (if (t349 != t350) = true then (laws_FnFun.j1 k t340 t343 true bt334.1 bt334.2.1 bt334.2.2) else (laws_FnFun.j1 k t340 t343 ((t340.length : Int) != (t343.length : Int)) bt334.1 bt334.2.1 bt334.2.2)))) else (laws_FnFun.j1 k t340 t343 true bt334.1 bt334.2.1 bt334.2.2)))))))))
def laws_FnFun.j1 : Nat → List ByteArray → List ByteArray → Bool → ByteArray → Bool → List (S38) → Option (Bool)
  | 0, _, _, _, _, _, _ => none
  | k + 1, x6, x7, x52, x340000, x340001, x340002 => if x52 = true then (some false) else (laws_FnFun.j2 k x6 x7 x340000 x340001 x340002)
def laws_FnFun.j2 : Nat → List ByteArray → List ByteArray → ByteArray → Bool → List (S38) → Option (Bool)
  | 0, _, _, _, _, _ => none
  | k + 1, x6, x7, x340000, x340001, x340002 => laws_FnFun.l0 k x6 x7 0 x340000 x340001 x340002
def laws_FnFun.l0 : Nat → List ByteArray → List ByteArray → Int → ByteArray → Bool → List (S38) → Option (Bool)
  | 0, _, _, _, _, _, _ => none
  | k + 1, x6, x7, x8, x340000, x340001, x340002 => if x8 < (x6.length : Int) then (laws_FnFun.j4 k x6 x7 x8 x340000 x340001 x340002) else ((spec_FunOk.f k x340000 x340001 x340002).bind fun t355 => (if t355 = true then (laws_FnFun.j7 k (wrap64 ((x340002.length : Int) - 1)) x340000 x340001 x340002) else (some ((x6.length : Int) == 0))))
def laws_FnFun.j4 : Nat → List ByteArray → List ByteArray → Int → ByteArray → Bool → List (S38) → Option (Bool)
  | 0, _, _, _, _, _, _ => none
  | k + 1, x6, x7, x8, x340000, x340001, x340002 => laws_FnFun.l1 k x6 x7 x8 0 x340000 x340001 x340002
def laws_FnFun.l1 : Nat → List ByteArray → List ByteArray → Int → Int → ByteArray → Bool → List (S38) → Option (Bool)
  | 0, _, _, _, _, _, _, _ => none
  | k + 1, x6, x7, x8, x9, x340000, x340001, x340002 => if x9 < x8 then (laws_FnFun.j6 k x6 x7 x8 x9 x340000 x340001 x340002) else (if 0 ≤ x8 then (if x8 < (x6.length : Int) then (if x8 < (x7.length : Int) then (if (rdOf ByteArray.empty x6 x8).toList = (rdOf ByteArray.empty x7 x8).toList then (laws_FnFun.l0 k x6 x7 (wrap64 (x8 + 1)) x340000 x340001 x340002) else (some false)) else (none)) else (none)) else (none))
def laws_FnFun.j6 : Nat → List ByteArray → List ByteArray → Int → Int → ByteArray → Bool → List (S38) → Option (Bool)
  | 0, _, _, _, _, _, _, _ => none
  | k + 1, x6, x7, x8, x9, x340000, x340001, x340002 => if 0 ≤ x9 then (if x9 < (x6.length : Int) then (if 0 ≤ x8 then (if x8 < (x6.length : Int) then (if (rdOf ByteArray.empty x6 x9).toList = (rdOf ByteArray.empty x6 x8).toList then (some false) else (laws_FnFun.l1 k x6 x7 x8 (wrap64 (x9 + 1)) x340000 x340001 x340002)) else (none)) else (none)) else (none)) else (none)
def laws_FnFun.j7 : Nat → Int → ByteArray → Bool → List (S38) → Option (Bool)
  | 0, _, _, _, _ => none
  | k + 1, x10, x340000, x340001, x340002 => if 0 ≤ x10 then (if x10 ≤ (x340002.length : Int) then ((impl_FunOk.f x340000 x340001 (x340002.take (x10 : Int).toNat)).bind fun t360 => (if x10 > 0 then (if 0 ≤ (wrap64 (x10 - 1)) then (if (wrap64 (x10 - 1)) < (x340002.length : Int) then ((impl_InsLast.f ((rd_T38 x340002 (wrap64 (x10 - 1))).f0) ((rd_T38 x340002 (wrap64 (x10 - 1))).f1) ((rd_T38 x340002 (wrap64 (x10 - 1))).f2)).bind fun t362 => (some (t360 == t362))) else (none)) else (none)) else (some (t360 == false)))) else (none)) else (none)
end
def laws_FnFun.f (k : Nat) (l0 : List Int) : Option (Bool) := if (l0.length : Int) > 1048576 then (some true) else (laws_FnFun.j0 k l0)
def laws_FnFun.T7 : Bool × List (List Nat × List Nat) := (true, [([], []), ([], []), ([0, 1], [0, 1]), ([], []), ([], []), ([3, 4, 2], [3, 4]), ([2, 5], [2, 5]), ([6, 5], [6]), ([7], [7]), ([7], [7]), ([8, 9, 7, 7], [7, 8, 9]), ([10, 7], [7, 10]), ([7, 11], [7, 11]), ([12, 10], [12]), ([13], [13]), ([14, 13, 13], [13, 14]), ([13], [13]), ([16, 15, 13], [13, 16]), ([15, 17, 13], [13, 15, 17]), ([13, 18], [13, 18]), ([19, 17], [19]), ([20], [20]), ([21, 20], [20, 21]), ([20], [20]), ([23, 20], [20, 23]), ([22, 24, 20], [20, 22, 24]), ([20, 25], [20, 25])])
def laws_FnFun.B7 : List Nat := [0, 0, 3, 0, 0, 31, 63, 127, 255, 255, 1023, 2047, 4095, 8191, 16383, 32767, 16383, 131071, 262143, 524287, 1048575, 2097151, 4194303, 2097151, 10485759, 33554431, 67108863]
theorem laws_FnFun.tab7 : rtab .any (opsOf Try.f5 7) = laws_FnFun.T7 := by kernel_rfl
theorem laws_FnFun.bits7 : waitsOk laws_FnFun.T7.2 laws_FnFun.B7 = true := by kernel_rfl
def laws_FnFun.T15 : Bool × List (List Nat × List Nat) := (true, [([], []), ([], []), ([0, 1], [0, 1]), ([2], [2]), ([], []), ([], []), ([4, 5], [4, 5]), ([6], [6]), ([3, 7], [3, 7])])
def laws_FnFun.B15 : List Nat := [0, 0, 3, 7, 0, 0, 48, 112, 255]
theorem laws_FnFun.tab15 : rtab .any (opsOf Try.f5 15) = laws_FnFun.T15 := by kernel_rfl
theorem laws_FnFun.bits15 : waitsOk laws_FnFun.T15.2 laws_FnFun.B15 = true := by kernel_rfl
def laws_FnFun.T17 : Bool × List (List Nat × List Nat) := (true, [([], []), ([], []), ([0, 1], [0, 1]), ([2], [2]), ([], []), ([], []), ([4, 5], [4, 5]), ([6], [6]), ([3, 7], [3, 7])])
def laws_FnFun.B17 : List Nat := [0, 0, 3, 7, 0, 0, 48, 112, 255]
theorem laws_FnFun.tab17 : rtab .any (opsOf Try.f5 17) = laws_FnFun.T17 := by kernel_rfl
theorem laws_FnFun.bits17 : waitsOk laws_FnFun.T17.2 laws_FnFun.B17 = true := by kernel_rfl
set_option maxHeartbeats 8000000 in
set_option maxRecDepth 100000 in
theorem laws_FnFun.calls (k : Nat) (A0 : Option Addr) (c0 : Nat) (l0 : List Int) (r : Bool) (w : World) (hr0 : Kd.C (Kd.int .u8) w A0 l0.length l0) (hc0 : l0.length ≤ c0) (h : laws_FnFun.f k l0 = some r) :
    Calls Try.prog 5 #[.slice A0 l0.length c0] w fun e w' => e = .returned (.bool r) ∧ Below w.heap.size w w' := by
 have hu30 := Try.underlying30
 have hu38 := Try.underlying38
 have HR0 := Aside0.mk hr0; have HC0 := Aside0.mk hc0; clear hr0 hc0
 have HB := Aside0.mk (Below.refl w.heap.size w)
 have H : (if (l0.length : Int) > 1048576 then (some true) else (laws_FnFun.j0 k l0)) = some r := h
 clear h; have HC2 := Aside0.mk H; clear H
 go_enter Try.func5, Try.ntmps5
 go_upto_if 14 with (fail)
 go_cut [] (fun wc => ∃ (kq : Nat), Aside0 (laws_FnFun.j0 kq l0 = some r) ∧ Aside0 (kq ≤ k) ∧ Aside0 (Below w.heap.size w wc))
 case first =>
  have H := HC2.out
  clear HC2
  by_cases c3 : (l0.length : Int) > 1048576
  · rw [if_pos c3] at H
    have c3b0 : decide (1048576 < (l0.length : Int)) = true := decide_eq_true c3
    have c3b1 : decide (1048576 < l0.length) = true := decide_eq_true (by omega)
    clear c3
    (first | rw [c3b0] | (simp only [i64_w, i32_w]; rw [c3b0]) | (have cn_ := c3b0; simp only [bne] at cn_; rw [cn_]; clear cn_) | skip)
    obtain rfl := Option.some.inj H
    go_wp2
    go_ret
    exact ⟨by first | rfl | (simp [errW_none, errW_some] <;> rfl) | (simp [*, errW_none, errW_some] <;> rfl), by repeat (first | (with_reducible first | exact HB.out | apply below_alloc | apply pw_below_drewN | apply below_drew1) | exact HB.out)⟩
  rw [if_neg c3] at H
  have c3b0 : decide (1048576 < (l0.length : Int)) = false := decide_eq_false c3
  have c3b1 : decide (1048576 < l0.length) = false := decide_eq_false (by omega)
  clear c3
  (first | rw [c3b0] | (simp only [i64_w, i32_w]; rw [c3b0]) | (have cn_ := c3b0; simp only [bne] at cn_; rw [cn_]; clear cn_) | skip)
  have H' := Aside0.mk H
  clear H
  go_wp2
  go_meet
  case rel => exact ⟨_, H', ⟨by first | omega | exact Nat.le_refl _⟩, ⟨by repeat (first | (with_reducible first | exact HB.out | apply below_alloc | apply pw_below_drewN | apply below_drew1) | exact HB.out)⟩⟩
 clear HC2; try clear p2; try clear c3; try clear c3b0; try clear c3b1
 obtain ⟨kq, HA, HJ1, HB⟩ := hcut
 obtain _ | kj1 := kq
 · exact absurd HA.out (by simp [laws_FnFun.j0])
 have H := HA.out
 clear HA
 simp only [laws_FnFun.j0] at H
 replace H := Option.bind_eq_some_iff.mp H
 obtain ⟨⟨t322, t323, t324, t327, t328, t329⟩, A40, H⟩ := H
 replace H : ((spec_DrawFunOk.f kj1 l0).bind fun bt334 => ((impl_FunRefs.f kj1 bt334.1 bt334.2.1 bt334.2.2).bind fun t340 => ((spec_FunRefs.f kj1 bt334.1 bt334.2.1 bt334.2.2).bind fun t343 => ((impl_FunSame.f kj1 t322 t323 t324 t327 t328 t329).bind fun t346 => ((spec_FunSame.f kj1 t322 t323 t324 t327 t328 t329).bind fun t347 => (if (t346 != t347) = true then (laws_FnFun.j1 kj1 t340 t343 true bt334.1 bt334.2.1 bt334.2.2) else ((impl_FunSame.f kj1 t322 t323 t324 t322 t323 t324).bind fun t348 => (if t348 = true then ((impl_FunOk.f bt334.1 bt334.2.1 bt334.2.2).bind fun t349 => ((spec_FunOk.f kj1 bt334.1 bt334.2.1 bt334.2.2).bind fun t350 => (if (t349 != t350) = true then (laws_FnFun.j1 kj1 t340 t343 true bt334.1 bt334.2.1 bt334.2.2) else (laws_FnFun.j1 kj1 t340 t343 ((t340.length : Int) != (t343.length : Int)) bt334.1 bt334.2.1 bt334.2.2)))) else (laws_FnFun.j1 kj1 t340 t343 true bt334.1 bt334.2.1 bt334.2.2))))))))) = some r := H
 have A4 := Aside0.mk A40; clear A40
 replace H := Option.bind_eq_some_iff.mp H
 obtain ⟨⟨t334, t335, t336⟩, A50, H⟩ := H
 replace H : ((impl_FunRefs.f kj1 t334 t335 t336).bind fun t340 => ((spec_FunRefs.f kj1 t334 t335 t336).bind fun t343 => ((impl_FunSame.f kj1 t322 t323 t324 t327 t328 t329).bind fun t346 => ((spec_FunSame.f kj1 t322 t323 t324 t327 t328 t329).bind fun t347 => (if (t346 != t347) = true then (laws_FnFun.j1 kj1 t340 t343 true t334 t335 t336) else ((impl_FunSame.f kj1 t322 t323 t324 t322 t323 t324).bind fun t348 => (if t348 = true then ((impl_FunOk.f t334 t335 t336).bind fun t349 => ((spec_FunOk.f kj1 t334 t335 t336).bind fun t350 => (if (t349 != t350) = true then (laws_FnFun.j1 kj1 t340 t343 true t334 t335 t336) else (laws_FnFun.j1 kj1 t340 t343 ((t340.length : Int) != (t343.length : Int)) t334 t335 t336)))) else (laws_FnFun.j1 kj1 t340 t343 true t334 t335 t336)))))))) = some r := H
 have A5 := Aside0.mk A50; clear A50
 replace H := Option.bind_eq_some_iff.mp H
 obtain ⟨t340, A60, H⟩ := H
 replace H : ((spec_FunRefs.f kj1 t334 t335 t336).bind fun t343 => ((impl_FunSame.f kj1 t322 t323 t324 t327 t328 t329).bind fun t346 => ((spec_FunSame.f kj1 t322 t323 t324 t327 t328 t329).bind fun t347 => (if (t346 != t347) = true then (laws_FnFun.j1 kj1 t340 t343 true t334 t335 t336) else ((impl_FunSame.f kj1 t322 t323 t324 t322 t323 t324).bind fun t348 => (if t348 = true then ((impl_FunOk.f t334 t335 t336).bind fun t349 => ((spec_FunOk.f kj1 t334 t335 t336).bind fun t350 => (if (t349 != t350) = true then (laws_FnFun.j1 kj1 t340 t343 true t334 t335 t336) else (laws_FnFun.j1 kj1 t340 t343 ((t340.length : Int) != (t343.length : Int)) t334 t335 t336)))) else (laws_FnFun.j1 kj1 t340 t343 true t334 t335 t336))))))) = some r := H
 have A6 := Aside0.mk A60; clear A60
 replace H := Option.bind_eq_some_iff.mp H
 obtain ⟨t343, A70, H⟩ := H
 replace H : ((impl_FunSame.f kj1 t322 t323 t324 t327 t328 t329).bind fun t346 => ((spec_FunSame.f kj1 t322 t323 t324 t327 t328 t329).bind fun t347 => (if (t346 != t347) = true then (laws_FnFun.j1 kj1 t340 t343 true t334 t335 t336) else ((impl_FunSame.f kj1 t322 t323 t324 t322 t323 t324).bind fun t348 => (if t348 = true then ((impl_FunOk.f t334 t335 t336).bind fun t349 => ((spec_FunOk.f kj1 t334 t335 t336).bind fun t350 => (if (t349 != t350) = true then (laws_FnFun.j1 kj1 t340 t343 true t334 t335 t336) else (laws_FnFun.j1 kj1 t340 t343 ((t340.length : Int) != (t343.length : Int)) t334 t335 t336)))) else (laws_FnFun.j1 kj1 t340 t343 true t334 t335 t336)))))) = some r := H
 have A7 := Aside0.mk A70; clear A70; have HC8 := Aside0.mk H; clear H
 go_upto_region 7 with (first | ((with_reducible refine gate_callee (f := 24) rfl ?_); refine goesL_ (some 17) rfl rfl Try.func24 (by kernel_rfl) rfl #[.slice A0 l0.length c0] rfl (by (try simp only [List.map_toArray, List.map_cons, List.map_nil]); first | done | rfl | (simp only [List.length_drop, List.length_take]; rfl)) ?_; (with_reducible refine (spec_DrawFunSame.calls kj1 _ _ l0 t322 t323 t324 t327 t328 t329 _ ?side1 ?side2 A4.out).mono ?_); (case side1 => repeat (first | exact (Kd.C_below HR0.out HB.out) | (with_reducible refine Kd.C_alloc ?_ _) | (with_reducible refine Kd.C_drewN ?_ _) | (with_reducible refine Kd.C_drew ?_))); (case side2 => exact HC0.out); rintro e w9 ⟨v325, v330, rfl, ho0, ho1, hb⟩; refine ⟨_, rfl, ?_⟩; have n0_ := Aside0.mk (Kd.R_lower ho0 (below_size (by repeat (first | (with_reducible first | exact HB.out | apply below_alloc | apply pw_below_drewN | apply below_drew1) | exact HB.out)))); have n1_ := Aside0.mk (Kd.R_lower ho1 (below_size (by repeat (first | (with_reducible first | exact HB.out | apply below_alloc | apply pw_below_drewN | apply below_drew1) | exact HB.out)))); have n2_ := Aside0.mk (below_step (by repeat (first | (with_reducible first | exact HB.out | apply below_alloc | apply pw_below_drewN | apply below_drew1) | exact HB.out)) hb); clear HB; have HO326 := n0_; have HO331 := n1_; have HB := n2_; clear n0_ n1_ n2_; (try clear hb); (try clear hb2); (try clear hk); (try clear hi); (try clear ho0); (try clear ho1)) | ((with_reducible refine gate_dst (N := 3) rfl ?_); (try (refine gate_guard (by rfl) ?_; dsimp only)); refine box_event ?hg (N := 3) ?hd (cs := #[.string (⟨#[]⟩ : ByteArray), .bool false, .slice none 0 0]) (t := 30) ?hr ?_; (case hd => rfl); (case hg => rfl); (case hr => first | (go_simp; done) | (go_simp; rfl)); intro gb332 hg w10 hbox hb; have n0_ := Aside0.mk (Kd.R_below (by (with_reducible repeat (first | apply Kd.R_alloc | apply Kd.R_drewN | apply Kd.R_drew)); exact HO326.out) hb); have n1_ := Aside0.mk (Kd.R_below (by (with_reducible repeat (first | apply Kd.R_alloc | apply Kd.R_drewN | apply Kd.R_drew)); exact HO331.out) hb); have n2_ := Aside0.mk (below_step (by repeat (first | (with_reducible first | exact HB.out | apply below_alloc | apply pw_below_drewN | apply below_drew1) | exact HB.out)) hb); have n3_ := Aside0.mk (hbox); have n4_ := Aside0.mk ((by rw [hg]; exact (below_size (by repeat (first | (with_reducible first | exact HB.out | apply below_alloc | apply pw_below_drewN | apply below_drew1) | exact HB.out))) : w.heap.size ≤ gb332)); have n5_ := Aside0.mk ((by rw [hg]; exact (below_size (by repeat (first | (with_reducible first | exact HB.out | apply below_alloc | apply pw_below_drewN | apply below_drew1) | exact HB.out))) : w.heap.size ≤ gb332)); clear HO326 HO331 HB; have HO326 := n0_; have HO331 := n1_; have HB := n2_; have BK332 := n3_; have GW332 := n4_; have GE332 := n5_; clear n0_ n1_ n2_ n3_ n4_ n5_ hb hbox hg) | ((with_reducible refine gate_dst (N := 4) rfl ?_); (try (refine gate_guard (by rfl) ?_; dsimp only)); refine box_event ?hg (N := 4) ?hd (cs := #[.string (⟨#[]⟩ : ByteArray), .bool false, .slice none 0 0]) (t := 30) ?hr ?_; (case hd => rfl); (case hg => rfl); (case hr => first | (go_simp; done) | (go_simp; rfl)); intro gb333 hg w11 hbox hb; have n0_ := Aside0.mk (Kd.R_below (by (with_reducible repeat (first | apply Kd.R_alloc | apply Kd.R_drewN | apply Kd.R_drew)); exact HO326.out) hb); have n1_ := Aside0.mk (Kd.R_below (by (with_reducible repeat (first | apply Kd.R_alloc | apply Kd.R_drewN | apply Kd.R_drew)); exact HO331.out) hb); have n2_ := Aside0.mk (blk_below (g := gb332) (o := .cells #[.string (⟨#[]⟩ : ByteArray), .bool false, .slice none 0 0] 30 (0, 0)) (by exact BK332.out) hb); have n3_ := Aside0.mk (below_step (by repeat (first | (with_reducible first | exact HB.out | apply below_alloc | apply pw_below_drewN | apply below_drew1 | refine below_set ?_ GE332.out) | exact HB.out)) hb); have n4_ := Aside0.mk (hbox); have n5_ := Aside0.mk ((by rw [hg]; exact (below_size (by repeat (first | (with_reducible first | exact HB.out | apply below_alloc | apply pw_below_drewN | apply below_drew1 | refine below_set ?_ GE332.out) | exact HB.out))) : w.heap.size ≤ gb333)); have n6_ := Aside0.mk ((by rw [hg]; exact (below_size (by repeat (first | (with_reducible first | exact HB.out | apply below_alloc | apply pw_below_drewN | apply below_drew1 | refine below_set ?_ GE332.out) | exact HB.out))) : w.heap.size ≤ gb333)); have n7_ := Aside0.mk ((by rw [hg]; exact Nat.ne_of_lt (blk_lt (g := gb332) (o := .cells #[.string (⟨#[]⟩ : ByteArray), .bool false, .slice none 0 0] 30 (0, 0)) (by exact BK332.out)) : gb332 ≠ gb333)); have n8_ := Aside0.mk ((by rw [hg]; exact Nat.ne_of_gt (blk_lt (g := gb332) (o := .cells #[.string (⟨#[]⟩ : ByteArray), .bool false, .slice none 0 0] 30 (0, 0)) (by exact BK332.out)) : gb333 ≠ gb332)); clear HO326 HO331 BK332 HB; have HO326 := n0_; have HO331 := n1_; have BK332 := n2_; have HB := n3_; have BK333 := n4_; have GW333 := n5_; have GE333 := n6_; have NB332_333 := n7_; have NB333_332 := n8_; clear n0_ n1_ n2_ n3_ n4_ n5_ n6_ n7_ n8_ hb hbox hg; have hnb12 := NB332_333.out; have hnc12 := NB333_332.out; have hcz13_0 : w11.cell? ⟨gb332, 0, none⟩ = some (.string (⟨#[]⟩ : ByteArray)) := (blk_cell BK332.out 0).trans rfl; have hcz13_1 : w11.cell? ⟨gb332, 1, none⟩ = some (.bool false) := (blk_cell BK332.out 1).trans rfl; have hcz13_2 : w11.cell? ⟨gb332, 2, none⟩ = some (.slice none 0 0) := (blk_cell BK332.out 2).trans rfl; have hfz13_0 := blk_frozen BK332.out 0; have hfz13_1 := blk_frozen BK332.out 1; have hfz13_2 := blk_frozen BK332.out 2; obtain ⟨Ao14, co14, eo14⟩ := Kd.R_slice HO326.out; subst eo14; have hcz15_0 : w11.cell? ⟨gb333, 0, none⟩ = some (.string (⟨#[]⟩ : ByteArray)) := (blk_cell BK333.out 0).trans rfl; have hcz15_1 : w11.cell? ⟨gb333, 1, none⟩ = some (.bool false) := (blk_cell BK333.out 1).trans rfl; have hcz15_2 : w11.cell? ⟨gb333, 2, none⟩ = some (.slice none 0 0) := (blk_cell BK333.out 2).trans rfl; have hfz15_0 := blk_frozen BK333.out 0; have hfz15_1 := blk_frozen BK333.out 1; have hfz15_2 := blk_frozen BK333.out 2; obtain ⟨Ao16, co16, eo16⟩ := Kd.R_slice HO331.out; subst eo16) | ((with_reducible refine gate_callee (f := 25) rfl ?_); refine goesL_ (some 21) rfl rfl Try.func25 (by kernel_rfl) rfl #[.slice A0 l0.length c0] rfl (by (try simp only [List.map_toArray, List.map_cons, List.map_nil]); first | done | rfl | (simp only [List.length_drop, List.length_take]; rfl)) ?_; (with_reducible refine (spec_DrawFunOk.calls kj1 _ _ l0 t334 t335 t336 _ ?side1 ?side2 A5.out).mono ?_); (case side1 => exact Kd.C_below HR0.out (by repeat (first | (with_reducible first | exact HB.out | apply below_alloc | apply pw_below_drewN | apply below_drew1 | refine below_set ?_ GE332.out | refine below_set ?_ GE333.out) | exact HB.out))); (case side2 => exact HC0.out); rintro e w17 ⟨v337, rfl, ho0, hb⟩; refine ⟨_, rfl, ?_⟩; have n0_ := Aside0.mk (Kd.R_elder' (by (with_reducible repeat (first | apply Kd.R_alloc | apply Kd.R_drewN | apply Kd.R_drew)); exact (Kd.R_mono (Kd.R_mono (Kd.R_far (p := ⟨gb333, 2, none⟩) (Kd.R_far (p := ⟨gb333, 1, none⟩) (Kd.R_far (p := ⟨gb333, 0, none⟩) (Kd.R_far (p := ⟨gb332, 2, none⟩) (Kd.R_far (p := ⟨gb332, 1, none⟩) (Kd.R_far (p := ⟨gb332, 0, none⟩) (Kd.R_types (Kd.R_types HO326.out BK332.out (by decide)) BK333.out (by decide)) (fun _ hk => hk.1.2) (.string t322)) (fun _ hk => hk.1.2) (.bool t323)) (fun _ hk => hk.1.2) (.slice Ao14 t324.length co14)) (fun _ hk => hk.2) (.string t327)) (fun _ hk => hk.2) (.bool t328)) (fun _ hk => hk.2) (.slice Ao16 t329.length co16)) (fun _ h_ => h_.1)) (fun _ h_ => h_.1))) (Kd.R_base ho0) hb); have n1_ := Aside0.mk (Kd.R_elder' (by (with_reducible repeat (first | apply Kd.R_alloc | apply Kd.R_drewN | apply Kd.R_drew)); exact (Kd.R_mono (Kd.R_mono (Kd.R_far (p := ⟨gb333, 2, none⟩) (Kd.R_far (p := ⟨gb333, 1, none⟩) (Kd.R_far (p := ⟨gb333, 0, none⟩) (Kd.R_far (p := ⟨gb332, 2, none⟩) (Kd.R_far (p := ⟨gb332, 1, none⟩) (Kd.R_far (p := ⟨gb332, 0, none⟩) (Kd.R_types (Kd.R_types HO331.out BK332.out (by decide)) BK333.out (by decide)) (fun _ hk => hk.1.2) (.string t322)) (fun _ hk => hk.1.2) (.bool t323)) (fun _ hk => hk.1.2) (.slice Ao14 t324.length co14)) (fun _ hk => hk.2) (.string t327)) (fun _ hk => hk.2) (.bool t328)) (fun _ hk => hk.2) (.slice Ao16 t329.length co16)) (fun _ h_ => h_.1)) (fun _ h_ => h_.1))) (Kd.R_base ho0) hb); have n2_ := Aside0.mk (Kd.R_lower (Kd.R_new' (Kd.R_new' ho0 (Kd.R_lt (by (with_reducible repeat (first | apply Kd.R_alloc | apply Kd.R_drewN | apply Kd.R_drew)); exact (Kd.R_mono (Kd.R_mono (Kd.R_far (p := ⟨gb333, 2, none⟩) (Kd.R_far (p := ⟨gb333, 1, none⟩) (Kd.R_far (p := ⟨gb333, 0, none⟩) (Kd.R_far (p := ⟨gb332, 2, none⟩) (Kd.R_far (p := ⟨gb332, 1, none⟩) (Kd.R_far (p := ⟨gb332, 0, none⟩) (Kd.R_types (Kd.R_types HO326.out BK332.out (by decide)) BK333.out (by decide)) (fun _ hk => hk.1.2) (.string t322)) (fun _ hk => hk.1.2) (.bool t323)) (fun _ hk => hk.1.2) (.slice Ao14 t324.length co14)) (fun _ hk => hk.2) (.string t327)) (fun _ hk => hk.2) (.bool t328)) (fun _ hk => hk.2) (.slice Ao16 t329.length co16)) (fun _ h_ => h_.1)) (fun _ h_ => h_.1))))) (Kd.R_lt (by (with_reducible repeat (first | apply Kd.R_alloc | apply Kd.R_drewN | apply Kd.R_drew)); exact (Kd.R_mono (Kd.R_mono (Kd.R_far (p := ⟨gb333, 2, none⟩) (Kd.R_far (p := ⟨gb333, 1, none⟩) (Kd.R_far (p := ⟨gb333, 0, none⟩) (Kd.R_far (p := ⟨gb332, 2, none⟩) (Kd.R_far (p := ⟨gb332, 1, none⟩) (Kd.R_far (p := ⟨gb332, 0, none⟩) (Kd.R_types (Kd.R_types HO331.out BK332.out (by decide)) BK333.out (by decide)) (fun _ hk => hk.1.2) (.string t322)) (fun _ hk => hk.1.2) (.bool t323)) (fun _ hk => hk.1.2) (.slice Ao14 t324.length co14)) (fun _ hk => hk.2) (.string t327)) (fun _ hk => hk.2) (.bool t328)) (fun _ hk => hk.2) (.slice Ao16 t329.length co16)) (fun _ h_ => h_.1)) (fun _ h_ => h_.1))))) (below_size (by repeat (first | (with_reducible first | exact HB.out | apply below_alloc | apply pw_below_drewN | apply below_drew1 | refine below_set ?_ GE332.out | refine below_set ?_ GE333.out) | exact HB.out)))); have n3_ := Aside0.mk (blk_below (g := gb332) (o := .cells #[.string t322, .bool t323, .slice Ao14 t324.length co14] 30 (0, 0)) (by refine blk_far ?_ NB332_333.out _; refine blk_far ?_ NB332_333.out _; refine blk_far ?_ NB332_333.out _; refine blk_put (cs := #[.string t322, .bool t323, .slice none 0 0]) ?_ 2 _ rfl; refine blk_put (cs := #[.string t322, .bool false, .slice none 0 0]) ?_ 1 _ rfl; refine blk_put (cs := #[.string (⟨#[]⟩ : ByteArray), .bool false, .slice none 0 0]) ?_ 0 _ rfl; exact BK332.out) hb); have n4_ := Aside0.mk (blk_below (g := gb333) (o := .cells #[.string t327, .bool t328, .slice Ao16 t329.length co16] 30 (0, 0)) (by refine blk_put (cs := #[.string t327, .bool t328, .slice none 0 0]) ?_ 2 _ rfl; refine blk_put (cs := #[.string t327, .bool false, .slice none 0 0]) ?_ 1 _ rfl; refine blk_put (cs := #[.string (⟨#[]⟩ : ByteArray), .bool false, .slice none 0 0]) ?_ 0 _ rfl; refine blk_far ?_ NB333_332.out _; refine blk_far ?_ NB333_332.out _; refine blk_far ?_ NB333_332.out _; exact BK333.out) hb); have n5_ := Aside0.mk (below_step (by repeat (first | (with_reducible first | exact HB.out | apply below_alloc | apply pw_below_drewN | apply below_drew1 | refine below_set ?_ GE332.out | refine below_set ?_ GE333.out) | exact HB.out)) hb); clear HO326 HO331 BK332 BK333 HB; have HO326 := n0_; have HO331 := n1_; have HO338 := n2_; have BK332 := n3_; have BK333 := n4_; have HB := n5_; clear n0_ n1_ n2_ n3_ n4_ n5_; (try clear hb); (try clear hb2); (try clear hk); (try clear hi); (try clear ho0)) | ((with_reducible refine gate_dst (N := 5) rfl ?_); (try (refine gate_guard (by rfl) ?_; dsimp only)); refine box_event ?hg (N := 5) ?hd (cs := #[.string (⟨#[]⟩ : ByteArray), .bool false, .slice none 0 0]) (t := 30) ?hr ?_; (case hd => rfl); (case hg => rfl); (case hr => first | (go_simp; done) | (go_simp; rfl)); intro gb339 hg w18 hbox hb; have n0_ := Aside0.mk (Kd.R_below (by (with_reducible repeat (first | apply Kd.R_alloc | apply Kd.R_drewN | apply Kd.R_drew)); exact HO326.out) hb); have n1_ := Aside0.mk (Kd.R_below (by (with_reducible repeat (first | apply Kd.R_alloc | apply Kd.R_drewN | apply Kd.R_drew)); exact HO331.out) hb); have n2_ := Aside0.mk (Kd.R_below (by (with_reducible repeat (first | apply Kd.R_alloc | apply Kd.R_drewN | apply Kd.R_drew)); exact HO338.out) hb); have n3_ := Aside0.mk (blk_below (g := gb332) (o := .cells #[.string t322, .bool t323, .slice Ao14 t324.length co14] 30 (0, 0)) (by exact BK332.out) hb); have n4_ := Aside0.mk (blk_below (g := gb333) (o := .cells #[.string t327, .bool t328, .slice Ao16 t329.length co16] 30 (0, 0)) (by exact BK333.out) hb); have n5_ := Aside0.mk (below_step (by repeat (first | (with_reducible first | exact HB.out | apply below_alloc | apply pw_below_drewN | apply below_drew1 | refine below_set ?_ GE332.out | refine below_set ?_ GE333.out) | exact HB.out)) hb); have n6_ := Aside0.mk (hbox); have n7_ := Aside0.mk ((by rw [hg]; exact (below_size (by repeat (first | (with_reducible first | exact HB.out | apply below_alloc | apply pw_below_drewN | apply below_drew1 | refine below_set ?_ GE332.out | refine below_set ?_ GE333.out) | exact HB.out))) : w.heap.size ≤ gb339)); have n8_ := Aside0.mk ((by rw [hg]; exact (below_size (by repeat (first | (with_reducible first | exact HB.out | apply below_alloc | apply pw_below_drewN | apply below_drew1 | refine below_set ?_ GE332.out | refine below_set ?_ GE333.out) | exact HB.out))) : w.heap.size ≤ gb339)); have n9_ := Aside0.mk ((by rw [hg]; exact Nat.ne_of_lt (blk_lt (g := gb332) (o := .cells #[.string t322, .bool t323, .slice Ao14 t324.length co14] 30 (0, 0)) (by exact BK332.out)) : gb332 ≠ gb339)); have n10_ := Aside0.mk ((by rw [hg]; exact Nat.ne_of_gt (blk_lt (g := gb332) (o := .cells #[.string t322, .bool t323, .slice Ao14 t324.length co14] 30 (0, 0)) (by exact BK332.out)) : gb339 ≠ gb332)); have n11_ := Aside0.mk ((by rw [hg]; exact Nat.ne_of_lt (blk_lt (g := gb333) (o := .cells #[.string t327, .bool t328, .slice Ao16 t329.length co16] 30 (0, 0)) (by exact BK333.out)) : gb333 ≠ gb339)); have n12_ := Aside0.mk ((by rw [hg]; exact Nat.ne_of_gt (blk_lt (g := gb333) (o := .cells #[.string t327, .bool t328, .slice Ao16 t329.length co16] 30 (0, 0)) (by exact BK333.out)) : gb339 ≠ gb333)); clear HO326 HO331 HO338 BK332 BK333 HB; have HO326 := n0_; have HO331 := n1_; have HO338 := n2_; have BK332 := n3_; have BK333 := n4_; have HB := n5_; have BK339 := n6_; have GW339 := n7_; have GE339 := n8_; have NB332_339 := n9_; have NB339_332 := n10_; have NB333_339 := n11_; have NB339_333 := n12_; clear n0_ n1_ n2_ n3_ n4_ n5_ n6_ n7_ n8_ n9_ n10_ n11_ n12_ hb hbox hg; have hnb19 := NB339_332.out; have hnc19 := NB332_339.out; have hnb20 := NB339_333.out; have hnc20 := NB333_339.out; have hcz21_0 : w18.cell? ⟨gb339, 0, none⟩ = some (.string (⟨#[]⟩ : ByteArray)) := (blk_cell BK339.out 0).trans rfl; have hcz21_1 : w18.cell? ⟨gb339, 1, none⟩ = some (.bool false) := (blk_cell BK339.out 1).trans rfl; have hcz21_2 : w18.cell? ⟨gb339, 2, none⟩ = some (.slice none 0 0) := (blk_cell BK339.out 2).trans rfl; have hfz21_0 := blk_frozen BK339.out 0; have hfz21_1 := blk_frozen BK339.out 1; have hfz21_2 := blk_frozen BK339.out 2; obtain ⟨Ao22, co22, eo22⟩ := Kd.R_slice HO338.out; subst eo22) | ((with_reducible refine gate_callee (f := 20) rfl ?_); refine goesL_ (some 23) rfl rfl Try.func20 (by kernel_rfl) rfl #[.agg #[.string t334, .bool t335, .slice Ao22 t336.length co22]] rfl (by (try simp only [List.map_toArray, List.map_cons, List.map_nil]); first | done | rfl | (simp only [List.length_drop, List.length_take]; rfl)) ?_; (with_reducible refine (impl_FunRefs.calls kj1 t334 t335 _ _ t336 t340 _ ?side1 ?side2 A6.out).mono ?_); (case side1 => refine (Kd.R_reads' (e := 38) (base := w.heap.size) (ok := fun k_ => ((True ∧ some k_ ≠ (.slice Ao14 t324.length co14 : Value).ownBlock) ∧ some k_ ≠ (.slice Ao16 t329.length co16 : Value).ownBlock)) (n := t336.length) (c := co22) ?_).2.2; exact (by (with_reducible repeat (first | apply Kd.R_alloc | apply Kd.R_drewN | apply Kd.R_drew)); exact (Kd.R_mono (Kd.R_far (p := ⟨gb339, 2, none⟩) (Kd.R_far (p := ⟨gb339, 1, none⟩) (Kd.R_far (p := ⟨gb339, 0, none⟩) (Kd.R_types HO338.out BK339.out (by decide)) (fun _ hk => hk.2) (.string t334)) (fun _ hk => hk.2) (.bool t335)) (fun _ hk => hk.2) (.slice Ao22 t336.length co22)) (fun _ h_ => h_.1)))); (case side2 => exact (Kd.R_reads' HO338.out).2.1); rintro e w23 ⟨v341, rfl, ho0, hb⟩; refine ⟨_, rfl, ?_⟩; have n0_ := Aside0.mk (Kd.R_below (by (with_reducible repeat (first | apply Kd.R_alloc | apply Kd.R_drewN | apply Kd.R_drew)); exact (Kd.R_mono (Kd.R_far (p := ⟨gb339, 2, none⟩) (Kd.R_far (p := ⟨gb339, 1, none⟩) (Kd.R_far (p := ⟨gb339, 0, none⟩) (Kd.R_types HO326.out BK339.out (by decide)) (fun _ hk => hk.2) (.string t334)) (fun _ hk => hk.2) (.bool t335)) (fun _ hk => hk.2) (.slice Ao22 t336.length co22)) (fun _ h_ => h_.1))) hb); have n1_ := Aside0.mk (Kd.R_below (by (with_reducible repeat (first | apply Kd.R_alloc | apply Kd.R_drewN | apply Kd.R_drew)); exact (Kd.R_mono (Kd.R_far (p := ⟨gb339, 2, none⟩) (Kd.R_far (p := ⟨gb339, 1, none⟩) (Kd.R_far (p := ⟨gb339, 0, none⟩) (Kd.R_types HO331.out BK339.out (by decide)) (fun _ hk => hk.2) (.string t334)) (fun _ hk => hk.2) (.bool t335)) (fun _ hk => hk.2) (.slice Ao22 t336.length co22)) (fun _ h_ => h_.1))) hb); have n2_ := Aside0.mk (Kd.R_below (by (with_reducible repeat (first | apply Kd.R_alloc | apply Kd.R_drewN | apply Kd.R_drew)); exact (Kd.R_mono (Kd.R_far (p := ⟨gb339, 2, none⟩) (Kd.R_far (p := ⟨gb339, 1, none⟩) (Kd.R_far (p := ⟨gb339, 0, none⟩) (Kd.R_types HO338.out BK339.out (by decide)) (fun _ hk => hk.2) (.string t334)) (fun _ hk => hk.2) (.bool t335)) (fun _ hk => hk.2) (.slice Ao22 t336.length co22)) (fun _ h_ => h_.1))) hb); have n3_ := Aside0.mk (Kd.R_lower ho0 (below_size (by repeat (first | (with_reducible first | exact HB.out | apply below_alloc | apply pw_below_drewN | apply below_drew1 | refine below_set ?_ GE332.out | refine below_set ?_ GE333.out | refine below_set ?_ GE339.out) | exact HB.out)))); have n4_ := Aside0.mk (blk_below (g := gb332) (o := .cells #[.string t322, .bool t323, .slice Ao14 t324.length co14] 30 (0, 0)) (by refine blk_far ?_ NB332_339.out _; refine blk_far ?_ NB332_339.out _; refine blk_far ?_ NB332_339.out _; exact BK332.out) hb); have n5_ := Aside0.mk (blk_below (g := gb333) (o := .cells #[.string t327, .bool t328, .slice Ao16 t329.length co16] 30 (0, 0)) (by refine blk_far ?_ NB333_339.out _; refine blk_far ?_ NB333_339.out _; refine blk_far ?_ NB333_339.out _; exact BK333.out) hb); have n6_ := Aside0.mk (blk_below (g := gb339) (o := .cells #[.string t334, .bool t335, .slice Ao22 t336.length co22] 30 (0, 0)) (by refine blk_put (cs := #[.string t334, .bool t335, .slice none 0 0]) ?_ 2 _ rfl; refine blk_put (cs := #[.string t334, .bool false, .slice none 0 0]) ?_ 1 _ rfl; refine blk_put (cs := #[.string (⟨#[]⟩ : ByteArray), .bool false, .slice none 0 0]) ?_ 0 _ rfl; exact BK339.out) hb); have n7_ := Aside0.mk (below_step (by repeat (first | (with_reducible first | exact HB.out | apply below_alloc | apply pw_below_drewN | apply below_drew1 | refine below_set ?_ GE332.out | refine below_set ?_ GE333.out | refine below_set ?_ GE339.out) | exact HB.out)) hb); clear HO326 HO331 HO338 BK332 BK333 BK339 HB; have HO326 := n0_; have HO331 := n1_; have HO338 := n2_; have HO342 := n3_; have BK332 := n4_; have BK333 := n5_; have BK339 := n6_; have HB := n7_; clear n0_ n1_ n2_ n3_ n4_ n5_ n6_ n7_; (try clear hb); (try clear hb2); (try clear hk); (try clear hi); (try clear ho0); have hcz24_0 : w23.cell? ⟨gb339, 0, none⟩ = some (.string t334) := (blk_cell BK339.out 0).trans rfl; have hcz24_1 : w23.cell? ⟨gb339, 1, none⟩ = some (.bool t335) := (blk_cell BK339.out 1).trans rfl; have hcz24_2 : w23.cell? ⟨gb339, 2, none⟩ = some (.slice Ao22 t336.length co22) := (blk_cell BK339.out 2).trans rfl; have hfz24_0 := blk_frozen BK339.out 0; have hfz24_1 := blk_frozen BK339.out 1; have hfz24_2 := blk_frozen BK339.out 2) | ((with_reducible refine gate_callee (f := 21) rfl ?_); refine goesL_ (some 25) rfl rfl Try.func21 (by kernel_rfl) rfl #[.agg #[.string t334, .bool t335, .slice Ao22 t336.length co22]] rfl (by (try simp only [List.map_toArray, List.map_cons, List.map_nil]); first | done | rfl | (simp only [List.length_drop, List.length_take]; rfl)) ?_; (with_reducible refine (spec_FunRefs.calls kj1 t334 t335 _ _ t336 t343 _ ?side1 ?side2 A7.out).mono ?_); (case side1 => repeat (first | exact (Kd.R_reads' HO338.out).2.2 | (with_reducible refine Kd.C_alloc ?_ _) | (with_reducible refine Kd.C_drewN ?_ _) | (with_reducible refine Kd.C_drew ?_))); (case side2 => exact (Kd.R_reads' HO338.out).2.1); rintro e w25 ⟨v344, rfl, ho0, hb⟩; refine ⟨_, rfl, ?_⟩; have n0_ := Aside0.mk (Kd.R_below (by (with_reducible repeat (first | apply Kd.R_alloc | apply Kd.R_drewN | apply Kd.R_drew)); exact HO326.out) hb); have n1_ := Aside0.mk (Kd.R_below (by (with_reducible repeat (first | apply Kd.R_alloc | apply Kd.R_drewN | apply Kd.R_drew)); exact HO331.out) hb); have n2_ := Aside0.mk (Kd.R_below (by (with_reducible repeat (first | apply Kd.R_alloc | apply Kd.R_drewN | apply Kd.R_drew)); exact HO338.out) hb); have n3_ := Aside0.mk (Kd.R_elder' (by (with_reducible repeat (first | apply Kd.R_alloc | apply Kd.R_drewN | apply Kd.R_drew)); exact HO342.out) (Kd.R_base ho0) hb); have n4_ := Aside0.mk (Kd.R_lower (Kd.R_new' ho0 (Kd.R_lt (by (with_reducible repeat (first | apply Kd.R_alloc | apply Kd.R_drewN | apply Kd.R_drew)); exact HO342.out))) (below_size (by repeat (first | (with_reducible first | exact HB.out | apply below_alloc | apply pw_below_drewN | apply below_drew1 | refine below_set ?_ GE332.out | refine below_set ?_ GE333.out | refine below_set ?_ GE339.out) | exact HB.out)))); have n5_ := Aside0.mk (blk_below (g := gb332) (o := .cells #[.string t322, .bool t323, .slice Ao14 t324.length co14] 30 (0, 0)) (by exact BK332.out) hb); have n6_ := Aside0.mk (blk_below (g := gb333) (o := .cells #[.string t327, .bool t328, .slice Ao16 t329.length co16] 30 (0, 0)) (by exact BK333.out) hb); have n7_ := Aside0.mk (blk_below (g := gb339) (o := .cells #[.string t334, .bool t335, .slice Ao22 t336.length co22] 30 (0, 0)) (by exact BK339.out) hb); have n8_ := Aside0.mk (below_step (by repeat (first | (with_reducible first | exact HB.out | apply below_alloc | apply pw_below_drewN | apply below_drew1 | refine below_set ?_ GE332.out | refine below_set ?_ GE333.out | refine below_set ?_ GE339.out) | exact HB.out)) hb); clear HO326 HO331 HO338 HO342 BK332 BK333 BK339 HB; have HO326 := n0_; have HO331 := n1_; have HO338 := n2_; have HO342 := n3_; have HO345 := n4_; have BK332 := n5_; have BK333 := n6_; have BK339 := n7_; have HB := n8_; clear n0_ n1_ n2_ n3_ n4_ n5_ n6_ n7_ n8_; (try clear hb); (try clear hb2); (try clear hk); (try clear hi); (try clear ho0)))
 (try simp only [Act.put, List.setIfInBounds_toArray, List.set_cons_zero, List.set_cons_succ])
 go_cut [52] (fun v52 wc => ∃ (kq : Nat) (x52_7 : Bool), v52 = .bool x52_7 ∧ Aside0 (laws_FnFun.j1 kq t340 t343 x52_7 t334 t335 t336 = some r) ∧ Aside0 (kq ≤ kj1) ∧ Aside0 (Kd.R Kd.string 9 wc w.heap.size (fun k_ => some k_ ≠ (v344 : Value).ownBlock) v341 t340) ∧ Aside0 (Kd.R Kd.string 9 wc w.heap.size (fun k_ => some k_ ≠ (v341 : Value).ownBlock) v344 t343) ∧ Aside0 (Kd.R k38 38 wc w.heap.size (fun k_ => some k_ ≠ ((.slice Ao16 t329.length co16) : Value).ownBlock ∧ some k_ ≠ ((.slice Ao22 t336.length co22) : Value).ownBlock) (.slice Ao14 t324.length co14) t324) ∧ Aside0 (Kd.R k38 38 wc w.heap.size (fun k_ => some k_ ≠ ((.slice Ao14 t324.length co14) : Value).ownBlock ∧ some k_ ≠ ((.slice Ao22 t336.length co22) : Value).ownBlock) (.slice Ao16 t329.length co16) t329) ∧ Aside0 (Kd.R k38 38 wc w.heap.size (fun k_ => some k_ ≠ ((.slice Ao14 t324.length co14) : Value).ownBlock ∧ some k_ ≠ ((.slice Ao16 t329.length co16) : Value).ownBlock) (.slice Ao22 t336.length co22) t336) ∧ Aside0 (wc.heap[gb332]? = some (.cells #[.string t322, .bool t323, (.slice Ao14 t324.length co14)] 30 (0, 0))) ∧ Aside0 (wc.heap[gb333]? = some (.cells #[.string t327, .bool t328, (.slice Ao16 t329.length co16)] 30 (0, 0))) ∧ Aside0 (wc.heap[gb339]? = some (.cells #[.string t334, .bool t335, (.slice Ao22 t336.length co22)] 30 (0, 0))) ∧ Aside0 (Below w.heap.size w wc))
 case first =>
  have H := HC8.out
  clear HC8
  replace H := Option.bind_eq_some_iff.mp H
  obtain ⟨t346, A260, H⟩ := H
  replace H : ((spec_FunSame.f kj1 t322 t323 t324 t327 t328 t329).bind fun t347 => (if (t346 != t347) = true then (laws_FnFun.j1 kj1 t340 t343 true t334 t335 t336) else ((impl_FunSame.f kj1 t322 t323 t324 t322 t323 t324).bind fun t348 => (if t348 = true then ((impl_FunOk.f t334 t335 t336).bind fun t349 => ((spec_FunOk.f kj1 t334 t335 t336).bind fun t350 => (if (t349 != t350) = true then (laws_FnFun.j1 kj1 t340 t343 true t334 t335 t336) else (laws_FnFun.j1 kj1 t340 t343 ((t340.length : Int) != (t343.length : Int)) t334 t335 t336)))) else (laws_FnFun.j1 kj1 t340 t343 true t334 t335 t336))))) = some r := H
  have A26 := Aside0.mk A260; clear A260
  replace H := Option.bind_eq_some_iff.mp H
  obtain ⟨t347, A270, H⟩ := H
  replace H : (if (t346 != t347) = true then (laws_FnFun.j1 kj1 t340 t343 true t334 t335 t336) else ((impl_FunSame.f kj1 t322 t323 t324 t322 t323 t324).bind fun t348 => (if t348 = true then ((impl_FunOk.f t334 t335 t336).bind fun t349 => ((spec_FunOk.f kj1 t334 t335 t336).bind fun t350 => (if (t349 != t350) = true then (laws_FnFun.j1 kj1 t340 t343 true t334 t335 t336) else (laws_FnFun.j1 kj1 t340 t343 ((t340.length : Int) != (t343.length : Int)) t334 t335 t336)))) else (laws_FnFun.j1 kj1 t340 t343 true t334 t335 t336)))) = some r := H
  have A27 := Aside0.mk A270; clear A270
  by_cases c28 : (t346 != t347) = true
  · rw [if_pos c28] at H
    have c28b0 : (t346 != t347) = true := c28
    (try (have c28b1 : decide (t346 = t347) = false := by simpa using c28))
    (try (have c28b2 : (t346 == t347) = false := by simpa using c28))
    (try (have c28b3 : ¬ (t346 = t347) := by simpa using c28))
    clear c28
    (first | rw [c28b0] | (simp only [i64_w, i32_w]; rw [c28b0]) | (have cn_ := c28b0; simp only [bne] at cn_; rw [cn_]; clear cn_) | skip)
    have H' := Aside0.mk H
    clear H
    try go_wp2
    have n0_ := Aside0.mk (Kd.R_drew HO326.out)
    have n1_ := Aside0.mk (Kd.R_drew HO331.out)
    have n2_ := Aside0.mk (Kd.R_drew HO338.out)
    have n3_ := Aside0.mk (Kd.R_drew HO342.out)
    have n4_ := Aside0.mk (Kd.R_drew HO345.out)
    have n5_ := Aside0.mk (blk_drew BK332.out)
    have n6_ := Aside0.mk (blk_drew BK333.out)
    have n7_ := Aside0.mk (blk_drew BK339.out)
    have n8_ := Aside0.mk (below_drew1 HB.out)
    clear HO326 HO331 HO338 HO342 HO345 BK332 BK333 BK339; clear HB
    have HO326 := n0_
    have HO331 := n1_
    have HO338 := n2_
    have HO342 := n3_
    have HO345 := n4_
    have BK332 := n5_
    have BK333 := n6_
    have BK339 := n7_
    have HB := n8_
    clear n0_ n1_ n2_ n3_ n4_ n5_ n6_ n7_ n8_
    refine start_ (n := 27) (S := fun w' => w'.cell? ⟨gb332, 0, none⟩ = some (.string t322) ∧ w'.cell? ⟨gb332, 1, none⟩ = some (.bool t323) ∧ w'.cell? ⟨gb332, 2, none⟩ = some (.slice Ao14 t324.length co14) ∧ w'.cell? ⟨gb333, 0, none⟩ = some (.string t327) ∧ w'.cell? ⟨gb333, 1, none⟩ = some (.bool t328) ∧ w'.cell? ⟨gb333, 2, none⟩ = some (.slice Ao16 t329.length co16)) (ds := []) #[false, false, false, false, false, false, false, false, false, false, false, false, false, false, false, false, false, false, false, false, false, false, false, false, false, false, false] (by kernel_rfl) rfl rfl ⟨(blk_cell BK332.out 0).trans rfl, (blk_cell BK332.out 1).trans rfl, (blk_cell BK332.out 2).trans rfl, (blk_cell BK333.out 0).trans rfl, (blk_cell BK333.out 1).trans rfl, (blk_cell BK333.out 2).trans rfl⟩ (fun hHeld => ?_); refine with_tabW laws_FnFun.tab7 laws_FnFun.bits7 (fun HT_ HW_ => ?_)
    generalize w25.drew = w29 at HO326 HO331 HO338 HO342 HO345 BK332 BK333 BK339 HB hHeld ⊢
    refine take_ (i := 0) (N := some 26) (v := ?_) (a' := ?_) #[true, false, false, false, false, false, false, false, false, false, false, false, false, false, false, false, false, false, false, false, false, false, false, false, false, false, false] rfl rfl (take_ofW HT_.out HW_.out (by kernel_rfl)) (fun _ _ _ h => h) (Or.inl ⟨by rfl, ?_⟩) hHeld ?_ ?_
    rotate_left
    · rintro w' ⟨s0, s1, s2, s3, s4, s5⟩
      go_simp
      with_reducible rfl
    rotate_left
    · simp only [Act.put, List.setIfInBounds_toArray, List.set_cons_zero, List.set_cons_succ, i64_w, i32_w]
      rfl
    refine take_ (i := 1) (N := some 27) (v := ?_) (a' := ?_) #[true, true, false, false, false, false, false, false, false, false, false, false, false, false, false, false, false, false, false, false, false, false, false, false, false, false, false] rfl rfl (take_ofW HT_.out HW_.out (by kernel_rfl)) (fun _ _ _ h => h) (Or.inl ⟨by rfl, ?_⟩) hHeld ?_ ?_
    rotate_left
    · rintro w' ⟨s0, s1, s2, s3, s4, s5⟩
      go_simp
      with_reducible rfl
    rotate_left
    · simp only [Act.put, List.setIfInBounds_toArray, List.set_cons_zero, List.set_cons_succ, i64_w, i32_w]
      rfl
    refine take_ (i := 3) (N := some 29) (v := ?_) (a' := ?_) #[true, true, false, true, false, false, false, false, false, false, false, false, false, false, false, false, false, false, false, false, false, false, false, false, false, false, false] rfl rfl (take_ofW HT_.out HW_.out (by kernel_rfl)) (fun _ _ _ h => h) (Or.inl ⟨by rfl, ?_⟩) hHeld ?_ ?_
    rotate_left
    · rintro w' ⟨s0, s1, s2, s3, s4, s5⟩
      go_simp
      with_reducible rfl
    rotate_left
    · simp only [Act.put, List.setIfInBounds_toArray, List.set_cons_zero, List.set_cons_succ, i64_w, i32_w]
      rfl
    refine take_ (i := 4) (N := some 30) (v := ?_) (a' := ?_) #[true, true, false, true, true, false, false, false, false, false, false, false, false, false, false, false, false, false, false, false, false, false, false, false, false, false, false] rfl rfl (take_ofW HT_.out HW_.out (by kernel_rfl)) (fun _ _ _ h => h) (Or.inl ⟨by rfl, ?_⟩) hHeld ?_ ?_
    rotate_left
    · rintro w' ⟨s0, s1, s2, s3, s4, s5⟩
      go_simp
      with_reducible rfl
    rotate_left
    · simp only [Act.put, List.setIfInBounds_toArray, List.set_cons_zero, List.set_cons_succ, i64_w, i32_w]
      rfl
    refine one_ (i := 2) (N := some 28) #[true, true, true, true, true, false, false, false, false, false, false, false, false, false, false, false, false, false, false, false, false, false, false, false, false, false, false] rfl rfl (one_of HT_.out (by kernel_rfl)) (by decide) (fun K hK => ?_)
    refine goes_ Try.func26 (by kernel_rfl) rfl #[.agg #[.string t322, .bool t323, .slice Ao14 t324.length co14], .agg #[.string t327, .bool t328, .slice Ao16 t329.length co16]] (by rfl) rfl rfl (by (try simp only [List.map_toArray, List.map_cons, List.map_nil]); first | done | rfl | (simp only [List.length_drop, List.length_take]; rfl)) ?_
    with_reducible refine (impl_FunSame.calls kj1 t322 t323 _ _ t324 t327 t328 _ _ t329 t346 _ ?side1 ?side2 ?side3 ?side4 A26.out).mono ?_
    (case side1 => repeat (first | exact (Kd.R_reads' HO326.out).2.2 | (with_reducible refine Kd.C_alloc ?_ _) | (with_reducible refine Kd.C_drewN ?_ _) | (with_reducible refine Kd.C_drew ?_)))
    (case side2 => exact (Kd.R_reads' HO326.out).2.1)
    (case side3 => repeat (first | exact (Kd.R_reads' HO331.out).2.2 | (with_reducible refine Kd.C_alloc ?_ _) | (with_reducible refine Kd.C_drewN ?_ _) | (with_reducible refine Kd.C_drew ?_)))
    (case side4 => exact (Kd.R_reads' HO331.out).2.1)
    rintro e w30 ⟨rfl, hb⟩
    refine ⟨_, rfl, ?_⟩
    have n0_ := Aside0.mk (Kd.R_below (by (with_reducible repeat (first | apply Kd.R_alloc | apply Kd.R_drewN | apply Kd.R_drew)); exact HO326.out) hb)
    have n1_ := Aside0.mk (Kd.R_below (by (with_reducible repeat (first | apply Kd.R_alloc | apply Kd.R_drewN | apply Kd.R_drew)); exact HO331.out) hb)
    have n2_ := Aside0.mk (Kd.R_below (by (with_reducible repeat (first | apply Kd.R_alloc | apply Kd.R_drewN | apply Kd.R_drew)); exact HO338.out) hb)
    have n3_ := Aside0.mk (Kd.R_below (by (with_reducible repeat (first | apply Kd.R_alloc | apply Kd.R_drewN | apply Kd.R_drew)); exact HO342.out) hb)
    have n4_ := Aside0.mk (Kd.R_below (by (with_reducible repeat (first | apply Kd.R_alloc | apply Kd.R_drewN | apply Kd.R_drew)); exact HO345.out) hb)
    have n5_ := Aside0.mk (blk_below (g := gb332) (o := .cells #[.string t322, .bool t323, .slice Ao14 t324.length co14] 30 (0, 0)) (by exact BK332.out) hb)
    have n6_ := Aside0.mk (blk_below (g := gb333) (o := .cells #[.string t327, .bool t328, .slice Ao16 t329.length co16] 30 (0, 0)) (by exact BK333.out) hb)
    have n7_ := Aside0.mk (blk_below (g := gb339) (o := .cells #[.string t334, .bool t335, .slice Ao22 t336.length co22] 30 (0, 0)) (by exact BK339.out) hb)
    have n8_ := Aside0.mk (below_step (by repeat (first | (with_reducible first | exact HB.out | apply below_alloc | apply pw_below_drewN | apply below_drew1 | refine below_set ?_ GE332.out | refine below_set ?_ GE333.out | refine below_set ?_ GE339.out) | exact HB.out)) hb)
    clear HO326 HO331 HO338 HO342 HO345 BK332 BK333 BK339; clear HB
    have HO326 := n0_
    have HO331 := n1_
    have HO338 := n2_
    have HO342 := n3_
    have HO345 := n4_
    have BK332 := n5_
    have BK333 := n6_
    have BK339 := n7_
    have HB := n8_
    clear n0_ n1_ n2_ n3_ n4_ n5_ n6_ n7_ n8_
    (try clear hb)
  
    (try clear hk)
    (try clear hi)
    refine hK.out _ _ ⟨(blk_cell BK332.out 0).trans rfl, (blk_cell BK332.out 1).trans rfl, (blk_cell BK332.out 2).trans rfl, (blk_cell BK333.out 0).trans rfl, (blk_cell BK333.out 1).trans rfl, (blk_cell BK333.out 2).trans rfl⟩ (fun hHeld => ?_)
    clear hK K
    refine norm_ (a' := ?_) ?_ ?_
    rotate_left
    · show Act.put _ (some 28) _ = _
      simp only [Act.put, List.setIfInBounds_toArray, List.set_cons_zero, List.set_cons_succ, i64_w, i32_w]
      rfl
    refine one_ (i := 5) (N := some 31) #[true, true, true, true, true, true, false, false, false, false, false, false, false, false, false, false, false, false, false, false, false, false, false, false, false, false, false] rfl rfl (one_of HT_.out (by kernel_rfl)) (by decide) (fun K hK => ?_)
    refine goes_ Try.func27 (by kernel_rfl) rfl #[.agg #[.string t322, .bool t323, .slice Ao14 t324.length co14], .agg #[.string t327, .bool t328, .slice Ao16 t329.length co16]] (by rfl) rfl rfl (by (try simp only [List.map_toArray, List.map_cons, List.map_nil]); first | done | rfl | (simp only [List.length_drop, List.length_take]; rfl)) ?_
    with_reducible refine (spec_FunSame.calls kj1 t322 t323 _ _ t324 t327 t328 _ _ t329 t347 _ ?side1 ?side2 ?side3 ?side4 A27.out).mono ?_
    (case side1 => repeat (first | exact (Kd.R_reads' HO326.out).2.2 | (with_reducible refine Kd.C_alloc ?_ _) | (with_reducible refine Kd.C_drewN ?_ _) | (with_reducible refine Kd.C_drew ?_)))
    (case side2 => exact (Kd.R_reads' HO326.out).2.1)
    (case side3 => repeat (first | exact (Kd.R_reads' HO331.out).2.2 | (with_reducible refine Kd.C_alloc ?_ _) | (with_reducible refine Kd.C_drewN ?_ _) | (with_reducible refine Kd.C_drew ?_)))
    (case side4 => exact (Kd.R_reads' HO331.out).2.1)
    rintro e w31 ⟨rfl, hb⟩
    refine ⟨_, rfl, ?_⟩
    have n0_ := Aside0.mk (Kd.R_below (by (with_reducible repeat (first | apply Kd.R_alloc | apply Kd.R_drewN | apply Kd.R_drew)); exact HO326.out) hb)
    have n1_ := Aside0.mk (Kd.R_below (by (with_reducible repeat (first | apply Kd.R_alloc | apply Kd.R_drewN | apply Kd.R_drew)); exact HO331.out) hb)
    have n2_ := Aside0.mk (Kd.R_below (by (with_reducible repeat (first | apply Kd.R_alloc | apply Kd.R_drewN | apply Kd.R_drew)); exact HO338.out) hb)
    have n3_ := Aside0.mk (Kd.R_below (by (with_reducible repeat (first | apply Kd.R_alloc | apply Kd.R_drewN | apply Kd.R_drew)); exact HO342.out) hb)
    have n4_ := Aside0.mk (Kd.R_below (by (with_reducible repeat (first | apply Kd.R_alloc | apply Kd.R_drewN | apply Kd.R_drew)); exact HO345.out) hb)
    have n5_ := Aside0.mk (blk_below (g := gb332) (o := .cells #[.string t322, .bool t323, .slice Ao14 t324.length co14] 30 (0, 0)) (by exact BK332.out) hb)
    have n6_ := Aside0.mk (blk_below (g := gb333) (o := .cells #[.string t327, .bool t328, .slice Ao16 t329.length co16] 30 (0, 0)) (by exact BK333.out) hb)
    have n7_ := Aside0.mk (blk_below (g := gb339) (o := .cells #[.string t334, .bool t335, .slice Ao22 t336.length co22] 30 (0, 0)) (by exact BK339.out) hb)
    have n8_ := Aside0.mk (below_step (by repeat (first | (with_reducible first | exact HB.out | apply below_alloc | apply pw_below_drewN | apply below_drew1 | refine below_set ?_ GE332.out | refine below_set ?_ GE333.out | refine below_set ?_ GE339.out) | exact HB.out)) hb)
    clear HO326 HO331 HO338 HO342 HO345 BK332 BK333 BK339; clear HB
    have HO326 := n0_
    have HO331 := n1_
    have HO338 := n2_
    have HO342 := n3_
    have HO345 := n4_
    have BK332 := n5_
    have BK333 := n6_
    have BK339 := n7_
    have HB := n8_
    clear n0_ n1_ n2_ n3_ n4_ n5_ n6_ n7_ n8_
    (try clear hb)
  
    (try clear hk)
    (try clear hi)
    refine hK.out _ _ ⟨(blk_cell BK332.out 0).trans rfl, (blk_cell BK332.out 1).trans rfl, (blk_cell BK332.out 2).trans rfl, (blk_cell BK333.out 0).trans rfl, (blk_cell BK333.out 1).trans rfl, (blk_cell BK333.out 2).trans rfl⟩ (fun hHeld => ?_)
    clear hK K
    refine norm_ (a' := ?_) ?_ ?_
    rotate_left
    · show Act.put _ (some 31) _ = _
      simp only [Act.put, List.setIfInBounds_toArray, List.set_cons_zero, List.set_cons_succ, i64_w, i32_w]
      rfl
    refine pure_ (i := 6) (N := some 32) (v := ?_) (a' := ?_) #[true, true, true, true, true, true, true, false, false, false, false, false, false, false, false, false, false, false, false, false, false, false, false, false, false, false, false] rfl rfl (any_of HT_.out (by kernel_rfl)) (fun _ _ _ h => h) (Or.inl ⟨by rfl, ?_⟩) ?_ ?_
    rotate_left
    · intro w'
      go_simp
      with_reducible rfl
    rotate_left
    · simp only [Act.put, List.setIfInBounds_toArray, List.set_cons_zero, List.set_cons_succ, i64_w, i32_w]
      rfl
    refine pure_ (i := 7) (N := some 33) (v := ?_) (a' := ?_) #[true, true, true, true, true, true, true, true, false, false, false, false, false, false, false, false, false, false, false, false, false, false, false, false, false, false, false] rfl rfl (any_of HT_.out (by kernel_rfl)) (fun _ _ _ h => h) (Or.inl ⟨by rfl, ?_⟩) ?_ ?_
    rotate_left
    · intro w'
      go_simp
      with_reducible rfl
    rotate_left
    · simp only [Act.put, List.setIfInBounds_toArray, List.set_cons_zero, List.set_cons_succ, i64_w, i32_w]
      rfl
    refine pure_ (i := 8) (N := some 34) (v := undef) (a' := ?_) #[true, true, true, true, true, true, true, true, true, false, false, false, false, false, false, false, false, false, false, false, false, false, false, false, false, false, false] rfl rfl (any_of HT_.out (by kernel_rfl)) (fun _ _ _ h => h) (Or.inr ⟨by rfl, rfl⟩) ?_ ?_
    rotate_left
    · simp only [Act.put, List.setIfInBounds_toArray, List.set_cons_zero, List.set_cons_succ, i64_w, i32_w]
      rfl
    refine pure_ (i := 9) (N := some 35) (v := undef) (a' := ?_) #[true, true, true, true, true, true, true, true, true, true, false, false, false, false, false, false, false, false, false, false, false, false, false, false, false, false, false] rfl rfl (any_of HT_.out (by kernel_rfl)) (fun _ _ _ h => h) (Or.inr ⟨by rfl, rfl⟩) ?_ ?_
    rotate_left
    · simp only [Act.put, List.setIfInBounds_toArray, List.set_cons_zero, List.set_cons_succ, i64_w, i32_w]
      rfl
    refine pure_ (i := 10) (N := some 36) (v := undef) (a' := ?_) #[true, true, true, true, true, true, true, true, true, true, true, false, false, false, false, false, false, false, false, false, false, false, false, false, false, false, false] rfl rfl (any_of HT_.out (by kernel_rfl)) (fun _ _ _ h => h) (Or.inr ⟨by rfl, rfl⟩) ?_ ?_
    rotate_left
    · simp only [Act.put, List.setIfInBounds_toArray, List.set_cons_zero, List.set_cons_succ, i64_w, i32_w]
      rfl
    refine pure_ (i := 11) (N := some 37) (v := undef) (a' := ?_) #[true, true, true, true, true, true, true, true, true, true, true, true, false, false, false, false, false, false, false, false, false, false, false, false, false, false, false] rfl rfl (any_of HT_.out (by kernel_rfl)) (fun _ _ _ h => h) (Or.inr ⟨by rfl, rfl⟩) ?_ ?_
    rotate_left
    · simp only [Act.put, List.setIfInBounds_toArray, List.set_cons_zero, List.set_cons_succ, i64_w, i32_w]
      rfl
    refine pure_ (i := 12) (N := some 38) (v := ?_) (a' := ?_) #[true, true, true, true, true, true, true, true, true, true, true, true, true, false, false, false, false, false, false, false, false, false, false, false, false, false, false] rfl rfl (any_of HT_.out (by kernel_rfl)) (fun _ _ _ h => h) (Or.inl ⟨by rfl, ?_⟩) ?_ ?_
    rotate_left
    · intro w'
      go_simp
      with_reducible rfl
    rotate_left
    · simp only [Act.put, List.setIfInBounds_toArray, List.set_cons_zero, List.set_cons_succ, i64_w, i32_w]
      rfl
    refine pure_ (i := 13) (N := some 39) (v := ?_) (a' := ?_) #[true, true, true, true, true, true, true, true, true, true, true, true, true, true, false, false, false, false, false, false, false, false, false, false, false, false, false] rfl rfl (any_of HT_.out (by kernel_rfl)) (fun _ _ _ h => h) (Or.inl ⟨by rfl, ?_⟩) ?_ ?_
    rotate_left
    · intro w'
      go_simp
      with_reducible rfl
    rotate_left
    · simp only [Act.put, List.setIfInBounds_toArray, List.set_cons_zero, List.set_cons_succ, i64_w, i32_w]
      rfl
    refine pure_ (i := 14) (N := some 40) (v := undef) (a' := ?_) #[true, true, true, true, true, true, true, true, true, true, true, true, true, true, true, false, false, false, false, false, false, false, false, false, false, false, false] rfl rfl (any_of HT_.out (by kernel_rfl)) (fun _ _ _ h => h) (Or.inr ⟨by rfl, rfl⟩) ?_ ?_
    rotate_left
    · simp only [Act.put, List.setIfInBounds_toArray, List.set_cons_zero, List.set_cons_succ, i64_w, i32_w]
      rfl
    refine pure_ (i := 15) (N := some 41) (v := undef) (a' := ?_) #[true, true, true, true, true, true, true, true, true, true, true, true, true, true, true, true, false, false, false, false, false, false, false, false, false, false, false] rfl rfl (any_of HT_.out (by kernel_rfl)) (fun _ _ _ h => h) (Or.inr ⟨by rfl, rfl⟩) ?_ ?_
    rotate_left
    · simp only [Act.put, List.setIfInBounds_toArray, List.set_cons_zero, List.set_cons_succ, i64_w, i32_w]
      rfl
    refine pure_ (i := 16) (N := some 42) (v := undef) (a' := ?_) #[true, true, true, true, true, true, true, true, true, true, true, true, true, true, true, true, true, false, false, false, false, false, false, false, false, false, false] rfl rfl (any_of HT_.out (by kernel_rfl)) (fun _ _ _ h => h) (Or.inr ⟨by rfl, rfl⟩) ?_ ?_
    rotate_left
    · simp only [Act.put, List.setIfInBounds_toArray, List.set_cons_zero, List.set_cons_succ, i64_w, i32_w]
      rfl
    refine pure_ (i := 17) (N := some 43) (v := undef) (a' := ?_) #[true, true, true, true, true, true, true, true, true, true, true, true, true, true, true, true, true, true, false, false, false, false, false, false, false, false, false] rfl rfl (any_of HT_.out (by kernel_rfl)) (fun _ _ _ h => h) (Or.inr ⟨by rfl, rfl⟩) ?_ ?_
    rotate_left
    · simp only [Act.put, List.setIfInBounds_toArray, List.set_cons_zero, List.set_cons_succ, i64_w, i32_w]
      rfl
    refine pure_ (i := 18) (N := some 44) (v := undef) (a' := ?_) #[true, true, true, true, true, true, true, true, true, true, true, true, true, true, true, true, true, true, true, false, false, false, false, false, false, false, false] rfl rfl (any_of HT_.out (by kernel_rfl)) (fun _ _ _ h => h) (Or.inr ⟨by rfl, rfl⟩) ?_ ?_
    rotate_left
    · simp only [Act.put, List.setIfInBounds_toArray, List.set_cons_zero, List.set_cons_succ, i64_w, i32_w]
      rfl
    refine pure_ (i := 19) (N := some 45) (v := ?_) (a' := ?_) #[true, true, true, true, true, true, true, true, true, true, true, true, true, true, true, true, true, true, true, true, false, false, false, false, false, false, false] rfl rfl (any_of HT_.out (by kernel_rfl)) (fun _ _ _ h => h) (Or.inl ⟨by rfl, ?_⟩) ?_ ?_
    rotate_left
    · intro w'
      go_simp
      with_reducible rfl
    rotate_left
    · simp only [Act.put, List.setIfInBounds_toArray, List.set_cons_zero, List.set_cons_succ, i64_w, i32_w]
      rfl
    refine pure_ (i := 20) (N := some 46) (v := ?_) (a' := ?_) #[true, true, true, true, true, true, true, true, true, true, true, true, true, true, true, true, true, true, true, true, true, false, false, false, false, false, false] rfl rfl (any_of HT_.out (by kernel_rfl)) (fun _ _ _ h => h) (Or.inl ⟨by rfl, ?_⟩) ?_ ?_
    rotate_left
    · intro w'
      go_simp
      with_reducible rfl
    rotate_left
    · simp only [Act.put, List.setIfInBounds_toArray, List.set_cons_zero, List.set_cons_succ, i64_w, i32_w]
      rfl
    refine pure_ (i := 21) (N := some 47) (v := undef) (a' := ?_) #[true, true, true, true, true, true, true, true, true, true, true, true, true, true, true, true, true, true, true, true, true, true, false, false, false, false, false] rfl rfl (any_of HT_.out (by kernel_rfl)) (fun _ _ _ h => h) (Or.inr ⟨by rfl, rfl⟩) ?_ ?_
    rotate_left
    · simp only [Act.put, List.setIfInBounds_toArray, List.set_cons_zero, List.set_cons_succ, i64_w, i32_w]
      rfl
    refine pure_ (i := 22) (N := some 48) (v := undef) (a' := ?_) #[true, true, true, true, true, true, true, true, true, true, true, true, true, true, true, true, true, true, true, true, true, true, true, false, false, false, false] rfl rfl (any_of HT_.out (by kernel_rfl)) (fun _ _ _ h => h) (Or.inr ⟨by rfl, rfl⟩) ?_ ?_
    rotate_left
    · simp only [Act.put, List.setIfInBounds_toArray, List.set_cons_zero, List.set_cons_succ, i64_w, i32_w]
      rfl
    refine pure_ (i := 23) (N := some 49) (v := undef) (a' := ?_) #[true, true, true, true, true, true, true, true, true, true, true, true, true, true, true, true, true, true, true, true, true, true, true, true, false, false, false] rfl rfl (any_of HT_.out (by kernel_rfl)) (fun _ _ _ h => h) (Or.inr ⟨by rfl, rfl⟩) ?_ ?_
    rotate_left
    · simp only [Act.put, List.setIfInBounds_toArray, List.set_cons_zero, List.set_cons_succ, i64_w, i32_w]
      rfl
    refine pure_ (i := 24) (N := some 50) (v := undef) (a' := ?_) #[true, true, true, true, true, true, true, true, true, true, true, true, true, true, true, true, true, true, true, true, true, true, true, true, true, false, false] rfl rfl (any_of HT_.out (by kernel_rfl)) (fun _ _ _ h => h) (Or.inr ⟨by rfl, rfl⟩) ?_ ?_
    rotate_left
    · simp only [Act.put, List.setIfInBounds_toArray, List.set_cons_zero, List.set_cons_succ, i64_w, i32_w]
      rfl
    refine pure_ (i := 25) (N := some 51) (v := undef) (a' := ?_) #[true, true, true, true, true, true, true, true, true, true, true, true, true, true, true, true, true, true, true, true, true, true, true, true, true, true, false] rfl rfl (any_of HT_.out (by kernel_rfl)) (fun _ _ _ h => h) (Or.inr ⟨by rfl, rfl⟩) ?_ ?_
    rotate_left
    · simp only [Act.put, List.setIfInBounds_toArray, List.set_cons_zero, List.set_cons_succ, i64_w, i32_w]
      rfl
    refine pure_ (i := 26) (N := some 52) (v := ?_) (a' := ?_) #[true, true, true, true, true, true, true, true, true, true, true, true, true, true, true, true, true, true, true, true, true, true, true, true, true, true, true] rfl rfl (any_of HT_.out (by kernel_rfl)) (fun _ _ _ h => h) (Or.inl ⟨by rfl, ?_⟩) ?_ ?_
    rotate_left
    · intro w'
      go_simp
      with_reducible rfl
    rotate_left
    · simp only [Act.put, List.setIfInBounds_toArray, List.set_cons_zero, List.set_cons_succ, i64_w, i32_w]
      rfl
    refine done_ (done_of HT_.out (by kernel_rfl)) ?_
    try go_wp2
    go_meet
    case rel => exact ⟨_, (true), (by first | rfl | (simp; done) | (simp [*]; done)), H', ⟨by have := HJ1.out; first | omega | exact Nat.le_refl _⟩, ⟨by (with_reducible repeat (first | apply Kd.R_alloc | apply Kd.R_drewN | apply Kd.R_drew)); exact Kd.R_mono HO342.out (fun _ hk => hk.2)⟩, ⟨by (with_reducible repeat (first | apply Kd.R_alloc | apply Kd.R_drewN | apply Kd.R_drew)); exact Kd.R_mono HO345.out (fun _ hk => hk.2)⟩, ⟨by (with_reducible repeat (first | apply Kd.R_alloc | apply Kd.R_drewN | apply Kd.R_drew)); exact HO326.out⟩, ⟨by (with_reducible repeat (first | apply Kd.R_alloc | apply Kd.R_drewN | apply Kd.R_drew)); exact HO331.out⟩, ⟨by (with_reducible repeat (first | apply Kd.R_alloc | apply Kd.R_drewN | apply Kd.R_drew)); exact Kd.R_mono HO338.out (fun _ hk => ⟨hk.1.2, hk.2⟩)⟩, ⟨by exact BK332.out⟩, ⟨by exact BK333.out⟩, ⟨by exact BK339.out⟩, ⟨by repeat (first | (with_reducible first | exact HB.out | apply below_alloc | apply pw_below_drewN | apply below_drew1 | refine below_set ?_ GE332.out | refine below_set ?_ GE333.out | refine below_set ?_ GE339.out) | exact HB.out)⟩⟩
  rw [if_neg c28] at H
  have c28b0 : (t346 != t347) = false := by simpa using c28
  (try (have c28b1 : decide (t346 = t347) = true := by simpa using c28))
  (try (have c28b2 : (t346 == t347) = true := by simpa using c28))
  clear c28
  (first | rw [c28b0] | (simp only [i64_w, i32_w]; rw [c28b0]) | (have cn_ := c28b0; simp only [bne] at cn_; rw [cn_]; clear cn_) | skip)
  replace H := Option.bind_eq_some_iff.mp H
  obtain ⟨t348, A320, H⟩ := H
  replace H : (if t348 = true then ((impl_FunOk.f t334 t335 t336).bind fun t349 => ((spec_FunOk.f kj1 t334 t335 t336).bind fun t350 => (if (t349 != t350) = true then (laws_FnFun.j1 kj1 t340 t343 true t334 t335 t336) else (laws_FnFun.j1 kj1 t340 t343 ((t340.length : Int) != (t343.length : Int)) t334 t335 t336)))) else (laws_FnFun.j1 kj1 t340 t343 true t334 t335 t336)) = some r := H
  have A32 := Aside0.mk A320; clear A320
  by_cases c33 : t348 = true
  · subst c33
    have H1 : ((impl_FunOk.f t334 t335 t336).bind fun t349 => ((spec_FunOk.f kj1 t334 t335 t336).bind fun t350 => (if (t349 != t350) = true then (laws_FnFun.j1 kj1 t340 t343 true t334 t335 t336) else (laws_FnFun.j1 kj1 t340 t343 ((t340.length : Int) != (t343.length : Int)) t334 t335 t336)))) = some r := by rw [if_pos rfl] at H; exact H
    clear H
    have H := H1
    clear H1
    replace H := Option.bind_eq_some_iff.mp H
    obtain ⟨t349, A340, H⟩ := H
    replace H : ((spec_FunOk.f kj1 t334 t335 t336).bind fun t350 => (if (t349 != t350) = true then (laws_FnFun.j1 kj1 t340 t343 true t334 t335 t336) else (laws_FnFun.j1 kj1 t340 t343 ((t340.length : Int) != (t343.length : Int)) t334 t335 t336))) = some r := H
    have A34 := Aside0.mk A340; clear A340
    replace H := Option.bind_eq_some_iff.mp H
    obtain ⟨t350, A350, H⟩ := H
    replace H : (if (t349 != t350) = true then (laws_FnFun.j1 kj1 t340 t343 true t334 t335 t336) else (laws_FnFun.j1 kj1 t340 t343 ((t340.length : Int) != (t343.length : Int)) t334 t335 t336)) = some r := H
    have A35 := Aside0.mk A350; clear A350
    by_cases c36 : (t349 != t350) = true
    · rw [if_pos c36] at H
      have c36b0 : (t349 != t350) = true := c36
      (try (have c36b1 : decide (t349 = t350) = false := by simpa using c36))
      (try (have c36b2 : (t349 == t350) = false := by simpa using c36))
      (try (have c36b3 : ¬ (t349 = t350) := by simpa using c36))
      clear c36
      have H' := Aside0.mk H
      clear H
      try go_wp2
      have n0_ := Aside0.mk (Kd.R_drew HO326.out)
      have n1_ := Aside0.mk (Kd.R_drew HO331.out)
      have n2_ := Aside0.mk (Kd.R_drew HO338.out)
      have n3_ := Aside0.mk (Kd.R_drew HO342.out)
      have n4_ := Aside0.mk (Kd.R_drew HO345.out)
      have n5_ := Aside0.mk (blk_drew BK332.out)
      have n6_ := Aside0.mk (blk_drew BK333.out)
      have n7_ := Aside0.mk (blk_drew BK339.out)
      have n8_ := Aside0.mk (below_drew1 HB.out)
      clear HO326 HO331 HO338 HO342 HO345 BK332 BK333 BK339; clear HB
      have HO326 := n0_
      have HO331 := n1_
      have HO338 := n2_
      have HO342 := n3_
      have HO345 := n4_
      have BK332 := n5_
      have BK333 := n6_
      have BK339 := n7_
      have HB := n8_
      clear n0_ n1_ n2_ n3_ n4_ n5_ n6_ n7_ n8_
      refine start_ (n := 27) (S := fun w' => w'.cell? ⟨gb332, 0, none⟩ = some (.string t322) ∧ w'.cell? ⟨gb332, 1, none⟩ = some (.bool t323) ∧ w'.cell? ⟨gb332, 2, none⟩ = some (.slice Ao14 t324.length co14) ∧ w'.cell? ⟨gb333, 0, none⟩ = some (.string t327) ∧ w'.cell? ⟨gb333, 1, none⟩ = some (.bool t328) ∧ w'.cell? ⟨gb333, 2, none⟩ = some (.slice Ao16 t329.length co16) ∧ w'.cell? ⟨gb339, 0, none⟩ = some (.string t334) ∧ w'.cell? ⟨gb339, 1, none⟩ = some (.bool t335) ∧ w'.cell? ⟨gb339, 2, none⟩ = some (.slice Ao22 t336.length co22)) (ds := []) #[false, false, false, false, false, false, false, false, false, false, false, false, false, false, false, false, false, false, false, false, false, false, false, false, false, false, false] (by kernel_rfl) rfl rfl ⟨(blk_cell BK332.out 0).trans rfl, (blk_cell BK332.out 1).trans rfl, (blk_cell BK332.out 2).trans rfl, (blk_cell BK333.out 0).trans rfl, (blk_cell BK333.out 1).trans rfl, (blk_cell BK333.out 2).trans rfl, (blk_cell BK339.out 0).trans rfl, (blk_cell BK339.out 1).trans rfl, (blk_cell BK339.out 2).trans rfl⟩ (fun hHeld => ?_); refine with_tabW laws_FnFun.tab7 laws_FnFun.bits7 (fun HT_ HW_ => ?_)
      generalize w25.drew = w37 at HO326 HO331 HO338 HO342 HO345 BK332 BK333 BK339 HB hHeld ⊢
      refine take_ (i := 0) (N := some 26) (v := ?_) (a' := ?_) #[true, false, false, false, false, false, false, false, false, false, false, false, false, false, false, false, false, false, false, false, false, false, false, false, false, false, false] rfl rfl (take_ofW HT_.out HW_.out (by kernel_rfl)) (fun _ _ _ h => h) (Or.inl ⟨by rfl, ?_⟩) hHeld ?_ ?_
      rotate_left
      · rintro w' ⟨s0, s1, s2, s3, s4, s5, s6, s7, s8⟩
        go_simp
        with_reducible rfl
      rotate_left
      · simp only [Act.put, List.setIfInBounds_toArray, List.set_cons_zero, List.set_cons_succ, i64_w, i32_w]
        rfl
      refine take_ (i := 1) (N := some 27) (v := ?_) (a' := ?_) #[true, true, false, false, false, false, false, false, false, false, false, false, false, false, false, false, false, false, false, false, false, false, false, false, false, false, false] rfl rfl (take_ofW HT_.out HW_.out (by kernel_rfl)) (fun _ _ _ h => h) (Or.inl ⟨by rfl, ?_⟩) hHeld ?_ ?_
      rotate_left
      · rintro w' ⟨s0, s1, s2, s3, s4, s5, s6, s7, s8⟩
        go_simp
        with_reducible rfl
      rotate_left
      · simp only [Act.put, List.setIfInBounds_toArray, List.set_cons_zero, List.set_cons_succ, i64_w, i32_w]
        rfl
      refine take_ (i := 3) (N := some 29) (v := ?_) (a' := ?_) #[true, true, false, true, false, false, false, false, false, false, false, false, false, false, false, false, false, false, false, false, false, false, false, false, false, false, false] rfl rfl (take_ofW HT_.out HW_.out (by kernel_rfl)) (fun _ _ _ h => h) (Or.inl ⟨by rfl, ?_⟩) hHeld ?_ ?_
      rotate_left
      · rintro w' ⟨s0, s1, s2, s3, s4, s5, s6, s7, s8⟩
        go_simp
        with_reducible rfl
      rotate_left
      · simp only [Act.put, List.setIfInBounds_toArray, List.set_cons_zero, List.set_cons_succ, i64_w, i32_w]
        rfl
      refine take_ (i := 4) (N := some 30) (v := ?_) (a' := ?_) #[true, true, false, true, true, false, false, false, false, false, false, false, false, false, false, false, false, false, false, false, false, false, false, false, false, false, false] rfl rfl (take_ofW HT_.out HW_.out (by kernel_rfl)) (fun _ _ _ h => h) (Or.inl ⟨by rfl, ?_⟩) hHeld ?_ ?_
      rotate_left
      · rintro w' ⟨s0, s1, s2, s3, s4, s5, s6, s7, s8⟩
        go_simp
        with_reducible rfl
      rotate_left
      · simp only [Act.put, List.setIfInBounds_toArray, List.set_cons_zero, List.set_cons_succ, i64_w, i32_w]
        rfl
      refine one_ (i := 2) (N := some 28) #[true, true, true, true, true, false, false, false, false, false, false, false, false, false, false, false, false, false, false, false, false, false, false, false, false, false, false] rfl rfl (one_of HT_.out (by kernel_rfl)) (by decide) (fun K hK => ?_)
      refine goes_ Try.func26 (by kernel_rfl) rfl #[.agg #[.string t322, .bool t323, .slice Ao14 t324.length co14], .agg #[.string t327, .bool t328, .slice Ao16 t329.length co16]] (by rfl) rfl rfl (by (try simp only [List.map_toArray, List.map_cons, List.map_nil]); first | done | rfl | (simp only [List.length_drop, List.length_take]; rfl)) ?_
      with_reducible refine (impl_FunSame.calls kj1 t322 t323 _ _ t324 t327 t328 _ _ t329 t346 _ ?side1 ?side2 ?side3 ?side4 A26.out).mono ?_
      (case side1 => repeat (first | exact (Kd.R_reads' HO326.out).2.2 | (with_reducible refine Kd.C_alloc ?_ _) | (with_reducible refine Kd.C_drewN ?_ _) | (with_reducible refine Kd.C_drew ?_)))
      (case side2 => exact (Kd.R_reads' HO326.out).2.1)
      (case side3 => repeat (first | exact (Kd.R_reads' HO331.out).2.2 | (with_reducible refine Kd.C_alloc ?_ _) | (with_reducible refine Kd.C_drewN ?_ _) | (with_reducible refine Kd.C_drew ?_)))
      (case side4 => exact (Kd.R_reads' HO331.out).2.1)
      rintro e w38 ⟨rfl, hb⟩
      refine ⟨_, rfl, ?_⟩
      have n0_ := Aside0.mk (Kd.R_below (by (with_reducible repeat (first | apply Kd.R_alloc | apply Kd.R_drewN | apply Kd.R_drew)); exact HO326.out) hb)
      have n1_ := Aside0.mk (Kd.R_below (by (with_reducible repeat (first | apply Kd.R_alloc | apply Kd.R_drewN | apply Kd.R_drew)); exact HO331.out) hb)
      have n2_ := Aside0.mk (Kd.R_below (by (with_reducible repeat (first | apply Kd.R_alloc | apply Kd.R_drewN | apply Kd.R_drew)); exact HO338.out) hb)
      have n3_ := Aside0.mk (Kd.R_below (by (with_reducible repeat (first | apply Kd.R_alloc | apply Kd.R_drewN | apply Kd.R_drew)); exact HO342.out) hb)
      have n4_ := Aside0.mk (Kd.R_below (by (with_reducible repeat (first | apply Kd.R_alloc | apply Kd.R_drewN | apply Kd.R_drew)); exact HO345.out) hb)
      have n5_ := Aside0.mk (blk_below (g := gb332) (o := .cells #[.string t322, .bool t323, .slice Ao14 t324.length co14] 30 (0, 0)) (by exact BK332.out) hb)
      have n6_ := Aside0.mk (blk_below (g := gb333) (o := .cells #[.string t327, .bool t328, .slice Ao16 t329.length co16] 30 (0, 0)) (by exact BK333.out) hb)
      have n7_ := Aside0.mk (blk_below (g := gb339) (o := .cells #[.string t334, .bool t335, .slice Ao22 t336.length co22] 30 (0, 0)) (by exact BK339.out) hb)
      have n8_ := Aside0.mk (below_step (by repeat (first | (with_reducible first | exact HB.out | apply below_alloc | apply pw_below_drewN | apply below_drew1 | refine below_set ?_ GE332.out | refine below_set ?_ GE333.out | refine below_set ?_ GE339.out) | exact HB.out)) hb)
      clear HO326 HO331 HO338 HO342 HO345 BK332 BK333 BK339; clear HB
      have HO326 := n0_
      have HO331 := n1_
      have HO338 := n2_
      have HO342 := n3_
      have HO345 := n4_
      have BK332 := n5_
      have BK333 := n6_
      have BK339 := n7_
      have HB := n8_
      clear n0_ n1_ n2_ n3_ n4_ n5_ n6_ n7_ n8_
      (try clear hb)
    
      (try clear hk)
      (try clear hi)
      refine hK.out _ _ ⟨(blk_cell BK332.out 0).trans rfl, (blk_cell BK332.out 1).trans rfl, (blk_cell BK332.out 2).trans rfl, (blk_cell BK333.out 0).trans rfl, (blk_cell BK333.out 1).trans rfl, (blk_cell BK333.out 2).trans rfl, (blk_cell BK339.out 0).trans rfl, (blk_cell BK339.out 1).trans rfl, (blk_cell BK339.out 2).trans rfl⟩ (fun hHeld => ?_)
      clear hK K
      refine norm_ (a' := ?_) ?_ ?_
      rotate_left
      · show Act.put _ (some 28) _ = _
        simp only [Act.put, List.setIfInBounds_toArray, List.set_cons_zero, List.set_cons_succ, i64_w, i32_w]
        rfl
      refine one_ (i := 5) (N := some 31) #[true, true, true, true, true, true, false, false, false, false, false, false, false, false, false, false, false, false, false, false, false, false, false, false, false, false, false] rfl rfl (one_of HT_.out (by kernel_rfl)) (by decide) (fun K hK => ?_)
      refine goes_ Try.func27 (by kernel_rfl) rfl #[.agg #[.string t322, .bool t323, .slice Ao14 t324.length co14], .agg #[.string t327, .bool t328, .slice Ao16 t329.length co16]] (by rfl) rfl rfl (by (try simp only [List.map_toArray, List.map_cons, List.map_nil]); first | done | rfl | (simp only [List.length_drop, List.length_take]; rfl)) ?_
      with_reducible refine (spec_FunSame.calls kj1 t322 t323 _ _ t324 t327 t328 _ _ t329 t347 _ ?side1 ?side2 ?side3 ?side4 A27.out).mono ?_
      (case side1 => repeat (first | exact (Kd.R_reads' HO326.out).2.2 | (with_reducible refine Kd.C_alloc ?_ _) | (with_reducible refine Kd.C_drewN ?_ _) | (with_reducible refine Kd.C_drew ?_)))
      (case side2 => exact (Kd.R_reads' HO326.out).2.1)
      (case side3 => repeat (first | exact (Kd.R_reads' HO331.out).2.2 | (with_reducible refine Kd.C_alloc ?_ _) | (with_reducible refine Kd.C_drewN ?_ _) | (with_reducible refine Kd.C_drew ?_)))
      (case side4 => exact (Kd.R_reads' HO331.out).2.1)
      rintro e w39 ⟨rfl, hb⟩
      refine ⟨_, rfl, ?_⟩
      have n0_ := Aside0.mk (Kd.R_below (by (with_reducible repeat (first | apply Kd.R_alloc | apply Kd.R_drewN | apply Kd.R_drew)); exact HO326.out) hb)
      have n1_ := Aside0.mk (Kd.R_below (by (with_reducible repeat (first | apply Kd.R_alloc | apply Kd.R_drewN | apply Kd.R_drew)); exact HO331.out) hb)
      have n2_ := Aside0.mk (Kd.R_below (by (with_reducible repeat (first | apply Kd.R_alloc | apply Kd.R_drewN | apply Kd.R_drew)); exact HO338.out) hb)
      have n3_ := Aside0.mk (Kd.R_below (by (with_reducible repeat (first | apply Kd.R_alloc | apply Kd.R_drewN | apply Kd.R_drew)); exact HO342.out) hb)
      have n4_ := Aside0.mk (Kd.R_below (by (with_reducible repeat (first | apply Kd.R_alloc | apply Kd.R_drewN | apply Kd.R_drew)); exact HO345.out) hb)
      have n5_ := Aside0.mk (blk_below (g := gb332) (o := .cells #[.string t322, .bool t323, .slice Ao14 t324.length co14] 30 (0, 0)) (by exact BK332.out) hb)
      have n6_ := Aside0.mk (blk_below (g := gb333) (o := .cells #[.string t327, .bool t328, .slice Ao16 t329.length co16] 30 (0, 0)) (by exact BK333.out) hb)
      have n7_ := Aside0.mk (blk_below (g := gb339) (o := .cells #[.string t334, .bool t335, .slice Ao22 t336.length co22] 30 (0, 0)) (by exact BK339.out) hb)
      have n8_ := Aside0.mk (below_step (by repeat (first | (with_reducible first | exact HB.out | apply below_alloc | apply pw_below_drewN | apply below_drew1 | refine below_set ?_ GE332.out | refine below_set ?_ GE333.out | refine below_set ?_ GE339.out) | exact HB.out)) hb)
      clear HO326 HO331 HO338 HO342 HO345 BK332 BK333 BK339; clear HB
      have HO326 := n0_
      have HO331 := n1_
      have HO338 := n2_
      have HO342 := n3_
      have HO345 := n4_
      have BK332 := n5_
      have BK333 := n6_
      have BK339 := n7_
      have HB := n8_
      clear n0_ n1_ n2_ n3_ n4_ n5_ n6_ n7_ n8_
      (try clear hb)
    
      (try clear hk)
      (try clear hi)
      refine hK.out _ _ ⟨(blk_cell BK332.out 0).trans rfl, (blk_cell BK332.out 1).trans rfl, (blk_cell BK332.out 2).trans rfl, (blk_cell BK333.out 0).trans rfl, (blk_cell BK333.out 1).trans rfl, (blk_cell BK333.out 2).trans rfl, (blk_cell BK339.out 0).trans rfl, (blk_cell BK339.out 1).trans rfl, (blk_cell BK339.out 2).trans rfl⟩ (fun hHeld => ?_)
      clear hK K
      refine norm_ (a' := ?_) ?_ ?_
      rotate_left
      · show Act.put _ (some 31) _ = _
        simp only [Act.put, List.setIfInBounds_toArray, List.set_cons_zero, List.set_cons_succ, i64_w, i32_w]
        rfl
      refine pure_ (i := 6) (N := some 32) (v := ?_) (a' := ?_) #[true, true, true, true, true, true, true, false, false, false, false, false, false, false, false, false, false, false, false, false, false, false, false, false, false, false, false] rfl rfl (any_of HT_.out (by kernel_rfl)) (fun _ _ _ h => h) (Or.inl ⟨by rfl, ?_⟩) ?_ ?_
      rotate_left
      · intro w'
        go_simp
        with_reducible rfl
      rotate_left
      · simp only [Act.put, List.setIfInBounds_toArray, List.set_cons_zero, List.set_cons_succ, i64_w, i32_w]
        rfl
      refine pure_ (i := 7) (N := some 33) (v := ?_) (a' := ?_) #[true, true, true, true, true, true, true, true, false, false, false, false, false, false, false, false, false, false, false, false, false, false, false, false, false, false, false] rfl rfl (any_of HT_.out (by kernel_rfl)) (fun _ _ _ h => h) (Or.inl ⟨by rfl, ?_⟩) ?_ ?_
      rotate_left
      · intro w'
        go_simp
        with_reducible rfl
      rotate_left
      · simp only [Act.put, List.setIfInBounds_toArray, List.set_cons_zero, List.set_cons_succ, i64_w, i32_w]
        rfl
      refine take_ (i := 8) (N := some 34) (v := ?_) (a' := ?_) #[true, true, true, true, true, true, true, true, true, false, false, false, false, false, false, false, false, false, false, false, false, false, false, false, false, false, false] rfl rfl (take_ofW HT_.out HW_.out (by kernel_rfl)) (fun _ _ _ h => h) (Or.inl ⟨by rfl, ?_⟩) hHeld ?_ ?_
      rotate_left
      · rintro w' ⟨s0, s1, s2, s3, s4, s5, s6, s7, s8⟩
        go_simp
        with_reducible rfl
      rotate_left
      · simp only [Act.put, List.setIfInBounds_toArray, List.set_cons_zero, List.set_cons_succ, i64_w, i32_w]
        rfl
      refine take_ (i := 9) (N := some 35) (v := ?_) (a' := ?_) #[true, true, true, true, true, true, true, true, true, true, false, false, false, false, false, false, false, false, false, false, false, false, false, false, false, false, false] rfl rfl (take_ofW HT_.out HW_.out (by kernel_rfl)) (fun _ _ _ h => h) (Or.inl ⟨by rfl, ?_⟩) hHeld ?_ ?_
      rotate_left
      · rintro w' ⟨s0, s1, s2, s3, s4, s5, s6, s7, s8⟩
        go_simp
        with_reducible rfl
      rotate_left
      · simp only [Act.put, List.setIfInBounds_toArray, List.set_cons_zero, List.set_cons_succ, i64_w, i32_w]
        rfl
      refine one_ (i := 10) (N := some 36) #[true, true, true, true, true, true, true, true, true, true, true, false, false, false, false, false, false, false, false, false, false, false, false, false, false, false, false] rfl rfl (one_of HT_.out (by kernel_rfl)) (by decide) (fun K hK => ?_)
      refine goes_ Try.func26 (by kernel_rfl) rfl #[.agg #[.string t322, .bool t323, .slice Ao14 t324.length co14], .agg #[.string t322, .bool t323, .slice Ao14 t324.length co14]] (by rfl) rfl rfl (by (try simp only [List.map_toArray, List.map_cons, List.map_nil]); first | done | rfl | (simp only [List.length_drop, List.length_take]; rfl)) ?_
      with_reducible refine (impl_FunSame.calls kj1 t322 t323 _ _ t324 t322 t323 _ _ t324 true _ ?side1 ?side2 ?side3 ?side4 A32.out).mono ?_
      (case side1 => repeat (first | exact (Kd.R_reads' HO326.out).2.2 | (with_reducible refine Kd.C_alloc ?_ _) | (with_reducible refine Kd.C_drewN ?_ _) | (with_reducible refine Kd.C_drew ?_)))
      (case side2 => exact (Kd.R_reads' HO326.out).2.1)
      (case side3 => repeat (first | exact (Kd.R_reads' HO326.out).2.2 | (with_reducible refine Kd.C_alloc ?_ _) | (with_reducible refine Kd.C_drewN ?_ _) | (with_reducible refine Kd.C_drew ?_)))
      (case side4 => exact (Kd.R_reads' HO326.out).2.1)
      rintro e w40 ⟨rfl, hb⟩
      refine ⟨_, rfl, ?_⟩
      have n0_ := Aside0.mk (Kd.R_below (by (with_reducible repeat (first | apply Kd.R_alloc | apply Kd.R_drewN | apply Kd.R_drew)); exact HO326.out) hb)
      have n1_ := Aside0.mk (Kd.R_below (by (with_reducible repeat (first | apply Kd.R_alloc | apply Kd.R_drewN | apply Kd.R_drew)); exact HO331.out) hb)
      have n2_ := Aside0.mk (Kd.R_below (by (with_reducible repeat (first | apply Kd.R_alloc | apply Kd.R_drewN | apply Kd.R_drew)); exact HO338.out) hb)
      have n3_ := Aside0.mk (Kd.R_below (by (with_reducible repeat (first | apply Kd.R_alloc | apply Kd.R_drewN | apply Kd.R_drew)); exact HO342.out) hb)
      have n4_ := Aside0.mk (Kd.R_below (by (with_reducible repeat (first | apply Kd.R_alloc | apply Kd.R_drewN | apply Kd.R_drew)); exact HO345.out) hb)
      have n5_ := Aside0.mk (blk_below (g := gb332) (o := .cells #[.string t322, .bool t323, .slice Ao14 t324.length co14] 30 (0, 0)) (by exact BK332.out) hb)
      have n6_ := Aside0.mk (blk_below (g := gb333) (o := .cells #[.string t327, .bool t328, .slice Ao16 t329.length co16] 30 (0, 0)) (by exact BK333.out) hb)
      have n7_ := Aside0.mk (blk_below (g := gb339) (o := .cells #[.string t334, .bool t335, .slice Ao22 t336.length co22] 30 (0, 0)) (by exact BK339.out) hb)
      have n8_ := Aside0.mk (below_step (by repeat (first | (with_reducible first | exact HB.out | apply below_alloc | apply pw_below_drewN | apply below_drew1 | refine below_set ?_ GE332.out | refine below_set ?_ GE333.out | refine below_set ?_ GE339.out) | exact HB.out)) hb)
      clear HO326 HO331 HO338 HO342 HO345 BK332 BK333 BK339; clear HB
      have HO326 := n0_
      have HO331 := n1_
      have HO338 := n2_
      have HO342 := n3_
      have HO345 := n4_
      have BK332 := n5_
      have BK333 := n6_
      have BK339 := n7_
      have HB := n8_
      clear n0_ n1_ n2_ n3_ n4_ n5_ n6_ n7_ n8_
      (try clear hb)
    
      (try clear hk)
      (try clear hi)
      refine hK.out _ _ ⟨(blk_cell BK332.out 0).trans rfl, (blk_cell BK332.out 1).trans rfl, (blk_cell BK332.out 2).trans rfl, (blk_cell BK333.out 0).trans rfl, (blk_cell BK333.out 1).trans rfl, (blk_cell BK333.out 2).trans rfl, (blk_cell BK339.out 0).trans rfl, (blk_cell BK339.out 1).trans rfl, (blk_cell BK339.out 2).trans rfl⟩ (fun hHeld => ?_)
      clear hK K
      refine norm_ (a' := ?_) ?_ ?_
      rotate_left
      · show Act.put _ (some 36) _ = _
        simp only [Act.put, List.setIfInBounds_toArray, List.set_cons_zero, List.set_cons_succ, i64_w, i32_w]
        rfl
      refine pure_ (i := 11) (N := some 37) (v := ?_) (a' := ?_) #[true, true, true, true, true, true, true, true, true, true, true, true, false, false, false, false, false, false, false, false, false, false, false, false, false, false, false] rfl rfl (any_of HT_.out (by kernel_rfl)) (fun _ _ _ h => h) (Or.inl ⟨by rfl, ?_⟩) ?_ ?_
      rotate_left
      · intro w'
        go_simp
        with_reducible rfl
      rotate_left
      · simp only [Act.put, List.setIfInBounds_toArray, List.set_cons_zero, List.set_cons_succ, i64_w, i32_w]
        rfl
      refine pure_ (i := 12) (N := some 38) (v := ?_) (a' := ?_) #[true, true, true, true, true, true, true, true, true, true, true, true, true, false, false, false, false, false, false, false, false, false, false, false, false, false, false] rfl rfl (any_of HT_.out (by kernel_rfl)) (fun _ _ _ h => h) (Or.inl ⟨by rfl, ?_⟩) ?_ ?_
      rotate_left
      · intro w'
        go_simp
        with_reducible rfl
      rotate_left
      · simp only [Act.put, List.setIfInBounds_toArray, List.set_cons_zero, List.set_cons_succ, i64_w, i32_w]
        rfl
      refine pure_ (i := 13) (N := some 39) (v := ?_) (a' := ?_) #[true, true, true, true, true, true, true, true, true, true, true, true, true, true, false, false, false, false, false, false, false, false, false, false, false, false, false] rfl rfl (any_of HT_.out (by kernel_rfl)) (fun _ _ _ h => h) (Or.inl ⟨by rfl, ?_⟩) ?_ ?_
      rotate_left
      · intro w'
        go_simp
        with_reducible rfl
      rotate_left
      · simp only [Act.put, List.setIfInBounds_toArray, List.set_cons_zero, List.set_cons_succ, i64_w, i32_w]
        rfl
      refine take_ (i := 14) (N := some 40) (v := ?_) (a' := ?_) #[true, true, true, true, true, true, true, true, true, true, true, true, true, true, true, false, false, false, false, false, false, false, false, false, false, false, false] rfl rfl (take_ofW HT_.out HW_.out (by kernel_rfl)) (fun _ _ _ h => h) (Or.inl ⟨by rfl, ?_⟩) hHeld ?_ ?_
      rotate_left
      · rintro w' ⟨s0, s1, s2, s3, s4, s5, s6, s7, s8⟩
        go_simp
        with_reducible rfl
      rotate_left
      · simp only [Act.put, List.setIfInBounds_toArray, List.set_cons_zero, List.set_cons_succ, i64_w, i32_w]
        rfl
      refine take_ (i := 16) (N := some 42) (v := ?_) (a' := ?_) #[true, true, true, true, true, true, true, true, true, true, true, true, true, true, true, false, true, false, false, false, false, false, false, false, false, false, false] rfl rfl (take_ofW HT_.out HW_.out (by kernel_rfl)) (fun _ _ _ h => h) (Or.inl ⟨by rfl, ?_⟩) hHeld ?_ ?_
      rotate_left
      · rintro w' ⟨s0, s1, s2, s3, s4, s5, s6, s7, s8⟩
        go_simp
        with_reducible rfl
      rotate_left
      · simp only [Act.put, List.setIfInBounds_toArray, List.set_cons_zero, List.set_cons_succ, i64_w, i32_w]
        rfl
      refine one_ (i := 15) (N := some 41) #[true, true, true, true, true, true, true, true, true, true, true, true, true, true, true, true, true, false, false, false, false, false, false, false, false, false, false] rfl rfl (one_of HT_.out (by kernel_rfl)) (by decide) (fun K hK => ?_)
      refine goes_ Try.func28 (by kernel_rfl) rfl #[.agg #[.string t334, .bool t335, .slice Ao22 t336.length co22]] (by rfl) rfl rfl (by (try simp only [List.map_toArray, List.map_cons, List.map_nil]); first | done | rfl | (simp only [List.length_drop, List.length_take]; rfl)) ?_
      with_reducible refine (impl_FunOk.calls t334 t335 _ _ t336 t349 _ ?side1 ?side2 A34.out).mono ?_
      (case side1 => repeat (first | exact (Kd.R_reads' HO338.out).2.2 | (with_reducible refine Kd.C_alloc ?_ _) | (with_reducible refine Kd.C_drewN ?_ _) | (with_reducible refine Kd.C_drew ?_)))
      (case side2 => exact (Kd.R_reads' HO338.out).2.1)
      rintro e w41 ⟨rfl, hb⟩
      refine ⟨_, rfl, ?_⟩
      have n0_ := Aside0.mk (Kd.R_below (by (with_reducible repeat (first | apply Kd.R_alloc | apply Kd.R_drewN | apply Kd.R_drew)); exact HO326.out) hb)
      have n1_ := Aside0.mk (Kd.R_below (by (with_reducible repeat (first | apply Kd.R_alloc | apply Kd.R_drewN | apply Kd.R_drew)); exact HO331.out) hb)
      have n2_ := Aside0.mk (Kd.R_below (by (with_reducible repeat (first | apply Kd.R_alloc | apply Kd.R_drewN | apply Kd.R_drew)); exact HO338.out) hb)
      have n3_ := Aside0.mk (Kd.R_below (by (with_reducible repeat (first | apply Kd.R_alloc | apply Kd.R_drewN | apply Kd.R_drew)); exact HO342.out) hb)
      have n4_ := Aside0.mk (Kd.R_below (by (with_reducible repeat (first | apply Kd.R_alloc | apply Kd.R_drewN | apply Kd.R_drew)); exact HO345.out) hb)
      have n5_ := Aside0.mk (blk_below (g := gb332) (o := .cells #[.string t322, .bool t323, .slice Ao14 t324.length co14] 30 (0, 0)) (by exact BK332.out) hb)
      have n6_ := Aside0.mk (blk_below (g := gb333) (o := .cells #[.string t327, .bool t328, .slice Ao16 t329.length co16] 30 (0, 0)) (by exact BK333.out) hb)
      have n7_ := Aside0.mk (blk_below (g := gb339) (o := .cells #[.string t334, .bool t335, .slice Ao22 t336.length co22] 30 (0, 0)) (by exact BK339.out) hb)
      have n8_ := Aside0.mk (below_step (by repeat (first | (with_reducible first | exact HB.out | apply below_alloc | apply pw_below_drewN | apply below_drew1 | refine below_set ?_ GE332.out | refine below_set ?_ GE333.out | refine below_set ?_ GE339.out) | exact HB.out)) hb)
      clear HO326 HO331 HO338 HO342 HO345 BK332 BK333 BK339; clear HB
      have HO326 := n0_
      have HO331 := n1_
      have HO338 := n2_
      have HO342 := n3_
      have HO345 := n4_
      have BK332 := n5_
      have BK333 := n6_
      have BK339 := n7_
      have HB := n8_
      clear n0_ n1_ n2_ n3_ n4_ n5_ n6_ n7_ n8_
      (try clear hb)
    
      (try clear hk)
      (try clear hi)
      refine hK.out _ _ ⟨(blk_cell BK332.out 0).trans rfl, (blk_cell BK332.out 1).trans rfl, (blk_cell BK332.out 2).trans rfl, (blk_cell BK333.out 0).trans rfl, (blk_cell BK333.out 1).trans rfl, (blk_cell BK333.out 2).trans rfl, (blk_cell BK339.out 0).trans rfl, (blk_cell BK339.out 1).trans rfl, (blk_cell BK339.out 2).trans rfl⟩ (fun hHeld => ?_)
      clear hK K
      refine norm_ (a' := ?_) ?_ ?_
      rotate_left
      · show Act.put _ (some 41) _ = _
        simp only [Act.put, List.setIfInBounds_toArray, List.set_cons_zero, List.set_cons_succ, i64_w, i32_w]
        rfl
      refine one_ (i := 17) (N := some 43) #[true, true, true, true, true, true, true, true, true, true, true, true, true, true, true, true, true, true, false, false, false, false, false, false, false, false, false] rfl rfl (one_of HT_.out (by kernel_rfl)) (by decide) (fun K hK => ?_)
      refine goes_ Try.func22 (by kernel_rfl) rfl #[.agg #[.string t334, .bool t335, .slice Ao22 t336.length co22]] (by rfl) rfl rfl (by (try simp only [List.map_toArray, List.map_cons, List.map_nil]); first | done | rfl | (simp only [List.length_drop, List.length_take]; rfl)) ?_
      with_reducible refine (spec_FunOk.calls kj1 t334 t335 _ _ t336 t350 _ ?side1 ?side2 A35.out).mono ?_
      (case side1 => repeat (first | exact (Kd.R_reads' HO338.out).2.2 | (with_reducible refine Kd.C_alloc ?_ _) | (with_reducible refine Kd.C_drewN ?_ _) | (with_reducible refine Kd.C_drew ?_)))
      (case side2 => exact (Kd.R_reads' HO338.out).2.1)
      rintro e w42 ⟨rfl, hb⟩
      refine ⟨_, rfl, ?_⟩
      have n0_ := Aside0.mk (Kd.R_below (by (with_reducible repeat (first | apply Kd.R_alloc | apply Kd.R_drewN | apply Kd.R_drew)); exact HO326.out) hb)
      have n1_ := Aside0.mk (Kd.R_below (by (with_reducible repeat (first | apply Kd.R_alloc | apply Kd.R_drewN | apply Kd.R_drew)); exact HO331.out) hb)
      have n2_ := Aside0.mk (Kd.R_below (by (with_reducible repeat (first | apply Kd.R_alloc | apply Kd.R_drewN | apply Kd.R_drew)); exact HO338.out) hb)
      have n3_ := Aside0.mk (Kd.R_below (by (with_reducible repeat (first | apply Kd.R_alloc | apply Kd.R_drewN | apply Kd.R_drew)); exact HO342.out) hb)
      have n4_ := Aside0.mk (Kd.R_below (by (with_reducible repeat (first | apply Kd.R_alloc | apply Kd.R_drewN | apply Kd.R_drew)); exact HO345.out) hb)
      have n5_ := Aside0.mk (blk_below (g := gb332) (o := .cells #[.string t322, .bool t323, .slice Ao14 t324.length co14] 30 (0, 0)) (by exact BK332.out) hb)
      have n6_ := Aside0.mk (blk_below (g := gb333) (o := .cells #[.string t327, .bool t328, .slice Ao16 t329.length co16] 30 (0, 0)) (by exact BK333.out) hb)
      have n7_ := Aside0.mk (blk_below (g := gb339) (o := .cells #[.string t334, .bool t335, .slice Ao22 t336.length co22] 30 (0, 0)) (by exact BK339.out) hb)
      have n8_ := Aside0.mk (below_step (by repeat (first | (with_reducible first | exact HB.out | apply below_alloc | apply pw_below_drewN | apply below_drew1 | refine below_set ?_ GE332.out | refine below_set ?_ GE333.out | refine below_set ?_ GE339.out) | exact HB.out)) hb)
      clear HO326 HO331 HO338 HO342 HO345 BK332 BK333 BK339; clear HB
      have HO326 := n0_
      have HO331 := n1_
      have HO338 := n2_
      have HO342 := n3_
      have HO345 := n4_
      have BK332 := n5_
      have BK333 := n6_
      have BK339 := n7_
      have HB := n8_
      clear n0_ n1_ n2_ n3_ n4_ n5_ n6_ n7_ n8_
      (try clear hb)
    
      (try clear hk)
      (try clear hi)
      refine hK.out _ _ ⟨(blk_cell BK332.out 0).trans rfl, (blk_cell BK332.out 1).trans rfl, (blk_cell BK332.out 2).trans rfl, (blk_cell BK333.out 0).trans rfl, (blk_cell BK333.out 1).trans rfl, (blk_cell BK333.out 2).trans rfl, (blk_cell BK339.out 0).trans rfl, (blk_cell BK339.out 1).trans rfl, (blk_cell BK339.out 2).trans rfl⟩ (fun hHeld => ?_)
      clear hK K
      refine norm_ (a' := ?_) ?_ ?_
      rotate_left
      · show Act.put _ (some 43) _ = _
        simp only [Act.put, List.setIfInBounds_toArray, List.set_cons_zero, List.set_cons_succ, i64_w, i32_w]
        rfl
      refine pure_ (i := 18) (N := some 44) (v := ?_) (a' := ?_) #[true, true, true, true, true, true, true, true, true, true, true, true, true, true, true, true, true, true, true, false, false, false, false, false, false, false, false] rfl rfl (any_of HT_.out (by kernel_rfl)) (fun _ _ _ h => h) (Or.inl ⟨by rfl, ?_⟩) ?_ ?_
      rotate_left
      · intro w'
        go_simp
        with_reducible rfl
      rotate_left
      · simp only [Act.put, List.setIfInBounds_toArray, List.set_cons_zero, List.set_cons_succ, i64_w, i32_w]
        rfl
      refine pure_ (i := 19) (N := some 45) (v := ?_) (a' := ?_) #[true, true, true, true, true, true, true, true, true, true, true, true, true, true, true, true, true, true, true, true, false, false, false, false, false, false, false] rfl rfl (any_of HT_.out (by kernel_rfl)) (fun _ _ _ h => h) (Or.inl ⟨by rfl, ?_⟩) ?_ ?_
      rotate_left
      · intro w'
        go_simp
        with_reducible rfl
      rotate_left
      · simp only [Act.put, List.setIfInBounds_toArray, List.set_cons_zero, List.set_cons_succ, i64_w, i32_w]
        rfl
      refine pure_ (i := 20) (N := some 46) (v := ?_) (a' := ?_) #[true, true, true, true, true, true, true, true, true, true, true, true, true, true, true, true, true, true, true, true, true, false, false, false, false, false, false] rfl rfl (any_of HT_.out (by kernel_rfl)) (fun _ _ _ h => h) (Or.inl ⟨by rfl, ?_⟩) ?_ ?_
      rotate_left
      · intro w'
        go_simp
        with_reducible rfl
      rotate_left
      · simp only [Act.put, List.setIfInBounds_toArray, List.set_cons_zero, List.set_cons_succ, i64_w, i32_w]
        rfl
      refine pure_ (i := 21) (N := some 47) (v := undef) (a' := ?_) #[true, true, true, true, true, true, true, true, true, true, true, true, true, true, true, true, true, true, true, true, true, true, false, false, false, false, false] rfl rfl (any_of HT_.out (by kernel_rfl)) (fun _ _ _ h => h) (Or.inr ⟨by rfl, rfl⟩) ?_ ?_
      rotate_left
      · simp only [Act.put, List.setIfInBounds_toArray, List.set_cons_zero, List.set_cons_succ, i64_w, i32_w]
        rfl
      refine pure_ (i := 22) (N := some 48) (v := undef) (a' := ?_) #[true, true, true, true, true, true, true, true, true, true, true, true, true, true, true, true, true, true, true, true, true, true, true, false, false, false, false] rfl rfl (any_of HT_.out (by kernel_rfl)) (fun _ _ _ h => h) (Or.inr ⟨by rfl, rfl⟩) ?_ ?_
      rotate_left
      · simp only [Act.put, List.setIfInBounds_toArray, List.set_cons_zero, List.set_cons_succ, i64_w, i32_w]
        rfl
      refine pure_ (i := 23) (N := some 49) (v := undef) (a' := ?_) #[true, true, true, true, true, true, true, true, true, true, true, true, true, true, true, true, true, true, true, true, true, true, true, true, false, false, false] rfl rfl (any_of HT_.out (by kernel_rfl)) (fun _ _ _ h => h) (Or.inr ⟨by rfl, rfl⟩) ?_ ?_
      rotate_left
      · simp only [Act.put, List.setIfInBounds_toArray, List.set_cons_zero, List.set_cons_succ, i64_w, i32_w]
        rfl
      refine pure_ (i := 24) (N := some 50) (v := undef) (a' := ?_) #[true, true, true, true, true, true, true, true, true, true, true, true, true, true, true, true, true, true, true, true, true, true, true, true, true, false, false] rfl rfl (any_of HT_.out (by kernel_rfl)) (fun _ _ _ h => h) (Or.inr ⟨by rfl, rfl⟩) ?_ ?_
      rotate_left
      · simp only [Act.put, List.setIfInBounds_toArray, List.set_cons_zero, List.set_cons_succ, i64_w, i32_w]
        rfl
      refine pure_ (i := 25) (N := some 51) (v := undef) (a' := ?_) #[true, true, true, true, true, true, true, true, true, true, true, true, true, true, true, true, true, true, true, true, true, true, true, true, true, true, false] rfl rfl (any_of HT_.out (by kernel_rfl)) (fun _ _ _ h => h) (Or.inr ⟨by rfl, rfl⟩) ?_ ?_
      rotate_left
      · simp only [Act.put, List.setIfInBounds_toArray, List.set_cons_zero, List.set_cons_succ, i64_w, i32_w]
        rfl
      refine pure_ (i := 26) (N := some 52) (v := ?_) (a' := ?_) #[true, true, true, true, true, true, true, true, true, true, true, true, true, true, true, true, true, true, true, true, true, true, true, true, true, true, true] rfl rfl (any_of HT_.out (by kernel_rfl)) (fun _ _ _ h => h) (Or.inl ⟨by rfl, ?_⟩) ?_ ?_
      rotate_left
      · intro w'
        go_simp
        with_reducible rfl
      rotate_left
      · simp only [Act.put, List.setIfInBounds_toArray, List.set_cons_zero, List.set_cons_succ, i64_w, i32_w]
        rfl
      refine done_ (done_of HT_.out (by kernel_rfl)) ?_
      try go_wp2
      go_meet
      case rel => exact ⟨_, (true), (by first | rfl | (simp; done) | (simp [*]; done)), H', ⟨by have := HJ1.out; first | omega | exact Nat.le_refl _⟩, ⟨by (with_reducible repeat (first | apply Kd.R_alloc | apply Kd.R_drewN | apply Kd.R_drew)); exact Kd.R_mono HO342.out (fun _ hk => hk.2)⟩, ⟨by (with_reducible repeat (first | apply Kd.R_alloc | apply Kd.R_drewN | apply Kd.R_drew)); exact Kd.R_mono HO345.out (fun _ hk => hk.2)⟩, ⟨by (with_reducible repeat (first | apply Kd.R_alloc | apply Kd.R_drewN | apply Kd.R_drew)); exact HO326.out⟩, ⟨by (with_reducible repeat (first | apply Kd.R_alloc | apply Kd.R_drewN | apply Kd.R_drew)); exact HO331.out⟩, ⟨by (with_reducible repeat (first | apply Kd.R_alloc | apply Kd.R_drewN | apply Kd.R_drew)); exact Kd.R_mono HO338.out (fun _ hk => ⟨hk.1.2, hk.2⟩)⟩, ⟨by exact BK332.out⟩, ⟨by exact BK333.out⟩, ⟨by exact BK339.out⟩, ⟨by repeat (first | (with_reducible first | exact HB.out | apply below_alloc | apply pw_below_drewN | apply below_drew1 | refine below_set ?_ GE332.out | refine below_set ?_ GE333.out | refine below_set ?_ GE339.out) | exact HB.out)⟩⟩
    rw [if_neg c36] at H
    have c36b0 : (t349 != t350) = false := by simpa using c36
    (try (have c36b1 : decide (t349 = t350) = true := by simpa using c36))
    (try (have c36b2 : (t349 == t350) = true := by simpa using c36))
    clear c36
    have H' := Aside0.mk H
    clear H
    try go_wp2
    have n0_ := Aside0.mk (Kd.R_drew HO326.out)
    have n1_ := Aside0.mk (Kd.R_drew HO331.out)
    have n2_ := Aside0.mk (Kd.R_drew HO338.out)
    have n3_ := Aside0.mk (Kd.R_drew HO342.out)
    have n4_ := Aside0.mk (Kd.R_drew HO345.out)
    have n5_ := Aside0.mk (blk_drew BK332.out)
    have n6_ := Aside0.mk (blk_drew BK333.out)
    have n7_ := Aside0.mk (blk_drew BK339.out)
    have n8_ := Aside0.mk (below_drew1 HB.out)
    clear HO326 HO331 HO338 HO342 HO345 BK332 BK333 BK339; clear HB
    have HO326 := n0_
    have HO331 := n1_
    have HO338 := n2_
    have HO342 := n3_
    have HO345 := n4_
    have BK332 := n5_
    have BK333 := n6_
    have BK339 := n7_
    have HB := n8_
    clear n0_ n1_ n2_ n3_ n4_ n5_ n6_ n7_ n8_
    refine start_ (n := 27) (S := fun w' => w'.cell? ⟨gb332, 0, none⟩ = some (.string t322) ∧ w'.cell? ⟨gb332, 1, none⟩ = some (.bool t323) ∧ w'.cell? ⟨gb332, 2, none⟩ = some (.slice Ao14 t324.length co14) ∧ w'.cell? ⟨gb333, 0, none⟩ = some (.string t327) ∧ w'.cell? ⟨gb333, 1, none⟩ = some (.bool t328) ∧ w'.cell? ⟨gb333, 2, none⟩ = some (.slice Ao16 t329.length co16) ∧ w'.cell? ⟨gb339, 0, none⟩ = some (.string t334) ∧ w'.cell? ⟨gb339, 1, none⟩ = some (.bool t335) ∧ w'.cell? ⟨gb339, 2, none⟩ = some (.slice Ao22 t336.length co22)) (ds := []) #[false, false, false, false, false, false, false, false, false, false, false, false, false, false, false, false, false, false, false, false, false, false, false, false, false, false, false] (by kernel_rfl) rfl rfl ⟨(blk_cell BK332.out 0).trans rfl, (blk_cell BK332.out 1).trans rfl, (blk_cell BK332.out 2).trans rfl, (blk_cell BK333.out 0).trans rfl, (blk_cell BK333.out 1).trans rfl, (blk_cell BK333.out 2).trans rfl, (blk_cell BK339.out 0).trans rfl, (blk_cell BK339.out 1).trans rfl, (blk_cell BK339.out 2).trans rfl⟩ (fun hHeld => ?_); refine with_tabW laws_FnFun.tab7 laws_FnFun.bits7 (fun HT_ HW_ => ?_)
    generalize w25.drew = w43 at HO326 HO331 HO338 HO342 HO345 BK332 BK333 BK339 HB hHeld ⊢
    refine take_ (i := 0) (N := some 26) (v := ?_) (a' := ?_) #[true, false, false, false, false, false, false, false, false, false, false, false, false, false, false, false, false, false, false, false, false, false, false, false, false, false, false] rfl rfl (take_ofW HT_.out HW_.out (by kernel_rfl)) (fun _ _ _ h => h) (Or.inl ⟨by rfl, ?_⟩) hHeld ?_ ?_
    rotate_left
    · rintro w' ⟨s0, s1, s2, s3, s4, s5, s6, s7, s8⟩
      go_simp
      with_reducible rfl
    rotate_left
    · simp only [Act.put, List.setIfInBounds_toArray, List.set_cons_zero, List.set_cons_succ, i64_w, i32_w]
      rfl
    refine take_ (i := 1) (N := some 27) (v := ?_) (a' := ?_) #[true, true, false, false, false, false, false, false, false, false, false, false, false, false, false, false, false, false, false, false, false, false, false, false, false, false, false] rfl rfl (take_ofW HT_.out HW_.out (by kernel_rfl)) (fun _ _ _ h => h) (Or.inl ⟨by rfl, ?_⟩) hHeld ?_ ?_
    rotate_left
    · rintro w' ⟨s0, s1, s2, s3, s4, s5, s6, s7, s8⟩
      go_simp
      with_reducible rfl
    rotate_left
    · simp only [Act.put, List.setIfInBounds_toArray, List.set_cons_zero, List.set_cons_succ, i64_w, i32_w]
      rfl
    refine take_ (i := 3) (N := some 29) (v := ?_) (a' := ?_) #[true, true, false, true, false, false, false, false, false, false, false, false, false, false, false, false, false, false, false, false, false, false, false, false, false, false, false] rfl rfl (take_ofW HT_.out HW_.out (by kernel_rfl)) (fun _ _ _ h => h) (Or.inl ⟨by rfl, ?_⟩) hHeld ?_ ?_
    rotate_left
    · rintro w' ⟨s0, s1, s2, s3, s4, s5, s6, s7, s8⟩
      go_simp
      with_reducible rfl
    rotate_left
    · simp only [Act.put, List.setIfInBounds_toArray, List.set_cons_zero, List.set_cons_succ, i64_w, i32_w]
      rfl
    refine take_ (i := 4) (N := some 30) (v := ?_) (a' := ?_) #[true, true, false, true, true, false, false, false, false, false, false, false, false, false, false, false, false, false, false, false, false, false, false, false, false, false, false] rfl rfl (take_ofW HT_.out HW_.out (by kernel_rfl)) (fun _ _ _ h => h) (Or.inl ⟨by rfl, ?_⟩) hHeld ?_ ?_
    rotate_left
    · rintro w' ⟨s0, s1, s2, s3, s4, s5, s6, s7, s8⟩
      go_simp
      with_reducible rfl
    rotate_left
    · simp only [Act.put, List.setIfInBounds_toArray, List.set_cons_zero, List.set_cons_succ, i64_w, i32_w]
      rfl
    refine one_ (i := 2) (N := some 28) #[true, true, true, true, true, false, false, false, false, false, false, false, false, false, false, false, false, false, false, false, false, false, false, false, false, false, false] rfl rfl (one_of HT_.out (by kernel_rfl)) (by decide) (fun K hK => ?_)
    refine goes_ Try.func26 (by kernel_rfl) rfl #[.agg #[.string t322, .bool t323, .slice Ao14 t324.length co14], .agg #[.string t327, .bool t328, .slice Ao16 t329.length co16]] (by rfl) rfl rfl (by (try simp only [List.map_toArray, List.map_cons, List.map_nil]); first | done | rfl | (simp only [List.length_drop, List.length_take]; rfl)) ?_
    with_reducible refine (impl_FunSame.calls kj1 t322 t323 _ _ t324 t327 t328 _ _ t329 t346 _ ?side1 ?side2 ?side3 ?side4 A26.out).mono ?_
    (case side1 => repeat (first | exact (Kd.R_reads' HO326.out).2.2 | (with_reducible refine Kd.C_alloc ?_ _) | (with_reducible refine Kd.C_drewN ?_ _) | (with_reducible refine Kd.C_drew ?_)))
    (case side2 => exact (Kd.R_reads' HO326.out).2.1)
    (case side3 => repeat (first | exact (Kd.R_reads' HO331.out).2.2 | (with_reducible refine Kd.C_alloc ?_ _) | (with_reducible refine Kd.C_drewN ?_ _) | (with_reducible refine Kd.C_drew ?_)))
    (case side4 => exact (Kd.R_reads' HO331.out).2.1)
    rintro e w44 ⟨rfl, hb⟩
    refine ⟨_, rfl, ?_⟩
    have n0_ := Aside0.mk (Kd.R_below (by (with_reducible repeat (first | apply Kd.R_alloc | apply Kd.R_drewN | apply Kd.R_drew)); exact HO326.out) hb)
    have n1_ := Aside0.mk (Kd.R_below (by (with_reducible repeat (first | apply Kd.R_alloc | apply Kd.R_drewN | apply Kd.R_drew)); exact HO331.out) hb)
    have n2_ := Aside0.mk (Kd.R_below (by (with_reducible repeat (first | apply Kd.R_alloc | apply Kd.R_drewN | apply Kd.R_drew)); exact HO338.out) hb)
    have n3_ := Aside0.mk (Kd.R_below (by (with_reducible repeat (first | apply Kd.R_alloc | apply Kd.R_drewN | apply Kd.R_drew)); exact HO342.out) hb)
    have n4_ := Aside0.mk (Kd.R_below (by (with_reducible repeat (first | apply Kd.R_alloc | apply Kd.R_drewN | apply Kd.R_drew)); exact HO345.out) hb)
    have n5_ := Aside0.mk (blk_below (g := gb332) (o := .cells #[.string t322, .bool t323, .slice Ao14 t324.length co14] 30 (0, 0)) (by exact BK332.out) hb)
    have n6_ := Aside0.mk (blk_below (g := gb333) (o := .cells #[.string t327, .bool t328, .slice Ao16 t329.length co16] 30 (0, 0)) (by exact BK333.out) hb)
    have n7_ := Aside0.mk (blk_below (g := gb339) (o := .cells #[.string t334, .bool t335, .slice Ao22 t336.length co22] 30 (0, 0)) (by exact BK339.out) hb)
    have n8_ := Aside0.mk (below_step (by repeat (first | (with_reducible first | exact HB.out | apply below_alloc | apply pw_below_drewN | apply below_drew1 | refine below_set ?_ GE332.out | refine below_set ?_ GE333.out | refine below_set ?_ GE339.out) | exact HB.out)) hb)
    clear HO326 HO331 HO338 HO342 HO345 BK332 BK333 BK339; clear HB
    have HO326 := n0_
    have HO331 := n1_
    have HO338 := n2_
    have HO342 := n3_
    have HO345 := n4_
    have BK332 := n5_
    have BK333 := n6_
    have BK339 := n7_
    have HB := n8_
    clear n0_ n1_ n2_ n3_ n4_ n5_ n6_ n7_ n8_
    (try clear hb)
  
    (try clear hk)
    (try clear hi)
    refine hK.out _ _ ⟨(blk_cell BK332.out 0).trans rfl, (blk_cell BK332.out 1).trans rfl, (blk_cell BK332.out 2).trans rfl, (blk_cell BK333.out 0).trans rfl, (blk_cell BK333.out 1).trans rfl, (blk_cell BK333.out 2).trans rfl, (blk_cell BK339.out 0).trans rfl, (blk_cell BK339.out 1).trans rfl, (blk_cell BK339.out 2).trans rfl⟩ (fun hHeld => ?_)
    clear hK K
    refine norm_ (a' := ?_) ?_ ?_
    rotate_left
    · show Act.put _ (some 28) _ = _
      simp only [Act.put, List.setIfInBounds_toArray, List.set_cons_zero, List.set_cons_succ, i64_w, i32_w]
      rfl
    refine one_ (i := 5) (N := some 31) #[true, true, true, true, true, true, false, false, false, false, false, false, false, false, false, false, false, false, false, false, false, false, false, false, false, false, false] rfl rfl (one_of HT_.out (by kernel_rfl)) (by decide) (fun K hK => ?_)
    refine goes_ Try.func27 (by kernel_rfl) rfl #[.agg #[.string t322, .bool t323, .slice Ao14 t324.length co14], .agg #[.string t327, .bool t328, .slice Ao16 t329.length co16]] (by rfl) rfl rfl (by (try simp only [List.map_toArray, List.map_cons, List.map_nil]); first | done | rfl | (simp only [List.length_drop, List.length_take]; rfl)) ?_
    with_reducible refine (spec_FunSame.calls kj1 t322 t323 _ _ t324 t327 t328 _ _ t329 t347 _ ?side1 ?side2 ?side3 ?side4 A27.out).mono ?_
    (case side1 => repeat (first | exact (Kd.R_reads' HO326.out).2.2 | (with_reducible refine Kd.C_alloc ?_ _) | (with_reducible refine Kd.C_drewN ?_ _) | (with_reducible refine Kd.C_drew ?_)))
    (case side2 => exact (Kd.R_reads' HO326.out).2.1)
    (case side3 => repeat (first | exact (Kd.R_reads' HO331.out).2.2 | (with_reducible refine Kd.C_alloc ?_ _) | (with_reducible refine Kd.C_drewN ?_ _) | (with_reducible refine Kd.C_drew ?_)))
    (case side4 => exact (Kd.R_reads' HO331.out).2.1)
    rintro e w45 ⟨rfl, hb⟩
    refine ⟨_, rfl, ?_⟩
    have n0_ := Aside0.mk (Kd.R_below (by (with_reducible repeat (first | apply Kd.R_alloc | apply Kd.R_drewN | apply Kd.R_drew)); exact HO326.out) hb)
    have n1_ := Aside0.mk (Kd.R_below (by (with_reducible repeat (first | apply Kd.R_alloc | apply Kd.R_drewN | apply Kd.R_drew)); exact HO331.out) hb)
    have n2_ := Aside0.mk (Kd.R_below (by (with_reducible repeat (first | apply Kd.R_alloc | apply Kd.R_drewN | apply Kd.R_drew)); exact HO338.out) hb)
    have n3_ := Aside0.mk (Kd.R_below (by (with_reducible repeat (first | apply Kd.R_alloc | apply Kd.R_drewN | apply Kd.R_drew)); exact HO342.out) hb)
    have n4_ := Aside0.mk (Kd.R_below (by (with_reducible repeat (first | apply Kd.R_alloc | apply Kd.R_drewN | apply Kd.R_drew)); exact HO345.out) hb)
    have n5_ := Aside0.mk (blk_below (g := gb332) (o := .cells #[.string t322, .bool t323, .slice Ao14 t324.length co14] 30 (0, 0)) (by exact BK332.out) hb)
    have n6_ := Aside0.mk (blk_below (g := gb333) (o := .cells #[.string t327, .bool t328, .slice Ao16 t329.length co16] 30 (0, 0)) (by exact BK333.out) hb)
    have n7_ := Aside0.mk (blk_below (g := gb339) (o := .cells #[.string t334, .bool t335, .slice Ao22 t336.length co22] 30 (0, 0)) (by exact BK339.out) hb)
    have n8_ := Aside0.mk (below_step (by repeat (first | (with_reducible first | exact HB.out | apply below_alloc | apply pw_below_drewN | apply below_drew1 | refine below_set ?_ GE332.out | refine below_set ?_ GE333.out | refine below_set ?_ GE339.out) | exact HB.out)) hb)
    clear HO326 HO331 HO338 HO342 HO345 BK332 BK333 BK339; clear HB
    have HO326 := n0_
    have HO331 := n1_
    have HO338 := n2_
    have HO342 := n3_
    have HO345 := n4_
    have BK332 := n5_
    have BK333 := n6_
    have BK339 := n7_
    have HB := n8_
    clear n0_ n1_ n2_ n3_ n4_ n5_ n6_ n7_ n8_
    (try clear hb)
  
    (try clear hk)
    (try clear hi)
    refine hK.out _ _ ⟨(blk_cell BK332.out 0).trans rfl, (blk_cell BK332.out 1).trans rfl, (blk_cell BK332.out 2).trans rfl, (blk_cell BK333.out 0).trans rfl, (blk_cell BK333.out 1).trans rfl, (blk_cell BK333.out 2).trans rfl, (blk_cell BK339.out 0).trans rfl, (blk_cell BK339.out 1).trans rfl, (blk_cell BK339.out 2).trans rfl⟩ (fun hHeld => ?_)
    clear hK K
    refine norm_ (a' := ?_) ?_ ?_
    rotate_left
    · show Act.put _ (some 31) _ = _
      simp only [Act.put, List.setIfInBounds_toArray, List.set_cons_zero, List.set_cons_succ, i64_w, i32_w]
      rfl
    refine pure_ (i := 6) (N := some 32) (v := ?_) (a' := ?_) #[true, true, true, true, true, true, true, false, false, false, false, false, false, false, false, false, false, false, false, false, false, false, false, false, false, false, false] rfl rfl (any_of HT_.out (by kernel_rfl)) (fun _ _ _ h => h) (Or.inl ⟨by rfl, ?_⟩) ?_ ?_
    rotate_left
    · intro w'
      go_simp
      with_reducible rfl
    rotate_left
    · simp only [Act.put, List.setIfInBounds_toArray, List.set_cons_zero, List.set_cons_succ, i64_w, i32_w]
      rfl
    refine pure_ (i := 7) (N := some 33) (v := ?_) (a' := ?_) #[true, true, true, true, true, true, true, true, false, false, false, false, false, false, false, false, false, false, false, false, false, false, false, false, false, false, false] rfl rfl (any_of HT_.out (by kernel_rfl)) (fun _ _ _ h => h) (Or.inl ⟨by rfl, ?_⟩) ?_ ?_
    rotate_left
    · intro w'
      go_simp
      with_reducible rfl
    rotate_left
    · simp only [Act.put, List.setIfInBounds_toArray, List.set_cons_zero, List.set_cons_succ, i64_w, i32_w]
      rfl
    refine take_ (i := 8) (N := some 34) (v := ?_) (a' := ?_) #[true, true, true, true, true, true, true, true, true, false, false, false, false, false, false, false, false, false, false, false, false, false, false, false, false, false, false] rfl rfl (take_ofW HT_.out HW_.out (by kernel_rfl)) (fun _ _ _ h => h) (Or.inl ⟨by rfl, ?_⟩) hHeld ?_ ?_
    rotate_left
    · rintro w' ⟨s0, s1, s2, s3, s4, s5, s6, s7, s8⟩
      go_simp
      with_reducible rfl
    rotate_left
    · simp only [Act.put, List.setIfInBounds_toArray, List.set_cons_zero, List.set_cons_succ, i64_w, i32_w]
      rfl
    refine take_ (i := 9) (N := some 35) (v := ?_) (a' := ?_) #[true, true, true, true, true, true, true, true, true, true, false, false, false, false, false, false, false, false, false, false, false, false, false, false, false, false, false] rfl rfl (take_ofW HT_.out HW_.out (by kernel_rfl)) (fun _ _ _ h => h) (Or.inl ⟨by rfl, ?_⟩) hHeld ?_ ?_
    rotate_left
    · rintro w' ⟨s0, s1, s2, s3, s4, s5, s6, s7, s8⟩
      go_simp
      with_reducible rfl
    rotate_left
    · simp only [Act.put, List.setIfInBounds_toArray, List.set_cons_zero, List.set_cons_succ, i64_w, i32_w]
      rfl
    refine one_ (i := 10) (N := some 36) #[true, true, true, true, true, true, true, true, true, true, true, false, false, false, false, false, false, false, false, false, false, false, false, false, false, false, false] rfl rfl (one_of HT_.out (by kernel_rfl)) (by decide) (fun K hK => ?_)
    refine goes_ Try.func26 (by kernel_rfl) rfl #[.agg #[.string t322, .bool t323, .slice Ao14 t324.length co14], .agg #[.string t322, .bool t323, .slice Ao14 t324.length co14]] (by rfl) rfl rfl (by (try simp only [List.map_toArray, List.map_cons, List.map_nil]); first | done | rfl | (simp only [List.length_drop, List.length_take]; rfl)) ?_
    with_reducible refine (impl_FunSame.calls kj1 t322 t323 _ _ t324 t322 t323 _ _ t324 true _ ?side1 ?side2 ?side3 ?side4 A32.out).mono ?_
    (case side1 => repeat (first | exact (Kd.R_reads' HO326.out).2.2 | (with_reducible refine Kd.C_alloc ?_ _) | (with_reducible refine Kd.C_drewN ?_ _) | (with_reducible refine Kd.C_drew ?_)))
    (case side2 => exact (Kd.R_reads' HO326.out).2.1)
    (case side3 => repeat (first | exact (Kd.R_reads' HO326.out).2.2 | (with_reducible refine Kd.C_alloc ?_ _) | (with_reducible refine Kd.C_drewN ?_ _) | (with_reducible refine Kd.C_drew ?_)))
    (case side4 => exact (Kd.R_reads' HO326.out).2.1)
    rintro e w46 ⟨rfl, hb⟩
    refine ⟨_, rfl, ?_⟩
    have n0_ := Aside0.mk (Kd.R_below (by (with_reducible repeat (first | apply Kd.R_alloc | apply Kd.R_drewN | apply Kd.R_drew)); exact HO326.out) hb)
    have n1_ := Aside0.mk (Kd.R_below (by (with_reducible repeat (first | apply Kd.R_alloc | apply Kd.R_drewN | apply Kd.R_drew)); exact HO331.out) hb)
    have n2_ := Aside0.mk (Kd.R_below (by (with_reducible repeat (first | apply Kd.R_alloc | apply Kd.R_drewN | apply Kd.R_drew)); exact HO338.out) hb)
    have n3_ := Aside0.mk (Kd.R_below (by (with_reducible repeat (first | apply Kd.R_alloc | apply Kd.R_drewN | apply Kd.R_drew)); exact HO342.out) hb)
    have n4_ := Aside0.mk (Kd.R_below (by (with_reducible repeat (first | apply Kd.R_alloc | apply Kd.R_drewN | apply Kd.R_drew)); exact HO345.out) hb)
    have n5_ := Aside0.mk (blk_below (g := gb332) (o := .cells #[.string t322, .bool t323, .slice Ao14 t324.length co14] 30 (0, 0)) (by exact BK332.out) hb)
    have n6_ := Aside0.mk (blk_below (g := gb333) (o := .cells #[.string t327, .bool t328, .slice Ao16 t329.length co16] 30 (0, 0)) (by exact BK333.out) hb)
    have n7_ := Aside0.mk (blk_below (g := gb339) (o := .cells #[.string t334, .bool t335, .slice Ao22 t336.length co22] 30 (0, 0)) (by exact BK339.out) hb)
    have n8_ := Aside0.mk (below_step (by repeat (first | (with_reducible first | exact HB.out | apply below_alloc | apply pw_below_drewN | apply below_drew1 | refine below_set ?_ GE332.out | refine below_set ?_ GE333.out | refine below_set ?_ GE339.out) | exact HB.out)) hb)
    clear HO326 HO331 HO338 HO342 HO345 BK332 BK333 BK339; clear HB
    have HO326 := n0_
    have HO331 := n1_
    have HO338 := n2_
    have HO342 := n3_
    have HO345 := n4_
    have BK332 := n5_
    have BK333 := n6_
    have BK339 := n7_
    have HB := n8_
    clear n0_ n1_ n2_ n3_ n4_ n5_ n6_ n7_ n8_
    (try clear hb)
  
    (try clear hk)
    (try clear hi)
    refine hK.out _ _ ⟨(blk_cell BK332.out 0).trans rfl, (blk_cell BK332.out 1).trans rfl, (blk_cell BK332.out 2).trans rfl, (blk_cell BK333.out 0).trans rfl, (blk_cell BK333.out 1).trans rfl, (blk_cell BK333.out 2).trans rfl, (blk_cell BK339.out 0).trans rfl, (blk_cell BK339.out 1).trans rfl, (blk_cell BK339.out 2).trans rfl⟩ (fun hHeld => ?_)
    clear hK K
    refine norm_ (a' := ?_) ?_ ?_
    rotate_left
    · show Act.put _ (some 36) _ = _
      simp only [Act.put, List.setIfInBounds_toArray, List.set_cons_zero, List.set_cons_succ, i64_w, i32_w]
      rfl
    refine pure_ (i := 11) (N := some 37) (v := ?_) (a' := ?_) #[true, true, true, true, true, true, true, true, true, true, true, true, false, false, false, false, false, false, false, false, false, false, false, false, false, false, false] rfl rfl (any_of HT_.out (by kernel_rfl)) (fun _ _ _ h => h) (Or.inl ⟨by rfl, ?_⟩) ?_ ?_
    rotate_left
    · intro w'
      go_simp
      with_reducible rfl
    rotate_left
    · simp only [Act.put, List.setIfInBounds_toArray, List.set_cons_zero, List.set_cons_succ, i64_w, i32_w]
      rfl
    refine pure_ (i := 12) (N := some 38) (v := ?_) (a' := ?_) #[true, true, true, true, true, true, true, true, true, true, true, true, true, false, false, false, false, false, false, false, false, false, false, false, false, false, false] rfl rfl (any_of HT_.out (by kernel_rfl)) (fun _ _ _ h => h) (Or.inl ⟨by rfl, ?_⟩) ?_ ?_
    rotate_left
    · intro w'
      go_simp
      with_reducible rfl
    rotate_left
    · simp only [Act.put, List.setIfInBounds_toArray, List.set_cons_zero, List.set_cons_succ, i64_w, i32_w]
      rfl
    refine pure_ (i := 13) (N := some 39) (v := ?_) (a' := ?_) #[true, true, true, true, true, true, true, true, true, true, true, true, true, true, false, false, false, false, false, false, false, false, false, false, false, false, false] rfl rfl (any_of HT_.out (by kernel_rfl)) (fun _ _ _ h => h) (Or.inl ⟨by rfl, ?_⟩) ?_ ?_
    rotate_left
    · intro w'
      go_simp
      with_reducible rfl
    rotate_left
    · simp only [Act.put, List.setIfInBounds_toArray, List.set_cons_zero, List.set_cons_succ, i64_w, i32_w]
      rfl
    refine take_ (i := 14) (N := some 40) (v := ?_) (a' := ?_) #[true, true, true, true, true, true, true, true, true, true, true, true, true, true, true, false, false, false, false, false, false, false, false, false, false, false, false] rfl rfl (take_ofW HT_.out HW_.out (by kernel_rfl)) (fun _ _ _ h => h) (Or.inl ⟨by rfl, ?_⟩) hHeld ?_ ?_
    rotate_left
    · rintro w' ⟨s0, s1, s2, s3, s4, s5, s6, s7, s8⟩
      go_simp
      with_reducible rfl
    rotate_left
    · simp only [Act.put, List.setIfInBounds_toArray, List.set_cons_zero, List.set_cons_succ, i64_w, i32_w]
      rfl
    refine take_ (i := 16) (N := some 42) (v := ?_) (a' := ?_) #[true, true, true, true, true, true, true, true, true, true, true, true, true, true, true, false, true, false, false, false, false, false, false, false, false, false, false] rfl rfl (take_ofW HT_.out HW_.out (by kernel_rfl)) (fun _ _ _ h => h) (Or.inl ⟨by rfl, ?_⟩) hHeld ?_ ?_
    rotate_left
    · rintro w' ⟨s0, s1, s2, s3, s4, s5, s6, s7, s8⟩
      go_simp
      with_reducible rfl
    rotate_left
    · simp only [Act.put, List.setIfInBounds_toArray, List.set_cons_zero, List.set_cons_succ, i64_w, i32_w]
      rfl
    refine one_ (i := 15) (N := some 41) #[true, true, true, true, true, true, true, true, true, true, true, true, true, true, true, true, true, false, false, false, false, false, false, false, false, false, false] rfl rfl (one_of HT_.out (by kernel_rfl)) (by decide) (fun K hK => ?_)
    refine goes_ Try.func28 (by kernel_rfl) rfl #[.agg #[.string t334, .bool t335, .slice Ao22 t336.length co22]] (by rfl) rfl rfl (by (try simp only [List.map_toArray, List.map_cons, List.map_nil]); first | done | rfl | (simp only [List.length_drop, List.length_take]; rfl)) ?_
    with_reducible refine (impl_FunOk.calls t334 t335 _ _ t336 t349 _ ?side1 ?side2 A34.out).mono ?_
    (case side1 => repeat (first | exact (Kd.R_reads' HO338.out).2.2 | (with_reducible refine Kd.C_alloc ?_ _) | (with_reducible refine Kd.C_drewN ?_ _) | (with_reducible refine Kd.C_drew ?_)))
    (case side2 => exact (Kd.R_reads' HO338.out).2.1)
    rintro e w47 ⟨rfl, hb⟩
    refine ⟨_, rfl, ?_⟩
    have n0_ := Aside0.mk (Kd.R_below (by (with_reducible repeat (first | apply Kd.R_alloc | apply Kd.R_drewN | apply Kd.R_drew)); exact HO326.out) hb)
    have n1_ := Aside0.mk (Kd.R_below (by (with_reducible repeat (first | apply Kd.R_alloc | apply Kd.R_drewN | apply Kd.R_drew)); exact HO331.out) hb)
    have n2_ := Aside0.mk (Kd.R_below (by (with_reducible repeat (first | apply Kd.R_alloc | apply Kd.R_drewN | apply Kd.R_drew)); exact HO338.out) hb)
    have n3_ := Aside0.mk (Kd.R_below (by (with_reducible repeat (first | apply Kd.R_alloc | apply Kd.R_drewN | apply Kd.R_drew)); exact HO342.out) hb)
    have n4_ := Aside0.mk (Kd.R_below (by (with_reducible repeat (first | apply Kd.R_alloc | apply Kd.R_drewN | apply Kd.R_drew)); exact HO345.out) hb)
    have n5_ := Aside0.mk (blk_below (g := gb332) (o := .cells #[.string t322, .bool t323, .slice Ao14 t324.length co14] 30 (0, 0)) (by exact BK332.out) hb)
    have n6_ := Aside0.mk (blk_below (g := gb333) (o := .cells #[.string t327, .bool t328, .slice Ao16 t329.length co16] 30 (0, 0)) (by exact BK333.out) hb)
    have n7_ := Aside0.mk (blk_below (g := gb339) (o := .cells #[.string t334, .bool t335, .slice Ao22 t336.length co22] 30 (0, 0)) (by exact BK339.out) hb)
    have n8_ := Aside0.mk (below_step (by repeat (first | (with_reducible first | exact HB.out | apply below_alloc | apply pw_below_drewN | apply below_drew1 | refine below_set ?_ GE332.out | refine below_set ?_ GE333.out | refine below_set ?_ GE339.out) | exact HB.out)) hb)
    clear HO326 HO331 HO338 HO342 HO345 BK332 BK333 BK339; clear HB
    have HO326 := n0_
    have HO331 := n1_
    have HO338 := n2_
    have HO342 := n3_
    have HO345 := n4_
    have BK332 := n5_
    have BK333 := n6_
    have BK339 := n7_
    have HB := n8_
    clear n0_ n1_ n2_ n3_ n4_ n5_ n6_ n7_ n8_
    (try clear hb)
  
    (try clear hk)
    (try clear hi)
    refine hK.out _ _ ⟨(blk_cell BK332.out 0).trans rfl, (blk_cell BK332.out 1).trans rfl, (blk_cell BK332.out 2).trans rfl, (blk_cell BK333.out 0).trans rfl, (blk_cell BK333.out 1).trans rfl, (blk_cell BK333.out 2).trans rfl, (blk_cell BK339.out 0).trans rfl, (blk_cell BK339.out 1).trans rfl, (blk_cell BK339.out 2).trans rfl⟩ (fun hHeld => ?_)
    clear hK K
    refine norm_ (a' := ?_) ?_ ?_
    rotate_left
    · show Act.put _ (some 41) _ = _
      simp only [Act.put, List.setIfInBounds_toArray, List.set_cons_zero, List.set_cons_succ, i64_w, i32_w]
      rfl
    refine one_ (i := 17) (N := some 43) #[true, true, true, true, true, true, true, true, true, true, true, true, true, true, true, true, true, true, false, false, false, false, false, false, false, false, false] rfl rfl (one_of HT_.out (by kernel_rfl)) (by decide) (fun K hK => ?_)
    refine goes_ Try.func22 (by kernel_rfl) rfl #[.agg #[.string t334, .bool t335, .slice Ao22 t336.length co22]] (by rfl) rfl rfl (by (try simp only [List.map_toArray, List.map_cons, List.map_nil]); first | done | rfl | (simp only [List.length_drop, List.length_take]; rfl)) ?_
    with_reducible refine (spec_FunOk.calls kj1 t334 t335 _ _ t336 t350 _ ?side1 ?side2 A35.out).mono ?_
    (case side1 => repeat (first | exact (Kd.R_reads' HO338.out).2.2 | (with_reducible refine Kd.C_alloc ?_ _) | (with_reducible refine Kd.C_drewN ?_ _) | (with_reducible refine Kd.C_drew ?_)))
    (case side2 => exact (Kd.R_reads' HO338.out).2.1)
    rintro e w48 ⟨rfl, hb⟩
    refine ⟨_, rfl, ?_⟩
    have n0_ := Aside0.mk (Kd.R_below (by (with_reducible repeat (first | apply Kd.R_alloc | apply Kd.R_drewN | apply Kd.R_drew)); exact HO326.out) hb)
    have n1_ := Aside0.mk (Kd.R_below (by (with_reducible repeat (first | apply Kd.R_alloc | apply Kd.R_drewN | apply Kd.R_drew)); exact HO331.out) hb)
    have n2_ := Aside0.mk (Kd.R_below (by (with_reducible repeat (first | apply Kd.R_alloc | apply Kd.R_drewN | apply Kd.R_drew)); exact HO338.out) hb)
    have n3_ := Aside0.mk (Kd.R_below (by (with_reducible repeat (first | apply Kd.R_alloc | apply Kd.R_drewN | apply Kd.R_drew)); exact HO342.out) hb)
    have n4_ := Aside0.mk (Kd.R_below (by (with_reducible repeat (first | apply Kd.R_alloc | apply Kd.R_drewN | apply Kd.R_drew)); exact HO345.out) hb)
    have n5_ := Aside0.mk (blk_below (g := gb332) (o := .cells #[.string t322, .bool t323, .slice Ao14 t324.length co14] 30 (0, 0)) (by exact BK332.out) hb)
    have n6_ := Aside0.mk (blk_below (g := gb333) (o := .cells #[.string t327, .bool t328, .slice Ao16 t329.length co16] 30 (0, 0)) (by exact BK333.out) hb)
    have n7_ := Aside0.mk (blk_below (g := gb339) (o := .cells #[.string t334, .bool t335, .slice Ao22 t336.length co22] 30 (0, 0)) (by exact BK339.out) hb)
    have n8_ := Aside0.mk (below_step (by repeat (first | (with_reducible first | exact HB.out | apply below_alloc | apply pw_below_drewN | apply below_drew1 | refine below_set ?_ GE332.out | refine below_set ?_ GE333.out | refine below_set ?_ GE339.out) | exact HB.out)) hb)
    clear HO326 HO331 HO338 HO342 HO345 BK332 BK333 BK339; clear HB
    have HO326 := n0_
    have HO331 := n1_
    have HO338 := n2_
    have HO342 := n3_
    have HO345 := n4_
    have BK332 := n5_
    have BK333 := n6_
    have BK339 := n7_
    have HB := n8_
    clear n0_ n1_ n2_ n3_ n4_ n5_ n6_ n7_ n8_
    (try clear hb)
  
    (try clear hk)
    (try clear hi)
    obtain ⟨Ao49, co49, eo49⟩ := Kd.R_slice HO342.out
    (first | subst eo49 | (injection eo49 with f1_ f2_ f3_; have f4_ := f1_.symm; have f5_ := f3_.symm; clear f1_ f2_ f3_; subst f4_; subst f5_))
    obtain ⟨Ao50, co50, eo50⟩ := Kd.R_slice HO345.out
    (first | subst eo50 | (injection eo50 with f1_ f2_ f3_; have f4_ := f1_.symm; have f5_ := f3_.symm; clear f1_ f2_ f3_; subst f4_; subst f5_))
    refine hK.out _ _ ⟨(blk_cell BK332.out 0).trans rfl, (blk_cell BK332.out 1).trans rfl, (blk_cell BK332.out 2).trans rfl, (blk_cell BK333.out 0).trans rfl, (blk_cell BK333.out 1).trans rfl, (blk_cell BK333.out 2).trans rfl, (blk_cell BK339.out 0).trans rfl, (blk_cell BK339.out 1).trans rfl, (blk_cell BK339.out 2).trans rfl⟩ (fun hHeld => ?_)
    clear hK K
    refine norm_ (a' := ?_) ?_ ?_
    rotate_left
    · show Act.put _ (some 43) _ = _
      simp only [Act.put, List.setIfInBounds_toArray, List.set_cons_zero, List.set_cons_succ, i64_w, i32_w]
      rfl
    refine pure_ (i := 18) (N := some 44) (v := ?_) (a' := ?_) #[true, true, true, true, true, true, true, true, true, true, true, true, true, true, true, true, true, true, true, false, false, false, false, false, false, false, false] rfl rfl (any_of HT_.out (by kernel_rfl)) (fun _ _ _ h => h) (Or.inl ⟨by rfl, ?_⟩) ?_ ?_
    rotate_left
    · intro w'
      go_simp
      with_reducible rfl
    rotate_left
    · simp only [Act.put, List.setIfInBounds_toArray, List.set_cons_zero, List.set_cons_succ, i64_w, i32_w]
      rfl
    refine pure_ (i := 19) (N := some 45) (v := ?_) (a' := ?_) #[true, true, true, true, true, true, true, true, true, true, true, true, true, true, true, true, true, true, true, true, false, false, false, false, false, false, false] rfl rfl (any_of HT_.out (by kernel_rfl)) (fun _ _ _ h => h) (Or.inl ⟨by rfl, ?_⟩) ?_ ?_
    rotate_left
    · intro w'
      go_simp
      with_reducible rfl
    rotate_left
    · simp only [Act.put, List.setIfInBounds_toArray, List.set_cons_zero, List.set_cons_succ, i64_w, i32_w]
      rfl
    refine pure_ (i := 20) (N := some 46) (v := ?_) (a' := ?_) #[true, true, true, true, true, true, true, true, true, true, true, true, true, true, true, true, true, true, true, true, true, false, false, false, false, false, false] rfl rfl (any_of HT_.out (by kernel_rfl)) (fun _ _ _ h => h) (Or.inl ⟨by rfl, ?_⟩) ?_ ?_
    rotate_left
    · intro w'
      go_simp
      with_reducible rfl
    rotate_left
    · simp only [Act.put, List.setIfInBounds_toArray, List.set_cons_zero, List.set_cons_succ, i64_w, i32_w]
      rfl
    refine pure_ (i := 21) (N := some 47) (v := ?_) (a' := ?_) #[true, true, true, true, true, true, true, true, true, true, true, true, true, true, true, true, true, true, true, true, true, true, false, false, false, false, false] rfl rfl (any_of HT_.out (by kernel_rfl)) (fun _ _ _ h => h) (Or.inl ⟨by rfl, ?_⟩) ?_ ?_
    rotate_left
    · intro w'
      go_simp
      with_reducible rfl
    rotate_left
    · simp only [Act.put, List.setIfInBounds_toArray, List.set_cons_zero, List.set_cons_succ, i64_w, i32_w]
      rfl
    refine pure_ (i := 22) (N := some 48) (v := ?_) (a' := ?_) #[true, true, true, true, true, true, true, true, true, true, true, true, true, true, true, true, true, true, true, true, true, true, true, false, false, false, false] rfl rfl (any_of HT_.out (by kernel_rfl)) (fun _ _ _ h => h) (Or.inl ⟨by rfl, ?_⟩) ?_ ?_
    rotate_left
    · intro w'
      go_simp
      with_reducible rfl
    rotate_left
    · simp only [Act.put, List.setIfInBounds_toArray, List.set_cons_zero, List.set_cons_succ, i64_w, i32_w]
      rfl
    refine pure_ (i := 23) (N := some 49) (v := ?_) (a' := ?_) #[true, true, true, true, true, true, true, true, true, true, true, true, true, true, true, true, true, true, true, true, true, true, true, true, false, false, false] rfl rfl (any_of HT_.out (by kernel_rfl)) (fun _ _ _ h => h) (Or.inl ⟨by rfl, ?_⟩) ?_ ?_
    rotate_left
    · intro w'
      go_simp
      with_reducible rfl
    rotate_left
    · simp only [Act.put, List.setIfInBounds_toArray, List.set_cons_zero, List.set_cons_succ, i64_w, i32_w]
      rfl
    refine pure_ (i := 24) (N := some 50) (v := ?_) (a' := ?_) #[true, true, true, true, true, true, true, true, true, true, true, true, true, true, true, true, true, true, true, true, true, true, true, true, true, false, false] rfl rfl (any_of HT_.out (by kernel_rfl)) (fun _ _ _ h => h) (Or.inl ⟨by rfl, ?_⟩) ?_ ?_
    rotate_left
    · intro w'
      go_simp
      with_reducible rfl
    rotate_left
    · simp only [Act.put, List.setIfInBounds_toArray, List.set_cons_zero, List.set_cons_succ, i64_w, i32_w]
      rfl
    refine pure_ (i := 25) (N := some 51) (v := ?_) (a' := ?_) #[true, true, true, true, true, true, true, true, true, true, true, true, true, true, true, true, true, true, true, true, true, true, true, true, true, true, false] rfl rfl (any_of HT_.out (by kernel_rfl)) (fun _ _ _ h => h) (Or.inl ⟨by rfl, ?_⟩) ?_ ?_
    rotate_left
    · intro w'
      go_simp
      with_reducible rfl
    rotate_left
    · simp only [Act.put, List.setIfInBounds_toArray, List.set_cons_zero, List.set_cons_succ, i64_w, i32_w]
      rfl
    refine pure_ (i := 26) (N := some 52) (v := ?_) (a' := ?_) #[true, true, true, true, true, true, true, true, true, true, true, true, true, true, true, true, true, true, true, true, true, true, true, true, true, true, true] rfl rfl (any_of HT_.out (by kernel_rfl)) (fun _ _ _ h => h) (Or.inl ⟨by rfl, ?_⟩) ?_ ?_
    rotate_left
    · intro w'
      go_simp
      with_reducible rfl
    rotate_left
    · simp only [Act.put, List.setIfInBounds_toArray, List.set_cons_zero, List.set_cons_succ, i64_w, i32_w]
      rfl
    refine done_ (done_of HT_.out (by kernel_rfl)) ?_
    try go_wp2
    go_meet
    case rel => exact ⟨_, (((t340.length : Int) != (t343.length : Int))), (by first | rfl | (simp; done) | (simp [*]; done)), H', ⟨by have := HJ1.out; first | omega | exact Nat.le_refl _⟩, ⟨by (with_reducible repeat (first | apply Kd.R_alloc | apply Kd.R_drewN | apply Kd.R_drew)); exact Kd.R_mono HO342.out (fun _ hk => hk.2)⟩, ⟨by (with_reducible repeat (first | apply Kd.R_alloc | apply Kd.R_drewN | apply Kd.R_drew)); exact Kd.R_mono HO345.out (fun _ hk => hk.2)⟩, ⟨by (with_reducible repeat (first | apply Kd.R_alloc | apply Kd.R_drewN | apply Kd.R_drew)); exact HO326.out⟩, ⟨by (with_reducible repeat (first | apply Kd.R_alloc | apply Kd.R_drewN | apply Kd.R_drew)); exact HO331.out⟩, ⟨by (with_reducible repeat (first | apply Kd.R_alloc | apply Kd.R_drewN | apply Kd.R_drew)); exact Kd.R_mono HO338.out (fun _ hk => ⟨hk.1.2, hk.2⟩)⟩, ⟨by exact BK332.out⟩, ⟨by exact BK333.out⟩, ⟨by exact BK339.out⟩, ⟨by repeat (first | (with_reducible first | exact HB.out | apply below_alloc | apply pw_below_drewN | apply below_drew1 | refine below_set ?_ GE332.out | refine below_set ?_ GE333.out | refine below_set ?_ GE339.out) | exact HB.out)⟩⟩
  replace c33 := Bool.eq_false_iff.mpr c33
  subst c33
  have H1 : (laws_FnFun.j1 kj1 t340 t343 true t334 t335 t336) = some r := by rw [if_neg (show ¬ (false = true) by decide)] at H; exact H
  clear H
  have H := H1
  clear H1
  have H' := Aside0.mk H
  clear H
  try go_wp2
  have n0_ := Aside0.mk (Kd.R_drew HO326.out)
  have n1_ := Aside0.mk (Kd.R_drew HO331.out)
  have n2_ := Aside0.mk (Kd.R_drew HO338.out)
  have n3_ := Aside0.mk (Kd.R_drew HO342.out)
  have n4_ := Aside0.mk (Kd.R_drew HO345.out)
  have n5_ := Aside0.mk (blk_drew BK332.out)
  have n6_ := Aside0.mk (blk_drew BK333.out)
  have n7_ := Aside0.mk (blk_drew BK339.out)
  have n8_ := Aside0.mk (below_drew1 HB.out)
  clear HO326 HO331 HO338 HO342 HO345 BK332 BK333 BK339 HB
  have HO326 := n0_
  have HO331 := n1_
  have HO338 := n2_
  have HO342 := n3_
  have HO345 := n4_
  have BK332 := n5_
  have BK333 := n6_
  have BK339 := n7_
  have HB := n8_
  clear n0_ n1_ n2_ n3_ n4_ n5_ n6_ n7_ n8_
  refine start_ (n := 27) (S := fun w' => w'.cell? ⟨gb332, 0, none⟩ = some (.string t322) ∧ w'.cell? ⟨gb332, 1, none⟩ = some (.bool t323) ∧ w'.cell? ⟨gb332, 2, none⟩ = some (.slice Ao14 t324.length co14) ∧ w'.cell? ⟨gb333, 0, none⟩ = some (.string t327) ∧ w'.cell? ⟨gb333, 1, none⟩ = some (.bool t328) ∧ w'.cell? ⟨gb333, 2, none⟩ = some (.slice Ao16 t329.length co16)) (ds := []) #[false, false, false, false, false, false, false, false, false, false, false, false, false, false, false, false, false, false, false, false, false, false, false, false, false, false, false] (by kernel_rfl) rfl rfl ⟨(blk_cell BK332.out 0).trans rfl, (blk_cell BK332.out 1).trans rfl, (blk_cell BK332.out 2).trans rfl, (blk_cell BK333.out 0).trans rfl, (blk_cell BK333.out 1).trans rfl, (blk_cell BK333.out 2).trans rfl⟩ (fun hHeld => ?_); refine with_tabW laws_FnFun.tab7 laws_FnFun.bits7 (fun HT_ HW_ => ?_)
  generalize w25.drew = w51 at HO326 HO331 HO338 HO342 HO345 BK332 BK333 BK339 HB hHeld ⊢
  refine take_ (i := 0) (N := some 26) (v := ?_) (a' := ?_) #[true, false, false, false, false, false, false, false, false, false, false, false, false, false, false, false, false, false, false, false, false, false, false, false, false, false, false] rfl rfl (take_ofW HT_.out HW_.out (by kernel_rfl)) (fun _ _ _ h => h) (Or.inl ⟨by rfl, ?_⟩) hHeld ?_ ?_
  rotate_left
  · rintro w' ⟨s0, s1, s2, s3, s4, s5⟩
    go_simp
    with_reducible rfl
  rotate_left
  · simp only [Act.put, List.setIfInBounds_toArray, List.set_cons_zero, List.set_cons_succ, i64_w, i32_w]
    rfl
  refine take_ (i := 1) (N := some 27) (v := ?_) (a' := ?_) #[true, true, false, false, false, false, false, false, false, false, false, false, false, false, false, false, false, false, false, false, false, false, false, false, false, false, false] rfl rfl (take_ofW HT_.out HW_.out (by kernel_rfl)) (fun _ _ _ h => h) (Or.inl ⟨by rfl, ?_⟩) hHeld ?_ ?_
  rotate_left
  · rintro w' ⟨s0, s1, s2, s3, s4, s5⟩
    go_simp
    with_reducible rfl
  rotate_left
  · simp only [Act.put, List.setIfInBounds_toArray, List.set_cons_zero, List.set_cons_succ, i64_w, i32_w]
    rfl
  refine take_ (i := 3) (N := some 29) (v := ?_) (a' := ?_) #[true, true, false, true, false, false, false, false, false, false, false, false, false, false, false, false, false, false, false, false, false, false, false, false, false, false, false] rfl rfl (take_ofW HT_.out HW_.out (by kernel_rfl)) (fun _ _ _ h => h) (Or.inl ⟨by rfl, ?_⟩) hHeld ?_ ?_
  rotate_left
  · rintro w' ⟨s0, s1, s2, s3, s4, s5⟩
    go_simp
    with_reducible rfl
  rotate_left
  · simp only [Act.put, List.setIfInBounds_toArray, List.set_cons_zero, List.set_cons_succ, i64_w, i32_w]
    rfl
  refine take_ (i := 4) (N := some 30) (v := ?_) (a' := ?_) #[true, true, false, true, true, false, false, false, false, false, false, false, false, false, false, false, false, false, false, false, false, false, false, false, false, false, false] rfl rfl (take_ofW HT_.out HW_.out (by kernel_rfl)) (fun _ _ _ h => h) (Or.inl ⟨by rfl, ?_⟩) hHeld ?_ ?_
  rotate_left
  · rintro w' ⟨s0, s1, s2, s3, s4, s5⟩
    go_simp
    with_reducible rfl
  rotate_left
  · simp only [Act.put, List.setIfInBounds_toArray, List.set_cons_zero, List.set_cons_succ, i64_w, i32_w]
    rfl
  refine one_ (i := 2) (N := some 28) #[true, true, true, true, true, false, false, false, false, false, false, false, false, false, false, false, false, false, false, false, false, false, false, false, false, false, false] rfl rfl (one_of HT_.out (by kernel_rfl)) (by decide) (fun K hK => ?_)
  refine goes_ Try.func26 (by kernel_rfl) rfl #[.agg #[.string t322, .bool t323, .slice Ao14 t324.length co14], .agg #[.string t327, .bool t328, .slice Ao16 t329.length co16]] (by rfl) rfl rfl (by (try simp only [List.map_toArray, List.map_cons, List.map_nil]); first | done | rfl | (simp only [List.length_drop, List.length_take]; rfl)) ?_
  with_reducible refine (impl_FunSame.calls kj1 t322 t323 _ _ t324 t327 t328 _ _ t329 t346 _ ?side1 ?side2 ?side3 ?side4 A26.out).mono ?_
  (case side1 => repeat (first | exact (Kd.R_reads' HO326.out).2.2 | (with_reducible refine Kd.C_alloc ?_ _) | (with_reducible refine Kd.C_drewN ?_ _) | (with_reducible refine Kd.C_drew ?_)))
  (case side2 => exact (Kd.R_reads' HO326.out).2.1)
  (case side3 => repeat (first | exact (Kd.R_reads' HO331.out).2.2 | (with_reducible refine Kd.C_alloc ?_ _) | (with_reducible refine Kd.C_drewN ?_ _) | (with_reducible refine Kd.C_drew ?_)))
  (case side4 => exact (Kd.R_reads' HO331.out).2.1)
  rintro e w52 ⟨rfl, hb⟩
  refine ⟨_, rfl, ?_⟩
  have n0_ := Aside0.mk (Kd.R_below (by (with_reducible repeat (first | apply Kd.R_alloc | apply Kd.R_drewN | apply Kd.R_drew)); exact HO326.out) hb)
  have n1_ := Aside0.mk (Kd.R_below (by (with_reducible repeat (first | apply Kd.R_alloc | apply Kd.R_drewN | apply Kd.R_drew)); exact HO331.out) hb)
  have n2_ := Aside0.mk (Kd.R_below (by (with_reducible repeat (first | apply Kd.R_alloc | apply Kd.R_drewN | apply Kd.R_drew)); exact HO338.out) hb)
  have n3_ := Aside0.mk (Kd.R_below (by (with_reducible repeat (first | apply Kd.R_alloc | apply Kd.R_drewN | apply Kd.R_drew)); exact HO342.out) hb)
  have n4_ := Aside0.mk (Kd.R_below (by (with_reducible repeat (first | apply Kd.R_alloc | apply Kd.R_drewN | apply Kd.R_drew)); exact HO345.out) hb)
  have n5_ := Aside0.mk (blk_below (g := gb332) (o := .cells #[.string t322, .bool t323, .slice Ao14 t324.length co14] 30 (0, 0)) (by exact BK332.out) hb)
  have n6_ := Aside0.mk (blk_below (g := gb333) (o := .cells #[.string t327, .bool t328, .slice Ao16 t329.length co16] 30 (0, 0)) (by exact BK333.out) hb)
  have n7_ := Aside0.mk (blk_below (g := gb339) (o := .cells #[.string t334, .bool t335, .slice Ao22 t336.length co22] 30 (0, 0)) (by exact BK339.out) hb)
  have n8_ := Aside0.mk (below_step (by repeat (first | (with_reducible first | exact HB.out | apply below_alloc | apply pw_below_drewN | apply below_drew1 | refine below_set ?_ GE332.out | refine below_set ?_ GE333.out | refine below_set ?_ GE339.out) | exact HB.out)) hb)
  clear HO326 HO331 HO338 HO342 HO345 BK332 BK333 BK339 HB
  have HO326 := n0_
  have HO331 := n1_
  have HO338 := n2_
  have HO342 := n3_
  have HO345 := n4_
  have BK332 := n5_
  have BK333 := n6_
  have BK339 := n7_
  have HB := n8_
  clear n0_ n1_ n2_ n3_ n4_ n5_ n6_ n7_ n8_
  (try clear hb)

  (try clear hk)
  (try clear hi)
  refine hK.out _ _ ⟨(blk_cell BK332.out 0).trans rfl, (blk_cell BK332.out 1).trans rfl, (blk_cell BK332.out 2).trans rfl, (blk_cell BK333.out 0).trans rfl, (blk_cell BK333.out 1).trans rfl, (blk_cell BK333.out 2).trans rfl⟩ (fun hHeld => ?_)
  clear hK K
  refine norm_ (a' := ?_) ?_ ?_
  rotate_left
  · show Act.put _ (some 28) _ = _
    simp only [Act.put, List.setIfInBounds_toArray, List.set_cons_zero, List.set_cons_succ, i64_w, i32_w]
    rfl
  refine one_ (i := 5) (N := some 31) #[true, true, true, true, true, true, false, false, false, false, false, false, false, false, false, false, false, false, false, false, false, false, false, false, false, false, false] rfl rfl (one_of HT_.out (by kernel_rfl)) (by decide) (fun K hK => ?_)
  refine goes_ Try.func27 (by kernel_rfl) rfl #[.agg #[.string t322, .bool t323, .slice Ao14 t324.length co14], .agg #[.string t327, .bool t328, .slice Ao16 t329.length co16]] (by rfl) rfl rfl (by (try simp only [List.map_toArray, List.map_cons, List.map_nil]); first | done | rfl | (simp only [List.length_drop, List.length_take]; rfl)) ?_
  with_reducible refine (spec_FunSame.calls kj1 t322 t323 _ _ t324 t327 t328 _ _ t329 t347 _ ?side1 ?side2 ?side3 ?side4 A27.out).mono ?_
  (case side1 => repeat (first | exact (Kd.R_reads' HO326.out).2.2 | (with_reducible refine Kd.C_alloc ?_ _) | (with_reducible refine Kd.C_drewN ?_ _) | (with_reducible refine Kd.C_drew ?_)))
  (case side2 => exact (Kd.R_reads' HO326.out).2.1)
  (case side3 => repeat (first | exact (Kd.R_reads' HO331.out).2.2 | (with_reducible refine Kd.C_alloc ?_ _) | (with_reducible refine Kd.C_drewN ?_ _) | (with_reducible refine Kd.C_drew ?_)))
  (case side4 => exact (Kd.R_reads' HO331.out).2.1)
  rintro e w53 ⟨rfl, hb⟩
  refine ⟨_, rfl, ?_⟩
  have n0_ := Aside0.mk (Kd.R_below (by (with_reducible repeat (first | apply Kd.R_alloc | apply Kd.R_drewN | apply Kd.R_drew)); exact HO326.out) hb)
  have n1_ := Aside0.mk (Kd.R_below (by (with_reducible repeat (first | apply Kd.R_alloc | apply Kd.R_drewN | apply Kd.R_drew)); exact HO331.out) hb)
  have n2_ := Aside0.mk (Kd.R_below (by (with_reducible repeat (first | apply Kd.R_alloc | apply Kd.R_drewN | apply Kd.R_drew)); exact HO338.out) hb)
  have n3_ := Aside0.mk (Kd.R_below (by (with_reducible repeat (first | apply Kd.R_alloc | apply Kd.R_drewN | apply Kd.R_drew)); exact HO342.out) hb)
  have n4_ := Aside0.mk (Kd.R_below (by (with_reducible repeat (first | apply Kd.R_alloc | apply Kd.R_drewN | apply Kd.R_drew)); exact HO345.out) hb)
  have n5_ := Aside0.mk (blk_below (g := gb332) (o := .cells #[.string t322, .bool t323, .slice Ao14 t324.length co14] 30 (0, 0)) (by exact BK332.out) hb)
  have n6_ := Aside0.mk (blk_below (g := gb333) (o := .cells #[.string t327, .bool t328, .slice Ao16 t329.length co16] 30 (0, 0)) (by exact BK333.out) hb)
  have n7_ := Aside0.mk (blk_below (g := gb339) (o := .cells #[.string t334, .bool t335, .slice Ao22 t336.length co22] 30 (0, 0)) (by exact BK339.out) hb)
  have n8_ := Aside0.mk (below_step (by repeat (first | (with_reducible first | exact HB.out | apply below_alloc | apply pw_below_drewN | apply below_drew1 | refine below_set ?_ GE332.out | refine below_set ?_ GE333.out | refine below_set ?_ GE339.out) | exact HB.out)) hb)
  clear HO326 HO331 HO338 HO342 HO345 BK332 BK333 BK339 HB
  have HO326 := n0_
  have HO331 := n1_
  have HO338 := n2_
  have HO342 := n3_
  have HO345 := n4_
  have BK332 := n5_
  have BK333 := n6_
  have BK339 := n7_
  have HB := n8_
  clear n0_ n1_ n2_ n3_ n4_ n5_ n6_ n7_ n8_
  (try clear hb)

  (try clear hk)
  (try clear hi)
  refine hK.out _ _ ⟨(blk_cell BK332.out 0).trans rfl, (blk_cell BK332.out 1).trans rfl, (blk_cell BK332.out 2).trans rfl, (blk_cell BK333.out 0).trans rfl, (blk_cell BK333.out 1).trans rfl, (blk_cell BK333.out 2).trans rfl⟩ (fun hHeld => ?_)
  clear hK K
  refine norm_ (a' := ?_) ?_ ?_
  rotate_left
  · show Act.put _ (some 31) _ = _
    simp only [Act.put, List.setIfInBounds_toArray, List.set_cons_zero, List.set_cons_succ, i64_w, i32_w]
    rfl
  refine pure_ (i := 6) (N := some 32) (v := ?_) (a' := ?_) #[true, true, true, true, true, true, true, false, false, false, false, false, false, false, false, false, false, false, false, false, false, false, false, false, false, false, false] rfl rfl (any_of HT_.out (by kernel_rfl)) (fun _ _ _ h => h) (Or.inl ⟨by rfl, ?_⟩) ?_ ?_
  rotate_left
  · intro w'
    go_simp
    with_reducible rfl
  rotate_left
  · simp only [Act.put, List.setIfInBounds_toArray, List.set_cons_zero, List.set_cons_succ, i64_w, i32_w]
    rfl
  refine pure_ (i := 7) (N := some 33) (v := ?_) (a' := ?_) #[true, true, true, true, true, true, true, true, false, false, false, false, false, false, false, false, false, false, false, false, false, false, false, false, false, false, false] rfl rfl (any_of HT_.out (by kernel_rfl)) (fun _ _ _ h => h) (Or.inl ⟨by rfl, ?_⟩) ?_ ?_
  rotate_left
  · intro w'
    go_simp
    with_reducible rfl
  rotate_left
  · simp only [Act.put, List.setIfInBounds_toArray, List.set_cons_zero, List.set_cons_succ, i64_w, i32_w]
    rfl
  refine take_ (i := 8) (N := some 34) (v := ?_) (a' := ?_) #[true, true, true, true, true, true, true, true, true, false, false, false, false, false, false, false, false, false, false, false, false, false, false, false, false, false, false] rfl rfl (take_ofW HT_.out HW_.out (by kernel_rfl)) (fun _ _ _ h => h) (Or.inl ⟨by rfl, ?_⟩) hHeld ?_ ?_
  rotate_left
  · rintro w' ⟨s0, s1, s2, s3, s4, s5⟩
    go_simp
    with_reducible rfl
  rotate_left
  · simp only [Act.put, List.setIfInBounds_toArray, List.set_cons_zero, List.set_cons_succ, i64_w, i32_w]
    rfl
  refine take_ (i := 9) (N := some 35) (v := ?_) (a' := ?_) #[true, true, true, true, true, true, true, true, true, true, false, false, false, false, false, false, false, false, false, false, false, false, false, false, false, false, false] rfl rfl (take_ofW HT_.out HW_.out (by kernel_rfl)) (fun _ _ _ h => h) (Or.inl ⟨by rfl, ?_⟩) hHeld ?_ ?_
  rotate_left
  · rintro w' ⟨s0, s1, s2, s3, s4, s5⟩
    go_simp
    with_reducible rfl
  rotate_left
  · simp only [Act.put, List.setIfInBounds_toArray, List.set_cons_zero, List.set_cons_succ, i64_w, i32_w]
    rfl
  refine one_ (i := 10) (N := some 36) #[true, true, true, true, true, true, true, true, true, true, true, false, false, false, false, false, false, false, false, false, false, false, false, false, false, false, false] rfl rfl (one_of HT_.out (by kernel_rfl)) (by decide) (fun K hK => ?_)
  refine goes_ Try.func26 (by kernel_rfl) rfl #[.agg #[.string t322, .bool t323, .slice Ao14 t324.length co14], .agg #[.string t322, .bool t323, .slice Ao14 t324.length co14]] (by rfl) rfl rfl (by (try simp only [List.map_toArray, List.map_cons, List.map_nil]); first | done | rfl | (simp only [List.length_drop, List.length_take]; rfl)) ?_
  with_reducible refine (impl_FunSame.calls kj1 t322 t323 _ _ t324 t322 t323 _ _ t324 false _ ?side1 ?side2 ?side3 ?side4 A32.out).mono ?_
  (case side1 => repeat (first | exact (Kd.R_reads' HO326.out).2.2 | (with_reducible refine Kd.C_alloc ?_ _) | (with_reducible refine Kd.C_drewN ?_ _) | (with_reducible refine Kd.C_drew ?_)))
  (case side2 => exact (Kd.R_reads' HO326.out).2.1)
  (case side3 => repeat (first | exact (Kd.R_reads' HO326.out).2.2 | (with_reducible refine Kd.C_alloc ?_ _) | (with_reducible refine Kd.C_drewN ?_ _) | (with_reducible refine Kd.C_drew ?_)))
  (case side4 => exact (Kd.R_reads' HO326.out).2.1)
  rintro e w54 ⟨rfl, hb⟩
  refine ⟨_, rfl, ?_⟩
  have n0_ := Aside0.mk (Kd.R_below (by (with_reducible repeat (first | apply Kd.R_alloc | apply Kd.R_drewN | apply Kd.R_drew)); exact HO326.out) hb)
  have n1_ := Aside0.mk (Kd.R_below (by (with_reducible repeat (first | apply Kd.R_alloc | apply Kd.R_drewN | apply Kd.R_drew)); exact HO331.out) hb)
  have n2_ := Aside0.mk (Kd.R_below (by (with_reducible repeat (first | apply Kd.R_alloc | apply Kd.R_drewN | apply Kd.R_drew)); exact HO338.out) hb)
  have n3_ := Aside0.mk (Kd.R_below (by (with_reducible repeat (first | apply Kd.R_alloc | apply Kd.R_drewN | apply Kd.R_drew)); exact HO342.out) hb)
  have n4_ := Aside0.mk (Kd.R_below (by (with_reducible repeat (first | apply Kd.R_alloc | apply Kd.R_drewN | apply Kd.R_drew)); exact HO345.out) hb)
  have n5_ := Aside0.mk (blk_below (g := gb332) (o := .cells #[.string t322, .bool t323, .slice Ao14 t324.length co14] 30 (0, 0)) (by exact BK332.out) hb)
  have n6_ := Aside0.mk (blk_below (g := gb333) (o := .cells #[.string t327, .bool t328, .slice Ao16 t329.length co16] 30 (0, 0)) (by exact BK333.out) hb)
  have n7_ := Aside0.mk (blk_below (g := gb339) (o := .cells #[.string t334, .bool t335, .slice Ao22 t336.length co22] 30 (0, 0)) (by exact BK339.out) hb)
  have n8_ := Aside0.mk (below_step (by repeat (first | (with_reducible first | exact HB.out | apply below_alloc | apply pw_below_drewN | apply below_drew1 | refine below_set ?_ GE332.out | refine below_set ?_ GE333.out | refine below_set ?_ GE339.out) | exact HB.out)) hb)
  clear HO326 HO331 HO338 HO342 HO345 BK332 BK333 BK339 HB
  have HO326 := n0_
  have HO331 := n1_
  have HO338 := n2_
  have HO342 := n3_
  have HO345 := n4_
  have BK332 := n5_
  have BK333 := n6_
  have BK339 := n7_
  have HB := n8_
  clear n0_ n1_ n2_ n3_ n4_ n5_ n6_ n7_ n8_
  (try clear hb)

  (try clear hk)
  (try clear hi)
  refine hK.out _ _ ⟨(blk_cell BK332.out 0).trans rfl, (blk_cell BK332.out 1).trans rfl, (blk_cell BK332.out 2).trans rfl, (blk_cell BK333.out 0).trans rfl, (blk_cell BK333.out 1).trans rfl, (blk_cell BK333.out 2).trans rfl⟩ (fun hHeld => ?_)
  clear hK K
  refine norm_ (a' := ?_) ?_ ?_
  rotate_left
  · show Act.put _ (some 36) _ = _
    simp only [Act.put, List.setIfInBounds_toArray, List.set_cons_zero, List.set_cons_succ, i64_w, i32_w]
    rfl
  refine pure_ (i := 11) (N := some 37) (v := ?_) (a' := ?_) #[true, true, true, true, true, true, true, true, true, true, true, true, false, false, false, false, false, false, false, false, false, false, false, false, false, false, false] rfl rfl (any_of HT_.out (by kernel_rfl)) (fun _ _ _ h => h) (Or.inl ⟨by rfl, ?_⟩) ?_ ?_
  rotate_left
  · intro w'
    go_simp
    with_reducible rfl
  rotate_left
  · simp only [Act.put, List.setIfInBounds_toArray, List.set_cons_zero, List.set_cons_succ, i64_w, i32_w]
    rfl
  refine pure_ (i := 12) (N := some 38) (v := ?_) (a' := ?_) #[true, true, true, true, true, true, true, true, true, true, true, true, true, false, false, false, false, false, false, false, false, false, false, false, false, false, false] rfl rfl (any_of HT_.out (by kernel_rfl)) (fun _ _ _ h => h) (Or.inl ⟨by rfl, ?_⟩) ?_ ?_
  rotate_left
  · intro w'
    go_simp
    with_reducible rfl
  rotate_left
  · simp only [Act.put, List.setIfInBounds_toArray, List.set_cons_zero, List.set_cons_succ, i64_w, i32_w]
    rfl
  refine pure_ (i := 13) (N := some 39) (v := ?_) (a' := ?_) #[true, true, true, true, true, true, true, true, true, true, true, true, true, true, false, false, false, false, false, false, false, false, false, false, false, false, false] rfl rfl (any_of HT_.out (by kernel_rfl)) (fun _ _ _ h => h) (Or.inl ⟨by rfl, ?_⟩) ?_ ?_
  rotate_left
  · intro w'
    go_simp
    with_reducible rfl
  rotate_left
  · simp only [Act.put, List.setIfInBounds_toArray, List.set_cons_zero, List.set_cons_succ, i64_w, i32_w]
    rfl
  refine pure_ (i := 14) (N := some 40) (v := undef) (a' := ?_) #[true, true, true, true, true, true, true, true, true, true, true, true, true, true, true, false, false, false, false, false, false, false, false, false, false, false, false] rfl rfl (any_of HT_.out (by kernel_rfl)) (fun _ _ _ h => h) (Or.inr ⟨by rfl, rfl⟩) ?_ ?_
  rotate_left
  · simp only [Act.put, List.setIfInBounds_toArray, List.set_cons_zero, List.set_cons_succ, i64_w, i32_w]
    rfl
  refine pure_ (i := 15) (N := some 41) (v := undef) (a' := ?_) #[true, true, true, true, true, true, true, true, true, true, true, true, true, true, true, true, false, false, false, false, false, false, false, false, false, false, false] rfl rfl (any_of HT_.out (by kernel_rfl)) (fun _ _ _ h => h) (Or.inr ⟨by rfl, rfl⟩) ?_ ?_
  rotate_left
  · simp only [Act.put, List.setIfInBounds_toArray, List.set_cons_zero, List.set_cons_succ, i64_w, i32_w]
    rfl
  refine pure_ (i := 16) (N := some 42) (v := undef) (a' := ?_) #[true, true, true, true, true, true, true, true, true, true, true, true, true, true, true, true, true, false, false, false, false, false, false, false, false, false, false] rfl rfl (any_of HT_.out (by kernel_rfl)) (fun _ _ _ h => h) (Or.inr ⟨by rfl, rfl⟩) ?_ ?_
  rotate_left
  · simp only [Act.put, List.setIfInBounds_toArray, List.set_cons_zero, List.set_cons_succ, i64_w, i32_w]
    rfl
  refine pure_ (i := 17) (N := some 43) (v := undef) (a' := ?_) #[true, true, true, true, true, true, true, true, true, true, true, true, true, true, true, true, true, true, false, false, false, false, false, false, false, false, false] rfl rfl (any_of HT_.out (by kernel_rfl)) (fun _ _ _ h => h) (Or.inr ⟨by rfl, rfl⟩) ?_ ?_
  rotate_left
  · simp only [Act.put, List.setIfInBounds_toArray, List.set_cons_zero, List.set_cons_succ, i64_w, i32_w]
    rfl
  refine pure_ (i := 18) (N := some 44) (v := undef) (a' := ?_) #[true, true, true, true, true, true, true, true, true, true, true, true, true, true, true, true, true, true, true, false, false, false, false, false, false, false, false] rfl rfl (any_of HT_.out (by kernel_rfl)) (fun _ _ _ h => h) (Or.inr ⟨by rfl, rfl⟩) ?_ ?_
  rotate_left
  · simp only [Act.put, List.setIfInBounds_toArray, List.set_cons_zero, List.set_cons_succ, i64_w, i32_w]
    rfl
  refine pure_ (i := 19) (N := some 45) (v := ?_) (a' := ?_) #[true, true, true, true, true, true, true, true, true, true, true, true, true, true, true, true, true, true, true, true, false, false, false, false, false, false, false] rfl rfl (any_of HT_.out (by kernel_rfl)) (fun _ _ _ h => h) (Or.inl ⟨by rfl, ?_⟩) ?_ ?_
  rotate_left
  · intro w'
    go_simp
    with_reducible rfl
  rotate_left
  · simp only [Act.put, List.setIfInBounds_toArray, List.set_cons_zero, List.set_cons_succ, i64_w, i32_w]
    rfl
  refine pure_ (i := 20) (N := some 46) (v := ?_) (a' := ?_) #[true, true, true, true, true, true, true, true, true, true, true, true, true, true, true, true, true, true, true, true, true, false, false, false, false, false, false] rfl rfl (any_of HT_.out (by kernel_rfl)) (fun _ _ _ h => h) (Or.inl ⟨by rfl, ?_⟩) ?_ ?_
  rotate_left
  · intro w'
    go_simp
    with_reducible rfl
  rotate_left
  · simp only [Act.put, List.setIfInBounds_toArray, List.set_cons_zero, List.set_cons_succ, i64_w, i32_w]
    rfl
  refine pure_ (i := 21) (N := some 47) (v := undef) (a' := ?_) #[true, true, true, true, true, true, true, true, true, true, true, true, true, true, true, true, true, true, true, true, true, true, false, false, false, false, false] rfl rfl (any_of HT_.out (by kernel_rfl)) (fun _ _ _ h => h) (Or.inr ⟨by rfl, rfl⟩) ?_ ?_
  rotate_left
  · simp only [Act.put, List.setIfInBounds_toArray, List.set_cons_zero, List.set_cons_succ, i64_w, i32_w]
    rfl
  refine pure_ (i := 22) (N := some 48) (v := undef) (a' := ?_) #[true, true, true, true, true, true, true, true, true, true, true, true, true, true, true, true, true, true, true, true, true, true, true, false, false, false, false] rfl rfl (any_of HT_.out (by kernel_rfl)) (fun _ _ _ h => h) (Or.inr ⟨by rfl, rfl⟩) ?_ ?_
  rotate_left
  · simp only [Act.put, List.setIfInBounds_toArray, List.set_cons_zero, List.set_cons_succ, i64_w, i32_w]
    rfl
  refine pure_ (i := 23) (N := some 49) (v := undef) (a' := ?_) #[true, true, true, true, true, true, true, true, true, true, true, true, true, true, true, true, true, true, true, true, true, true, true, true, false, false, false] rfl rfl (any_of HT_.out (by kernel_rfl)) (fun _ _ _ h => h) (Or.inr ⟨by rfl, rfl⟩) ?_ ?_
  rotate_left
  · simp only [Act.put, List.setIfInBounds_toArray, List.set_cons_zero, List.set_cons_succ, i64_w, i32_w]
    rfl
  refine pure_ (i := 24) (N := some 50) (v := undef) (a' := ?_) #[true, true, true, true, true, true, true, true, true, true, true, true, true, true, true, true, true, true, true, true, true, true, true, true, true, false, false] rfl rfl (any_of HT_.out (by kernel_rfl)) (fun _ _ _ h => h) (Or.inr ⟨by rfl, rfl⟩) ?_ ?_
  rotate_left
  · simp only [Act.put, List.setIfInBounds_toArray, List.set_cons_zero, List.set_cons_succ, i64_w, i32_w]
    rfl
  refine pure_ (i := 25) (N := some 51) (v := undef) (a' := ?_) #[true, true, true, true, true, true, true, true, true, true, true, true, true, true, true, true, true, true, true, true, true, true, true, true, true, true, false] rfl rfl (any_of HT_.out (by kernel_rfl)) (fun _ _ _ h => h) (Or.inr ⟨by rfl, rfl⟩) ?_ ?_
  rotate_left
  · simp only [Act.put, List.setIfInBounds_toArray, List.set_cons_zero, List.set_cons_succ, i64_w, i32_w]
    rfl
  refine pure_ (i := 26) (N := some 52) (v := ?_) (a' := ?_) #[true, true, true, true, true, true, true, true, true, true, true, true, true, true, true, true, true, true, true, true, true, true, true, true, true, true, true] rfl rfl (any_of HT_.out (by kernel_rfl)) (fun _ _ _ h => h) (Or.inl ⟨by rfl, ?_⟩) ?_ ?_
  rotate_left
  · intro w'
    go_simp
    with_reducible rfl
  rotate_left
  · simp only [Act.put, List.setIfInBounds_toArray, List.set_cons_zero, List.set_cons_succ, i64_w, i32_w]
    rfl
  refine done_ (done_of HT_.out (by kernel_rfl)) ?_
  try go_wp2
  go_meet
  case rel => exact ⟨_, (true), (by first | rfl | (simp; done) | (simp [*]; done)), H', ⟨by have := HJ1.out; first | omega | exact Nat.le_refl _⟩, ⟨by (with_reducible repeat (first | apply Kd.R_alloc | apply Kd.R_drewN | apply Kd.R_drew)); exact Kd.R_mono HO342.out (fun _ hk => hk.2)⟩, ⟨by (with_reducible repeat (first | apply Kd.R_alloc | apply Kd.R_drewN | apply Kd.R_drew)); exact Kd.R_mono HO345.out (fun _ hk => hk.2)⟩, ⟨by (with_reducible repeat (first | apply Kd.R_alloc | apply Kd.R_drewN | apply Kd.R_drew)); exact HO326.out⟩, ⟨by (with_reducible repeat (first | apply Kd.R_alloc | apply Kd.R_drewN | apply Kd.R_drew)); exact HO331.out⟩, ⟨by (with_reducible repeat (first | apply Kd.R_alloc | apply Kd.R_drewN | apply Kd.R_drew)); exact Kd.R_mono HO338.out (fun _ hk => ⟨hk.1.2, hk.2⟩)⟩, ⟨by exact BK332.out⟩, ⟨by exact BK333.out⟩, ⟨by exact BK339.out⟩, ⟨by repeat (first | (with_reducible first | exact HB.out | apply below_alloc | apply pw_below_drewN | apply below_drew1 | refine below_set ?_ GE332.out | refine below_set ?_ GE333.out | refine below_set ?_ GE339.out) | exact HB.out)⟩⟩
 clear HC8; try clear c2; try clear p2; try clear c3; try clear c22; try clear c26; try clear c27; try clear c28; try clear c33
 obtain ⟨kq, x52_7, rfl, HA, HJ7, HO_6, HO_7, HO_333002, HO_334002, HO_340002, BK332, BK333, BK339, HB⟩ := hcut
 obtain _ | kj7 := kq
 · exact absurd HA.out (by simp [laws_FnFun.j1])
 have H := HA.out
 clear HA
 simp only [laws_FnFun.j1] at H
 have HC55 := Aside0.mk H; clear H
 go_upto_if 52 with (fail)
 go_cut [] (fun wc => ∃ (kq : Nat), Aside0 (laws_FnFun.j2 kq t340 t343 t334 t335 t336 = some r) ∧ Aside0 (kq ≤ kj7) ∧ Aside0 (Kd.R Kd.string 9 wc w.heap.size (fun k_ => some k_ ≠ (v344 : Value).ownBlock) v341 t340) ∧ Aside0 (Kd.R Kd.string 9 wc w.heap.size (fun k_ => some k_ ≠ (v341 : Value).ownBlock) v344 t343) ∧ Aside0 (Kd.R k38 38 wc w.heap.size (fun k_ => some k_ ≠ ((.slice Ao16 t329.length co16) : Value).ownBlock ∧ some k_ ≠ ((.slice Ao22 t336.length co22) : Value).ownBlock) (.slice Ao14 t324.length co14) t324) ∧ Aside0 (Kd.R k38 38 wc w.heap.size (fun k_ => some k_ ≠ ((.slice Ao14 t324.length co14) : Value).ownBlock ∧ some k_ ≠ ((.slice Ao22 t336.length co22) : Value).ownBlock) (.slice Ao16 t329.length co16) t329) ∧ Aside0 (Kd.R k38 38 wc w.heap.size (fun k_ => some k_ ≠ ((.slice Ao14 t324.length co14) : Value).ownBlock ∧ some k_ ≠ ((.slice Ao16 t329.length co16) : Value).ownBlock) (.slice Ao22 t336.length co22) t336) ∧ Aside0 (wc.heap[gb332]? = some (.cells #[.string t322, .bool t323, (.slice Ao14 t324.length co14)] 30 (0, 0))) ∧ Aside0 (wc.heap[gb333]? = some (.cells #[.string t327, .bool t328, (.slice Ao16 t329.length co16)] 30 (0, 0))) ∧ Aside0 (wc.heap[gb339]? = some (.cells #[.string t334, .bool t335, (.slice Ao22 t336.length co22)] 30 (0, 0))) ∧ Aside0 (Below w.heap.size w wc))
 case first =>
  have H := HC55.out
  clear HC55
  by_cases c56 : x52_7 = true
  · subst c56
    have H1 : (some false) = some r := by rw [if_pos rfl] at H; exact H
    clear H
    have H := H1
    clear H1
    obtain rfl := Option.some.inj H
    go_wp2
    go_ret
    exact ⟨by first | rfl | (simp [errW_none, errW_some] <;> rfl) | (simp [*, errW_none, errW_some] <;> rfl), by repeat (first | (with_reducible first | exact HB.out | apply below_alloc | apply pw_below_drewN | apply below_drew1 | refine below_set ?_ GE332.out | refine below_set ?_ GE333.out | refine below_set ?_ GE339.out) | exact HB.out)⟩
  replace c56 := Bool.eq_false_iff.mpr c56
  subst c56
  have H1 : (laws_FnFun.j2 kj7 t340 t343 t334 t335 t336) = some r := by rw [if_neg (show ¬ (false = true) by decide)] at H; exact H
  clear H
  have H := H1
  clear H1
  have H' := Aside0.mk H
  clear H
  go_wp2
  go_meet
  case rel => exact ⟨_, H', ⟨by have := HJ1.out; have := HJ7.out; first | omega | exact Nat.le_refl _⟩, ⟨by (with_reducible repeat (first | apply Kd.R_alloc | apply Kd.R_drewN | apply Kd.R_drew)); exact HO_6.out⟩, ⟨by (with_reducible repeat (first | apply Kd.R_alloc | apply Kd.R_drewN | apply Kd.R_drew)); exact HO_7.out⟩, ⟨by (with_reducible repeat (first | apply Kd.R_alloc | apply Kd.R_drewN | apply Kd.R_drew)); exact HO_333002.out⟩, ⟨by (with_reducible repeat (first | apply Kd.R_alloc | apply Kd.R_drewN | apply Kd.R_drew)); exact HO_334002.out⟩, ⟨by (with_reducible repeat (first | apply Kd.R_alloc | apply Kd.R_drewN | apply Kd.R_drew)); exact HO_340002.out⟩, ⟨by exact BK332.out⟩, ⟨by exact BK333.out⟩, ⟨by exact BK339.out⟩, ⟨by repeat (first | (with_reducible first | exact HB.out | apply below_alloc | apply pw_below_drewN | apply below_drew1 | refine below_set ?_ GE332.out | refine below_set ?_ GE333.out | refine below_set ?_ GE339.out) | exact HB.out)⟩⟩
 clear HC55; try clear c2; try clear p2; try clear c3; try clear c5; try clear c22; try clear c26; try clear c27; try clear c28; try clear c33; try clear c56; try clear p2
 obtain ⟨kq, HA, HJ54, HO_6, HO_7, HO_333002, HO_334002, HO_340002, BK332, BK333, BK339, HB⟩ := hcut
 obtain _ | kj54 := kq
 · exact absurd HA.out (by simp [laws_FnFun.j2])
 have H := HA.out
 clear HA
 simp only [laws_FnFun.j2] at H
 have H' := Aside0.mk H
 clear H
 go_wp2
 go_loopg [8] kj54 (fun kq v8 w' => ∃ (x8_4 : Int), v8 = .int .i64 x8_4 ∧ Aside0 (laws_FnFun.l0 kq t340 t343 x8_4 t334 t335 t336 = some r) ∧ Aside0 (kq ≤ kj54) ∧ Aside0 (Kd.R Kd.string 9 w' w.heap.size (fun k_ => some k_ ≠ (v344 : Value).ownBlock) v341 t340) ∧ Aside0 (Kd.R Kd.string 9 w' w.heap.size (fun k_ => some k_ ≠ (v341 : Value).ownBlock) v344 t343) ∧ Aside0 (Kd.R k38 38 w' w.heap.size (fun k_ => some k_ ≠ ((.slice Ao16 t329.length co16) : Value).ownBlock ∧ some k_ ≠ ((.slice Ao22 t336.length co22) : Value).ownBlock) (.slice Ao14 t324.length co14) t324) ∧ Aside0 (Kd.R k38 38 w' w.heap.size (fun k_ => some k_ ≠ ((.slice Ao14 t324.length co14) : Value).ownBlock ∧ some k_ ≠ ((.slice Ao22 t336.length co22) : Value).ownBlock) (.slice Ao16 t329.length co16) t329) ∧ Aside0 (Kd.R k38 38 w' w.heap.size (fun k_ => some k_ ≠ ((.slice Ao14 t324.length co14) : Value).ownBlock ∧ some k_ ≠ ((.slice Ao16 t329.length co16) : Value).ownBlock) (.slice Ao22 t336.length co22) t336) ∧ Aside0 (w'.heap[gb332]? = some (.cells #[.string t322, .bool t323, (.slice Ao14 t324.length co14)] 30 (0, 0))) ∧ Aside0 (w'.heap[gb333]? = some (.cells #[.string t327, .bool t328, (.slice Ao16 t329.length co16)] 30 (0, 0))) ∧ Aside0 (w'.heap[gb339]? = some (.cells #[.string t334, .bool t335, (.slice Ao22 t336.length co22)] 30 (0, 0))) ∧ Aside0 (Below w.heap.size w w'))
 case atStart => exact ⟨(0), (by first | rfl | (simp; done) | (simp [*]; done)), H', ⟨Nat.le_refl _⟩, ⟨by (with_reducible repeat (first | apply Kd.R_alloc | apply Kd.R_drewN | apply Kd.R_drew)); exact HO_6.out⟩, ⟨by (with_reducible repeat (first | apply Kd.R_alloc | apply Kd.R_drewN | apply Kd.R_drew)); exact HO_7.out⟩, ⟨by (with_reducible repeat (first | apply Kd.R_alloc | apply Kd.R_drewN | apply Kd.R_drew)); exact HO_333002.out⟩, ⟨by (with_reducible repeat (first | apply Kd.R_alloc | apply Kd.R_drewN | apply Kd.R_drew)); exact HO_334002.out⟩, ⟨by (with_reducible repeat (first | apply Kd.R_alloc | apply Kd.R_drewN | apply Kd.R_drew)); exact HO_340002.out⟩, ⟨by exact BK332.out⟩, ⟨by exact BK333.out⟩, ⟨by exact BK339.out⟩, ⟨by repeat (first | (with_reducible first | exact HB.out | apply below_alloc | apply pw_below_drewN | apply below_drew1 | refine below_set ?_ GE332.out | refine below_set ?_ GE333.out | refine below_set ?_ GE339.out) | exact HB.out)⟩⟩
 clear H'
 try clear c2; try clear p2; try clear c3; try clear c5; try clear c22; try clear c26; try clear c27; try clear c28; try clear c33; try clear c56; try clear p2
 obtain ⟨x8_4, rfl, HA, HK4, HO_6, HO_7, HO_333002, HO_334002, HO_340002, BK332, BK333, BK339, HB⟩ := hrel
 obtain _ | k4 := gk
 · exact absurd HA.out (by simp [laws_FnFun.l0])
 have H := HA.out
 clear HA
 simp only [laws_FnFun.l0] at H
 have HC57 := Aside0.mk H; clear H
 obtain ⟨Ao58, co58, eo58⟩ := Kd.R_slice HO_6.out
 subst eo58
 go_upto_if 56 with (fail)
 go_cut [] (fun wc => ∃ (kq : Nat), Aside0 (laws_FnFun.j4 kq t340 t343 x8_4 t334 t335 t336 = some r) ∧ Aside0 (kq ≤ k4) ∧ Aside0 (Kd.R Kd.string 9 wc w.heap.size (fun k_ => some k_ ≠ (v344 : Value).ownBlock) (.slice Ao58 t340.length co58) t340) ∧ Aside0 (Kd.R Kd.string 9 wc w.heap.size (fun k_ => some k_ ≠ ((.slice Ao58 t340.length co58) : Value).ownBlock) v344 t343) ∧ Aside0 (Kd.R k38 38 wc w.heap.size (fun k_ => some k_ ≠ ((.slice Ao16 t329.length co16) : Value).ownBlock ∧ some k_ ≠ ((.slice Ao22 t336.length co22) : Value).ownBlock) (.slice Ao14 t324.length co14) t324) ∧ Aside0 (Kd.R k38 38 wc w.heap.size (fun k_ => some k_ ≠ ((.slice Ao14 t324.length co14) : Value).ownBlock ∧ some k_ ≠ ((.slice Ao22 t336.length co22) : Value).ownBlock) (.slice Ao16 t329.length co16) t329) ∧ Aside0 (Kd.R k38 38 wc w.heap.size (fun k_ => some k_ ≠ ((.slice Ao14 t324.length co14) : Value).ownBlock ∧ some k_ ≠ ((.slice Ao16 t329.length co16) : Value).ownBlock) (.slice Ao22 t336.length co22) t336) ∧ Aside0 (wc.heap[gb332]? = some (.cells #[.string t322, .bool t323, (.slice Ao14 t324.length co14)] 30 (0, 0))) ∧ Aside0 (wc.heap[gb333]? = some (.cells #[.string t327, .bool t328, (.slice Ao16 t329.length co16)] 30 (0, 0))) ∧ Aside0 (wc.heap[gb339]? = some (.cells #[.string t334, .bool t335, (.slice Ao22 t336.length co22)] 30 (0, 0))) ∧ Aside0 (Below w.heap.size w wc))
 case first =>
  have H := HC57.out
  clear HC57
  by_cases c59 : x8_4 < (t340.length : Int)
  · rw [if_pos c59] at H
    have c59b0 : decide (x8_4 < (t340.length : Int)) = true := decide_eq_true c59
    clear c59
    (first | rw [c59b0] | (simp only [i64_w, i32_w]; rw [c59b0]) | (have cn_ := c59b0; simp only [bne] at cn_; rw [cn_]; clear cn_) | skip)
    have H' := Aside0.mk H
    clear H
    go_wp2
    go_meet
    case rel => exact ⟨_, H', ⟨by have := HJ1.out; have := HJ7.out; have := HJ54.out; have := HK4.out; first | omega | exact Nat.le_refl _⟩, ⟨by (with_reducible repeat (first | apply Kd.R_alloc | apply Kd.R_drewN | apply Kd.R_drew)); exact HO_6.out⟩, ⟨by (with_reducible repeat (first | apply Kd.R_alloc | apply Kd.R_drewN | apply Kd.R_drew)); exact HO_7.out⟩, ⟨by (with_reducible repeat (first | apply Kd.R_alloc | apply Kd.R_drewN | apply Kd.R_drew)); exact HO_333002.out⟩, ⟨by (with_reducible repeat (first | apply Kd.R_alloc | apply Kd.R_drewN | apply Kd.R_drew)); exact HO_334002.out⟩, ⟨by (with_reducible repeat (first | apply Kd.R_alloc | apply Kd.R_drewN | apply Kd.R_drew)); exact HO_340002.out⟩, ⟨by exact BK332.out⟩, ⟨by exact BK333.out⟩, ⟨by exact BK339.out⟩, ⟨by repeat (first | (with_reducible first | exact HB.out | apply below_alloc | apply pw_below_drewN | apply below_drew1 | refine below_set ?_ GE332.out | refine below_set ?_ GE333.out | refine below_set ?_ GE339.out) | exact HB.out)⟩⟩
  rw [if_neg c59] at H
  have c59b0 : decide (x8_4 < (t340.length : Int)) = false := decide_eq_false c59
  clear c59
  (first | rw [c59b0] | (simp only [i64_w, i32_w]; rw [c59b0]) | (have cn_ := c59b0; simp only [bne] at cn_; rw [cn_]; clear cn_) | skip)
  replace H := Option.bind_eq_some_iff.mp H
  obtain ⟨t355, A600, H⟩ := H
  replace H : (if t355 = true then (laws_FnFun.j7 k4 (wrap64 ((t336.length : Int) - 1)) t334 t335 t336) else (some ((t340.length : Int) == 0))) = some r := H
  have A60 := Aside0.mk A600; clear A600; have HC61 := Aside0.mk H; clear H
  have hnb62 := NB339_332.out
  have hnc62 := NB332_339.out
  have hnb63 := NB339_333.out
  have hnc63 := NB333_339.out
  have hcz64_0 : wr.cell? ⟨gb339, 0, none⟩ = some (.string t334) := (blk_cell BK339.out 0).trans rfl
  have hcz64_1 : wr.cell? ⟨gb339, 1, none⟩ = some (.bool t335) := (blk_cell BK339.out 1).trans rfl
  have hcz64_2 : wr.cell? ⟨gb339, 2, none⟩ = some (.slice Ao22 t336.length co22) := (blk_cell BK339.out 2).trans rfl
  have hfz64_0 := blk_frozen BK339.out 0
  have hfz64_1 := blk_frozen BK339.out 1
  have hfz64_2 := blk_frozen BK339.out 2
  go_upto_if 88 with (first | ((with_reducible refine gate_callee (f := 22) rfl ?_); refine goesL_ (some 87) rfl rfl Try.func22 (by kernel_rfl) rfl #[.agg #[.string t334, .bool t335, .slice Ao22 t336.length co22]] rfl (by (try simp only [List.map_toArray, List.map_cons, List.map_nil]); first | done | rfl | (simp only [List.length_drop, List.length_take]; rfl)) ?_; (with_reducible refine (spec_FunOk.calls k4 t334 t335 _ _ t336 t355 _ ?side1 ?side2 A60.out).mono ?_); (case side1 => repeat (first | exact (Kd.R_reads' HO_340002.out).2.2 | (with_reducible refine Kd.C_alloc ?_ _) | (with_reducible refine Kd.C_drewN ?_ _) | (with_reducible refine Kd.C_drew ?_))); (case side2 => exact (Kd.R_reads' HO_340002.out).2.1); rintro e w65 ⟨rfl, hb⟩; refine ⟨_, rfl, ?_⟩; have n0_ := Aside0.mk (Kd.R_below (by (with_reducible repeat (first | apply Kd.R_alloc | apply Kd.R_drewN | apply Kd.R_drew)); exact HO_6.out) hb); have n1_ := Aside0.mk (Kd.R_below (by (with_reducible repeat (first | apply Kd.R_alloc | apply Kd.R_drewN | apply Kd.R_drew)); exact HO_7.out) hb); have n2_ := Aside0.mk (Kd.R_below (by (with_reducible repeat (first | apply Kd.R_alloc | apply Kd.R_drewN | apply Kd.R_drew)); exact HO_333002.out) hb); have n3_ := Aside0.mk (Kd.R_below (by (with_reducible repeat (first | apply Kd.R_alloc | apply Kd.R_drewN | apply Kd.R_drew)); exact HO_334002.out) hb); have n4_ := Aside0.mk (Kd.R_below (by (with_reducible repeat (first | apply Kd.R_alloc | apply Kd.R_drewN | apply Kd.R_drew)); exact HO_340002.out) hb); have n5_ := Aside0.mk (blk_below (g := gb332) (o := .cells #[.string t322, .bool t323, .slice Ao14 t324.length co14] 30 (0, 0)) (by exact BK332.out) hb); have n6_ := Aside0.mk (blk_below (g := gb333) (o := .cells #[.string t327, .bool t328, .slice Ao16 t329.length co16] 30 (0, 0)) (by exact BK333.out) hb); have n7_ := Aside0.mk (blk_below (g := gb339) (o := .cells #[.string t334, .bool t335, .slice Ao22 t336.length co22] 30 (0, 0)) (by exact BK339.out) hb); have n8_ := Aside0.mk (below_step (by repeat (first | (with_reducible first | exact HB.out | apply below_alloc | apply pw_below_drewN | apply below_drew1 | refine below_set ?_ GE332.out | refine below_set ?_ GE333.out | refine below_set ?_ GE339.out) | exact HB.out)) hb); clear HO_6 HO_7 HO_333002 HO_334002 HO_340002 BK332 BK333 BK339 HB; have HO_6 := n0_; have HO_7 := n1_; have HO_333002 := n2_; have HO_334002 := n3_; have HO_340002 := n4_; have BK332 := n5_; have BK333 := n6_; have BK339 := n7_; have HB := n8_; clear n0_ n1_ n2_ n3_ n4_ n5_ n6_ n7_ n8_; (try clear hb); (try clear hb2); (try clear hk); (try clear hi)))
  (try simp only [Act.put, List.setIfInBounds_toArray, List.set_cons_zero, List.set_cons_succ])
  go_cut [] (fun wc => ∃ (kq : Nat), Aside0 (laws_FnFun.j7 kq (wrap64 ((t336.length : Int) - 1)) t334 t335 t336 = some r) ∧ Aside0 (kq ≤ k4) ∧ Aside0 (Kd.R k38 38 wc w.heap.size (fun k_ => some k_ ≠ ((.slice Ao16 t329.length co16) : Value).ownBlock ∧ some k_ ≠ ((.slice Ao22 t336.length co22) : Value).ownBlock) (.slice Ao14 t324.length co14) t324) ∧ Aside0 (Kd.R k38 38 wc w.heap.size (fun k_ => some k_ ≠ ((.slice Ao14 t324.length co14) : Value).ownBlock ∧ some k_ ≠ ((.slice Ao22 t336.length co22) : Value).ownBlock) (.slice Ao16 t329.length co16) t329) ∧ Aside0 (Kd.R k38 38 wc w.heap.size (fun k_ => some k_ ≠ ((.slice Ao14 t324.length co14) : Value).ownBlock ∧ some k_ ≠ ((.slice Ao16 t329.length co16) : Value).ownBlock) (.slice Ao22 t336.length co22) t336) ∧ Aside0 (wc.heap[gb332]? = some (.cells #[.string t322, .bool t323, (.slice Ao14 t324.length co14)] 30 (0, 0))) ∧ Aside0 (wc.heap[gb333]? = some (.cells #[.string t327, .bool t328, (.slice Ao16 t329.length co16)] 30 (0, 0))) ∧ Aside0 (wc.heap[gb339]? = some (.cells #[.string t334, .bool t335, (.slice Ao22 t336.length co22)] 30 (0, 0))) ∧ Aside0 (Below w.heap.size w wc))
  case first =>
   have H := HC61.out
   clear HC61
   by_cases c66 : t355 = true
   · subst c66
     have H1 : (laws_FnFun.j7 k4 (wrap64 ((t336.length : Int) - 1)) t334 t335 t336) = some r := by rw [if_pos rfl] at H; exact H
     clear H
     have H := H1
     clear H1
     have H' := Aside0.mk H
     clear H
     go_wp2
     go_meet
     case rel => exact ⟨_, H', ⟨by have := HJ1.out; have := HJ7.out; have := HJ54.out; have := HK4.out; first | omega | exact Nat.le_refl _⟩, ⟨by (with_reducible repeat (first | apply Kd.R_alloc | apply Kd.R_drewN | apply Kd.R_drew)); exact HO_333002.out⟩, ⟨by (with_reducible repeat (first | apply Kd.R_alloc | apply Kd.R_drewN | apply Kd.R_drew)); exact HO_334002.out⟩, ⟨by (with_reducible repeat (first | apply Kd.R_alloc | apply Kd.R_drewN | apply Kd.R_drew)); exact HO_340002.out⟩, ⟨by exact BK332.out⟩, ⟨by exact BK333.out⟩, ⟨by exact BK339.out⟩, ⟨by repeat (first | (with_reducible first | exact HB.out | apply below_alloc | apply pw_below_drewN | apply below_drew1 | refine below_set ?_ GE332.out | refine below_set ?_ GE333.out | refine below_set ?_ GE339.out) | exact HB.out)⟩⟩
   replace c66 := Bool.eq_false_iff.mpr c66
   subst c66
   have H1 : (some ((t340.length : Int) == 0)) = some r := by rw [if_neg (show ¬ (false = true) by decide)] at H; exact H
   clear H
   have H := H1
   clear H1
   obtain rfl := Option.some.inj H
   go_wp2
   go_ret
   exact ⟨by first | rfl | (simp [errW_none, errW_some] <;> rfl) | (simp [*, errW_none, errW_some] <;> rfl), by repeat (first | (with_reducible first | exact HB.out | apply below_alloc | apply pw_below_drewN | apply below_drew1 | refine below_set ?_ GE332.out | refine below_set ?_ GE333.out | refine below_set ?_ GE339.out) | exact HB.out)⟩
  clear HC61; try clear c2; try clear p2; try clear c3; try clear c5; try clear c6; try clear p6; try clear c22; try clear c26; try clear c27; try clear c28; try clear c33; try clear c56; try clear c59; try clear c59b0; try clear c62; try clear c63; try clear p64; try clear c66; try clear hcz64_0; try clear hcz64_1; try clear hcz64_2; try clear hfz64_0; try clear hfz64_1; try clear hfz64_2; try clear p2
  obtain ⟨kq, HA, HJ60, HO_333002, HO_334002, HO_340002, BK332, BK333, BK339, HB⟩ := hcut
  obtain _ | kj60 := kq
  · exact absurd HA.out (by simp [laws_FnFun.j7])
  have H := HA.out
  clear HA
  simp only [laws_FnFun.j7] at H
  obtain ⟨ji67, hji67⟩ : ∃ j_ : Int, (wrap64 ((t336.length : Int) - 1)) = j_ := ⟨_, rfl⟩
  replace H : (if 0 ≤ (ji67) then (if (ji67) ≤ (t336.length : Int) then ((impl_FunOk.f t334 t335 (t336.take ((ji67) : Int).toNat)).bind fun t360 => (if (ji67) > 0 then (if 0 ≤ (wrap64 ((ji67) - 1)) then (if (wrap64 ((ji67) - 1)) < (t336.length : Int) then ((impl_InsLast.f ((rd_T38 t336 (wrap64 ((ji67) - 1))).f0) ((rd_T38 t336 (wrap64 ((ji67) - 1))).f1) ((rd_T38 t336 (wrap64 ((ji67) - 1))).f2)).bind fun t362 => (some (t360 == t362))) else (none)) else (none)) else (some (t360 == false)))) else (none)) else (none)) = some r := by first | (rw [hji67] at H; exact H) | (simp only [hji67] at H ⊢; exact H)
  have hji67w : (IntKind.i64.wrap ((t336.length : Int) - 1)) = ji67 := (i64_w _).trans hji67
  by_cases c68 : 0 ≤ (ji67)
  · rw [if_pos c68] at H
    have c68b0 := eq_true c68
    have c68b1 : decide (0 ≤ (ji67)) = true := decide_eq_true c68
    clear c68
    by_cases c69 : (ji67) ≤ (t336.length : Int)
    · rw [if_pos c69] at H
      have c69b0 := eq_true c69
      have c69b1 : decide ((ji67) ≤ (t336.length : Int)) = true := decide_eq_true c69
      clear c69
      obtain ⟨y357, hy357⟩ : ∃ y_ : List (S38), y_ = (t336.take ((ji67) : Int).toNat) := ⟨_, rfl⟩
      replace H : ((impl_FunOk.f t334 t335 y357).bind fun t360 => (if (ji67) > 0 then (if 0 ≤ (wrap64 ((ji67) - 1)) then (if (wrap64 ((ji67) - 1)) < (t336.length : Int) then ((impl_InsLast.f ((rd_T38 t336 (wrap64 ((ji67) - 1))).f0) ((rd_T38 t336 (wrap64 ((ji67) - 1))).f1) ((rd_T38 t336 (wrap64 ((ji67) - 1))).f2)).bind fun t362 => (some (t360 == t362))) else (none)) else (none)) else (some (t360 == false)))) = some r := by first | (rw [hy357]; with_reducible exact H) | (have H2_ := (Option.bind_some _ _).symm.trans H; rw [hy357]; with_reducible exact H2_) | (have H2_ := (Option.bind_some _ _).symm.trans H; with_reducible exact H2_) | with_reducible exact H | (rw [hy357]; exact H) | exact H
      have Ny357 := Aside0.mk hy357; clear hy357
      replace H := Option.bind_eq_some_iff.mp H
      obtain ⟨t360, A700, H⟩ := H
      replace H : (if (ji67) > 0 then (if 0 ≤ (wrap64 ((ji67) - 1)) then (if (wrap64 ((ji67) - 1)) < (t336.length : Int) then ((impl_InsLast.f ((rd_T38 t336 (wrap64 ((ji67) - 1))).f0) ((rd_T38 t336 (wrap64 ((ji67) - 1))).f1) ((rd_T38 t336 (wrap64 ((ji67) - 1))).f2)).bind fun t362 => (some (t360 == t362))) else (none)) else (none)) else (some (t360 == false))) = some r := H
      have A70 := Aside0.mk A700; clear A700
      by_cases c71 : (ji67) > 0
      · rw [if_pos c71] at H
        have c71b0 : decide (0 < (ji67)) = true := decide_eq_true c71
        clear c71
        obtain ⟨ji72, hji72⟩ : ∃ j_ : Int, (wrap64 ((ji67) - 1)) = j_ := ⟨_, rfl⟩
        replace H : (if 0 ≤ (ji72) then (if (ji72) < (t336.length : Int) then ((impl_InsLast.f ((rd_T38 t336 (ji72)).f0) ((rd_T38 t336 (ji72)).f1) ((rd_T38 t336 (ji72)).f2)).bind fun t362 => (some (t360 == t362))) else (none)) else (none)) = some r := by first | (rw [hji72] at H; exact H) | (simp only [hji72] at H ⊢; exact H)
        (try rw [hji72] at A70)
        have hji72w : (IntKind.i64.wrap ((ji67) - 1)) = ji72 := (i64_w _).trans hji72
        by_cases c73 : 0 ≤ (ji72)
        · rw [if_pos c73] at H
          have c73b0 : decide (0 ≤ (ji72)) = true := decide_eq_true c73
          clear c73
          by_cases c74 : (ji72) < (t336.length : Int)
          · rw [if_pos c74] at H
            have c74b0 : decide ((ji72) < (t336.length : Int)) = true := decide_eq_true c74
            clear c74
            replace H := Option.bind_eq_some_iff.mp H
            obtain ⟨t362, A750, H⟩ := H
            replace H : (some (t360 == t362)) = some r := H
            have A75 := Aside0.mk A750; clear A750
            obtain rfl := Option.some.inj H
            have hnb76 := NB339_332.out
            have hnc76 := NB332_339.out
            have hnb77 := NB339_333.out
            have hnc77 := NB333_339.out
            have hcz78_0 : wc.cell? ⟨gb339, 0, none⟩ = some (.string t334) := (blk_cell BK339.out 0).trans rfl
            have hcz78_1 : wc.cell? ⟨gb339, 1, none⟩ = some (.bool t335) := (blk_cell BK339.out 1).trans rfl
            have hcz78_2 : wc.cell? ⟨gb339, 2, none⟩ = some (.slice Ao22 t336.length co22) := (blk_cell BK339.out 2).trans rfl
            have hfz78_0 := blk_frozen BK339.out 0
            have hfz78_1 := blk_frozen BK339.out 1
            have hfz78_2 := blk_frozen BK339.out 2
            go_wp2_with (first | ((with_reducible refine gate_dst (N := 11) rfl ?_); (try (refine gate_guard (by rfl) ?_; dsimp only)); refine box_event ?hg (N := 11) ?hd (cs := #[.string (⟨#[]⟩ : ByteArray), .bool false, .slice none 0 0]) (t := 30) ?hr ?_; (case hd => rfl); (case hg => rfl); (case hr => first | (go_simp; done) | (go_simp; rfl)); intro gb356 hg w79 hbox hb; have n0_ := Aside0.mk (Kd.R_below (by (with_reducible repeat (first | apply Kd.R_alloc | apply Kd.R_drewN | apply Kd.R_drew)); exact HO_333002.out) hb); have n1_ := Aside0.mk (Kd.R_below (by (with_reducible repeat (first | apply Kd.R_alloc | apply Kd.R_drewN | apply Kd.R_drew)); exact HO_334002.out) hb); have n2_ := Aside0.mk (Kd.R_below (by (with_reducible repeat (first | apply Kd.R_alloc | apply Kd.R_drewN | apply Kd.R_drew)); exact HO_340002.out) hb); have n3_ := Aside0.mk (blk_below (g := gb332) (o := .cells #[.string t322, .bool t323, .slice Ao14 t324.length co14] 30 (0, 0)) (by exact BK332.out) hb); have n4_ := Aside0.mk (blk_below (g := gb333) (o := .cells #[.string t327, .bool t328, .slice Ao16 t329.length co16] 30 (0, 0)) (by exact BK333.out) hb); have n5_ := Aside0.mk (blk_below (g := gb339) (o := .cells #[.string t334, .bool t335, .slice Ao22 t336.length co22] 30 (0, 0)) (by exact BK339.out) hb); have n6_ := Aside0.mk (below_step (by repeat (first | (with_reducible first | exact HB.out | apply below_alloc | apply pw_below_drewN | apply below_drew1 | refine below_set ?_ GE332.out | refine below_set ?_ GE333.out | refine below_set ?_ GE339.out) | exact HB.out)) hb); have n7_ := Aside0.mk (hbox); have n8_ := Aside0.mk ((by rw [hg]; exact (below_size (by repeat (first | (with_reducible first | exact HB.out | apply below_alloc | apply pw_below_drewN | apply below_drew1 | refine below_set ?_ GE332.out | refine below_set ?_ GE333.out | refine below_set ?_ GE339.out) | exact HB.out))) : w.heap.size ≤ gb356)); have n9_ := Aside0.mk ((by rw [hg]; exact (below_size (by repeat (first | (with_reducible first | exact HB.out | apply below_alloc | apply pw_below_drewN | apply below_drew1 | refine below_set ?_ GE332.out | refine below_set ?_ GE333.out | refine below_set ?_ GE339.out) | exact HB.out))) : w.heap.size ≤ gb356)); have n10_ := Aside0.mk ((by rw [hg]; exact Nat.ne_of_lt (blk_lt (g := gb332) (o := .cells #[.string t322, .bool t323, .slice Ao14 t324.length co14] 30 (0, 0)) (by exact BK332.out)) : gb332 ≠ gb356)); have n11_ := Aside0.mk ((by rw [hg]; exact Nat.ne_of_gt (blk_lt (g := gb332) (o := .cells #[.string t322, .bool t323, .slice Ao14 t324.length co14] 30 (0, 0)) (by exact BK332.out)) : gb356 ≠ gb332)); have n12_ := Aside0.mk ((by rw [hg]; exact Nat.ne_of_lt (blk_lt (g := gb333) (o := .cells #[.string t327, .bool t328, .slice Ao16 t329.length co16] 30 (0, 0)) (by exact BK333.out)) : gb333 ≠ gb356)); have n13_ := Aside0.mk ((by rw [hg]; exact Nat.ne_of_gt (blk_lt (g := gb333) (o := .cells #[.string t327, .bool t328, .slice Ao16 t329.length co16] 30 (0, 0)) (by exact BK333.out)) : gb356 ≠ gb333)); have n14_ := Aside0.mk ((by rw [hg]; exact Nat.ne_of_lt (blk_lt (g := gb339) (o := .cells #[.string t334, .bool t335, .slice Ao22 t336.length co22] 30 (0, 0)) (by exact BK339.out)) : gb339 ≠ gb356)); have n15_ := Aside0.mk ((by rw [hg]; exact Nat.ne_of_gt (blk_lt (g := gb339) (o := .cells #[.string t334, .bool t335, .slice Ao22 t336.length co22] 30 (0, 0)) (by exact BK339.out)) : gb356 ≠ gb339)); clear HO_333002 HO_334002 HO_340002 BK332 BK333 BK339 HB; have HO_333002 := n0_; have HO_334002 := n1_; have HO_340002 := n2_; have BK332 := n3_; have BK333 := n4_; have BK339 := n5_; have HB := n6_; have BK356 := n7_; have GW356 := n8_; have GE356 := n9_; have NB332_356 := n10_; have NB356_332 := n11_; have NB333_356 := n12_; have NB356_333 := n13_; have NB339_356 := n14_; have NB356_339 := n15_; clear n0_ n1_ n2_ n3_ n4_ n5_ n6_ n7_ n8_ n9_ n10_ n11_ n12_ n13_ n14_ n15_ hb hbox hg; have hnb80 := NB356_332.out; have hnc80 := NB332_356.out; have hnb81 := NB356_333.out; have hnc81 := NB333_356.out; have hnb82 := NB356_339.out; have hnc82 := NB339_356.out; have hcz83_0 : w79.cell? ⟨gb356, 0, none⟩ = some (.string (⟨#[]⟩ : ByteArray)) := (blk_cell BK356.out 0).trans rfl; have hcz83_1 : w79.cell? ⟨gb356, 1, none⟩ = some (.bool false) := (blk_cell BK356.out 1).trans rfl; have hcz83_2 : w79.cell? ⟨gb356, 2, none⟩ = some (.slice none 0 0) := (blk_cell BK356.out 2).trans rfl; have hfz83_0 := blk_frozen BK356.out 0; have hfz83_1 := blk_frozen BK356.out 1; have hfz83_2 := blk_frozen BK356.out 2) | ((with_reducible refine gate_store (t := 30) (p := 11) rfl ?_); refine store_event (t := 30) (p := 11) (v := ?vo_w84) (w1 := (((w79.setCell ⟨gb356, 0, none⟩ (.string t334)).setCell ⟨gb356, 1, none⟩ (.bool t335)).setCell ⟨gb356, 2, none⟩ (.slice Ao22 t336.length co22))) ?hg ?ho ?hn ?hr ?_; (case ho => rfl); (case hg => rfl); (case hn => rfl); (case hr => first | (go_simp; done) | (go_simp; rfl) | ((try (obtain ⟨_, _, e_⟩ := Kd.R_slice HO_333002.out; subst e_)); (try (obtain ⟨_, _, e_⟩ := Kd.R_slice HO_334002.out; subst e_)); (try (obtain ⟨_, _, e_⟩ := Kd.R_slice HO_340002.out; subst e_)); first | (go_simp; done) | (go_simp; rfl))); intro w84 hw; have n0_ : Aside0 (Kd.R k38 38 w84 w.heap.size (fun k_ => some k_ ≠ (.slice Ao16 t329.length co16 : Value).ownBlock ∧ some k_ ≠ (.slice Ao22 t336.length co22 : Value).ownBlock) (.slice Ao14 t324.length co14) t324) := ⟨(by rw [hw]; exact (by (with_reducible repeat (first | apply Kd.R_alloc | apply Kd.R_drewN | apply Kd.R_drew)); exact Kd.R_mono (Kd.R_far (p := ⟨gb356, 2, none⟩) (Kd.R_far (p := ⟨gb356, 1, none⟩) (Kd.R_far (p := ⟨gb356, 0, none⟩) (Kd.R_types HO_333002.out BK356.out (by decide)) (fun _ hk => hk.2) (.string t334)) (fun _ hk => hk.2) (.bool t335)) (fun _ hk => hk.2) (.slice Ao22 t336.length co22)) (fun _ hk => ⟨hk.1.1, hk.1.2⟩)))⟩; have n1_ : Aside0 (Kd.R k38 38 w84 w.heap.size (fun k_ => some k_ ≠ (.slice Ao14 t324.length co14 : Value).ownBlock ∧ some k_ ≠ (.slice Ao22 t336.length co22 : Value).ownBlock) (.slice Ao16 t329.length co16) t329) := ⟨(by rw [hw]; exact (by (with_reducible repeat (first | apply Kd.R_alloc | apply Kd.R_drewN | apply Kd.R_drew)); exact Kd.R_mono (Kd.R_far (p := ⟨gb356, 2, none⟩) (Kd.R_far (p := ⟨gb356, 1, none⟩) (Kd.R_far (p := ⟨gb356, 0, none⟩) (Kd.R_types HO_334002.out BK356.out (by decide)) (fun _ hk => hk.2) (.string t334)) (fun _ hk => hk.2) (.bool t335)) (fun _ hk => hk.2) (.slice Ao22 t336.length co22)) (fun _ hk => ⟨hk.1.1, hk.1.2⟩)))⟩; have n2_ : Aside0 (Kd.R k38 38 w84 w.heap.size (fun k_ => some k_ ≠ (.slice Ao14 t324.length co14 : Value).ownBlock ∧ some k_ ≠ (.slice Ao16 t329.length co16 : Value).ownBlock) (.slice Ao22 t336.length co22) t336) := ⟨(by rw [hw]; exact (by (with_reducible repeat (first | apply Kd.R_alloc | apply Kd.R_drewN | apply Kd.R_drew)); exact Kd.R_mono (Kd.R_far (p := ⟨gb356, 2, none⟩) (Kd.R_far (p := ⟨gb356, 1, none⟩) (Kd.R_far (p := ⟨gb356, 0, none⟩) (Kd.R_types HO_340002.out BK356.out (by decide)) (fun _ hk => hk.2) (.string t334)) (fun _ hk => hk.2) (.bool t335)) (fun _ hk => hk.2) (.slice Ao22 t336.length co22)) (fun _ hk => ⟨hk.1.1, hk.1.2⟩)))⟩; have n3_ : Aside0 (w84.heap[gb332]? = some (.cells #[.string t322, .bool t323, .slice Ao14 t324.length co14] 30 (0, 0))) := ⟨(by rw [hw]; exact (by refine blk_far ?_ NB332_356.out _; refine blk_far ?_ NB332_356.out _; refine blk_far ?_ NB332_356.out _; exact BK332.out))⟩; have n4_ : Aside0 (w84.heap[gb333]? = some (.cells #[.string t327, .bool t328, .slice Ao16 t329.length co16] 30 (0, 0))) := ⟨(by rw [hw]; exact (by refine blk_far ?_ NB333_356.out _; refine blk_far ?_ NB333_356.out _; refine blk_far ?_ NB333_356.out _; exact BK333.out))⟩; have n5_ : Aside0 (w84.heap[gb339]? = some (.cells #[.string t334, .bool t335, .slice Ao22 t336.length co22] 30 (0, 0))) := ⟨(by rw [hw]; exact (by refine blk_far ?_ NB339_356.out _; refine blk_far ?_ NB339_356.out _; refine blk_far ?_ NB339_356.out _; exact BK339.out))⟩; have n6_ : Aside0 (w84.heap[gb356]? = some (.cells #[.string t334, .bool t335, .slice Ao22 t336.length co22] 30 (0, 0))) := ⟨(by rw [hw]; exact (by refine blk_put (cs := #[.string t334, .bool t335, .slice none 0 0]) ?_ 2 _ rfl; refine blk_put (cs := #[.string t334, .bool false, .slice none 0 0]) ?_ 1 _ rfl; refine blk_put (cs := #[.string (⟨#[]⟩ : ByteArray), .bool false, .slice none 0 0]) ?_ 0 _ rfl; exact BK356.out))⟩; have n7_ : Aside0 (Below w.heap.size w w84) := ⟨(by rw [hw]; exact (by repeat (first | (with_reducible first | exact HB.out | apply below_alloc | apply pw_below_drewN | apply below_drew1 | refine below_set ?_ GE332.out | refine below_set ?_ GE333.out | refine below_set ?_ GE339.out | refine below_set ?_ GE356.out) | exact HB.out)))⟩; clear hw HO_333002 HO_334002 HO_340002 BK332 BK333 BK339 BK356 HB; have HO_333002 := n0_; have HO_334002 := n1_; have HO_340002 := n2_; have BK332 := n3_; have BK333 := n4_; have BK339 := n5_; have BK356 := n6_; have HB := n7_; clear n0_ n1_ n2_ n3_ n4_ n5_ n6_ n7_; have hcz85_0 : w84.cell? ⟨gb339, 0, none⟩ = some (.string t334) := (blk_cell BK339.out 0).trans rfl; have hcz85_1 : w84.cell? ⟨gb339, 1, none⟩ = some (.bool t335) := (blk_cell BK339.out 1).trans rfl; have hcz85_2 : w84.cell? ⟨gb339, 2, none⟩ = some (.slice Ao22 t336.length co22) := (blk_cell BK339.out 2).trans rfl; have hfz85_0 := blk_frozen BK339.out 0; have hfz85_1 := blk_frozen BK339.out 1; have hfz85_2 := blk_frozen BK339.out 2; have q86 : ((ji67) : Int) ≤ ((t336.length : Int) : Int) := of_decide_eq_true (by first | (with_reducible assumption) | assumption); obtain ⟨i086, hi086, _, hsz86, _⟩ := info_parts info38; have hcut86 := cut_to (P := Try.prog) 28 38 .i64 Try.underlying28 hi086 Ao22 t336.length co22 (ji67) (of_decide_eq_true (by first | (with_reducible assumption) | assumption)) q86 (Kd.R_reads' HO_340002.out).2.1; have hr86 := Kd.R_take (m := ((ji67) : Int).toNat) HO_340002.out (by omega); have hy86 : y357.length = ((ji67) : Int).toNat := (by rw [Ny357.out, List.length_take]; omega); rw [← Ny357.out] at hr86; rw [← hy86] at hr86 hcut86; clear hy86 hi086 hsz86; have HO359 := Aside0.mk hr86; clear hr86; replace q86 := eq_true q86; have hcz87_0 : w84.cell? ⟨gb356, 0, none⟩ = some (.string t334) := (blk_cell BK356.out 0).trans rfl; have hcz87_1 : w84.cell? ⟨gb356, 1, none⟩ = some (.bool t335) := (blk_cell BK356.out 1).trans rfl; have hcz87_2 : w84.cell? ⟨gb356, 2, none⟩ = some (.slice Ao22 t336.length co22) := (blk_cell BK356.out 2).trans rfl; have hfz87_0 := blk_frozen BK356.out 0; have hfz87_1 := blk_frozen BK356.out 1; have hfz87_2 := blk_frozen BK356.out 2) | ((with_reducible refine gate_callee (f := 28) rfl ?_); refine goesL_ (some 99) rfl rfl Try.func28 (by kernel_rfl) rfl #[.agg #[.string t334, .bool t335, .slice Ao22 y357.length co22]] rfl (by (try simp only [List.map_toArray, List.map_cons, List.map_nil]); first | done | rfl | (simp only [List.length_drop, List.length_take]; rfl)) ?_; (with_reducible refine (impl_FunOk.calls t334 t335 _ _ y357 t360 _ ?side1 ?side2 A70.out).mono ?_); (case side1 => refine (Kd.R_reads' (e := 38) (base := w.heap.size) (ok := fun k_ => (some k_ ≠ (.slice Ao14 t324.length co14 : Value).ownBlock ∧ some k_ ≠ (.slice Ao16 t329.length co16 : Value).ownBlock)) (n := y357.length) (c := co22) ?_).2.2; exact (by (with_reducible repeat (first | apply Kd.R_alloc | apply Kd.R_drewN | apply Kd.R_drew)); exact (Kd.R_mono (Kd.R_far (p := ⟨gb356, 2, none⟩) (Kd.R_types HO359.out BK356.out (by decide)) (fun _ hk => hk.2) (.slice Ao22 y357.length co22)) (fun _ h_ => h_.1)))); (case side2 => exact (Kd.R_reads' HO359.out).2.1); rintro e w88 ⟨rfl, hb⟩; refine ⟨_, rfl, ?_⟩; have n0_ := Aside0.mk (Kd.R_below (by (with_reducible repeat (first | apply Kd.R_alloc | apply Kd.R_drewN | apply Kd.R_drew)); exact (Kd.R_mono (Kd.R_far (p := ⟨gb356, 2, none⟩) (Kd.R_types HO_333002.out BK356.out (by decide)) (fun _ hk => hk.2) (.slice Ao22 y357.length co22)) (fun _ h_ => h_.1))) hb); have n1_ := Aside0.mk (Kd.R_below (by (with_reducible repeat (first | apply Kd.R_alloc | apply Kd.R_drewN | apply Kd.R_drew)); exact (Kd.R_mono (Kd.R_far (p := ⟨gb356, 2, none⟩) (Kd.R_types HO_334002.out BK356.out (by decide)) (fun _ hk => hk.2) (.slice Ao22 y357.length co22)) (fun _ h_ => h_.1))) hb); have n2_ := Aside0.mk (Kd.R_below (by (with_reducible repeat (first | apply Kd.R_alloc | apply Kd.R_drewN | apply Kd.R_drew)); exact (Kd.R_mono (Kd.R_far (p := ⟨gb356, 2, none⟩) (Kd.R_types HO359.out BK356.out (by decide)) (fun _ hk => hk.2) (.slice Ao22 y357.length co22)) (fun _ h_ => h_.1))) hb); have n3_ := Aside0.mk (blk_below (g := gb332) (o := .cells #[.string t322, .bool t323, .slice Ao14 t324.length co14] 30 (0, 0)) (by refine blk_far ?_ NB332_356.out _; exact BK332.out) hb); have n4_ := Aside0.mk (blk_below (g := gb333) (o := .cells #[.string t327, .bool t328, .slice Ao16 t329.length co16] 30 (0, 0)) (by refine blk_far ?_ NB333_356.out _; exact BK333.out) hb); have n5_ := Aside0.mk (blk_below (g := gb339) (o := .cells #[.string t334, .bool t335, .slice Ao22 t336.length co22] 30 (0, 0)) (by refine blk_far ?_ NB339_356.out _; exact BK339.out) hb); have n6_ := Aside0.mk (blk_below (g := gb356) (o := .cells #[.string t334, .bool t335, .slice Ao22 y357.length co22] 30 (0, 0)) (by refine blk_put (cs := #[.string t334, .bool t335, .slice Ao22 t336.length co22]) ?_ 2 _ rfl; exact BK356.out) hb); have n7_ := Aside0.mk (below_step (by repeat (first | (with_reducible first | exact HB.out | apply below_alloc | apply pw_below_drewN | apply below_drew1 | refine below_set ?_ GE332.out | refine below_set ?_ GE333.out | refine below_set ?_ GE339.out | refine below_set ?_ GE356.out) | exact HB.out)) hb); have n8_ := Aside0.mk (Kd.R_below (by (with_reducible repeat (first | apply Kd.R_alloc | apply Kd.R_drewN | apply Kd.R_drew)); exact (Kd.R_mono (Kd.R_far (p := ⟨gb356, 2, none⟩) (Kd.R_types HO_340002.out BK356.out (by decide)) (fun _ hk => hk.2) (.slice Ao22 y357.length co22)) (fun _ h_ => h_.1))) hb); clear HO_340002 HO_333002 HO_334002 HO359 BK332 BK333 BK339 BK356 HB; have HO_333002 := n0_; have HO_334002 := n1_; have HO359 := n2_; have BK332 := n3_; have BK333 := n4_; have BK339 := n5_; have BK356 := n6_; have HB := n7_; have HO_340002 := n8_; clear n0_ n1_ n2_ n3_ n4_ n5_ n6_ n7_ n8_; (try clear hb); (try clear hb2); (try clear hk); (try clear hi); have hcz89_0 : w88.cell? ⟨gb339, 0, none⟩ = some (.string t334) := (blk_cell BK339.out 0).trans rfl; have hcz89_1 : w88.cell? ⟨gb339, 1, none⟩ = some (.bool t335) := (blk_cell BK339.out 1).trans rfl; have hcz89_2 : w88.cell? ⟨gb339, 2, none⟩ = some (.slice Ao22 t336.length co22) := (blk_cell BK339.out 2).trans rfl; have hfz89_0 := blk_frozen BK339.out 0; have hfz89_1 := blk_frozen BK339.out 1; have hfz89_2 := blk_frozen BK339.out 2; have p361 : 0 ≤ ((ji72) : Int) := of_decide_eq_true (by first | (with_reducible assumption) | assumption); have q361 : (ji72) < (t336.length : Int) := of_decide_eq_true (by first | (with_reducible assumption) | assumption); obtain ⟨ad361, e361, hx361_0, hx361_1, hx361_2⟩ := at_T38 (Kd.R_reads' HO_340002.out).2.2 (ji72) p361 q361; cases e361; replace p361 := eq_true p361; replace q361 := eq_true q361) | (go_at_call 29; (with_reducible refine (impl_InsLast.calls ((rd_T38 t336 (ji72)).f0) ((rd_T38 t336 (ji72)).f1) ((rd_T38 t336 (ji72)).f2) t362 _ A75.out).mono ?_); rintro e w90 ⟨rfl, hb⟩; have n0_ := Aside0.mk (Kd.R_below (by (with_reducible repeat (first | apply Kd.R_alloc | apply Kd.R_drewN | apply Kd.R_drew)); exact HO_333002.out) hb); have n1_ := Aside0.mk (Kd.R_below (by (with_reducible repeat (first | apply Kd.R_alloc | apply Kd.R_drewN | apply Kd.R_drew)); exact HO_334002.out) hb); have n2_ := Aside0.mk (Kd.R_below (by (with_reducible repeat (first | apply Kd.R_alloc | apply Kd.R_drewN | apply Kd.R_drew)); exact HO359.out) hb); have n3_ := Aside0.mk (blk_below (g := gb332) (o := .cells #[.string t322, .bool t323, .slice Ao14 t324.length co14] 30 (0, 0)) (by exact BK332.out) hb); have n4_ := Aside0.mk (blk_below (g := gb333) (o := .cells #[.string t327, .bool t328, .slice Ao16 t329.length co16] 30 (0, 0)) (by exact BK333.out) hb); have n5_ := Aside0.mk (blk_below (g := gb339) (o := .cells #[.string t334, .bool t335, .slice (some ad361) t336.length co22] 30 (0, 0)) (by exact BK339.out) hb); have n6_ := Aside0.mk (blk_below (g := gb356) (o := .cells #[.string t334, .bool t335, .slice (some ad361) y357.length co22] 30 (0, 0)) (by exact BK356.out) hb); have n7_ := Aside0.mk (below_step (by repeat (first | (with_reducible first | exact HB.out | apply below_alloc | apply pw_below_drewN | apply below_drew1 | refine below_set ?_ GE332.out | refine below_set ?_ GE333.out | refine below_set ?_ GE339.out | refine below_set ?_ GE356.out) | exact HB.out)) hb); clear HO_333002 HO_334002 HO359 BK332 BK333 BK339 BK356 HB; have HO_333002 := n0_; have HO_334002 := n1_; have HO359 := n2_; have BK332 := n3_; have BK333 := n4_; have BK339 := n5_; have BK356 := n6_; have HB := n7_; clear n0_ n1_ n2_ n3_ n4_ n5_ n6_ n7_; (try clear hb); (try clear hb2); (try clear hk); (try clear hi)))
            go_ret
            exact ⟨by first | rfl | (simp [errW_none, errW_some] <;> rfl) | (simp only [← hji67, ← hji72]; first | rfl | (simp [errW_none, errW_some] <;> rfl)) | (simp [*, errW_none, errW_some] <;> rfl), by repeat (first | (with_reducible first | exact HB.out | apply below_alloc | apply pw_below_drewN | apply below_drew1 | refine below_set ?_ GE332.out | refine below_set ?_ GE333.out | refine below_set ?_ GE339.out | refine below_set ?_ GE356.out) | exact HB.out)⟩
          rw [if_neg c74] at H
          exact absurd H (by simp)
        rw [if_neg c73] at H
        exact absurd H (by simp)
      rw [if_neg c71] at H
      have c71b0 : decide (0 < (ji67)) = false := decide_eq_false c71
      clear c71
      obtain rfl := Option.some.inj H
      have hnb91 := NB339_332.out
      have hnc91 := NB332_339.out
      have hnb92 := NB339_333.out
      have hnc92 := NB333_339.out
      have hcz93_0 : wc.cell? ⟨gb339, 0, none⟩ = some (.string t334) := (blk_cell BK339.out 0).trans rfl
      have hcz93_1 : wc.cell? ⟨gb339, 1, none⟩ = some (.bool t335) := (blk_cell BK339.out 1).trans rfl
      have hcz93_2 : wc.cell? ⟨gb339, 2, none⟩ = some (.slice Ao22 t336.length co22) := (blk_cell BK339.out 2).trans rfl
      have hfz93_0 := blk_frozen BK339.out 0
      have hfz93_1 := blk_frozen BK339.out 1
      have hfz93_2 := blk_frozen BK339.out 2
      go_wp2_with (first | ((with_reducible refine gate_dst (N := 11) rfl ?_); (try (refine gate_guard (by rfl) ?_; dsimp only)); refine box_event ?hg (N := 11) ?hd (cs := #[.string (⟨#[]⟩ : ByteArray), .bool false, .slice none 0 0]) (t := 30) ?hr ?_; (case hd => rfl); (case hg => rfl); (case hr => first | (go_simp; done) | (go_simp; rfl)); intro gb356 hg w94 hbox hb; have n0_ := Aside0.mk (Kd.R_below (by (with_reducible repeat (first | apply Kd.R_alloc | apply Kd.R_drewN | apply Kd.R_drew)); exact HO_333002.out) hb); have n1_ := Aside0.mk (Kd.R_below (by (with_reducible repeat (first | apply Kd.R_alloc | apply Kd.R_drewN | apply Kd.R_drew)); exact HO_334002.out) hb); have n2_ := Aside0.mk (Kd.R_below (by (with_reducible repeat (first | apply Kd.R_alloc | apply Kd.R_drewN | apply Kd.R_drew)); exact HO_340002.out) hb); have n3_ := Aside0.mk (blk_below (g := gb332) (o := .cells #[.string t322, .bool t323, .slice Ao14 t324.length co14] 30 (0, 0)) (by exact BK332.out) hb); have n4_ := Aside0.mk (blk_below (g := gb333) (o := .cells #[.string t327, .bool t328, .slice Ao16 t329.length co16] 30 (0, 0)) (by exact BK333.out) hb); have n5_ := Aside0.mk (blk_below (g := gb339) (o := .cells #[.string t334, .bool t335, .slice Ao22 t336.length co22] 30 (0, 0)) (by exact BK339.out) hb); have n6_ := Aside0.mk (below_step (by repeat (first | (with_reducible first | exact HB.out | apply below_alloc | apply pw_below_drewN | apply below_drew1 | refine below_set ?_ GE332.out | refine below_set ?_ GE333.out | refine below_set ?_ GE339.out) | exact HB.out)) hb); have n7_ := Aside0.mk (hbox); have n8_ := Aside0.mk ((by rw [hg]; exact (below_size (by repeat (first | (with_reducible first | exact HB.out | apply below_alloc | apply pw_below_drewN | apply below_drew1 | refine below_set ?_ GE332.out | refine below_set ?_ GE333.out | refine below_set ?_ GE339.out) | exact HB.out))) : w.heap.size ≤ gb356)); have n9_ := Aside0.mk ((by rw [hg]; exact (below_size (by repeat (first | (with_reducible first | exact HB.out | apply below_alloc | apply pw_below_drewN | apply below_drew1 | refine below_set ?_ GE332.out | refine below_set ?_ GE333.out | refine below_set ?_ GE339.out) | exact HB.out))) : w.heap.size ≤ gb356)); have n10_ := Aside0.mk ((by rw [hg]; exact Nat.ne_of_lt (blk_lt (g := gb332) (o := .cells #[.string t322, .bool t323, .slice Ao14 t324.length co14] 30 (0, 0)) (by exact BK332.out)) : gb332 ≠ gb356)); have n11_ := Aside0.mk ((by rw [hg]; exact Nat.ne_of_gt (blk_lt (g := gb332) (o := .cells #[.string t322, .bool t323, .slice Ao14 t324.length co14] 30 (0, 0)) (by exact BK332.out)) : gb356 ≠ gb332)); have n12_ := Aside0.mk ((by rw [hg]; exact Nat.ne_of_lt (blk_lt (g := gb333) (o := .cells #[.string t327, .bool t328, .slice Ao16 t329.length co16] 30 (0, 0)) (by exact BK333.out)) : gb333 ≠ gb356)); have n13_ := Aside0.mk ((by rw [hg]; exact Nat.ne_of_gt (blk_lt (g := gb333) (o := .cells #[.string t327, .bool t328, .slice Ao16 t329.length co16] 30 (0, 0)) (by exact BK333.out)) : gb356 ≠ gb333)); have n14_ := Aside0.mk ((by rw [hg]; exact Nat.ne_of_lt (blk_lt (g := gb339) (o := .cells #[.string t334, .bool t335, .slice Ao22 t336.length co22] 30 (0, 0)) (by exact BK339.out)) : gb339 ≠ gb356)); have n15_ := Aside0.mk ((by rw [hg]; exact Nat.ne_of_gt (blk_lt (g := gb339) (o := .cells #[.string t334, .bool t335, .slice Ao22 t336.length co22] 30 (0, 0)) (by exact BK339.out)) : gb356 ≠ gb339)); clear HO_333002 HO_334002 HO_340002 BK332 BK333 BK339 HB; have HO_333002 := n0_; have HO_334002 := n1_; have HO_340002 := n2_; have BK332 := n3_; have BK333 := n4_; have BK339 := n5_; have HB := n6_; have BK356 := n7_; have GW356 := n8_; have GE356 := n9_; have NB332_356 := n10_; have NB356_332 := n11_; have NB333_356 := n12_; have NB356_333 := n13_; have NB339_356 := n14_; have NB356_339 := n15_; clear n0_ n1_ n2_ n3_ n4_ n5_ n6_ n7_ n8_ n9_ n10_ n11_ n12_ n13_ n14_ n15_ hb hbox hg; have hnb95 := NB356_332.out; have hnc95 := NB332_356.out; have hnb96 := NB356_333.out; have hnc96 := NB333_356.out; have hnb97 := NB356_339.out; have hnc97 := NB339_356.out; have hcz98_0 : w94.cell? ⟨gb356, 0, none⟩ = some (.string (⟨#[]⟩ : ByteArray)) := (blk_cell BK356.out 0).trans rfl; have hcz98_1 : w94.cell? ⟨gb356, 1, none⟩ = some (.bool false) := (blk_cell BK356.out 1).trans rfl; have hcz98_2 : w94.cell? ⟨gb356, 2, none⟩ = some (.slice none 0 0) := (blk_cell BK356.out 2).trans rfl; have hfz98_0 := blk_frozen BK356.out 0; have hfz98_1 := blk_frozen BK356.out 1; have hfz98_2 := blk_frozen BK356.out 2) | ((with_reducible refine gate_store (t := 30) (p := 11) rfl ?_); refine store_event (t := 30) (p := 11) (v := ?vo_w99) (w1 := (((w94.setCell ⟨gb356, 0, none⟩ (.string t334)).setCell ⟨gb356, 1, none⟩ (.bool t335)).setCell ⟨gb356, 2, none⟩ (.slice Ao22 t336.length co22))) ?hg ?ho ?hn ?hr ?_; (case ho => rfl); (case hg => rfl); (case hn => rfl); (case hr => first | (go_simp; done) | (go_simp; rfl) | ((try (obtain ⟨_, _, e_⟩ := Kd.R_slice HO_333002.out; subst e_)); (try (obtain ⟨_, _, e_⟩ := Kd.R_slice HO_334002.out; subst e_)); (try (obtain ⟨_, _, e_⟩ := Kd.R_slice HO_340002.out; subst e_)); first | (go_simp; done) | (go_simp; rfl))); intro w99 hw; have n0_ : Aside0 (Kd.R k38 38 w99 w.heap.size (fun k_ => some k_ ≠ (.slice Ao16 t329.length co16 : Value).ownBlock ∧ some k_ ≠ (.slice Ao22 t336.length co22 : Value).ownBlock) (.slice Ao14 t324.length co14) t324) := ⟨(by rw [hw]; exact (by (with_reducible repeat (first | apply Kd.R_alloc | apply Kd.R_drewN | apply Kd.R_drew)); exact Kd.R_mono (Kd.R_far (p := ⟨gb356, 2, none⟩) (Kd.R_far (p := ⟨gb356, 1, none⟩) (Kd.R_far (p := ⟨gb356, 0, none⟩) (Kd.R_types HO_333002.out BK356.out (by decide)) (fun _ hk => hk.2) (.string t334)) (fun _ hk => hk.2) (.bool t335)) (fun _ hk => hk.2) (.slice Ao22 t336.length co22)) (fun _ hk => ⟨hk.1.1, hk.1.2⟩)))⟩; have n1_ : Aside0 (Kd.R k38 38 w99 w.heap.size (fun k_ => some k_ ≠ (.slice Ao14 t324.length co14 : Value).ownBlock ∧ some k_ ≠ (.slice Ao22 t336.length co22 : Value).ownBlock) (.slice Ao16 t329.length co16) t329) := ⟨(by rw [hw]; exact (by (with_reducible repeat (first | apply Kd.R_alloc | apply Kd.R_drewN | apply Kd.R_drew)); exact Kd.R_mono (Kd.R_far (p := ⟨gb356, 2, none⟩) (Kd.R_far (p := ⟨gb356, 1, none⟩) (Kd.R_far (p := ⟨gb356, 0, none⟩) (Kd.R_types HO_334002.out BK356.out (by decide)) (fun _ hk => hk.2) (.string t334)) (fun _ hk => hk.2) (.bool t335)) (fun _ hk => hk.2) (.slice Ao22 t336.length co22)) (fun _ hk => ⟨hk.1.1, hk.1.2⟩)))⟩; have n2_ : Aside0 (Kd.R k38 38 w99 w.heap.size (fun k_ => some k_ ≠ (.slice Ao14 t324.length co14 : Value).ownBlock ∧ some k_ ≠ (.slice Ao16 t329.length co16 : Value).ownBlock) (.slice Ao22 t336.length co22) t336) := ⟨(by rw [hw]; exact (by (with_reducible repeat (first | apply Kd.R_alloc | apply Kd.R_drewN | apply Kd.R_drew)); exact Kd.R_mono (Kd.R_far (p := ⟨gb356, 2, none⟩) (Kd.R_far (p := ⟨gb356, 1, none⟩) (Kd.R_far (p := ⟨gb356, 0, none⟩) (Kd.R_types HO_340002.out BK356.out (by decide)) (fun _ hk => hk.2) (.string t334)) (fun _ hk => hk.2) (.bool t335)) (fun _ hk => hk.2) (.slice Ao22 t336.length co22)) (fun _ hk => ⟨hk.1.1, hk.1.2⟩)))⟩; have n3_ : Aside0 (w99.heap[gb332]? = some (.cells #[.string t322, .bool t323, .slice Ao14 t324.length co14] 30 (0, 0))) := ⟨(by rw [hw]; exact (by refine blk_far ?_ NB332_356.out _; refine blk_far ?_ NB332_356.out _; refine blk_far ?_ NB332_356.out _; exact BK332.out))⟩; have n4_ : Aside0 (w99.heap[gb333]? = some (.cells #[.string t327, .bool t328, .slice Ao16 t329.length co16] 30 (0, 0))) := ⟨(by rw [hw]; exact (by refine blk_far ?_ NB333_356.out _; refine blk_far ?_ NB333_356.out _; refine blk_far ?_ NB333_356.out _; exact BK333.out))⟩; have n5_ : Aside0 (w99.heap[gb339]? = some (.cells #[.string t334, .bool t335, .slice Ao22 t336.length co22] 30 (0, 0))) := ⟨(by rw [hw]; exact (by refine blk_far ?_ NB339_356.out _; refine blk_far ?_ NB339_356.out _; refine blk_far ?_ NB339_356.out _; exact BK339.out))⟩; have n6_ : Aside0 (w99.heap[gb356]? = some (.cells #[.string t334, .bool t335, .slice Ao22 t336.length co22] 30 (0, 0))) := ⟨(by rw [hw]; exact (by refine blk_put (cs := #[.string t334, .bool t335, .slice none 0 0]) ?_ 2 _ rfl; refine blk_put (cs := #[.string t334, .bool false, .slice none 0 0]) ?_ 1 _ rfl; refine blk_put (cs := #[.string (⟨#[]⟩ : ByteArray), .bool false, .slice none 0 0]) ?_ 0 _ rfl; exact BK356.out))⟩; have n7_ : Aside0 (Below w.heap.size w w99) := ⟨(by rw [hw]; exact (by repeat (first | (with_reducible first | exact HB.out | apply below_alloc | apply pw_below_drewN | apply below_drew1 | refine below_set ?_ GE332.out | refine below_set ?_ GE333.out | refine below_set ?_ GE339.out | refine below_set ?_ GE356.out) | exact HB.out)))⟩; clear hw HO_333002 HO_334002 HO_340002 BK332 BK333 BK339 BK356 HB; have HO_333002 := n0_; have HO_334002 := n1_; have HO_340002 := n2_; have BK332 := n3_; have BK333 := n4_; have BK339 := n5_; have BK356 := n6_; have HB := n7_; clear n0_ n1_ n2_ n3_ n4_ n5_ n6_ n7_; have hcz100_0 : w99.cell? ⟨gb339, 0, none⟩ = some (.string t334) := (blk_cell BK339.out 0).trans rfl; have hcz100_1 : w99.cell? ⟨gb339, 1, none⟩ = some (.bool t335) := (blk_cell BK339.out 1).trans rfl; have hcz100_2 : w99.cell? ⟨gb339, 2, none⟩ = some (.slice Ao22 t336.length co22) := (blk_cell BK339.out 2).trans rfl; have hfz100_0 := blk_frozen BK339.out 0; have hfz100_1 := blk_frozen BK339.out 1; have hfz100_2 := blk_frozen BK339.out 2; have q101 : ((ji67) : Int) ≤ ((t336.length : Int) : Int) := of_decide_eq_true (by first | (with_reducible assumption) | assumption); obtain ⟨i0101, hi0101, _, hsz101, _⟩ := info_parts info38; have hcut101 := cut_to (P := Try.prog) 28 38 .i64 Try.underlying28 hi0101 Ao22 t336.length co22 (ji67) (of_decide_eq_true (by first | (with_reducible assumption) | assumption)) q101 (Kd.R_reads' HO_340002.out).2.1; have hr101 := Kd.R_take (m := ((ji67) : Int).toNat) HO_340002.out (by omega); have hy101 : y357.length = ((ji67) : Int).toNat := (by rw [Ny357.out, List.length_take]; omega); rw [← Ny357.out] at hr101; rw [← hy101] at hr101 hcut101; clear hy101 hi0101 hsz101 HO_340002; have HO359 := Aside0.mk hr101; clear hr101; replace q101 := eq_true q101; have hcz102_0 : w99.cell? ⟨gb356, 0, none⟩ = some (.string t334) := (blk_cell BK356.out 0).trans rfl; have hcz102_1 : w99.cell? ⟨gb356, 1, none⟩ = some (.bool t335) := (blk_cell BK356.out 1).trans rfl; have hcz102_2 : w99.cell? ⟨gb356, 2, none⟩ = some (.slice Ao22 t336.length co22) := (blk_cell BK356.out 2).trans rfl; have hfz102_0 := blk_frozen BK356.out 0; have hfz102_1 := blk_frozen BK356.out 1; have hfz102_2 := blk_frozen BK356.out 2) | ((with_reducible refine gate_callee (f := 28) rfl ?_); refine goesL_ (some 99) rfl rfl Try.func28 (by kernel_rfl) rfl #[.agg #[.string t334, .bool t335, .slice Ao22 y357.length co22]] rfl (by (try simp only [List.map_toArray, List.map_cons, List.map_nil]); first | done | rfl | (simp only [List.length_drop, List.length_take]; rfl)) ?_; (with_reducible refine (impl_FunOk.calls t334 t335 _ _ y357 t360 _ ?side1 ?side2 A70.out).mono ?_); (case side1 => refine (Kd.R_reads' (e := 38) (base := w.heap.size) (ok := fun k_ => (some k_ ≠ (.slice Ao14 t324.length co14 : Value).ownBlock ∧ some k_ ≠ (.slice Ao16 t329.length co16 : Value).ownBlock)) (n := y357.length) (c := co22) ?_).2.2; exact (by (with_reducible repeat (first | apply Kd.R_alloc | apply Kd.R_drewN | apply Kd.R_drew)); exact (Kd.R_mono (Kd.R_far (p := ⟨gb356, 2, none⟩) (Kd.R_types HO359.out BK356.out (by decide)) (fun _ hk => hk.2) (.slice Ao22 y357.length co22)) (fun _ h_ => h_.1)))); (case side2 => exact (Kd.R_reads' HO359.out).2.1); rintro e w103 ⟨rfl, hb⟩; refine ⟨_, rfl, ?_⟩; have n0_ := Aside0.mk (Kd.R_below (by (with_reducible repeat (first | apply Kd.R_alloc | apply Kd.R_drewN | apply Kd.R_drew)); exact (Kd.R_mono (Kd.R_far (p := ⟨gb356, 2, none⟩) (Kd.R_types HO_333002.out BK356.out (by decide)) (fun _ hk => hk.2) (.slice Ao22 y357.length co22)) (fun _ h_ => h_.1))) hb); have n1_ := Aside0.mk (Kd.R_below (by (with_reducible repeat (first | apply Kd.R_alloc | apply Kd.R_drewN | apply Kd.R_drew)); exact (Kd.R_mono (Kd.R_far (p := ⟨gb356, 2, none⟩) (Kd.R_types HO_334002.out BK356.out (by decide)) (fun _ hk => hk.2) (.slice Ao22 y357.length co22)) (fun _ h_ => h_.1))) hb); have n2_ := Aside0.mk (Kd.R_below (by (with_reducible repeat (first | apply Kd.R_alloc | apply Kd.R_drewN | apply Kd.R_drew)); exact (Kd.R_mono (Kd.R_far (p := ⟨gb356, 2, none⟩) (Kd.R_types HO359.out BK356.out (by decide)) (fun _ hk => hk.2) (.slice Ao22 y357.length co22)) (fun _ h_ => h_.1))) hb); have n3_ := Aside0.mk (blk_below (g := gb332) (o := .cells #[.string t322, .bool t323, .slice Ao14 t324.length co14] 30 (0, 0)) (by refine blk_far ?_ NB332_356.out _; exact BK332.out) hb); have n4_ := Aside0.mk (blk_below (g := gb333) (o := .cells #[.string t327, .bool t328, .slice Ao16 t329.length co16] 30 (0, 0)) (by refine blk_far ?_ NB333_356.out _; exact BK333.out) hb); have n5_ := Aside0.mk (blk_below (g := gb339) (o := .cells #[.string t334, .bool t335, .slice Ao22 t336.length co22] 30 (0, 0)) (by refine blk_far ?_ NB339_356.out _; exact BK339.out) hb); have n6_ := Aside0.mk (blk_below (g := gb356) (o := .cells #[.string t334, .bool t335, .slice Ao22 y357.length co22] 30 (0, 0)) (by refine blk_put (cs := #[.string t334, .bool t335, .slice Ao22 t336.length co22]) ?_ 2 _ rfl; exact BK356.out) hb); have n7_ := Aside0.mk (below_step (by repeat (first | (with_reducible first | exact HB.out | apply below_alloc | apply pw_below_drewN | apply below_drew1 | refine below_set ?_ GE332.out | refine below_set ?_ GE333.out | refine below_set ?_ GE339.out | refine below_set ?_ GE356.out) | exact HB.out)) hb); clear HO_333002 HO_334002 HO359 BK332 BK333 BK339 BK356 HB; have HO_333002 := n0_; have HO_334002 := n1_; have HO359 := n2_; have BK332 := n3_; have BK333 := n4_; have BK339 := n5_; have BK356 := n6_; have HB := n7_; clear n0_ n1_ n2_ n3_ n4_ n5_ n6_ n7_; (try clear hb); (try clear hb2); (try clear hk); (try clear hi)))
      go_ret
      exact ⟨by first | rfl | (simp [errW_none, errW_some] <;> rfl) | (simp only [← hji67]; first | rfl | (simp [errW_none, errW_some] <;> rfl)) | (simp [*, errW_none, errW_some] <;> rfl), by repeat (first | (with_reducible first | exact HB.out | apply below_alloc | apply pw_below_drewN | apply below_drew1 | refine below_set ?_ GE332.out | refine below_set ?_ GE333.out | refine below_set ?_ GE339.out | refine below_set ?_ GE356.out) | exact HB.out)⟩
    rw [if_neg c69] at H
    exact absurd H (by simp)
  rw [if_neg c68] at H
  exact absurd H (by simp)
 clear HC57; try clear q1; try clear c2; try clear p2; try clear c3; try clear p3; try clear q3; try clear hx3; try clear c5; try clear c6; try clear p6; try clear c7; try clear c8; try clear q8; try clear c9; try clear q10; try clear c22; try clear c26; try clear c27; try clear c28; try clear c33; try clear p36; try clear q36; try clear hx36; try clear c56; try clear c59; try clear c59b0; try clear c62; try clear c63; try clear p64; try clear c66; try clear c68; try clear c68b0; try clear c68b1; try clear c69; try clear c69b0; try clear c69b1; try clear c71; try clear c71b0; try clear c73; try clear c73b0; try clear c74; try clear c74b0; try clear c76; try clear c77; try clear c80; try clear c81; try clear c82; try clear q86; try clear c91; try clear c92; try clear c95; try clear c96; try clear c97; try clear q101; try clear hcz100_0; try clear hcz100_1; try clear hcz100_2; try clear hcz102_0; try clear hcz102_1; try clear hcz102_2; try clear hcz64_0; try clear hcz64_1; try clear hcz64_2; try clear hcz78_0; try clear hcz78_1; try clear hcz78_2; try clear hcz83_0; try clear hcz83_1; try clear hcz83_2; try clear hcz85_0; try clear hcz85_1; try clear hcz85_2; try clear hcz87_0; try clear hcz87_1
 try clear hcz87_2; try clear hcz89_0; try clear hcz89_1; try clear hcz89_2; try clear hcz93_0; try clear hcz93_1; try clear hcz93_2; try clear hcz98_0; try clear hcz98_1; try clear hcz98_2; try clear hfz100_0; try clear hfz100_1; try clear hfz100_2; try clear hfz102_0; try clear hfz102_1; try clear hfz102_2; try clear hfz64_0; try clear hfz64_1; try clear hfz64_2; try clear hfz78_0; try clear hfz78_1; try clear hfz78_2; try clear hfz83_0; try clear hfz83_1; try clear hfz83_2; try clear hfz85_0; try clear hfz85_1; try clear hfz85_2; try clear hfz87_0; try clear hfz87_1; try clear hfz87_2; try clear hfz89_0; try clear hfz89_1; try clear hfz89_2; try clear hfz93_0; try clear hfz93_1; try clear hfz93_2; try clear hfz98_0; try clear hfz98_1; try clear hfz98_2; try clear hx361_0; try clear hx361_1; try clear hx361_2; try clear p2; try clear p361; try clear p6; try clear p64; try clear q101; try clear q361; try clear q86
 obtain ⟨kq, HA, HJ56, HO_6, HO_7, HO_333002, HO_334002, HO_340002, BK332, BK333, BK339, HB⟩ := hcut
 obtain _ | kj56 := kq
 · exact absurd HA.out (by simp [laws_FnFun.j4])
 have H := HA.out
 clear HA
 simp only [laws_FnFun.j4] at H
 have H' := Aside0.mk H
 clear H
 go_wp2
 go_loopg [9] kj56 (fun kq v9 w' => ∃ (x9_6 : Int), v9 = .int .i64 x9_6 ∧ Aside0 (laws_FnFun.l1 kq t340 t343 x8_4 x9_6 t334 t335 t336 = some r) ∧ Aside0 (kq ≤ kj56) ∧ Aside0 (Kd.R Kd.string 9 w' w.heap.size (fun k_ => some k_ ≠ (v344 : Value).ownBlock) (.slice Ao58 t340.length co58) t340) ∧ Aside0 (Kd.R Kd.string 9 w' w.heap.size (fun k_ => some k_ ≠ ((.slice Ao58 t340.length co58) : Value).ownBlock) v344 t343) ∧ Aside0 (Kd.R k38 38 w' w.heap.size (fun k_ => some k_ ≠ ((.slice Ao16 t329.length co16) : Value).ownBlock ∧ some k_ ≠ ((.slice Ao22 t336.length co22) : Value).ownBlock) (.slice Ao14 t324.length co14) t324) ∧ Aside0 (Kd.R k38 38 w' w.heap.size (fun k_ => some k_ ≠ ((.slice Ao14 t324.length co14) : Value).ownBlock ∧ some k_ ≠ ((.slice Ao22 t336.length co22) : Value).ownBlock) (.slice Ao16 t329.length co16) t329) ∧ Aside0 (Kd.R k38 38 w' w.heap.size (fun k_ => some k_ ≠ ((.slice Ao14 t324.length co14) : Value).ownBlock ∧ some k_ ≠ ((.slice Ao16 t329.length co16) : Value).ownBlock) (.slice Ao22 t336.length co22) t336) ∧ Aside0 (w'.heap[gb332]? = some (.cells #[.string t322, .bool t323, (.slice Ao14 t324.length co14)] 30 (0, 0))) ∧ Aside0 (w'.heap[gb333]? = some (.cells #[.string t327, .bool t328, (.slice Ao16 t329.length co16)] 30 (0, 0))) ∧ Aside0 (w'.heap[gb339]? = some (.cells #[.string t334, .bool t335, (.slice Ao22 t336.length co22)] 30 (0, 0))) ∧ Aside0 (Below w.heap.size w w'))
 case atStart => exact ⟨(0), (by first | rfl | (simp; done) | (simp [*]; done)), H', ⟨Nat.le_refl _⟩, ⟨by (with_reducible repeat (first | apply Kd.R_alloc | apply Kd.R_drewN | apply Kd.R_drew)); exact HO_6.out⟩, ⟨by (with_reducible repeat (first | apply Kd.R_alloc | apply Kd.R_drewN | apply Kd.R_drew)); exact HO_7.out⟩, ⟨by (with_reducible repeat (first | apply Kd.R_alloc | apply Kd.R_drewN | apply Kd.R_drew)); exact HO_333002.out⟩, ⟨by (with_reducible repeat (first | apply Kd.R_alloc | apply Kd.R_drewN | apply Kd.R_drew)); exact HO_334002.out⟩, ⟨by (with_reducible repeat (first | apply Kd.R_alloc | apply Kd.R_drewN | apply Kd.R_drew)); exact HO_340002.out⟩, ⟨by exact BK332.out⟩, ⟨by exact BK333.out⟩, ⟨by exact BK339.out⟩, ⟨by repeat (first | (with_reducible first | exact HB.out | apply below_alloc | apply pw_below_drewN | apply below_drew1 | refine below_set ?_ GE332.out | refine below_set ?_ GE333.out | refine below_set ?_ GE339.out) | exact HB.out)⟩⟩
 clear H'
 try clear q1; try clear c2; try clear p2; try clear c3; try clear p3; try clear q3; try clear hx3; try clear c5; try clear c6; try clear p6; try clear c7; try clear c8; try clear q8; try clear c9; try clear q10; try clear c22; try clear c26; try clear c27; try clear c28; try clear c33; try clear p36; try clear q36; try clear hx36; try clear c56; try clear c59; try clear c59b0; try clear c62; try clear c63; try clear p64; try clear c66; try clear c68; try clear c68b0; try clear c68b1; try clear c69; try clear c69b0; try clear c69b1; try clear c71; try clear c71b0; try clear c73; try clear c73b0; try clear c74; try clear c74b0; try clear c76; try clear c77; try clear c80; try clear c81; try clear c82; try clear q86; try clear c91; try clear c92; try clear c95; try clear c96; try clear c97; try clear q101; try clear hcz100_0; try clear hcz100_1; try clear hcz100_2; try clear hcz102_0; try clear hcz102_1; try clear hcz102_2; try clear hcz64_0; try clear hcz64_1; try clear hcz64_2; try clear hcz78_0; try clear hcz78_1; try clear hcz78_2; try clear hcz83_0; try clear hcz83_1; try clear hcz83_2; try clear hcz85_0; try clear hcz85_1; try clear hcz85_2; try clear hcz87_0; try clear hcz87_1; try clear hcz87_2
 try clear hcz89_0; try clear hcz89_1; try clear hcz89_2; try clear hcz93_0; try clear hcz93_1; try clear hcz93_2; try clear hcz98_0; try clear hcz98_1; try clear hcz98_2; try clear hfz100_0; try clear hfz100_1; try clear hfz100_2; try clear hfz102_0; try clear hfz102_1; try clear hfz102_2; try clear hfz64_0; try clear hfz64_1; try clear hfz64_2; try clear hfz78_0; try clear hfz78_1; try clear hfz78_2; try clear hfz83_0; try clear hfz83_1; try clear hfz83_2; try clear hfz85_0; try clear hfz85_1; try clear hfz85_2; try clear hfz87_0; try clear hfz87_1; try clear hfz87_2; try clear hfz89_0; try clear hfz89_1; try clear hfz89_2; try clear hfz93_0; try clear hfz93_1; try clear hfz93_2; try clear hfz98_0; try clear hfz98_1; try clear hfz98_2; try clear hx361_0; try clear hx361_1; try clear hx361_2; try clear p2; try clear p3; try clear p36; try clear p361; try clear p6; try clear p64; try clear q1; try clear q10; try clear q101; try clear q3; try clear q36; try clear q361; try clear q8; try clear q86
 obtain ⟨x9_6, rfl, HA, HK6, HO_6, HO_7, HO_333002, HO_334002, HO_340002, BK332, BK333, BK339, HB⟩ := hrel
 obtain _ | k6 := gk
 · exact absurd HA.out (by simp [laws_FnFun.l1])
 have H := HA.out
 clear HA
 simp only [laws_FnFun.l1] at H
 have HC104 := Aside0.mk H; clear H
 go_upto_if 61 with (fail)
 go_cut [] (fun wc => ∃ (kq : Nat), Aside0 (laws_FnFun.j6 kq t340 t343 x8_4 x9_6 t334 t335 t336 = some r) ∧ Aside0 (kq ≤ k6) ∧ Aside0 (Kd.R Kd.string 9 wc w.heap.size (fun k_ => some k_ ≠ (v344 : Value).ownBlock) (.slice Ao58 t340.length co58) t340) ∧ Aside0 (Kd.R Kd.string 9 wc w.heap.size (fun k_ => some k_ ≠ ((.slice Ao58 t340.length co58) : Value).ownBlock) v344 t343) ∧ Aside0 (Kd.R k38 38 wc w.heap.size (fun k_ => some k_ ≠ ((.slice Ao16 t329.length co16) : Value).ownBlock ∧ some k_ ≠ ((.slice Ao22 t336.length co22) : Value).ownBlock) (.slice Ao14 t324.length co14) t324) ∧ Aside0 (Kd.R k38 38 wc w.heap.size (fun k_ => some k_ ≠ ((.slice Ao14 t324.length co14) : Value).ownBlock ∧ some k_ ≠ ((.slice Ao22 t336.length co22) : Value).ownBlock) (.slice Ao16 t329.length co16) t329) ∧ Aside0 (Kd.R k38 38 wc w.heap.size (fun k_ => some k_ ≠ ((.slice Ao14 t324.length co14) : Value).ownBlock ∧ some k_ ≠ ((.slice Ao16 t329.length co16) : Value).ownBlock) (.slice Ao22 t336.length co22) t336) ∧ Aside0 (wc.heap[gb332]? = some (.cells #[.string t322, .bool t323, (.slice Ao14 t324.length co14)] 30 (0, 0))) ∧ Aside0 (wc.heap[gb333]? = some (.cells #[.string t327, .bool t328, (.slice Ao16 t329.length co16)] 30 (0, 0))) ∧ Aside0 (wc.heap[gb339]? = some (.cells #[.string t334, .bool t335, (.slice Ao22 t336.length co22)] 30 (0, 0))) ∧ Aside0 (Below w.heap.size w wc))
 case first =>
  have H := HC104.out
  clear HC104
  by_cases c105 : x9_6 < x8_4
  · rw [if_pos c105] at H
    have c105b0 : decide (x9_6 < x8_4) = true := decide_eq_true c105
    clear c105
    (first | rw [c105b0] | (simp only [i64_w, i32_w]; rw [c105b0]) | (have cn_ := c105b0; simp only [bne] at cn_; rw [cn_]; clear cn_) | skip)
    have H' := Aside0.mk H
    clear H
    go_wp2
    go_meet
    case rel => exact ⟨_, H', ⟨by have := HJ1.out; have := HJ7.out; have := HJ54.out; have := HK4.out; have := HJ56.out; have := HK6.out; first | omega | exact Nat.le_refl _⟩, ⟨by (with_reducible repeat (first | apply Kd.R_alloc | apply Kd.R_drewN | apply Kd.R_drew)); exact HO_6.out⟩, ⟨by (with_reducible repeat (first | apply Kd.R_alloc | apply Kd.R_drewN | apply Kd.R_drew)); exact HO_7.out⟩, ⟨by (with_reducible repeat (first | apply Kd.R_alloc | apply Kd.R_drewN | apply Kd.R_drew)); exact HO_333002.out⟩, ⟨by (with_reducible repeat (first | apply Kd.R_alloc | apply Kd.R_drewN | apply Kd.R_drew)); exact HO_334002.out⟩, ⟨by (with_reducible repeat (first | apply Kd.R_alloc | apply Kd.R_drewN | apply Kd.R_drew)); exact HO_340002.out⟩, ⟨by exact BK332.out⟩, ⟨by exact BK333.out⟩, ⟨by exact BK339.out⟩, ⟨by repeat (first | (with_reducible first | exact HB.out | apply below_alloc | apply pw_below_drewN | apply below_drew1 | refine below_set ?_ GE332.out | refine below_set ?_ GE333.out | refine below_set ?_ GE339.out) | exact HB.out)⟩⟩
  rw [if_neg c105] at H
  have c105b0 : decide (x9_6 < x8_4) = false := decide_eq_false c105
  clear c105
  (first | rw [c105b0] | (simp only [i64_w, i32_w]; rw [c105b0]) | (have cn_ := c105b0; simp only [bne] at cn_; rw [cn_]; clear cn_) | skip)
  by_cases c106 : 0 ≤ x8_4
  · rw [if_pos c106] at H
    have c106b0 : decide (0 ≤ x8_4) = true := decide_eq_true c106
    clear c106
    by_cases c107 : x8_4 < (t340.length : Int)
    · rw [if_pos c107] at H
      have c107b0 : decide (x8_4 < (t340.length : Int)) = true := decide_eq_true c107
      clear c107
      by_cases c108 : x8_4 < (t343.length : Int)
      · rw [if_pos c108] at H
        have c108b0 : decide (x8_4 < (t343.length : Int)) = true := decide_eq_true c108
        clear c108
        by_cases c109 : (rdOf ByteArray.empty t340 x8_4).toList = (rdOf ByteArray.empty t343 x8_4).toList
        · rw [if_pos c109] at H
          have c109b0 : ((rdOf ByteArray.empty t340 x8_4).toList == (rdOf ByteArray.empty t343 x8_4).toList) = true := beq_iff_eq.mpr c109
          have c109b1 : ((rdOf ByteArray.empty t340 x8_4).toList != (rdOf ByteArray.empty t343 x8_4).toList) = false := bne_eq_false_iff_eq.mpr c109
          clear c109
          have H' := Aside0.mk H
          clear H
          try go_wp2
          have n0_ := Aside0.mk (Kd.R_drew HO_6.out)
          have n1_ := Aside0.mk (Kd.R_drew HO_7.out)
          have n2_ := Aside0.mk (Kd.R_drew HO_333002.out)
          have n3_ := Aside0.mk (Kd.R_drew HO_334002.out)
          have n4_ := Aside0.mk (Kd.R_drew HO_340002.out)
          have n5_ := Aside0.mk (blk_drew BK332.out)
          have n6_ := Aside0.mk (blk_drew BK333.out)
          have n7_ := Aside0.mk (blk_drew BK339.out)
          have n8_ := Aside0.mk (below_drew1 HB.out)
          clear HO_6 HO_7 HO_333002 HO_334002 HO_340002 BK332 BK333 BK339; clear HB
          have HO_6 := n0_
          have HO_7 := n1_
          have HO_333002 := n2_
          have HO_334002 := n3_
          have HO_340002 := n4_
          have BK332 := n5_
          have BK333 := n6_
          have BK339 := n7_
          have HB := n8_
          clear n0_ n1_ n2_ n3_ n4_ n5_ n6_ n7_ n8_
          have p353 : 0 ≤ (x8_4 : Int) := of_decide_eq_true (by first | (with_reducible assumption) | assumption)
          have q353 : x8_4 < (t340.length : Int) := of_decide_eq_true (by first | (with_reducible assumption) | assumption)
          obtain ⟨ad353, e353, hx353_0⟩ := Kd.at_string (Kd.R_reads' HO_6.out).2.2 x8_4 p353 q353
          cases e353
          replace p353 := eq_true p353; replace q353 := eq_true q353
          obtain ⟨Ao111, co111, eo111⟩ := Kd.R_slice HO_7.out
          (first | subst eo111 | (injection eo111 with f1_ f2_ f3_; have f4_ := f1_.symm; have f5_ := f3_.symm; clear f1_ f2_ f3_; subst f4_; subst f5_))
          have p354 : 0 ≤ (x8_4 : Int) := of_decide_eq_true (by first | (with_reducible assumption) | assumption)
          have q354 : x8_4 < (t343.length : Int) := of_decide_eq_true (by first | (with_reducible assumption) | assumption)
          obtain ⟨ad354, e354, hx354_0⟩ := Kd.at_string (Kd.R_reads' HO_7.out).2.2 x8_4 p354 q354
          cases e354
          replace p354 := eq_true p354; replace q354 := eq_true q354
          refine start_ (n := 9) (S := fun w' => w'.cell? (ad353.add (x8_4).toNat) = some (.string (rdOf ByteArray.empty t340 x8_4)) ∧ w'.cell? (ad354.add (x8_4).toNat) = some (.string (rdOf ByteArray.empty t343 x8_4))) (ds := []) #[false, false, false, false, false, false, false, false, false] (by kernel_rfl) rfl rfl ⟨hx353_0, hx354_0⟩ (fun hHeld => ?_); refine with_tabW laws_FnFun.tab17 laws_FnFun.bits17 (fun HT_ HW_ => ?_)
          generalize wr.drew = w110 at HO_6 HO_7 HO_333002 HO_334002 HO_340002 BK332 BK333 BK339 HB hx353_0 hx354_0 hHeld ⊢
          refine pure_ (i := 0) (N := some 73) (v := ?_) (a' := ?_) #[true, false, false, false, false, false, false, false, false] rfl rfl (any_of HT_.out (by kernel_rfl)) (fun _ _ _ h => h) (Or.inl ⟨by rfl, ?_⟩) ?_ ?_
          rotate_left
          · intro w'
            go_simp
            with_reducible rfl
          rotate_left
          · simp only [Act.put, List.setIfInBounds_toArray, List.set_cons_zero, List.set_cons_succ, i64_w, i32_w]
            rfl
          refine pure_ (i := 1) (N := some 74) (v := ?_) (a' := ?_) #[true, true, false, false, false, false, false, false, false] rfl rfl (any_of HT_.out (by kernel_rfl)) (fun _ _ _ h => h) (Or.inl ⟨by rfl, ?_⟩) ?_ ?_
          rotate_left
          · intro w'
            go_simp
            with_reducible rfl
          rotate_left
          · simp only [Act.put, List.setIfInBounds_toArray, List.set_cons_zero, List.set_cons_succ, i64_w, i32_w]
            rfl
          refine pure_ (i := 2) (N := some 75) (v := ?_) (a' := ?_) #[true, true, true, false, false, false, false, false, false] rfl rfl (any_of HT_.out (by kernel_rfl)) (fun _ _ _ h => h) (Or.inl ⟨by rfl, ?_⟩) ?_ ?_
          rotate_left
          · intro w'
            go_simp
            with_reducible rfl
          rotate_left
          · simp only [Act.put, List.setIfInBounds_toArray, List.set_cons_zero, List.set_cons_succ, i64_w, i32_w]
            rfl
          refine pure_ (i := 4) (N := some 77) (v := ?_) (a' := ?_) #[true, true, true, false, true, false, false, false, false] rfl rfl (any_of HT_.out (by kernel_rfl)) (fun _ _ _ h => h) (Or.inl ⟨by rfl, ?_⟩) ?_ ?_
          rotate_left
          · intro w'
            go_simp
            with_reducible rfl
          rotate_left
          · simp only [Act.put, List.setIfInBounds_toArray, List.set_cons_zero, List.set_cons_succ, i64_w, i32_w]
            rfl
          refine pure_ (i := 5) (N := some 78) (v := ?_) (a' := ?_) #[true, true, true, false, true, true, false, false, false] rfl rfl (any_of HT_.out (by kernel_rfl)) (fun _ _ _ h => h) (Or.inl ⟨by rfl, ?_⟩) ?_ ?_
          rotate_left
          · intro w'
            go_simp
            with_reducible rfl
          rotate_left
          · simp only [Act.put, List.setIfInBounds_toArray, List.set_cons_zero, List.set_cons_succ, i64_w, i32_w]
            rfl
          refine pure_ (i := 6) (N := some 79) (v := ?_) (a' := ?_) #[true, true, true, false, true, true, true, false, false] rfl rfl (any_of HT_.out (by kernel_rfl)) (fun _ _ _ h => h) (Or.inl ⟨by rfl, ?_⟩) ?_ ?_
          rotate_left
          · intro w'
            go_simp
            with_reducible rfl
          rotate_left
          · simp only [Act.put, List.setIfInBounds_toArray, List.set_cons_zero, List.set_cons_succ, i64_w, i32_w]
            rfl
          refine take_ (i := 3) (N := some 76) (v := ?_) (a' := ?_) #[true, true, true, true, true, true, true, false, false] rfl rfl (take_ofW HT_.out HW_.out (by kernel_rfl)) (fun _ _ _ h => h) (Or.inl ⟨by rfl, ?_⟩) hHeld ?_ ?_
          rotate_left
          · rintro w' ⟨s0, s1⟩
            go_simp
            with_reducible rfl
          rotate_left
          · simp only [Act.put, List.setIfInBounds_toArray, List.set_cons_zero, List.set_cons_succ, i64_w, i32_w]
            rfl
          refine take_ (i := 7) (N := some 80) (v := ?_) (a' := ?_) #[true, true, true, true, true, true, true, true, false] rfl rfl (take_ofW HT_.out HW_.out (by kernel_rfl)) (fun _ _ _ h => h) (Or.inl ⟨by rfl, ?_⟩) hHeld ?_ ?_
          rotate_left
          · rintro w' ⟨s0, s1⟩
            go_simp
            with_reducible rfl
          rotate_left
          · simp only [Act.put, List.setIfInBounds_toArray, List.set_cons_zero, List.set_cons_succ, i64_w, i32_w]
            rfl
          refine pure_ (i := 8) (N := some 81) (v := ?_) (a' := ?_) #[true, true, true, true, true, true, true, true, true] rfl rfl (any_of HT_.out (by kernel_rfl)) (fun _ _ _ h => h) (Or.inl ⟨by rfl, ?_⟩) ?_ ?_
          rotate_left
          · intro w'
            go_simp
            with_reducible rfl
          rotate_left
          · simp only [Act.put, List.setIfInBounds_toArray, List.set_cons_zero, List.set_cons_succ, i64_w, i32_w]
            rfl
          refine done_ (done_of HT_.out (by kernel_rfl)) ?_
          try go_wp2
          go_roundg k6
          case measure => have := HJ1.out; have := HJ7.out; have := HJ54.out; have := HK4.out; have := HJ56.out; have := HK6.out; omega
          case rel => exact ⟨(wrap64 (x8_4 + 1)), (by first | rfl | (simp; done) | (simp [*]; done)), H', ⟨by have := HJ1.out; have := HJ7.out; have := HJ54.out; have := HK4.out; have := HJ56.out; have := HK6.out; omega⟩, ⟨by (with_reducible repeat (first | apply Kd.R_alloc | apply Kd.R_drewN | apply Kd.R_drew)); exact HO_6.out⟩, ⟨by (with_reducible repeat (first | apply Kd.R_alloc | apply Kd.R_drewN | apply Kd.R_drew)); exact HO_7.out⟩, ⟨by (with_reducible repeat (first | apply Kd.R_alloc | apply Kd.R_drewN | apply Kd.R_drew)); exact HO_333002.out⟩, ⟨by (with_reducible repeat (first | apply Kd.R_alloc | apply Kd.R_drewN | apply Kd.R_drew)); exact HO_334002.out⟩, ⟨by (with_reducible repeat (first | apply Kd.R_alloc | apply Kd.R_drewN | apply Kd.R_drew)); exact HO_340002.out⟩, ⟨by exact BK332.out⟩, ⟨by exact BK333.out⟩, ⟨by exact BK339.out⟩, ⟨by repeat (first | (with_reducible first | exact HB.out | apply below_alloc | apply pw_below_drewN | apply below_drew1 | refine below_set ?_ GE332.out | refine below_set ?_ GE333.out | refine below_set ?_ GE339.out) | exact HB.out)⟩⟩
        rw [if_neg c109] at H
        have c109b0 : ((rdOf ByteArray.empty t340 x8_4).toList == (rdOf ByteArray.empty t343 x8_4).toList) = false := beq_eq_false_iff_ne.mpr c109
        have c109b1 : ((rdOf ByteArray.empty t340 x8_4).toList != (rdOf ByteArray.empty t343 x8_4).toList) = true := bne_iff_ne.mpr c109
        obtain rfl := Option.some.inj H
        try go_wp2
        have n0_ := Aside0.mk (Kd.R_drew HO_6.out)
        have n1_ := Aside0.mk (Kd.R_drew HO_7.out)
        have n2_ := Aside0.mk (Kd.R_drew HO_333002.out)
        have n3_ := Aside0.mk (Kd.R_drew HO_334002.out)
        have n4_ := Aside0.mk (Kd.R_drew HO_340002.out)
        have n5_ := Aside0.mk (blk_drew BK332.out)
        have n6_ := Aside0.mk (blk_drew BK333.out)
        have n7_ := Aside0.mk (blk_drew BK339.out)
        have n8_ := Aside0.mk (below_drew1 HB.out)
        clear HO_6 HO_7 HO_333002 HO_334002 HO_340002 BK332 BK333 BK339; clear HB
        have HO_6 := n0_
        have HO_7 := n1_
        have HO_333002 := n2_
        have HO_334002 := n3_
        have HO_340002 := n4_
        have BK332 := n5_
        have BK333 := n6_
        have BK339 := n7_
        have HB := n8_
        clear n0_ n1_ n2_ n3_ n4_ n5_ n6_ n7_ n8_
        have p353 : 0 ≤ (x8_4 : Int) := of_decide_eq_true (by first | (with_reducible assumption) | assumption)
        have q353 : x8_4 < (t340.length : Int) := of_decide_eq_true (by first | (with_reducible assumption) | assumption)
        obtain ⟨ad353, e353, hx353_0⟩ := Kd.at_string (Kd.R_reads' HO_6.out).2.2 x8_4 p353 q353
        cases e353
        replace p353 := eq_true p353; replace q353 := eq_true q353
        obtain ⟨Ao113, co113, eo113⟩ := Kd.R_slice HO_7.out
        (first | subst eo113 | (injection eo113 with f1_ f2_ f3_; have f4_ := f1_.symm; have f5_ := f3_.symm; clear f1_ f2_ f3_; subst f4_; subst f5_))
        have p354 : 0 ≤ (x8_4 : Int) := of_decide_eq_true (by first | (with_reducible assumption) | assumption)
        have q354 : x8_4 < (t343.length : Int) := of_decide_eq_true (by first | (with_reducible assumption) | assumption)
        obtain ⟨ad354, e354, hx354_0⟩ := Kd.at_string (Kd.R_reads' HO_7.out).2.2 x8_4 p354 q354
        cases e354
        replace p354 := eq_true p354; replace q354 := eq_true q354
        refine start_ (n := 9) (S := fun w' => w'.cell? (ad353.add (x8_4).toNat) = some (.string (rdOf ByteArray.empty t340 x8_4)) ∧ w'.cell? (ad354.add (x8_4).toNat) = some (.string (rdOf ByteArray.empty t343 x8_4))) (ds := []) #[false, false, false, false, false, false, false, false, false] (by kernel_rfl) rfl rfl ⟨hx353_0, hx354_0⟩ (fun hHeld => ?_); refine with_tabW laws_FnFun.tab17 laws_FnFun.bits17 (fun HT_ HW_ => ?_)
        generalize wr.drew = w112 at HO_6 HO_7 HO_333002 HO_334002 HO_340002 BK332 BK333 BK339 HB hx353_0 hx354_0 hHeld ⊢
        refine pure_ (i := 0) (N := some 73) (v := ?_) (a' := ?_) #[true, false, false, false, false, false, false, false, false] rfl rfl (any_of HT_.out (by kernel_rfl)) (fun _ _ _ h => h) (Or.inl ⟨by rfl, ?_⟩) ?_ ?_
        rotate_left
        · intro w'
          go_simp
          with_reducible rfl
        rotate_left
        · simp only [Act.put, List.setIfInBounds_toArray, List.set_cons_zero, List.set_cons_succ, i64_w, i32_w]
          rfl
        refine pure_ (i := 1) (N := some 74) (v := ?_) (a' := ?_) #[true, true, false, false, false, false, false, false, false] rfl rfl (any_of HT_.out (by kernel_rfl)) (fun _ _ _ h => h) (Or.inl ⟨by rfl, ?_⟩) ?_ ?_
        rotate_left
        · intro w'
          go_simp
          with_reducible rfl
        rotate_left
        · simp only [Act.put, List.setIfInBounds_toArray, List.set_cons_zero, List.set_cons_succ, i64_w, i32_w]
          rfl
        refine pure_ (i := 2) (N := some 75) (v := ?_) (a' := ?_) #[true, true, true, false, false, false, false, false, false] rfl rfl (any_of HT_.out (by kernel_rfl)) (fun _ _ _ h => h) (Or.inl ⟨by rfl, ?_⟩) ?_ ?_
        rotate_left
        · intro w'
          go_simp
          with_reducible rfl
        rotate_left
        · simp only [Act.put, List.setIfInBounds_toArray, List.set_cons_zero, List.set_cons_succ, i64_w, i32_w]
          rfl
        refine pure_ (i := 4) (N := some 77) (v := ?_) (a' := ?_) #[true, true, true, false, true, false, false, false, false] rfl rfl (any_of HT_.out (by kernel_rfl)) (fun _ _ _ h => h) (Or.inl ⟨by rfl, ?_⟩) ?_ ?_
        rotate_left
        · intro w'
          go_simp
          with_reducible rfl
        rotate_left
        · simp only [Act.put, List.setIfInBounds_toArray, List.set_cons_zero, List.set_cons_succ, i64_w, i32_w]
          rfl
        refine pure_ (i := 5) (N := some 78) (v := ?_) (a' := ?_) #[true, true, true, false, true, true, false, false, false] rfl rfl (any_of HT_.out (by kernel_rfl)) (fun _ _ _ h => h) (Or.inl ⟨by rfl, ?_⟩) ?_ ?_
        rotate_left
        · intro w'
          go_simp
          with_reducible rfl
        rotate_left
        · simp only [Act.put, List.setIfInBounds_toArray, List.set_cons_zero, List.set_cons_succ, i64_w, i32_w]
          rfl
        refine pure_ (i := 6) (N := some 79) (v := ?_) (a' := ?_) #[true, true, true, false, true, true, true, false, false] rfl rfl (any_of HT_.out (by kernel_rfl)) (fun _ _ _ h => h) (Or.inl ⟨by rfl, ?_⟩) ?_ ?_
        rotate_left
        · intro w'
          go_simp
          with_reducible rfl
        rotate_left
        · simp only [Act.put, List.setIfInBounds_toArray, List.set_cons_zero, List.set_cons_succ, i64_w, i32_w]
          rfl
        refine take_ (i := 3) (N := some 76) (v := ?_) (a' := ?_) #[true, true, true, true, true, true, true, false, false] rfl rfl (take_ofW HT_.out HW_.out (by kernel_rfl)) (fun _ _ _ h => h) (Or.inl ⟨by rfl, ?_⟩) hHeld ?_ ?_
        rotate_left
        · rintro w' ⟨s0, s1⟩
          go_simp
          with_reducible rfl
        rotate_left
        · simp only [Act.put, List.setIfInBounds_toArray, List.set_cons_zero, List.set_cons_succ, i64_w, i32_w]
          rfl
        refine take_ (i := 7) (N := some 80) (v := ?_) (a' := ?_) #[true, true, true, true, true, true, true, true, false] rfl rfl (take_ofW HT_.out HW_.out (by kernel_rfl)) (fun _ _ _ h => h) (Or.inl ⟨by rfl, ?_⟩) hHeld ?_ ?_
        rotate_left
        · rintro w' ⟨s0, s1⟩
          go_simp
          with_reducible rfl
        rotate_left
        · simp only [Act.put, List.setIfInBounds_toArray, List.set_cons_zero, List.set_cons_succ, i64_w, i32_w]
          rfl
        refine pure_ (i := 8) (N := some 81) (v := ?_) (a' := ?_) #[true, true, true, true, true, true, true, true, true] rfl rfl (any_of HT_.out (by kernel_rfl)) (fun _ _ _ h => h) (Or.inl ⟨by rfl, ?_⟩) ?_ ?_
        rotate_left
        · intro w'
          go_simp
          with_reducible rfl
        rotate_left
        · simp only [Act.put, List.setIfInBounds_toArray, List.set_cons_zero, List.set_cons_succ, i64_w, i32_w]
          rfl
        refine done_ (done_of HT_.out (by kernel_rfl)) ?_
        try go_wp2
        go_ret
        exact ⟨by first | rfl | (simp [errW_none, errW_some] <;> rfl) | (simp [*, errW_none, errW_some] <;> rfl), by repeat (first | (with_reducible first | exact HB.out | apply below_alloc | apply pw_below_drewN | apply below_drew1 | refine below_set ?_ GE332.out | refine below_set ?_ GE333.out | refine below_set ?_ GE339.out) | exact HB.out)⟩
      rw [if_neg c108] at H
      exact absurd H (by simp)
    rw [if_neg c107] at H
    exact absurd H (by simp)
  rw [if_neg c106] at H
  exact absurd H (by simp)
 clear HC104; try clear c1; try clear q1; try clear c2; try clear p2; try clear c3; try clear p3; try clear q3; try clear hx3; try clear c5; try clear c6; try clear p6; try clear c7; try clear c8; try clear q8; try clear c9; try clear c10; try clear q10; try clear c22; try clear c26; try clear c27; try clear c28; try clear c33; try clear p35; try clear q35; try clear hx35; try clear p36; try clear q36; try clear hx36; try clear c56; try clear c59; try clear c59b0; try clear c62; try clear c63; try clear p64; try clear c66; try clear c68; try clear c68b0; try clear c68b1; try clear c69; try clear c69b0; try clear c69b1; try clear c71; try clear c71b0; try clear c73; try clear c73b0; try clear c74; try clear c74b0; try clear c76; try clear c77; try clear c80; try clear c81; try clear c82; try clear q86; try clear c91; try clear c92; try clear c95; try clear c96; try clear c97; try clear q101; try clear c105; try clear c105b0; try clear c106; try clear c106b0; try clear c107; try clear c107b0; try clear c108; try clear c108b0; try clear c109; try clear c109b0; try clear c109b1; try clear hcz100_0; try clear hcz100_1; try clear hcz100_2; try clear hcz102_0; try clear hcz102_1; try clear hcz102_2
 try clear hcz64_0; try clear hcz64_1; try clear hcz64_2; try clear hcz78_0; try clear hcz78_1; try clear hcz78_2; try clear hcz83_0; try clear hcz83_1; try clear hcz83_2; try clear hcz85_0; try clear hcz85_1; try clear hcz85_2; try clear hcz87_0; try clear hcz87_1; try clear hcz87_2; try clear hcz89_0; try clear hcz89_1; try clear hcz89_2; try clear hcz93_0; try clear hcz93_1; try clear hcz93_2; try clear hcz98_0; try clear hcz98_1; try clear hcz98_2; try clear hfz100_0; try clear hfz100_1; try clear hfz100_2; try clear hfz102_0; try clear hfz102_1; try clear hfz102_2; try clear hfz64_0; try clear hfz64_1; try clear hfz64_2; try clear hfz78_0; try clear hfz78_1; try clear hfz78_2; try clear hfz83_0; try clear hfz83_1; try clear hfz83_2; try clear hfz85_0; try clear hfz85_1; try clear hfz85_2; try clear hfz87_0; try clear hfz87_1; try clear hfz87_2; try clear hfz89_0; try clear hfz89_1; try clear hfz89_2; try clear hfz93_0; try clear hfz93_1; try clear hfz93_2; try clear hfz98_0; try clear hfz98_1; try clear hfz98_2; try clear hx353_0; try clear hx354_0; try clear hx361_0; try clear hx361_1; try clear hx361_2; try clear p2; try clear p3; try clear p353; try clear p354; try clear p36
 try clear p361; try clear p6; try clear p64; try clear q1; try clear q10; try clear q101; try clear q3; try clear q353; try clear q354; try clear q36; try clear q361; try clear q8; try clear q86
 obtain ⟨kq, HA, HJ103, HO_6, HO_7, HO_333002, HO_334002, HO_340002, BK332, BK333, BK339, HB⟩ := hcut
 obtain _ | kj103 := kq
 · exact absurd HA.out (by simp [laws_FnFun.j6])
 have H := HA.out
 clear HA
 simp only [laws_FnFun.j6] at H
 by_cases c114 : 0 ≤ x9_6
 · rw [if_pos c114] at H
   have c114b0 : decide (0 ≤ x9_6) = true := decide_eq_true c114
   clear c114
   by_cases c115 : x9_6 < (t340.length : Int)
   · rw [if_pos c115] at H
     have c115b0 : decide (x9_6 < (t340.length : Int)) = true := decide_eq_true c115
     clear c115
     by_cases c116 : 0 ≤ x8_4
     · rw [if_pos c116] at H
       have c116b0 : decide (0 ≤ x8_4) = true := decide_eq_true c116
       clear c116
       by_cases c117 : x8_4 < (t340.length : Int)
       · rw [if_pos c117] at H
         have c117b0 : decide (x8_4 < (t340.length : Int)) = true := decide_eq_true c117
         clear c117
         by_cases c118 : (rdOf ByteArray.empty t340 x9_6).toList = (rdOf ByteArray.empty t340 x8_4).toList
         · rw [if_pos c118] at H
           have c118b0 : ((rdOf ByteArray.empty t340 x9_6).toList == (rdOf ByteArray.empty t340 x8_4).toList) = true := beq_iff_eq.mpr c118
           have c118b1 : ((rdOf ByteArray.empty t340 x9_6).toList != (rdOf ByteArray.empty t340 x8_4).toList) = false := bne_eq_false_iff_eq.mpr c118
           clear c118
           obtain rfl := Option.some.inj H
           try go_wp2
           have n0_ := Aside0.mk (Kd.R_drew HO_6.out)
           have n1_ := Aside0.mk (Kd.R_drew HO_7.out)
           have n2_ := Aside0.mk (Kd.R_drew HO_333002.out)
           have n3_ := Aside0.mk (Kd.R_drew HO_334002.out)
           have n4_ := Aside0.mk (Kd.R_drew HO_340002.out)
           have n5_ := Aside0.mk (blk_drew BK332.out)
           have n6_ := Aside0.mk (blk_drew BK333.out)
           have n7_ := Aside0.mk (blk_drew BK339.out)
           have n8_ := Aside0.mk (below_drew1 HB.out)
           clear HO_6 HO_7 HO_333002 HO_334002 HO_340002 BK332 BK333 BK339; clear HB
           have HO_6 := n0_
           have HO_7 := n1_
           have HO_333002 := n2_
           have HO_334002 := n3_
           have HO_340002 := n4_
           have BK332 := n5_
           have BK333 := n6_
           have BK339 := n7_
           have HB := n8_
           clear n0_ n1_ n2_ n3_ n4_ n5_ n6_ n7_ n8_
           have p351 : 0 ≤ (x9_6 : Int) := of_decide_eq_true (by first | (with_reducible assumption) | assumption)
           have q351 : x9_6 < (t340.length : Int) := of_decide_eq_true (by first | (with_reducible assumption) | assumption)
           obtain ⟨ad351, e351, hx351_0⟩ := Kd.at_string (Kd.R_reads' HO_6.out).2.2 x9_6 p351 q351
           cases e351
           replace p351 := eq_true p351; replace q351 := eq_true q351
           have p352 : 0 ≤ (x8_4 : Int) := of_decide_eq_true (by first | (with_reducible assumption) | assumption)
           have q352 : x8_4 < (t340.length : Int) := of_decide_eq_true (by first | (with_reducible assumption) | assumption)
           obtain ⟨ad352, e352, hx352_0⟩ := Kd.at_string (Kd.R_reads' HO_6.out).2.2 x8_4 p352 q352
           obtain rfl : ad351 = ad352 := (by injection e352)
           replace p352 := eq_true p352; replace q352 := eq_true q352
           refine start_ (n := 9) (S := fun w' => w'.cell? (ad351.add (x9_6).toNat) = some (.string (rdOf ByteArray.empty t340 x9_6)) ∧ w'.cell? (ad351.add (x8_4).toNat) = some (.string (rdOf ByteArray.empty t340 x8_4))) (ds := []) #[false, false, false, false, false, false, false, false, false] (by kernel_rfl) rfl rfl ⟨hx351_0, hx352_0⟩ (fun hHeld => ?_); refine with_tabW laws_FnFun.tab15 laws_FnFun.bits15 (fun HT_ HW_ => ?_)
           generalize wc.drew = w119 at HO_6 HO_7 HO_333002 HO_334002 HO_340002 BK332 BK333 BK339 HB hx351_0 hx352_0 hHeld ⊢
           refine pure_ (i := 0) (N := some 64) (v := ?_) (a' := ?_) #[true, false, false, false, false, false, false, false, false] rfl rfl (any_of HT_.out (by kernel_rfl)) (fun _ _ _ h => h) (Or.inl ⟨by rfl, ?_⟩) ?_ ?_
           rotate_left
           · intro w'
             go_simp
             with_reducible rfl
           rotate_left
           · simp only [Act.put, List.setIfInBounds_toArray, List.set_cons_zero, List.set_cons_succ, i64_w, i32_w]
             rfl
           refine pure_ (i := 1) (N := some 65) (v := ?_) (a' := ?_) #[true, true, false, false, false, false, false, false, false] rfl rfl (any_of HT_.out (by kernel_rfl)) (fun _ _ _ h => h) (Or.inl ⟨by rfl, ?_⟩) ?_ ?_
           rotate_left
           · intro w'
             go_simp
             with_reducible rfl
           rotate_left
           · simp only [Act.put, List.setIfInBounds_toArray, List.set_cons_zero, List.set_cons_succ, i64_w, i32_w]
             rfl
           refine pure_ (i := 2) (N := some 66) (v := ?_) (a' := ?_) #[true, true, true, false, false, false, false, false, false] rfl rfl (any_of HT_.out (by kernel_rfl)) (fun _ _ _ h => h) (Or.inl ⟨by rfl, ?_⟩) ?_ ?_
           rotate_left
           · intro w'
             go_simp
             with_reducible rfl
           rotate_left
           · simp only [Act.put, List.setIfInBounds_toArray, List.set_cons_zero, List.set_cons_succ, i64_w, i32_w]
             rfl
           refine pure_ (i := 4) (N := some 68) (v := ?_) (a' := ?_) #[true, true, true, false, true, false, false, false, false] rfl rfl (any_of HT_.out (by kernel_rfl)) (fun _ _ _ h => h) (Or.inl ⟨by rfl, ?_⟩) ?_ ?_
           rotate_left
           · intro w'
             go_simp
             with_reducible rfl
           rotate_left
           · simp only [Act.put, List.setIfInBounds_toArray, List.set_cons_zero, List.set_cons_succ, i64_w, i32_w]
             rfl
           refine pure_ (i := 5) (N := some 69) (v := ?_) (a' := ?_) #[true, true, true, false, true, true, false, false, false] rfl rfl (any_of HT_.out (by kernel_rfl)) (fun _ _ _ h => h) (Or.inl ⟨by rfl, ?_⟩) ?_ ?_
           rotate_left
           · intro w'
             go_simp
             with_reducible rfl
           rotate_left
           · simp only [Act.put, List.setIfInBounds_toArray, List.set_cons_zero, List.set_cons_succ, i64_w, i32_w]
             rfl
           refine pure_ (i := 6) (N := some 70) (v := ?_) (a' := ?_) #[true, true, true, false, true, true, true, false, false] rfl rfl (any_of HT_.out (by kernel_rfl)) (fun _ _ _ h => h) (Or.inl ⟨by rfl, ?_⟩) ?_ ?_
           rotate_left
           · intro w'
             go_simp
             with_reducible rfl
           rotate_left
           · simp only [Act.put, List.setIfInBounds_toArray, List.set_cons_zero, List.set_cons_succ, i64_w, i32_w]
             rfl
           refine take_ (i := 3) (N := some 67) (v := ?_) (a' := ?_) #[true, true, true, true, true, true, true, false, false] rfl rfl (take_ofW HT_.out HW_.out (by kernel_rfl)) (fun _ _ _ h => h) (Or.inl ⟨by rfl, ?_⟩) hHeld ?_ ?_
           rotate_left
           · rintro w' ⟨s0, s1⟩
             go_simp
             with_reducible rfl
           rotate_left
           · simp only [Act.put, List.setIfInBounds_toArray, List.set_cons_zero, List.set_cons_succ, i64_w, i32_w]
             rfl
           refine take_ (i := 7) (N := some 71) (v := ?_) (a' := ?_) #[true, true, true, true, true, true, true, true, false] rfl rfl (take_ofW HT_.out HW_.out (by kernel_rfl)) (fun _ _ _ h => h) (Or.inl ⟨by rfl, ?_⟩) hHeld ?_ ?_
           rotate_left
           · rintro w' ⟨s0, s1⟩
             go_simp
             with_reducible rfl
           rotate_left
           · simp only [Act.put, List.setIfInBounds_toArray, List.set_cons_zero, List.set_cons_succ, i64_w, i32_w]
             rfl
           refine pure_ (i := 8) (N := some 72) (v := ?_) (a' := ?_) #[true, true, true, true, true, true, true, true, true] rfl rfl (any_of HT_.out (by kernel_rfl)) (fun _ _ _ h => h) (Or.inl ⟨by rfl, ?_⟩) ?_ ?_
           rotate_left
           · intro w'
             go_simp
             with_reducible rfl
           rotate_left
           · simp only [Act.put, List.setIfInBounds_toArray, List.set_cons_zero, List.set_cons_succ, i64_w, i32_w]
             rfl
           refine done_ (done_of HT_.out (by kernel_rfl)) ?_
           try go_wp2
           go_ret
           exact ⟨by first | rfl | (simp [errW_none, errW_some] <;> rfl) | (simp [*, errW_none, errW_some] <;> rfl), by repeat (first | (with_reducible first | exact HB.out | apply below_alloc | apply pw_below_drewN | apply below_drew1 | refine below_set ?_ GE332.out | refine below_set ?_ GE333.out | refine below_set ?_ GE339.out) | exact HB.out)⟩
         rw [if_neg c118] at H
         have c118b0 : ((rdOf ByteArray.empty t340 x9_6).toList == (rdOf ByteArray.empty t340 x8_4).toList) = false := beq_eq_false_iff_ne.mpr c118
         have c118b1 : ((rdOf ByteArray.empty t340 x9_6).toList != (rdOf ByteArray.empty t340 x8_4).toList) = true := bne_iff_ne.mpr c118
         have H' := Aside0.mk H
         clear H
         try go_wp2
         have n0_ := Aside0.mk (Kd.R_drew HO_6.out)
         have n1_ := Aside0.mk (Kd.R_drew HO_7.out)
         have n2_ := Aside0.mk (Kd.R_drew HO_333002.out)
         have n3_ := Aside0.mk (Kd.R_drew HO_334002.out)
         have n4_ := Aside0.mk (Kd.R_drew HO_340002.out)
         have n5_ := Aside0.mk (blk_drew BK332.out)
         have n6_ := Aside0.mk (blk_drew BK333.out)
         have n7_ := Aside0.mk (blk_drew BK339.out)
         have n8_ := Aside0.mk (below_drew1 HB.out)
         clear HO_6 HO_7 HO_333002 HO_334002 HO_340002 BK332 BK333 BK339; clear HB
         have HO_6 := n0_
         have HO_7 := n1_
         have HO_333002 := n2_
         have HO_334002 := n3_
         have HO_340002 := n4_
         have BK332 := n5_
         have BK333 := n6_
         have BK339 := n7_
         have HB := n8_
         clear n0_ n1_ n2_ n3_ n4_ n5_ n6_ n7_ n8_
         have p351 : 0 ≤ (x9_6 : Int) := of_decide_eq_true (by first | (with_reducible assumption) | assumption)
         have q351 : x9_6 < (t340.length : Int) := of_decide_eq_true (by first | (with_reducible assumption) | assumption)
         obtain ⟨ad351, e351, hx351_0⟩ := Kd.at_string (Kd.R_reads' HO_6.out).2.2 x9_6 p351 q351
         cases e351
         replace p351 := eq_true p351; replace q351 := eq_true q351
         have p352 : 0 ≤ (x8_4 : Int) := of_decide_eq_true (by first | (with_reducible assumption) | assumption)
         have q352 : x8_4 < (t340.length : Int) := of_decide_eq_true (by first | (with_reducible assumption) | assumption)
         obtain ⟨ad352, e352, hx352_0⟩ := Kd.at_string (Kd.R_reads' HO_6.out).2.2 x8_4 p352 q352
         obtain rfl : ad351 = ad352 := (by injection e352)
         replace p352 := eq_true p352; replace q352 := eq_true q352
         refine start_ (n := 9) (S := fun w' => w'.cell? (ad351.add (x9_6).toNat) = some (.string (rdOf ByteArray.empty t340 x9_6)) ∧ w'.cell? (ad351.add (x8_4).toNat) = some (.string (rdOf ByteArray.empty t340 x8_4))) (ds := []) #[false, false, false, false, false, false, false, false, false] (by kernel_rfl) rfl rfl ⟨hx351_0, hx352_0⟩ (fun hHeld => ?_); refine with_tabW laws_FnFun.tab15 laws_FnFun.bits15 (fun HT_ HW_ => ?_)
         generalize wc.drew = w120 at HO_6 HO_7 HO_333002 HO_334002 HO_340002 BK332 BK333 BK339 HB hx351_0 hx352_0 hHeld ⊢
         refine pure_ (i := 0) (N := some 64) (v := ?_) (a' := ?_) #[true, false, false, false, false, false, false, false, false] rfl rfl (any_of HT_.out (by kernel_rfl)) (fun _ _ _ h => h) (Or.inl ⟨by rfl, ?_⟩) ?_ ?_
         rotate_left
         · intro w'
           go_simp
           with_reducible rfl
         rotate_left
         · simp only [Act.put, List.setIfInBounds_toArray, List.set_cons_zero, List.set_cons_succ, i64_w, i32_w]
           rfl
         refine pure_ (i := 1) (N := some 65) (v := ?_) (a' := ?_) #[true, true, false, false, false, false, false, false, false] rfl rfl (any_of HT_.out (by kernel_rfl)) (fun _ _ _ h => h) (Or.inl ⟨by rfl, ?_⟩) ?_ ?_
         rotate_left
         · intro w'
           go_simp
           with_reducible rfl
         rotate_left
         · simp only [Act.put, List.setIfInBounds_toArray, List.set_cons_zero, List.set_cons_succ, i64_w, i32_w]
           rfl
         refine pure_ (i := 2) (N := some 66) (v := ?_) (a' := ?_) #[true, true, true, false, false, false, false, false, false] rfl rfl (any_of HT_.out (by kernel_rfl)) (fun _ _ _ h => h) (Or.inl ⟨by rfl, ?_⟩) ?_ ?_
         rotate_left
         · intro w'
           go_simp
           with_reducible rfl
         rotate_left
         · simp only [Act.put, List.setIfInBounds_toArray, List.set_cons_zero, List.set_cons_succ, i64_w, i32_w]
           rfl
         refine pure_ (i := 4) (N := some 68) (v := ?_) (a' := ?_) #[true, true, true, false, true, false, false, false, false] rfl rfl (any_of HT_.out (by kernel_rfl)) (fun _ _ _ h => h) (Or.inl ⟨by rfl, ?_⟩) ?_ ?_
         rotate_left
         · intro w'
           go_simp
           with_reducible rfl
         rotate_left
         · simp only [Act.put, List.setIfInBounds_toArray, List.set_cons_zero, List.set_cons_succ, i64_w, i32_w]
           rfl
         refine pure_ (i := 5) (N := some 69) (v := ?_) (a' := ?_) #[true, true, true, false, true, true, false, false, false] rfl rfl (any_of HT_.out (by kernel_rfl)) (fun _ _ _ h => h) (Or.inl ⟨by rfl, ?_⟩) ?_ ?_
         rotate_left
         · intro w'
           go_simp
           with_reducible rfl
         rotate_left
         · simp only [Act.put, List.setIfInBounds_toArray, List.set_cons_zero, List.set_cons_succ, i64_w, i32_w]
           rfl
         refine pure_ (i := 6) (N := some 70) (v := ?_) (a' := ?_) #[true, true, true, false, true, true, true, false, false] rfl rfl (any_of HT_.out (by kernel_rfl)) (fun _ _ _ h => h) (Or.inl ⟨by rfl, ?_⟩) ?_ ?_
         rotate_left
         · intro w'
           go_simp
           with_reducible rfl
         rotate_left
         · simp only [Act.put, List.setIfInBounds_toArray, List.set_cons_zero, List.set_cons_succ, i64_w, i32_w]
           rfl
         refine take_ (i := 3) (N := some 67) (v := ?_) (a' := ?_) #[true, true, true, true, true, true, true, false, false] rfl rfl (take_ofW HT_.out HW_.out (by kernel_rfl)) (fun _ _ _ h => h) (Or.inl ⟨by rfl, ?_⟩) hHeld ?_ ?_
         rotate_left
         · rintro w' ⟨s0, s1⟩
           go_simp
           with_reducible rfl
         rotate_left
         · simp only [Act.put, List.setIfInBounds_toArray, List.set_cons_zero, List.set_cons_succ, i64_w, i32_w]
           rfl
         refine take_ (i := 7) (N := some 71) (v := ?_) (a' := ?_) #[true, true, true, true, true, true, true, true, false] rfl rfl (take_ofW HT_.out HW_.out (by kernel_rfl)) (fun _ _ _ h => h) (Or.inl ⟨by rfl, ?_⟩) hHeld ?_ ?_
         rotate_left
         · rintro w' ⟨s0, s1⟩
           go_simp
           with_reducible rfl
         rotate_left
         · simp only [Act.put, List.setIfInBounds_toArray, List.set_cons_zero, List.set_cons_succ, i64_w, i32_w]
           rfl
         refine pure_ (i := 8) (N := some 72) (v := ?_) (a' := ?_) #[true, true, true, true, true, true, true, true, true] rfl rfl (any_of HT_.out (by kernel_rfl)) (fun _ _ _ h => h) (Or.inl ⟨by rfl, ?_⟩) ?_ ?_
         rotate_left
         · intro w'
           go_simp
           with_reducible rfl
         rotate_left
         · simp only [Act.put, List.setIfInBounds_toArray, List.set_cons_zero, List.set_cons_succ, i64_w, i32_w]
           rfl
         refine done_ (done_of HT_.out (by kernel_rfl)) ?_
         try go_wp2
         go_roundg kj103
         case measure => have := HJ1.out; have := HJ7.out; have := HJ54.out; have := HK4.out; have := HJ56.out; have := HK6.out; have := HJ103.out; omega
         case rel => exact ⟨(wrap64 (x9_6 + 1)), (by first | rfl | (simp; done) | (simp [*]; done)), H', ⟨by have := HJ1.out; have := HJ7.out; have := HJ54.out; have := HK4.out; have := HJ56.out; have := HK6.out; have := HJ103.out; omega⟩, ⟨by (with_reducible repeat (first | apply Kd.R_alloc | apply Kd.R_drewN | apply Kd.R_drew)); exact HO_6.out⟩, ⟨by (with_reducible repeat (first | apply Kd.R_alloc | apply Kd.R_drewN | apply Kd.R_drew)); exact HO_7.out⟩, ⟨by (with_reducible repeat (first | apply Kd.R_alloc | apply Kd.R_drewN | apply Kd.R_drew)); exact HO_333002.out⟩, ⟨by (with_reducible repeat (first | apply Kd.R_alloc | apply Kd.R_drewN | apply Kd.R_drew)); exact HO_334002.out⟩, ⟨by (with_reducible repeat (first | apply Kd.R_alloc | apply Kd.R_drewN | apply Kd.R_drew)); exact HO_340002.out⟩, ⟨by exact BK332.out⟩, ⟨by exact BK333.out⟩, ⟨by exact BK339.out⟩, ⟨by repeat (first | (with_reducible first | exact HB.out | apply below_alloc | apply pw_below_drewN | apply below_drew1 | refine below_set ?_ GE332.out | refine below_set ?_ GE333.out | refine below_set ?_ GE339.out) | exact HB.out)⟩⟩
       rw [if_neg c117] at H
       exact absurd H (by simp)
     rw [if_neg c116] at H
     exact absurd H (by simp)
   rw [if_neg c115] at H
   exact absurd H (by simp)
 rw [if_neg c114] at H
 exact absurd H (by simp)

/-- THE ONE PURE STATEMENT of laws_FnFun: yours. -/
def laws_FnFun.Pure : Prop := ∀ (l0 : List Int), l0.length ≤ maxLen → l0.length * 1 ≤ 140737488351232 → (∀ x ∈ l0, (Lit.int .u8 x).wf = true) → ∃ k, laws_FnFun.f k l0 = some true
theorem laws_FnFun.walk (P : laws_FnFun.Pure) (a0 : Option Addr) (len0 cap0 : Nat) (z0 : List Int) (w : World) (w0 : (a0 = none ∧ len0 = 0 ∧ cap0 = 0 ∧ z0 = []) ∨ ∃ x, a0 = some x ∧ len0 ≤ cap0 ∧ cap0 ≤ maxLen ∧ z0.length = cap0 ∧ (∀ i, i < z0.length → w.cell? (x.add i) = some (.int .u8 (z0.getD i 0))) ∧ ∀ n ∈ z0, (Lit.int .u8 n).wf = true) (y0 : len0 * 1 ≤ 140737488351232) :
    Calls Try.prog 5 #[.slice a0 len0 cap0] w fun e w' => e = .returned (.bool true) ∧ Below w.heap.size w w' := by
  obtain ⟨l0, rfl, hr0, hm0, hw0, hc0⟩ := ReadsInt.ofRowC w0
  obtain ⟨k, h⟩ := P l0 hm0 y0 hw0
  refine (laws_FnFun.calls k _ _ l0 true w (Kd.C_of_reads (d := (0 : Int)) (h1 := fun _ => rfl) hr0) hc0 h).mono ?_
  rintro e w' ⟨rfl, hd⟩
  exact ⟨rfl, hd⟩

end Go.Proofs.Ytpckkkcaffhhnaa.P
