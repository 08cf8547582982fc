import Derived.Test.YtmndoelimincdaaGreatDoorTRRm
import Derived.Test.YtmndoelimincdaaGreatDoorTRRn
import Derived.Test.YtmndoelimincdaaGreatDoorTRRo
namespace Go.Proofs.YtmndoelimincdaaGreatDoor.XRf
open Go.RowKit Go.Proofs.YtmndoelimincdaaGreatDoorW.PrintWords Go.Proofs.YtmndoelimincdaaGreatDoorW.PrintLast Go.Proofs.YtmndoelimincdaaGreatDoorW.PrintMore
attribute [local go_sem] max2_int min2_int max_two min_two max_three min_three max_four min_four
set_option linter.unusedVariables false
set_option linter.unusedSimpArgs false
def girderref00_Times.f (k:Nat) (a0_0:Bool) (l0_1:List Int) (a0_2:Int) (a1_0:Bool) (l1_1:List Int) (a1_2:Int):Option (Bool × List Int × Int):=(girderref00_NatMul.f k l0_1 l1_1).bind fun t230=>(some ((a0_0 != a1_0),t230,wrap64 (a0_2 + a1_2)))
theorem girderref00_Times.mono:∀ a0 a1 a2 a3 a4 a5 k,LeO (girderref00_Times.f k a0 a1 a2 a3 a4 a5) (girderref00_Times.f (k + 1) a0 a1 a2 a3 a4 a5):=by
  intro a0 a1 a2 a3 a4 a5 k
  unfold girderref00_Times.f
  repeat' first
      | (with_reducible exact girderref00_NatMul.mono _ _ _)
      | (with_reducible exact LeO.refl _)
      | (with_reducible exact LeO.none _)
      | (with_reducible refine LeO.ite ?_ ?_)
      | (with_reducible refine LeO.bind ?_ (fun _=>?_))
      | exact girderref00_NatMul.mono _ _ _
      | exact LeO.none _
      | refine LeO.ite ?_ ?_
      | refine LeO.bind ?_ (fun _=>?_)
def girderref00_Times.T1:Bool × List (List Nat × List Nat):=(true,[([],[]),([0],[0]),([],[]),([2],[2]),([1,3],[1,3]),([],[]),([5],[5]),([],[]),([7],[7]),([6,8],[6,8]),([],[]),([10],[10]),([],[]),([12],[12]),([11,13],[11,13]),([4,9,14],[4,9,14]),([15,9,0,1,2,3,4,5,6,7,8,9,10,11,12,13,14,15],[15])])
def girderref00_Times.B1:List Nat:=[0,1,0,4,15,0,32,0,128,480,0,1024,0,4096,15360,32767,65535]
theorem girderref00_Times.tab1:rtab .any (opsOf Tryz.f45 1)=girderref00_Times.T1:=by kernel_rfl
theorem girderref00_Times.bits1:waitsOk girderref00_Times.T1.2 girderref00_Times.B1=true:=by kernel_rfl
set_option maxHeartbeats 8000000 in
set_option maxRecDepth 100000 in
theorem girderref00_Times.calls (k:Nat) (a0_0:Bool) (A0_1:Option Addr) (c0_1:Nat) (l0_1:List Int) (a0_2:Int) (a1_0:Bool) (A1_1:Option Addr) (c1_1:Nat) (l1_1:List Int) (a1_2:Int) (r1:Bool) (r2:List Int) (r3:Int) (w:World) (hr0_1:Kd.C (Kd.int .u64) w A0_1 l0_1.length l0_1) (hc0_1:l0_1.length≤c0_1) (hr1_1:Kd.C (Kd.int .u64) w A1_1 l1_1.length l1_1) (hc1_1:l1_1.length≤c1_1) (h:girderref00_Times.f k a0_0 l0_1 a0_2 a1_0 l1_1 a1_2=some (r1,r2,r3)) :
    Calls Tryz.prog 45 #[.agg #[.bool a0_0,.slice A0_1 l0_1.length c0_1,.int .i64 a0_2],.agg #[.bool a1_0,.slice A1_1 l1_1.length c1_1,.int .i64 a1_2]] w fun e w'=>∃ v1_:Value,e=.returned (.agg #[.bool r1,v1_,.int .i64 r3])∧Kd.R (Kd.int .u64) 38 w' w.heap.size (fun _=>True) v1_ r2∧Below w.heap.size w w':=by
  have hu53:=Tryz.underlying53
  have HR0_1:=Aside0.mk hr0_1
  have HC0_1:=Aside0.mk hc0_1
  clear hr0_1 hc0_1
  have HR1_1:=Aside0.mk hr1_1
  have HC1_1:=Aside0.mk hc1_1
  clear hr1_1 hc1_1
  have HB:=Aside0.mk (Below.refl w.heap.size w)
  have H:((girderref00_NatMul.f k l0_1 l1_1).bind fun t230=>(some ((a0_0 != a1_0),t230,wrap64 (a0_2 + a1_2))))=some (r1,r2,r3):=h
  clear h
  replace H:=Option.bind_eq_some_iff.mp H
  obtain ⟨t230,A30,H⟩:=H
  replace H:(some ((a0_0 != a1_0),t230,wrap64 (a0_2 + a1_2)))=some (r1,r2,r3):=H
  have A3:=Aside0.mk A30
  clear A30
  simp only [Option.some.injEq,Prod.mk.injEq] at H
  obtain ⟨rfl,rfl,rfl⟩:=H
  go_enter Tryz.func45,Tryz.ntmps45
  try go_wp2_with (first|((with_reducible refine gate_dst (N:=2) rfl ?_);refine box_event ?hg (N:=2) ?hd (cs:=#[.bool a0_0,.slice A0_1 l0_1.length c0_1,.int .i64 a0_2]) (t:=53) ?hr ?_;(case hd=>rfl);(case hg=>rfl);(case hr=>first|(go_simp;done)|(go_simp;rfl));intro gb227 hg w4 hbox hb;have n0_:=Aside0.mk (below_step (by repeat (first|(with_reducible first|exact HB.out|apply below_alloc|apply pw_below_drewN|apply below_drew1)|exact HB.out)) hb);have n1_:=Aside0.mk (hbox);have n2_:=Aside0.mk ((by rw [hg];exact (below_size (by repeat (first|(with_reducible first|exact HB.out|apply below_alloc|apply pw_below_drewN|apply below_drew1)|exact HB.out))):w.heap.size≤gb227));have n3_:=Aside0.mk ((by rw [hg];exact (below_size (by repeat (first|(with_reducible first|exact HB.out|apply below_alloc|apply pw_below_drewN|apply below_drew1)|exact HB.out))):w.heap.size≤gb227));clear HB;have HB:=n0_;have BK227:=n1_;have GW227:=n2_;have GE227:=n3_;clear n0_ n1_ n2_ n3_;clear hb hbox hg)|((with_reducible refine gate_dst (N:=3) rfl ?_);refine box_event ?hg (N:=3) ?hd (cs:=#[.bool a1_0,.slice A1_1 l1_1.length c1_1,.int .i64 a1_2]) (t:=53) ?hr ?_;(case hd=>rfl);(case hg=>rfl);(case hr=>first|(go_simp;done)|(go_simp;rfl));intro gb228 hg w5 hbox hb;have n0_:=Aside0.mk (blk_below (g:=gb227) (o:=.cells #[.bool a0_0,.slice A0_1 l0_1.length c0_1,.int .i64 a0_2] 53 (0,0)) (by (with_reducible repeat (first|refine blk_drewN ?_ _|refine blk_drew ?_|refine blk_alloc ?_ _));exact BK227.out) hb);have n1_:=Aside0.mk (below_step (by repeat (first|(with_reducible first|exact HB.out|apply below_alloc|apply pw_below_drewN|apply below_drew1|refine below_set ?_ GE227.out)|exact HB.out)) hb);have n2_:=Aside0.mk (hbox);have n3_:=Aside0.mk ((by rw [hg];exact (below_size (by repeat (first|(with_reducible first|exact HB.out|apply below_alloc|apply pw_below_drewN|apply below_drew1|refine below_set ?_ GE227.out)|exact HB.out))):w.heap.size≤gb228));have n4_:=Aside0.mk ((by rw [hg];exact (below_size (by repeat (first|(with_reducible first|exact HB.out|apply below_alloc|apply pw_below_drewN|apply below_drew1|refine below_set ?_ GE227.out)|exact HB.out))):w.heap.size≤gb228));have n5_:=Aside0.mk ((by rw [hg];exact Nat.ne_of_lt (blk_lt (g:=gb227) (o:=.cells #[.bool a0_0,.slice A0_1 l0_1.length c0_1,.int .i64 a0_2] 53 (0,0)) (by (with_reducible repeat (first|refine blk_drewN ?_ _|refine blk_drew ?_|refine blk_alloc ?_ _));exact BK227.out)):gb227 ≠ gb228));have n6_:=Aside0.mk ((by rw [hg];exact Nat.ne_of_gt (blk_lt (g:=gb227) (o:=.cells #[.bool a0_0,.slice A0_1 l0_1.length c0_1,.int .i64 a0_2] 53 (0,0)) (by (with_reducible repeat (first|refine blk_drewN ?_ _|refine blk_drew ?_|refine blk_alloc ?_ _));exact BK227.out)):gb228 ≠ gb227));clear BK227;clear HB;have BK227:=n0_;have HB:=n1_;have BK228:=n2_;have GW228:=n3_;have GE228:=n4_;have NB227_228:=n5_;have NB228_227:=n6_;clear n0_ n1_ n2_ n3_ n4_ n5_ n6_;clear hb hbox hg)|((with_reducible refine gate_dst (N:=4) rfl ?_);refine box_event ?hg (N:=4) ?hd (cs:=#[.bool false,.slice none 0 0,.int .i64 0]) (t:=53) ?hr ?_;(case hd=>rfl);(case hg=>rfl);(case hr=>first|(go_simp;done)|(go_simp;rfl));intro gb229 hg w6 hbox hb;have n0_:=Aside0.mk (blk_below (g:=gb227) (o:=.cells #[.bool a0_0,.slice A0_1 l0_1.length c0_1,.int .i64 a0_2] 53 (0,0)) (by (with_reducible repeat (first|refine blk_drewN ?_ _|refine blk_drew ?_|refine blk_alloc ?_ _));exact BK227.out) hb);have n1_:=Aside0.mk (blk_below (g:=gb228) (o:=.cells #[.bool a1_0,.slice A1_1 l1_1.length c1_1,.int .i64 a1_2] 53 (0,0)) (by (with_reducible repeat (first|refine blk_drewN ?_ _|refine blk_drew ?_|refine blk_alloc ?_ _));exact BK228.out) hb);have n2_:=Aside0.mk (below_step (by repeat (first|(with_reducible first|exact HB.out|apply below_alloc|apply pw_below_drewN|apply below_drew1|refine below_set ?_ GE227.out|refine below_set ?_ GE228.out)|exact HB.out)) hb);have n3_:=Aside0.mk (hbox);have n4_:=Aside0.mk ((by rw [hg];exact (below_size (by repeat (first|(with_reducible first|exact HB.out|apply below_alloc|apply pw_below_drewN|apply below_drew1|refine below_set ?_ GE227.out|refine below_set ?_ GE228.out)|exact HB.out))):w.heap.size≤gb229));have n5_:=Aside0.mk ((by rw [hg];exact (below_size (by repeat (first|(with_reducible first|exact HB.out|apply below_alloc|apply pw_below_drewN|apply below_drew1|refine below_set ?_ GE227.out|refine below_set ?_ GE228.out)|exact HB.out))):w.heap.size≤gb229));have n6_:=Aside0.mk ((by rw [hg];exact Nat.ne_of_lt (blk_lt (g:=gb227) (o:=.cells #[.bool a0_0,.slice A0_1 l0_1.length c0_1,.int .i64 a0_2] 53 (0,0)) (by (with_reducible repeat (first|refine blk_drewN ?_ _|refine blk_drew ?_|refine blk_alloc ?_ _));exact BK227.out)):gb227 ≠ gb229));have n7_:=Aside0.mk ((by rw [hg];exact Nat.ne_of_gt (blk_lt (g:=gb227) (o:=.cells #[.bool a0_0,.slice A0_1 l0_1.length c0_1,.int .i64 a0_2] 53 (0,0)) (by (with_reducible repeat (first|refine blk_drewN ?_ _|refine blk_drew ?_|refine blk_alloc ?_ _));exact BK227.out)):gb229 ≠ gb227));have n8_:=Aside0.mk ((by rw [hg];exact Nat.ne_of_lt (blk_lt (g:=gb228) (o:=.cells #[.bool a1_0,.slice A1_1 l1_1.length c1_1,.int .i64 a1_2] 53 (0,0)) (by (with_reducible repeat (first|refine blk_drewN ?_ _|refine blk_drew ?_|refine blk_alloc ?_ _));exact BK228.out)):gb228 ≠ gb229));have n9_:=Aside0.mk ((by rw [hg];exact Nat.ne_of_gt (blk_lt (g:=gb228) (o:=.cells #[.bool a1_0,.slice A1_1 l1_1.length c1_1,.int .i64 a1_2] 53 (0,0)) (by (with_reducible repeat (first|refine blk_drewN ?_ _|refine blk_drew ?_|refine blk_alloc ?_ _));exact BK228.out)):gb229 ≠ gb228));clear BK227;clear BK228;clear HB;have BK227:=n0_;have BK228:=n1_;have HB:=n2_;have BK229:=n3_;have GW229:=n4_;have GE229:=n5_;have NB227_229:=n6_;have NB229_227:=n7_;have NB228_229:=n8_;have NB229_228:=n9_;clear n0_ n1_ n2_ n3_ n4_ n5_ n6_ n7_ n8_ n9_;clear hb hbox hg))
  have n0_:=Aside0.mk (blk_drew BK227.out)
  have n1_:=Aside0.mk (blk_drew BK228.out)
  have n2_:=Aside0.mk (blk_drew BK229.out)
  have n3_:=Aside0.mk (below_drew1 HB.out)
  clear BK227
  clear BK228
  clear BK229
  clear HB
  have BK227:=n0_
  have BK228:=n1_
  have BK229:=n2_
  have HB:=n3_
  clear n0_ n1_ n2_ n3_
  refine start_ (n:=17) (S:=fun w'=>w'.cell? ⟨gb227,0,none⟩=some (.bool a0_0)∧w'.cell? ⟨gb227,1,none⟩=some (.slice A0_1 l0_1.length c0_1)∧w'.cell? ⟨gb227,2,none⟩=some (.int .i64 a0_2)∧w'.cell? ⟨gb228,0,none⟩=some (.bool a1_0)∧w'.cell? ⟨gb228,1,none⟩=some (.slice A1_1 l1_1.length c1_1)∧w'.cell? ⟨gb228,2,none⟩=some (.int .i64 a1_2)) (ds:=[]) #[false,false,false,false,false,false,false,false,false,false,false,false,false,false,false,false,false] (by kernel_rfl) rfl rfl ⟨(blk_cell BK227.out 0).trans rfl,(blk_cell BK227.out 1).trans rfl,(blk_cell BK227.out 2).trans rfl,(blk_cell BK228.out 0).trans rfl,(blk_cell BK228.out 1).trans rfl,(blk_cell BK228.out 2).trans rfl⟩ (fun hHeld=>?_);refine with_tabW girderref00_Times.tab1 girderref00_Times.bits1 (fun HT_ HW_=>?_)
  generalize w6.drew=w7 at BK227 BK228 BK229 HB hHeld ⊢
  refine pure_ (i:=0) (N:=some 5) (v:=?_) (a':=?_) #[true,false,false,false,false,false,false,false,false,false,false,false,false,false,false,false,false] rfl rfl (any_of HT_.out (by kernel_rfl)) (fun _ _ _ h=>h) (Or.inl ⟨by rfl,?_⟩) ?_ ?_
  rotate_left
  · intro w'
    go_simp
    with_reducible rfl
  rotate_left
  · simp only [Act.put,List.setIfInBounds_toArray,List.set_cons_zero,List.set_cons_succ,i64_w,i32_w]
    rfl
  refine pure_ (i:=2) (N:=some 7) (v:=?_) (a':=?_) #[true,false,true,false,false,false,false,false,false,false,false,false,false,false,false,false,false] rfl rfl (any_of HT_.out (by kernel_rfl)) (fun _ _ _ h=>h) (Or.inl ⟨by rfl,?_⟩) ?_ ?_
  rotate_left
  · intro w'
    go_simp
    with_reducible rfl
  rotate_left
  · simp only [Act.put,List.setIfInBounds_toArray,List.set_cons_zero,List.set_cons_succ,i64_w,i32_w]
    rfl
  refine pure_ (i:=5) (N:=some 10) (v:=?_) (a':=?_) #[true,false,true,false,false,true,false,false,false,false,false,false,false,false,false,false,false] rfl rfl (any_of HT_.out (by kernel_rfl)) (fun _ _ _ h=>h) (Or.inl ⟨by rfl,?_⟩) ?_ ?_
  rotate_left
  · intro w'
    go_simp
    with_reducible rfl
  rotate_left
  · simp only [Act.put,List.setIfInBounds_toArray,List.set_cons_zero,List.set_cons_succ,i64_w,i32_w]
    rfl
  refine pure_ (i:=7) (N:=some 12) (v:=?_) (a':=?_) #[true,false,true,false,false,true,false,true,false,false,false,false,false,false,false,false,false] rfl rfl (any_of HT_.out (by kernel_rfl)) (fun _ _ _ h=>h) (Or.inl ⟨by rfl,?_⟩) ?_ ?_
  rotate_left
  · intro w'
    go_simp
    with_reducible rfl
  rotate_left
  · simp only [Act.put,List.setIfInBounds_toArray,List.set_cons_zero,List.set_cons_succ,i64_w,i32_w]
    rfl
  refine pure_ (i:=10) (N:=some 15) (v:=?_) (a':=?_) #[true,false,true,false,false,true,false,true,false,false,true,false,false,false,false,false,false] rfl rfl (any_of HT_.out (by kernel_rfl)) (fun _ _ _ h=>h) (Or.inl ⟨by rfl,?_⟩) ?_ ?_
  rotate_left
  · intro w'
    go_simp
    with_reducible rfl
  rotate_left
  · simp only [Act.put,List.setIfInBounds_toArray,List.set_cons_zero,List.set_cons_succ,i64_w,i32_w]
    rfl
  refine pure_ (i:=12) (N:=some 17) (v:=?_) (a':=?_) #[true,false,true,false,false,true,false,true,false,false,true,false,true,false,false,false,false] rfl rfl (any_of HT_.out (by kernel_rfl)) (fun _ _ _ h=>h) (Or.inl ⟨by rfl,?_⟩) ?_ ?_
  rotate_left
  · intro w'
    go_simp
    with_reducible rfl
  rotate_left
  · simp only [Act.put,List.setIfInBounds_toArray,List.set_cons_zero,List.set_cons_succ,i64_w,i32_w]
    rfl
  refine take_ (i:=1) (N:=some 6) (v:=?_) (a':=?_) #[true,true,true,false,false,true,false,true,false,false,true,false,true,false,false,false,false] rfl rfl (take_ofW HT_.out HW_.out (by kernel_rfl)) (fun _ _ _ h=>h) (Or.inl ⟨by rfl,?_⟩) hHeld ?_ ?_
  rotate_left
  · rintro w' ⟨s0,s1,s2,s3,s4,s5⟩
    go_simp
    with_reducible rfl
  rotate_left
  · simp only [Act.put,List.setIfInBounds_toArray,List.set_cons_zero,List.set_cons_succ,i64_w,i32_w]
    rfl
  refine take_ (i:=3) (N:=some 8) (v:=?_) (a':=?_) #[true,true,true,true,false,true,false,true,false,false,true,false,true,false,false,false,false] rfl rfl (take_ofW HT_.out HW_.out (by kernel_rfl)) (fun _ _ _ h=>h) (Or.inl ⟨by rfl,?_⟩) hHeld ?_ ?_
  rotate_left
  · rintro w' ⟨s0,s1,s2,s3,s4,s5⟩
    go_simp
    with_reducible rfl
  rotate_left
  · simp only [Act.put,List.setIfInBounds_toArray,List.set_cons_zero,List.set_cons_succ,i64_w,i32_w]
    rfl
  refine pure_ (i:=4) (N:=some 9) (v:=?_) (a':=?_) #[true,true,true,true,true,true,false,true,false,false,true,false,true,false,false,false,false] rfl rfl (any_of HT_.out (by kernel_rfl)) (fun _ _ _ h=>h) (Or.inl ⟨by rfl,?_⟩) ?_ ?_
  rotate_left
  · intro w'
    go_simp
    with_reducible rfl
  rotate_left
  · simp only [Act.put,List.setIfInBounds_toArray,List.set_cons_zero,List.set_cons_succ,i64_w,i32_w]
    rfl
  refine take_ (i:=6) (N:=some 11) (v:=?_) (a':=?_) #[true,true,true,true,true,true,true,true,false,false,true,false,true,false,false,false,false] rfl rfl (take_ofW HT_.out HW_.out (by kernel_rfl)) (fun _ _ _ h=>h) (Or.inl ⟨by rfl,?_⟩) hHeld ?_ ?_
  rotate_left
  · rintro w' ⟨s0,s1,s2,s3,s4,s5⟩
    go_simp
    with_reducible rfl
  rotate_left
  · simp only [Act.put,List.setIfInBounds_toArray,List.set_cons_zero,List.set_cons_succ,i64_w,i32_w]
    rfl
  refine take_ (i:=8) (N:=some 13) (v:=?_) (a':=?_) #[true,true,true,true,true,true,true,true,true,false,true,false,true,false,false,false,false] rfl rfl (take_ofW HT_.out HW_.out (by kernel_rfl)) (fun _ _ _ h=>h) (Or.inl ⟨by rfl,?_⟩) hHeld ?_ ?_
  rotate_left
  · rintro w' ⟨s0,s1,s2,s3,s4,s5⟩
    go_simp
    with_reducible rfl
  rotate_left
  · simp only [Act.put,List.setIfInBounds_toArray,List.set_cons_zero,List.set_cons_succ,i64_w,i32_w]
    rfl
  refine take_ (i:=11) (N:=some 16) (v:=?_) (a':=?_) #[true,true,true,true,true,true,true,true,true,false,true,true,true,false,false,false,false] rfl rfl (take_ofW HT_.out HW_.out (by kernel_rfl)) (fun _ _ _ h=>h) (Or.inl ⟨by rfl,?_⟩) hHeld ?_ ?_
  rotate_left
  · rintro w' ⟨s0,s1,s2,s3,s4,s5⟩
    go_simp
    with_reducible rfl
  rotate_left
  · simp only [Act.put,List.setIfInBounds_toArray,List.set_cons_zero,List.set_cons_succ,i64_w,i32_w]
    rfl
  refine take_ (i:=13) (N:=some 18) (v:=?_) (a':=?_) #[true,true,true,true,true,true,true,true,true,false,true,true,true,true,false,false,false] rfl rfl (take_ofW HT_.out HW_.out (by kernel_rfl)) (fun _ _ _ h=>h) (Or.inl ⟨by rfl,?_⟩) hHeld ?_ ?_
  rotate_left
  · rintro w' ⟨s0,s1,s2,s3,s4,s5⟩
    go_simp
    with_reducible rfl
  rotate_left
  · simp only [Act.put,List.setIfInBounds_toArray,List.set_cons_zero,List.set_cons_succ,i64_w,i32_w]
    rfl
  refine pure_ (i:=14) (N:=some 19) (v:=?_) (a':=?_) #[true,true,true,true,true,true,true,true,true,false,true,true,true,true,true,false,false] rfl rfl (any_of HT_.out (by kernel_rfl)) (fun _ _ _ h=>h) (Or.inl ⟨by rfl,?_⟩) ?_ ?_
  rotate_left
  · intro w'
    go_simp
    with_reducible rfl
  rotate_left
  · simp only [Act.put,List.setIfInBounds_toArray,List.set_cons_zero,List.set_cons_succ,i64_w,i32_w]
    rfl
  refine one_ (i:=9) (N:=some 14) #[true,true,true,true,true,true,true,true,true,true,true,true,true,true,true,false,false] rfl rfl (one_of HT_.out (by kernel_rfl)) (by decide) (fun K hK=>?_)
  refine goes_ Tryz.func75 (by kernel_rfl) rfl #[.slice A0_1 l0_1.length c0_1,.slice A1_1 l1_1.length c1_1] (by rfl) rfl rfl (by (try simp only [List.map_toArray,List.map_cons,List.map_nil]);first|done|rfl|(simp only [List.length_drop,List.length_take];rfl)) ?_
  with_reducible refine (girderref00_NatMul.calls k _ _ l0_1 _ _ l1_1 t230 _ ?side1 ?side2 ?side3 ?side4 A3.out).mono ?_
  (case side1=>repeat (first|exact (Kd.C_below HR0_1.out HB.out)|(with_reducible refine Kd.C_alloc ?_ _)|(with_reducible refine Kd.C_drewN ?_ _)|(with_reducible refine Kd.C_drew ?_)))
  (case side2=>exact HC0_1.out)
  (case side3=>repeat (first|exact (Kd.C_below HR1_1.out HB.out)|(with_reducible refine Kd.C_alloc ?_ _)|(with_reducible refine Kd.C_drewN ?_ _)|(with_reducible refine Kd.C_drew ?_)))
  (case side4=>exact HC1_1.out)
  rintro e w8 ⟨v231,rfl,ho0,hb⟩
  refine ⟨_,rfl,?_⟩
  have n0_:=Aside0.mk (Kd.R_lower ho0 (below_size (by repeat (first|(with_reducible first|exact HB.out|apply below_alloc|apply pw_below_drewN|apply below_drew1|refine below_set ?_ GE227.out|refine below_set ?_ GE228.out|refine below_set ?_ GE229.out)|exact HB.out))))
  have n1_:=Aside0.mk (blk_below (g:=gb227) (o:=.cells #[.bool a0_0,.slice A0_1 l0_1.length c0_1,.int .i64 a0_2] 53 (0,0)) (by (with_reducible repeat (first|refine blk_drewN ?_ _|refine blk_drew ?_|refine blk_alloc ?_ _));exact BK227.out) hb)
  have n2_:=Aside0.mk (blk_below (g:=gb228) (o:=.cells #[.bool a1_0,.slice A1_1 l1_1.length c1_1,.int .i64 a1_2] 53 (0,0)) (by (with_reducible repeat (first|refine blk_drewN ?_ _|refine blk_drew ?_|refine blk_alloc ?_ _));exact BK228.out) hb)
  have n3_:=Aside0.mk (blk_below (g:=gb229) (o:=.cells #[.bool false,.slice none 0 0,.int .i64 0] 53 (0,0)) (by (with_reducible repeat (first|refine blk_drewN ?_ _|refine blk_drew ?_|refine blk_alloc ?_ _));exact BK229.out) hb)
  have n4_:=Aside0.mk (below_step (by repeat (first|(with_reducible first|exact HB.out|apply below_alloc|apply pw_below_drewN|apply below_drew1|refine below_set ?_ GE227.out|refine below_set ?_ GE228.out|refine below_set ?_ GE229.out)|exact HB.out)) hb)
  clear BK227
  clear BK228
  clear BK229
  clear HB
  have HO232:=n0_
  have BK227:=n1_
  have BK228:=n2_
  have BK229:=n3_
  have HB:=n4_
  clear n0_ n1_ n2_ n3_ n4_
  (try clear hb)
  (try clear hb2)
  (try clear hk)
  (try clear hi)
  (try clear ho0)
  obtain ⟨Ao9,co9,eo9⟩:=Kd.R_slice HO232.out
  (first|subst eo9|(injection eo9 with f1_ f2_ f3_;have f4_:=f1_.symm;have f5_:=f3_.symm;clear f1_ f2_ f3_;subst f4_;subst f5_))
  refine hK.out _ _ ⟨(blk_cell BK227.out 0).trans rfl,(blk_cell BK227.out 1).trans rfl,(blk_cell BK227.out 2).trans rfl,(blk_cell BK228.out 0).trans rfl,(blk_cell BK228.out 1).trans rfl,(blk_cell BK228.out 2).trans rfl⟩ (fun hHeld=>?_)
  clear hK K
  refine norm_ (a':=?_) ?_ ?_
  rotate_left
  · show Act.put _ (some 14) _=_
    simp only [Act.put,List.setIfInBounds_toArray,List.set_cons_zero,List.set_cons_succ,i64_w,i32_w]
    rfl
  refine pure_ (i:=15) (N:=some 20) (v:=?_) (a':=?_) #[true,true,true,true,true,true,true,true,true,true,true,true,true,true,true,true,false] rfl rfl (any_of HT_.out (by kernel_rfl)) (fun _ _ _ h=>h) (Or.inl ⟨by rfl,?_⟩) ?_ ?_
  rotate_left
  · intro w'
    go_simp
    with_reducible rfl
  rotate_left
  · simp only [Act.put,List.setIfInBounds_toArray,List.set_cons_zero,List.set_cons_succ,i64_w,i32_w]
    rfl
  refine one_ (i:=16) (N:=none) #[true,true,true,true,true,true,true,true,true,true,true,true,true,true,true,true,true] rfl rfl (one_of HT_.out (by kernel_rfl)) (by decide) (fun K hK=>?_)
  have hs10:w8.cell? ⟨gb229,0,none⟩=some (.bool false):=(blk_cell BK229.out 0).trans rfl
  have hfs10:=blk_frozen BK229.out 0
  have hns10_0:=NB227_229.out
  have hns10_1:=NB228_229.out
  have hms10_0:=NB229_227.out
  have hms10_1:=NB229_228.out
  have hs11:w8.cell? ⟨gb229,1,none⟩=some (.slice none 0 0):=(blk_cell BK229.out 1).trans rfl
  have hfs11:=blk_frozen BK229.out 1
  have hns11_0:=NB227_229.out
  have hns11_1:=NB228_229.out
  have hms11_0:=NB229_227.out
  have hms11_1:=NB229_228.out
  have hs12:w8.cell? ⟨gb229,2,none⟩=some (.int .i64 0):=(blk_cell BK229.out 2).trans rfl
  have hfs12:=blk_frozen BK229.out 2
  have hns12_0:=NB227_229.out
  have hns12_1:=NB228_229.out
  have hms12_0:=NB229_227.out
  have hms12_1:=NB229_228.out
  refine skip_ (w1:=?_) (by rfl) rfl ?_ ?_
  rotate_left
  · go_simp
    rfl
  refine hK.out _ _ ⟨((cell_far (p:=⟨gb229,_,none⟩) NB227_229.out _).trans (((cell_far (p:=⟨gb229,_,none⟩) NB227_229.out _).trans (((cell_far (p:=⟨gb229,_,none⟩) NB227_229.out _).trans (hHeld.1)))))),((cell_far (p:=⟨gb229,_,none⟩) NB227_229.out _).trans (((cell_far (p:=⟨gb229,_,none⟩) NB227_229.out _).trans (((cell_far (p:=⟨gb229,_,none⟩) NB227_229.out _).trans (hHeld.2.1)))))),((cell_far (p:=⟨gb229,_,none⟩) NB227_229.out _).trans (((cell_far (p:=⟨gb229,_,none⟩) NB227_229.out _).trans (((cell_far (p:=⟨gb229,_,none⟩) NB227_229.out _).trans (hHeld.2.2.1)))))),((cell_far (p:=⟨gb229,_,none⟩) NB228_229.out _).trans (((cell_far (p:=⟨gb229,_,none⟩) NB228_229.out _).trans (((cell_far (p:=⟨gb229,_,none⟩) NB228_229.out _).trans (hHeld.2.2.2.1)))))),((cell_far (p:=⟨gb229,_,none⟩) NB228_229.out _).trans (((cell_far (p:=⟨gb229,_,none⟩) NB228_229.out _).trans (((cell_far (p:=⟨gb229,_,none⟩) NB228_229.out _).trans (hHeld.2.2.2.2.1)))))),((cell_far (p:=⟨gb229,_,none⟩) NB228_229.out _).trans (((cell_far (p:=⟨gb229,_,none⟩) NB228_229.out _).trans (((cell_far (p:=⟨gb229,_,none⟩) NB228_229.out _).trans (hHeld.2.2.2.2.2))))))⟩ (fun hHeld=>?_)
  clear hK K
  refine done_ (done_of HT_.out (by kernel_rfl)) ?_
  try go_wp2
  refine bodyPost_ret (results_cell_row rfl _ _ gb229 53 #[.bool (a0_0 != a1_0),.slice Ao9 t230.length co9,.int .i64 (wrap64 (a0_2 + a1_2))] (0,0) _ rfl (by (with_reducible repeat (first|refine blk_drewN ?_ _|refine blk_drew ?_|refine blk_alloc ?_ _));refine blk_put (cs:=#[.bool (a0_0 != a1_0),.slice Ao9 t230.length co9,.int .i64 0]) ?_ 2 _ rfl;(with_reducible repeat (first|refine blk_drewN ?_ _|refine blk_drew ?_|refine blk_alloc ?_ _));refine blk_put (cs:=#[.bool (a0_0 != a1_0),.slice none 0 0,.int .i64 0]) ?_ 1 _ rfl;(with_reducible repeat (first|refine blk_drewN ?_ _|refine blk_drew ?_|refine blk_alloc ?_ _));refine blk_put (cs:=#[.bool false,.slice none 0 0,.int .i64 0]) ?_ 0 _ rfl;(with_reducible repeat (first|refine blk_drewN ?_ _|refine blk_drew ?_|refine blk_alloc ?_ _));exact BK229.out) Tryz.underlying53 rfl (by kernel_rfl)) rfl ?_
  exact ⟨_,by first|rfl|(simp [errW_none,errW_some] <;> rfl)|(simp [*,errW_none,errW_some] <;> rfl),by (with_reducible repeat (first|apply Kd.R_alloc|apply Kd.R_drewN|apply Kd.R_drew));exact Kd.R_mono (Kd.R_far (p:=⟨gb229,2,none⟩) (Kd.R_far (p:=⟨gb229,1,none⟩) (Kd.R_far (p:=⟨gb229,0,none⟩) (Kd.R_types HO232.out BK229.out (by decide)) (fun _ hk=>hk.2) (.bool (a0_0 != a1_0))) (fun _ hk=>hk.2) (.slice Ao9 t230.length co9)) (fun _ hk=>hk.2) (.int .i64 (wrap64 (a0_2 + a1_2)))) (fun _ hk=>trivial),by repeat (first|(with_reducible first|exact HB.out|apply below_alloc|apply pw_below_drewN|apply below_drew1|refine below_set ?_ GE227.out|refine below_set ?_ GE228.out|refine below_set ?_ GE229.out)|exact HB.out)⟩
def girderref00_Num_Zero.f (k:Nat) (a0_0:Bool) (l0_1:List Int) (a0_2:Int):Option (Bool):=(girderref00_NatBits.f k l0_1).bind fun t234=>(some (t234 == 0))
theorem girderref00_Num_Zero.mono:∀ a0 a1 a2 k,LeO (girderref00_Num_Zero.f k a0 a1 a2) (girderref00_Num_Zero.f (k + 1) a0 a1 a2):=by
  intro a0 a1 a2 k
  unfold girderref00_Num_Zero.f
  repeat' first
      | (with_reducible exact girderref00_NatBits.mono _ _)
      | (with_reducible exact LeO.refl _)
      | (with_reducible exact LeO.none _)
      | (with_reducible refine LeO.ite ?_ ?_)
      | (with_reducible refine LeO.bind ?_ (fun _=>?_))
      | exact girderref00_NatBits.mono _ _
      | exact LeO.none _
      | refine LeO.ite ?_ ?_
      | refine LeO.bind ?_ (fun _=>?_)
set_option maxHeartbeats 8000000 in
set_option maxRecDepth 100000 in
theorem girderref00_Num_Zero.calls (k:Nat) (a0_0:Bool) (A0_1:Option Addr) (c0_1:Nat) (l0_1:List Int) (a0_2:Int) (r:Bool) (w:World) (hr0_1:Kd.C (Kd.int .u64) w A0_1 l0_1.length l0_1) (hc0_1:l0_1.length≤c0_1) (h:girderref00_Num_Zero.f k a0_0 l0_1 a0_2=some r) :
    Calls Tryz.prog 92 #[.agg #[.bool a0_0,.slice A0_1 l0_1.length c0_1,.int .i64 a0_2]] w fun e w'=>e=.returned (.bool r)∧Below w.heap.size w w':=by
  have hu53:=Tryz.underlying53
  have HR0_1:=Aside0.mk hr0_1
  have HC0_1:=Aside0.mk hc0_1
  clear hr0_1 hc0_1
  have HB:=Aside0.mk (Below.refl w.heap.size w)
  have H:((girderref00_NatBits.f k l0_1).bind fun t234=>(some (t234 == 0)))=some r:=h
  clear h
  replace H:=Option.bind_eq_some_iff.mp H
  obtain ⟨t234,A20,H⟩:=H
  replace H:(some (t234 == 0))=some r:=H
  have A2:=Aside0.mk A20
  clear A20
  obtain rfl:=Option.some.inj H
  go_enter Tryz.func92,Tryz.ntmps92
  go_wp2_with (first|((with_reducible refine gate_dst (N:=1) rfl ?_);refine box_event ?hg (N:=1) ?hd (cs:=#[.bool a0_0,.slice A0_1 l0_1.length c0_1,.int .i64 a0_2]) (t:=53) ?hr ?_;(case hd=>rfl);(case hg=>rfl);(case hr=>first|(go_simp;done)|(go_simp;rfl));intro gb233 hg w3 hbox hb;have n0_:=Aside0.mk (below_step (by repeat (first|(with_reducible first|exact HB.out|apply below_alloc|apply pw_below_drewN|apply below_drew1)|exact HB.out)) hb);have n1_:=Aside0.mk (hbox);have n2_:=Aside0.mk ((by rw [hg];exact (below_size (by repeat (first|(with_reducible first|exact HB.out|apply below_alloc|apply pw_below_drewN|apply below_drew1)|exact HB.out))):w.heap.size≤gb233));have n3_:=Aside0.mk ((by rw [hg];exact (below_size (by repeat (first|(with_reducible first|exact HB.out|apply below_alloc|apply pw_below_drewN|apply below_drew1)|exact HB.out))):w.heap.size≤gb233));clear HB;have HB:=n0_;have BK233:=n1_;have GW233:=n2_;have GE233:=n3_;clear n0_ n1_ n2_ n3_;clear hb hbox hg;have hcz4_0:w3.cell? ⟨gb233,0,none⟩=some (.bool a0_0):=(blk_cell BK233.out 0).trans rfl;have hcz4_1:w3.cell? ⟨gb233,1,none⟩=some (.slice A0_1 l0_1.length c0_1):=(blk_cell BK233.out 1).trans rfl;have hcz4_2:w3.cell? ⟨gb233,2,none⟩=some (.int .i64 a0_2):=(blk_cell BK233.out 2).trans rfl;have hfz4_0:=blk_frozen BK233.out 0;have hfz4_1:=blk_frozen BK233.out 1;have hfz4_2:=blk_frozen BK233.out 2)|((with_reducible refine gate_callee (f:=103) rfl ?_);refine goesL_ (some 5) rfl rfl Tryz.func103 (by kernel_rfl) rfl #[.slice A0_1 l0_1.length c0_1] rfl (by (try simp only [List.map_toArray,List.map_cons,List.map_nil]);first|done|rfl|(simp only [List.length_drop,List.length_take];rfl)) ?_;(with_reducible refine (girderref00_NatBits.calls k _ _ l0_1 t234 _ ?side1 ?side2 A2.out).mono ?_);(case side1=>repeat (first|exact (Kd.C_below HR0_1.out HB.out)|(with_reducible refine Kd.C_alloc ?_ _)|(with_reducible refine Kd.C_drewN ?_ _)|(with_reducible refine Kd.C_drew ?_)));(case side2=>exact HC0_1.out);rintro e w5 ⟨rfl,hb⟩;refine ⟨_,rfl,?_⟩;have n0_:=Aside0.mk (blk_below (g:=gb233) (o:=.cells #[.bool a0_0,.slice A0_1 l0_1.length c0_1,.int .i64 a0_2] 53 (0,0)) (by (with_reducible repeat (first|refine blk_drewN ?_ _|refine blk_drew ?_|refine blk_alloc ?_ _));exact BK233.out) hb);have n1_:=Aside0.mk (below_step (by repeat (first|(with_reducible first|exact HB.out|apply below_alloc|apply pw_below_drewN|apply below_drew1|refine below_set ?_ GE233.out)|exact HB.out)) hb);clear BK233;clear HB;have BK233:=n0_;have HB:=n1_;clear n0_ n1_;(try clear hb);(try clear hb2);(try clear hk);(try clear hi)))
  go_ret
  exact ⟨by first|rfl|(simp [errW_none,errW_some] <;> rfl)|(simp [*,errW_none,errW_some] <;> rfl),by repeat (first|(with_reducible first|exact HB.out|apply below_alloc|apply pw_below_drewN|apply below_drew1|refine below_set ?_ GE233.out)|exact HB.out)⟩
def girderref00_Num_Sign.f (k:Nat) (a0_0:Bool) (l0_1:List Int) (a0_2:Int):Option (Int):=(girderref00_Num_Zero.f k a0_0 l0_1 a0_2).bind fun t236=>(if t236=true then (some 0) else (if a0_0=true then (some (-1)) else (some 1)))
theorem girderref00_Num_Sign.mono:∀ a0 a1 a2 k,LeO (girderref00_Num_Sign.f k a0 a1 a2) (girderref00_Num_Sign.f (k + 1) a0 a1 a2):=by
  intro a0 a1 a2 k
  unfold girderref00_Num_Sign.f
  repeat' first
      | (with_reducible exact girderref00_Num_Zero.mono _ _ _ _)
      | (with_reducible exact LeO.refl _)
      | (with_reducible exact LeO.none _)
      | (with_reducible refine LeO.ite ?_ ?_)
      | (with_reducible refine LeO.bind ?_ (fun _=>?_))
      | exact girderref00_Num_Zero.mono _ _ _ _
      | exact LeO.none _
      | refine LeO.ite ?_ ?_
      | refine LeO.bind ?_ (fun _=>?_)
set_option maxHeartbeats 8000000 in
set_option maxRecDepth 100000 in
theorem girderref00_Num_Sign.calls (k:Nat) (a0_0:Bool) (A0_1:Option Addr) (c0_1:Nat) (l0_1:List Int) (a0_2:Int) (r:Int) (w:World) (hr0_1:Kd.C (Kd.int .u64) w A0_1 l0_1.length l0_1) (hc0_1:l0_1.length≤c0_1) (h:girderref00_Num_Sign.f k a0_0 l0_1 a0_2=some r) :
    Calls Tryz.prog 56 #[.agg #[.bool a0_0,.slice A0_1 l0_1.length c0_1,.int .i64 a0_2]] w fun e w'=>e=.returned (.int .i64 r)∧Below w.heap.size w w':=by
  have hu53:=Tryz.underlying53
  have HR0_1:=Aside0.mk hr0_1
  have HC0_1:=Aside0.mk hc0_1
  clear hr0_1 hc0_1
  have HB:=Aside0.mk (Below.refl w.heap.size w)
  have H:((girderref00_Num_Zero.f k a0_0 l0_1 a0_2).bind fun t236=>(if t236=true then (some 0) else (if a0_0=true then (some (-1)) else (some 1))))=some r:=h
  clear h
  replace H:=Option.bind_eq_some_iff.mp H
  obtain ⟨t236,A20,H⟩:=H
  replace H:(if t236=true then (some 0) else (if a0_0=true then (some (-1)) else (some 1)))=some r:=H
  have A2:=Aside0.mk A20
  clear A20
  by_cases c3:t236=true
  · subst c3
    have H1:(some 0)=some r:=by rw [if_pos rfl] at H;exact H
    clear H
    have H:=H1
    clear H1
    obtain rfl:=Option.some.inj H
    go_enter Tryz.func56,Tryz.ntmps56
    go_wp2_with (first|((with_reducible refine gate_dst (N:=1) rfl ?_);refine box_event ?hg (N:=1) ?hd (cs:=#[.bool a0_0,.slice A0_1 l0_1.length c0_1,.int .i64 a0_2]) (t:=53) ?hr ?_;(case hd=>rfl);(case hg=>rfl);(case hr=>first|(go_simp;done)|(go_simp;rfl));intro gb235 hg w4 hbox hb;have n0_:=Aside0.mk (below_step (by repeat (first|(with_reducible first|exact HB.out|apply below_alloc|apply pw_below_drewN|apply below_drew1)|exact HB.out)) hb);have n1_:=Aside0.mk (hbox);have n2_:=Aside0.mk ((by rw [hg];exact (below_size (by repeat (first|(with_reducible first|exact HB.out|apply below_alloc|apply pw_below_drewN|apply below_drew1)|exact HB.out))):w.heap.size≤gb235));have n3_:=Aside0.mk ((by rw [hg];exact (below_size (by repeat (first|(with_reducible first|exact HB.out|apply below_alloc|apply pw_below_drewN|apply below_drew1)|exact HB.out))):w.heap.size≤gb235));clear HB;have HB:=n0_;have BK235:=n1_;have GW235:=n2_;have GE235:=n3_;clear n0_ n1_ n2_ n3_;clear hb hbox hg;have hcz5_0:w4.cell? ⟨gb235,0,none⟩=some (.bool a0_0):=(blk_cell BK235.out 0).trans rfl;have hcz5_1:w4.cell? ⟨gb235,1,none⟩=some (.slice A0_1 l0_1.length c0_1):=(blk_cell BK235.out 1).trans rfl;have hcz5_2:w4.cell? ⟨gb235,2,none⟩=some (.int .i64 a0_2):=(blk_cell BK235.out 2).trans rfl;have hfz5_0:=blk_frozen BK235.out 0;have hfz5_1:=blk_frozen BK235.out 1;have hfz5_2:=blk_frozen BK235.out 2)|((with_reducible refine gate_callee (f:=92) rfl ?_);refine goesL_ (some 4) rfl rfl Tryz.func92 (by kernel_rfl) rfl #[.agg #[.bool a0_0,.slice A0_1 l0_1.length c0_1,.int .i64 a0_2]] rfl (by (try simp only [List.map_toArray,List.map_cons,List.map_nil]);first|done|rfl|(simp only [List.length_drop,List.length_take];rfl)) ?_;(with_reducible refine (girderref00_Num_Zero.calls k a0_0 _ _ l0_1 a0_2 true _ ?side1 ?side2 A2.out).mono ?_);(case side1=>repeat (first|exact (Kd.C_below HR0_1.out HB.out)|(with_reducible refine Kd.C_alloc ?_ _)|(with_reducible refine Kd.C_drewN ?_ _)|(with_reducible refine Kd.C_drew ?_)));(case side2=>exact HC0_1.out);rintro e w6 ⟨rfl,hb⟩;refine ⟨_,rfl,?_⟩;have n0_:=Aside0.mk (blk_below (g:=gb235) (o:=.cells #[.bool a0_0,.slice A0_1 l0_1.length c0_1,.int .i64 a0_2] 53 (0,0)) (by (with_reducible repeat (first|refine blk_drewN ?_ _|refine blk_drew ?_|refine blk_alloc ?_ _));exact BK235.out) hb);have n1_:=Aside0.mk (below_step (by repeat (first|(with_reducible first|exact HB.out|apply below_alloc|apply pw_below_drewN|apply below_drew1|refine below_set ?_ GE235.out)|exact HB.out)) hb);clear BK235;clear HB;have BK235:=n0_;have HB:=n1_;clear n0_ n1_;(try clear hb);(try clear hb2);(try clear hk);(try clear hi)))
    go_ret
    exact ⟨by first|rfl|(simp [errW_none,errW_some] <;> rfl)|(simp [*,errW_none,errW_some] <;> rfl),by repeat (first|(with_reducible first|exact HB.out|apply below_alloc|apply pw_below_drewN|apply below_drew1|refine below_set ?_ GE235.out)|exact HB.out)⟩
  · replace c3:=Bool.eq_false_iff.mpr c3
    subst c3
    have H1:(if a0_0=true then (some (-1)) else (some 1))=some r:=by rw [if_neg (show ¬ (false=true) by decide)] at H;exact H
    clear H
    have H:=H1
    clear H1
    by_cases c7:a0_0=true
    · subst c7
      have H1:(some (-1))=some r:=by rw [if_pos rfl] at H;exact H
      clear H
      have H:=H1
      clear H1
      obtain rfl:=Option.some.inj H
      go_enter Tryz.func56,Tryz.ntmps56
      go_wp2_with (first|((with_reducible refine gate_dst (N:=1) rfl ?_);refine box_event ?hg (N:=1) ?hd (cs:=#[.bool true,.slice A0_1 l0_1.length c0_1,.int .i64 a0_2]) (t:=53) ?hr ?_;(case hd=>rfl);(case hg=>rfl);(case hr=>first|(go_simp;done)|(go_simp;rfl));intro gb235 hg w8 hbox hb;have n0_:=Aside0.mk (below_step (by repeat (first|(with_reducible first|exact HB.out|apply below_alloc|apply pw_below_drewN|apply below_drew1)|exact HB.out)) hb);have n1_:=Aside0.mk (hbox);have n2_:=Aside0.mk ((by rw [hg];exact (below_size (by repeat (first|(with_reducible first|exact HB.out|apply below_alloc|apply pw_below_drewN|apply below_drew1)|exact HB.out))):w.heap.size≤gb235));have n3_:=Aside0.mk ((by rw [hg];exact (below_size (by repeat (first|(with_reducible first|exact HB.out|apply below_alloc|apply pw_below_drewN|apply below_drew1)|exact HB.out))):w.heap.size≤gb235));clear HB;have HB:=n0_;have BK235:=n1_;have GW235:=n2_;have GE235:=n3_;clear n0_ n1_ n2_ n3_;clear hb hbox hg;have hcz9_0:w8.cell? ⟨gb235,0,none⟩=some (.bool true):=(blk_cell BK235.out 0).trans rfl;have hcz9_1:w8.cell? ⟨gb235,1,none⟩=some (.slice A0_1 l0_1.length c0_1):=(blk_cell BK235.out 1).trans rfl;have hcz9_2:w8.cell? ⟨gb235,2,none⟩=some (.int .i64 a0_2):=(blk_cell BK235.out 2).trans rfl;have hfz9_0:=blk_frozen BK235.out 0;have hfz9_1:=blk_frozen BK235.out 1;have hfz9_2:=blk_frozen BK235.out 2)|((with_reducible refine gate_callee (f:=92) rfl ?_);refine goesL_ (some 4) rfl rfl Tryz.func92 (by kernel_rfl) rfl #[.agg #[.bool true,.slice A0_1 l0_1.length c0_1,.int .i64 a0_2]] rfl (by (try simp only [List.map_toArray,List.map_cons,List.map_nil]);first|done|rfl|(simp only [List.length_drop,List.length_take];rfl)) ?_;(with_reducible refine (girderref00_Num_Zero.calls k true _ _ l0_1 a0_2 false _ ?side1 ?side2 A2.out).mono ?_);(case side1=>repeat (first|exact (Kd.C_below HR0_1.out HB.out)|(with_reducible refine Kd.C_alloc ?_ _)|(with_reducible refine Kd.C_drewN ?_ _)|(with_reducible refine Kd.C_drew ?_)));(case side2=>exact HC0_1.out);rintro e w10 ⟨rfl,hb⟩;refine ⟨_,rfl,?_⟩;have n0_:=Aside0.mk (blk_below (g:=gb235) (o:=.cells #[.bool true,.slice A0_1 l0_1.length c0_1,.int .i64 a0_2] 53 (0,0)) (by (with_reducible repeat (first|refine blk_drewN ?_ _|refine blk_drew ?_|refine blk_alloc ?_ _));exact BK235.out) hb);have n1_:=Aside0.mk (below_step (by repeat (first|(with_reducible first|exact HB.out|apply below_alloc|apply pw_below_drewN|apply below_drew1|refine below_set ?_ GE235.out)|exact HB.out)) hb);clear BK235;clear HB;have BK235:=n0_;have HB:=n1_;clear n0_ n1_;(try clear hb);(try clear hb2);(try clear hk);(try clear hi);have hcz11_0:w10.cell? ⟨gb235,0,none⟩=some (.bool true):=(blk_cell BK235.out 0).trans rfl;have hcz11_1:w10.cell? ⟨gb235,1,none⟩=some (.slice A0_1 l0_1.length c0_1):=(blk_cell BK235.out 1).trans rfl;have hcz11_2:w10.cell? ⟨gb235,2,none⟩=some (.int .i64 a0_2):=(blk_cell BK235.out 2).trans rfl;have hfz11_0:=blk_frozen BK235.out 0;have hfz11_1:=blk_frozen BK235.out 1;have hfz11_2:=blk_frozen BK235.out 2))
      go_ret
      exact ⟨by first|rfl|(simp [errW_none,errW_some] <;> rfl)|(simp [*,errW_none,errW_some] <;> rfl),by repeat (first|(with_reducible first|exact HB.out|apply below_alloc|apply pw_below_drewN|apply below_drew1|refine below_set ?_ GE235.out)|exact HB.out)⟩
    · replace c7:=Bool.eq_false_iff.mpr c7
      subst c7
      have H1:(some 1)=some r:=by rw [if_neg (show ¬ (false=true) by decide)] at H;exact H
      clear H
      have H:=H1
      clear H1
      obtain rfl:=Option.some.inj H
      go_enter Tryz.func56,Tryz.ntmps56
      go_wp2_with (first|((with_reducible refine gate_dst (N:=1) rfl ?_);refine box_event ?hg (N:=1) ?hd (cs:=#[.bool false,.slice A0_1 l0_1.length c0_1,.int .i64 a0_2]) (t:=53) ?hr ?_;(case hd=>rfl);(case hg=>rfl);(case hr=>first|(go_simp;done)|(go_simp;rfl));intro gb235 hg w12 hbox hb;have n0_:=Aside0.mk (below_step (by repeat (first|(with_reducible first|exact HB.out|apply below_alloc|apply pw_below_drewN|apply below_drew1)|exact HB.out)) hb);have n1_:=Aside0.mk (hbox);have n2_:=Aside0.mk ((by rw [hg];exact (below_size (by repeat (first|(with_reducible first|exact HB.out|apply below_alloc|apply pw_below_drewN|apply below_drew1)|exact HB.out))):w.heap.size≤gb235));have n3_:=Aside0.mk ((by rw [hg];exact (below_size (by repeat (first|(with_reducible first|exact HB.out|apply below_alloc|apply pw_below_drewN|apply below_drew1)|exact HB.out))):w.heap.size≤gb235));clear HB;have HB:=n0_;have BK235:=n1_;have GW235:=n2_;have GE235:=n3_;clear n0_ n1_ n2_ n3_;clear hb hbox hg;have hcz13_0:w12.cell? ⟨gb235,0,none⟩=some (.bool false):=(blk_cell BK235.out 0).trans rfl;have hcz13_1:w12.cell? ⟨gb235,1,none⟩=some (.slice A0_1 l0_1.length c0_1):=(blk_cell BK235.out 1).trans rfl;have hcz13_2:w12.cell? ⟨gb235,2,none⟩=some (.int .i64 a0_2):=(blk_cell BK235.out 2).trans rfl;have hfz13_0:=blk_frozen BK235.out 0;have hfz13_1:=blk_frozen BK235.out 1;have hfz13_2:=blk_frozen BK235.out 2)|((with_reducible refine gate_callee (f:=92) rfl ?_);refine goesL_ (some 4) rfl rfl Tryz.func92 (by kernel_rfl) rfl #[.agg #[.bool false,.slice A0_1 l0_1.length c0_1,.int .i64 a0_2]] rfl (by (try simp only [List.map_toArray,List.map_cons,List.map_nil]);first|done|rfl|(simp only [List.length_drop,List.length_take];rfl)) ?_;(with_reducible refine (girderref00_Num_Zero.calls k false _ _ l0_1 a0_2 false _ ?side1 ?side2 A2.out).mono ?_);(case side1=>repeat (first|exact (Kd.C_below HR0_1.out HB.out)|(with_reducible refine Kd.C_alloc ?_ _)|(with_reducible refine Kd.C_drewN ?_ _)|(with_reducible refine Kd.C_drew ?_)));(case side2=>exact HC0_1.out);rintro e w14 ⟨rfl,hb⟩;refine ⟨_,rfl,?_⟩;have n0_:=Aside0.mk (blk_below (g:=gb235) (o:=.cells #[.bool false,.slice A0_1 l0_1.length c0_1,.int .i64 a0_2] 53 (0,0)) (by (with_reducible repeat (first|refine blk_drewN ?_ _|refine blk_drew ?_|refine blk_alloc ?_ _));exact BK235.out) hb);have n1_:=Aside0.mk (below_step (by repeat (first|(with_reducible first|exact HB.out|apply below_alloc|apply pw_below_drewN|apply below_drew1|refine below_set ?_ GE235.out)|exact HB.out)) hb);clear BK235;clear HB;have BK235:=n0_;have HB:=n1_;clear n0_ n1_;(try clear hb);(try clear hb2);(try clear hk);(try clear hi);have hcz15_0:w14.cell? ⟨gb235,0,none⟩=some (.bool false):=(blk_cell BK235.out 0).trans rfl;have hcz15_1:w14.cell? ⟨gb235,1,none⟩=some (.slice A0_1 l0_1.length c0_1):=(blk_cell BK235.out 1).trans rfl;have hcz15_2:w14.cell? ⟨gb235,2,none⟩=some (.int .i64 a0_2):=(blk_cell BK235.out 2).trans rfl;have hfz15_0:=blk_frozen BK235.out 0;have hfz15_1:=blk_frozen BK235.out 1;have hfz15_2:=blk_frozen BK235.out 2))
      go_ret
      exact ⟨by first|rfl|(simp [errW_none,errW_some] <;> rfl)|(simp [*,errW_none,errW_some] <;> rfl),by repeat (first|(with_reducible first|exact HB.out|apply below_alloc|apply pw_below_drewN|apply below_drew1|refine below_set ?_ GE235.out)|exact HB.out)⟩
end Go.Proofs.YtmndoelimincdaaGreatDoor.XRf
