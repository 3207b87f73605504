/- Steps towards the law TopUndoes; words printed by the kit, and printed texts, are cut to what is used, and spaces are left out. No condition. -/
import Derived.Test.YtjckhhecnebmmaaGreatDoorZ4
set_option linter.unusedVariables false
set_option linter.unusedSimpArgs false
section
namespace Go.Proofs.YtjckhhecnebmmaaGreatDoor.QAll
open Go.RowKit Go.Proofs.YtjckhhecnebmmaaGreatDoorW.PrintWords Go.Proofs.YtjckhhecnebmmaaGreatDoorW.PrintLast Go.Proofs.YtjckhhecnebmmaaGreatDoorW.PrintMore
attribute [local go_sem] max2_int min2_int max_two min_two max_three min_three max_four min_four   
set_option linter.unusedVariables false
set_option linter.unusedSimpArgs false
mutual
def saturatetop_sameNode.j0:Nat→Bool→Int→Int→Int→ByteArray→List Int→Int→Int→Int→ByteArray→List Int→Option (Bool)
 | 0,_,_,_,_,_,_,_,_,_,_,_=>none
 | k+1,x40,x122000,x122001,x122002,x122003,x122004,x123000,x123001,x123002,x123003,x123004=>if x40=true then (some false)else (saturatetop_sameNode.l0 k (x122004.length:Int) 0 x122000 x122001 x122002 x122003 x122004 x123000 x123001 x123002 x123003 x123004)
def saturatetop_sameNode.l0:Nat→Int→Int→Int→Int→Int→ByteArray→List Int→Int→Int→Int→ByteArray→List Int→Option (Bool)
 | 0,_,_,_,_,_,_,_,_,_,_,_,_=>none
 | k+1,x43,x44,x122000,x122001,x122002,x122003,x122004,x123000,x123001,x123002,x123003,x123004=>if x44 < x43 then (if 0≤x44 then (if x44 < (x122004.length:Int)then (if x44 < (x123004.length:Int)then (if (rd x122004 x44)=(rd x123004 x44)then (saturatetop_sameNode.l0 k x43 (wrap64 (x44+1)) x122000 x122001 x122002 x122003 x122004 x123000 x123001 x123002 x123003 x123004)else (some false))else (none))else (none))else (none))else (some true)
end
def saturatetop_sameNode.f (k:Nat) (a0_0:Int) (a0_1:Int) (a0_2:Int) (a0_3:ByteArray) (l0_4:List Int) (a1_0:Int) (a1_1:Int) (a1_2:Int) (a1_3:ByteArray) (l1_4:List Int):Option (Bool):=if a0_0=a1_0 then (if a0_1=a1_1 then (if a0_2=a1_2 then (if a0_3.toList=a1_3.toList then (saturatetop_sameNode.j0 k ((l0_4.length:Int) != (l1_4.length:Int)) a0_0 a0_1 a0_2 a0_3 l0_4 a1_0 a1_1 a1_2 a1_3 l1_4)else (saturatetop_sameNode.j0 k true a0_0 a0_1 a0_2 a0_3 l0_4 a1_0 a1_1 a1_2 a1_3 l1_4))else (saturatetop_sameNode.j0 k true a0_0 a0_1 a0_2 a0_3 l0_4 a1_0 a1_1 a1_2 a1_3 l1_4))else (saturatetop_sameNode.j0 k true a0_0 a0_1 a0_2 a0_3 l0_4 a1_0 a1_1 a1_2 a1_3 l1_4))else (saturatetop_sameNode.j0 k true a0_0 a0_1 a0_2 a0_3 l0_4 a1_0 a1_1 a1_2 a1_3 l1_4)
theorem saturatetop_sameNode.mono_l:∀ k,(∀ y0 y1 y2 y3 y4 y5 y6 y7 y8 y9 y10,LeO (saturatetop_sameNode.j0 k y0 y1 y2 y3 y4 y5 y6 y7 y8 y9 y10) (saturatetop_sameNode.j0 (k+1) y0 y1 y2 y3 y4 y5 y6 y7 y8 y9 y10))∧(∀ y0 y1 y2 y3 y4 y5 y6 y7 y8 y9 y10 y11,LeO (saturatetop_sameNode.l0 k y0 y1 y2 y3 y4 y5 y6 y7 y8 y9 y10 y11) (saturatetop_sameNode.l0 (k+1) y0 y1 y2 y3 y4 y5 y6 y7 y8 y9 y10 y11))
 | 0=>⟨fun _ _ _ _ _ _ _ _ _ _ _ r h=>by simp [saturatetop_sameNode.j0]at h,fun _ _ _ _ _ _ _ _ _ _ _ _ r h=>by simp [saturatetop_sameNode.l0]at h⟩
 | k+1=>by
  obtain ⟨ih0,ih1⟩:=saturatetop_sameNode.mono_l k
  refine ⟨?_,?_⟩
  ·intro y0 y1 y2 y3 y4 y5 y6 y7 y8 y9 y10
   unfold saturatetop_sameNode.j0
   repeat' first
   | (with_reducible exact ih0 _ _ _ _ _ _ _ _ _ _ _)
   | (with_reducible exact ih1 _ _ _ _ _ _ _ _ _ _ _ _)
   | (with_reducible exact LeO.refl _)
   | (with_reducible exact LeO.none _)
   | (with_reducible refine LeO.ite ?_ ?_)
   | (with_reducible refine LeO.bind ?_ (fun _=>?_))
   | exact ih0 _ _ _ _ _ _ _ _ _ _ _
   | exact ih1 _ _ _ _ _ _ _ _ _ _ _ _
   | exact LeO.none _
   | refine LeO.ite ?_ ?_
   | refine LeO.bind ?_ (fun _=>?_)
  ·intro y0 y1 y2 y3 y4 y5 y6 y7 y8 y9 y10 y11
   unfold saturatetop_sameNode.l0
   repeat' first
   | (with_reducible exact ih0 _ _ _ _ _ _ _ _ _ _ _)
   | (with_reducible exact ih1 _ _ _ _ _ _ _ _ _ _ _ _)
   | (with_reducible exact LeO.refl _)
   | (with_reducible exact LeO.none _)
   | (with_reducible refine LeO.ite ?_ ?_)
   | (with_reducible refine LeO.bind ?_ (fun _=>?_))
   | exact ih0 _ _ _ _ _ _ _ _ _ _ _
   | exact ih1 _ _ _ _ _ _ _ _ _ _ _ _
   | exact LeO.none _
   | refine LeO.ite ?_ ?_
   | refine LeO.bind ?_ (fun _=>?_)
set_option maxHeartbeats 8000000 in
set_option maxRecDepth 100000 in
theorem saturatetop_sameNode.calls (k:Nat) (a0_0:Int) (a0_1:Int) (a0_2:Int) (a0_3:ByteArray) (A0_4:Option Addr) (c0_4:Nat) (l0_4:List Int) (a1_0:Int) (a1_1:Int) (a1_2:Int) (a1_3:ByteArray) (A1_4:Option Addr) (c1_4:Nat) (l1_4:List Int) (r:Bool) (w:World) (hr0_4:Kd.C (Kd.int .i64) w A0_4 l0_4.length l0_4) (hc0_4:l0_4.length≤c0_4) (hr1_4:Kd.C (Kd.int .i64) w A1_4 l1_4.length l1_4) (hc1_4:l1_4.length≤c1_4) (h:saturatetop_sameNode.f k a0_0 a0_1 a0_2 a0_3 l0_4 a1_0 a1_1 a1_2 a1_3 l1_4=some r) :
  Calls Tryz.prog 17 #[.agg #[.int .i64 a0_0,.int .i64 a0_1,.int .u64 a0_2,.string a0_3,.slice A0_4 l0_4.length c0_4],.agg #[.int .i64 a1_0,.int .i64 a1_1,.int .u64 a1_2,.string a1_3,.slice A1_4 l1_4.length c1_4]] w fun e w'=>e=.returned (.bool r)∧Below w.heap.size w w':=by
 have hu56:=Tryz.underlying56
 have HR0_4:=Aside0.mk hr0_4
 have HC0_4:=Aside0.mk hc0_4
 clear hr0_4 hc0_4
 have HR1_4:=Aside0.mk hr1_4
 have HC1_4:=Aside0.mk hc1_4
 clear hr1_4 hc1_4
 have HB:=Aside0.mk (Below.refl w.heap.size w)
 have H:(if a0_0=a1_0 then (if a0_1=a1_1 then (if a0_2=a1_2 then (if a0_3.toList=a1_3.toList then (saturatetop_sameNode.j0 k ((l0_4.length:Int) != (l1_4.length:Int)) a0_0 a0_1 a0_2 a0_3 l0_4 a1_0 a1_1 a1_2 a1_3 l1_4)else (saturatetop_sameNode.j0 k true a0_0 a0_1 a0_2 a0_3 l0_4 a1_0 a1_1 a1_2 a1_3 l1_4))else (saturatetop_sameNode.j0 k true a0_0 a0_1 a0_2 a0_3 l0_4 a1_0 a1_1 a1_2 a1_3 l1_4))else (saturatetop_sameNode.j0 k true a0_0 a0_1 a0_2 a0_3 l0_4 a1_0 a1_1 a1_2 a1_3 l1_4))else (saturatetop_sameNode.j0 k true a0_0 a0_1 a0_2 a0_3 l0_4 a1_0 a1_1 a1_2 a1_3 l1_4))=some r:=h
 clear h
 have HC3:=Aside0.mk H
 clear H
 go_enter Tryz.func17,Tryz.ntmps17
 go_upto_region 1 with (first | ((with_reducible refine gate_dst (N:=2) rfl ?_);(try (refine gate_guard (by rfl) ?_;dsimp only));refine box_event ?hg (N:=2) ?hd (cs:=#[.int .i64 a0_0,.int .i64 a0_1,.int .u64 a0_2,.string a0_3,.slice A0_4 l0_4.length c0_4]) (t:=56) ?hr ?_;(case hd=>rfl);(case hg=>rfl);(case hr=>first | (go_simp;done) | (go_simp;rfl));intro gb121 hg w4 hbox hb;have n0_:=Aside0.mk (below_step (by repeat (first | (with_reducible first | exact HB.out | apply below_alloc | apply pw_below_drewN | apply below_drew1) | exact HB.out)) hb);have n1_:=Aside0.mk (hbox);have n2_:=Aside0.mk ((by rw [hg];exact (below_size (by repeat (first | (with_reducible first | exact HB.out | apply below_alloc | apply pw_below_drewN | apply below_drew1) | exact HB.out))):w.heap.size≤gb121));have n3_:=Aside0.mk ((by rw [hg];exact (below_size (by repeat (first | (with_reducible first | exact HB.out | apply below_alloc | apply pw_below_drewN | apply below_drew1) | exact HB.out))):w.heap.size≤gb121));clear HB;have HB:=n0_;have BK121:=n1_;have GW121:=n2_;have GE121:=n3_;clear n0_ n1_ n2_ n3_;clear hb hbox hg) | ((with_reducible refine gate_dst (N:=3) rfl ?_);(try (refine gate_guard (by rfl) ?_;dsimp only));refine box_event ?hg (N:=3) ?hd (cs:=#[.int .i64 a1_0,.int .i64 a1_1,.int .u64 a1_2,.string a1_3,.slice A1_4 l1_4.length c1_4]) (t:=56) ?hr ?_;(case hd=>rfl);(case hg=>rfl);(case hr=>first | (go_simp;done) | (go_simp;rfl));intro gb122 hg w5 hbox hb;have n0_:=Aside0.mk (blk_below (g:=gb121) (o:=.cells #[.int .i64 a0_0,.int .i64 a0_1,.int .u64 a0_2,.string a0_3,.slice A0_4 l0_4.length c0_4] 56 (0,0)) (by (with_reducible repeat (first | refine blk_drewN ?_ _ | refine blk_drew ?_ | refine blk_alloc ?_ _));exact BK121.out) hb);have n1_:=Aside0.mk (below_step (by repeat (first | (with_reducible first | exact HB.out | apply below_alloc | apply pw_below_drewN | apply below_drew1 | refine below_set ?_ GE121.out) | exact HB.out)) hb);have n2_:=Aside0.mk (hbox);have n3_:=Aside0.mk ((by rw [hg];exact (below_size (by repeat (first | (with_reducible first | exact HB.out | apply below_alloc | apply pw_below_drewN | apply below_drew1 | refine below_set ?_ GE121.out) | exact HB.out))):w.heap.size≤gb122));have n4_:=Aside0.mk ((by rw [hg];exact (below_size (by repeat (first | (with_reducible first | exact HB.out | apply below_alloc | apply pw_below_drewN | apply below_drew1 | refine below_set ?_ GE121.out) | exact HB.out))):w.heap.size≤gb122));have n5_:=Aside0.mk ((by rw [hg];exact Nat.ne_of_lt (blk_lt (g:=gb121) (o:=.cells #[.int .i64 a0_0,.int .i64 a0_1,.int .u64 a0_2,.string a0_3,.slice A0_4 l0_4.length c0_4] 56 (0,0)) (by (with_reducible repeat (first | refine blk_drewN ?_ _ | refine blk_drew ?_ | refine blk_alloc ?_ _));exact BK121.out)):gb121≠gb122));have n6_:=Aside0.mk ((by rw [hg];exact Nat.ne_of_gt (blk_lt (g:=gb121) (o:=.cells #[.int .i64 a0_0,.int .i64 a0_1,.int .u64 a0_2,.string a0_3,.slice A0_4 l0_4.length c0_4] 56 (0,0)) (by (with_reducible repeat (first | refine blk_drewN ?_ _ | refine blk_drew ?_ | refine blk_alloc ?_ _));exact BK121.out)):gb122≠gb121));clear BK121;clear HB;have BK121:=n0_;have HB:=n1_;have BK122:=n2_;have GW122:=n3_;have GE122:=n4_;have NB121_122:=n5_;have NB122_121:=n6_;clear n0_ n1_ n2_ n3_ n4_ n5_ n6_;clear hb hbox hg))
 repeat (go_quiet (first | ((with_reducible refine gate_dst (N:=2) rfl ?_);(try (refine gate_guard (by rfl) ?_;dsimp only));refine box_event ?hg (N:=2) ?hd (cs:=#[.int .i64 a0_0,.int .i64 a0_1,.int .u64 a0_2,.string a0_3,.slice A0_4 l0_4.length c0_4]) (t:=56) ?hr ?_;(case hd=>rfl);(case hg=>rfl);(case hr=>first | (go_simp;done) | (go_simp;rfl));intro gb121 hg w4 hbox hb;have n0_:=Aside0.mk (below_step (by repeat (first | (with_reducible first | exact HB.out | apply below_alloc | apply pw_below_drewN | apply below_drew1) | exact HB.out)) hb);have n1_:=Aside0.mk (hbox);have n2_:=Aside0.mk ((by rw [hg];exact (below_size (by repeat (first | (with_reducible first | exact HB.out | apply below_alloc | apply pw_below_drewN | apply below_drew1) | exact HB.out))):w.heap.size≤gb121));have n3_:=Aside0.mk ((by rw [hg];exact (below_size (by repeat (first | (with_reducible first | exact HB.out | apply below_alloc | apply pw_below_drewN | apply below_drew1) | exact HB.out))):w.heap.size≤gb121));clear HB;have HB:=n0_;have BK121:=n1_;have GW121:=n2_;have GE121:=n3_;clear n0_ n1_ n2_ n3_;clear hb hbox hg) | ((with_reducible refine gate_dst (N:=3) rfl ?_);(try (refine gate_guard (by rfl) ?_;dsimp only));refine box_event ?hg (N:=3) ?hd (cs:=#[.int .i64 a1_0,.int .i64 a1_1,.int .u64 a1_2,.string a1_3,.slice A1_4 l1_4.length c1_4]) (t:=56) ?hr ?_;(case hd=>rfl);(case hg=>rfl);(case hr=>first | (go_simp;done) | (go_simp;rfl));intro gb122 hg w5 hbox hb;have n0_:=Aside0.mk (blk_below (g:=gb121) (o:=.cells #[.int .i64 a0_0,.int .i64 a0_1,.int .u64 a0_2,.string a0_3,.slice A0_4 l0_4.length c0_4] 56 (0,0)) (by (with_reducible repeat (first | refine blk_drewN ?_ _ | refine blk_drew ?_ | refine blk_alloc ?_ _));exact BK121.out) hb);have n1_:=Aside0.mk (below_step (by repeat (first | (with_reducible first | exact HB.out | apply below_alloc | apply pw_below_drewN | apply below_drew1 | refine below_set ?_ GE121.out) | exact HB.out)) hb);have n2_:=Aside0.mk (hbox);have n3_:=Aside0.mk ((by rw [hg];exact (below_size (by repeat (first | (with_reducible first | exact HB.out | apply below_alloc | apply pw_below_drewN | apply below_drew1 | refine below_set ?_ GE121.out) | exact HB.out))):w.heap.size≤gb122));have n4_:=Aside0.mk ((by rw [hg];exact (below_size (by repeat (first | (with_reducible first | exact HB.out | apply below_alloc | apply pw_below_drewN | apply below_drew1 | refine below_set ?_ GE121.out) | exact HB.out))):w.heap.size≤gb122));have n5_:=Aside0.mk ((by rw [hg];exact Nat.ne_of_lt (blk_lt (g:=gb121) (o:=.cells #[.int .i64 a0_0,.int .i64 a0_1,.int .u64 a0_2,.string a0_3,.slice A0_4 l0_4.length c0_4] 56 (0,0)) (by (with_reducible repeat (first | refine blk_drewN ?_ _ | refine blk_drew ?_ | refine blk_alloc ?_ _));exact BK121.out)):gb121≠gb122));have n6_:=Aside0.mk ((by rw [hg];exact Nat.ne_of_gt (blk_lt (g:=gb121) (o:=.cells #[.int .i64 a0_0,.int .i64 a0_1,.int .u64 a0_2,.string a0_3,.slice A0_4 l0_4.length c0_4] 56 (0,0)) (by (with_reducible repeat (first | refine blk_drewN ?_ _ | refine blk_drew ?_ | refine blk_alloc ?_ _));exact BK121.out)):gb122≠gb121));clear BK121;clear HB;have BK121:=n0_;have HB:=n1_;have BK122:=n2_;have GW122:=n3_;have GE122:=n4_;have NB121_122:=n5_;have NB122_121:=n6_;clear n0_ n1_ n2_ n3_ n4_ n5_ n6_;clear hb hbox hg));go_upto_region 1 with (first | ((with_reducible refine gate_dst (N:=2) rfl ?_);(try (refine gate_guard (by rfl) ?_;dsimp only));refine box_event ?hg (N:=2) ?hd (cs:=#[.int .i64 a0_0,.int .i64 a0_1,.int .u64 a0_2,.string a0_3,.slice A0_4 l0_4.length c0_4]) (t:=56) ?hr ?_;(case hd=>rfl);(case hg=>rfl);(case hr=>first | (go_simp;done) | (go_simp;rfl));intro gb121 hg w4 hbox hb;have n0_:=Aside0.mk (below_step (by repeat (first | (with_reducible first | exact HB.out | apply below_alloc | apply pw_below_drewN | apply below_drew1) | exact HB.out)) hb);have n1_:=Aside0.mk (hbox);have n2_:=Aside0.mk ((by rw [hg];exact (below_size (by repeat (first | (with_reducible first | exact HB.out | apply below_alloc | apply pw_below_drewN | apply below_drew1) | exact HB.out))):w.heap.size≤gb121));have n3_:=Aside0.mk ((by rw [hg];exact (below_size (by repeat (first | (with_reducible first | exact HB.out | apply below_alloc | apply pw_below_drewN | apply below_drew1) | exact HB.out))):w.heap.size≤gb121));clear HB;have HB:=n0_;have BK121:=n1_;have GW121:=n2_;have GE121:=n3_;clear n0_ n1_ n2_ n3_;clear hb hbox hg) | ((with_reducible refine gate_dst (N:=3) rfl ?_);(try (refine gate_guard (by rfl) ?_;dsimp only));refine box_event ?hg (N:=3) ?hd (cs:=#[.int .i64 a1_0,.int .i64 a1_1,.int .u64 a1_2,.string a1_3,.slice A1_4 l1_4.length c1_4]) (t:=56) ?hr ?_;(case hd=>rfl);(case hg=>rfl);(case hr=>first | (go_simp;done) | (go_simp;rfl));intro gb122 hg w5 hbox hb;have n0_:=Aside0.mk (blk_below (g:=gb121) (o:=.cells #[.int .i64 a0_0,.int .i64 a0_1,.int .u64 a0_2,.string a0_3,.slice A0_4 l0_4.length c0_4] 56 (0,0)) (by (with_reducible repeat (first | refine blk_drewN ?_ _ | refine blk_drew ?_ | refine blk_alloc ?_ _));exact BK121.out) hb);have n1_:=Aside0.mk (below_step (by repeat (first | (with_reducible first | exact HB.out | apply below_alloc | apply pw_below_drewN | apply below_drew1 | refine below_set ?_ GE121.out) | exact HB.out)) hb);have n2_:=Aside0.mk (hbox);have n3_:=Aside0.mk ((by rw [hg];exact (below_size (by repeat (first | (with_reducible first | exact HB.out | apply below_alloc | apply pw_below_drewN | apply below_drew1 | refine below_set ?_ GE121.out) | exact HB.out))):w.heap.size≤gb122));have n4_:=Aside0.mk ((by rw [hg];exact (below_size (by repeat (first | (with_reducible first | exact HB.out | apply below_alloc | apply pw_below_drewN | apply below_drew1 | refine below_set ?_ GE121.out) | exact HB.out))):w.heap.size≤gb122));have n5_:=Aside0.mk ((by rw [hg];exact Nat.ne_of_lt (blk_lt (g:=gb121) (o:=.cells #[.int .i64 a0_0,.int .i64 a0_1,.int .u64 a0_2,.string a0_3,.slice A0_4 l0_4.length c0_4] 56 (0,0)) (by (with_reducible repeat (first | refine blk_drewN ?_ _ | refine blk_drew ?_ | refine blk_alloc ?_ _));exact BK121.out)):gb121≠gb122));have n6_:=Aside0.mk ((by rw [hg];exact Nat.ne_of_gt (blk_lt (g:=gb121) (o:=.cells #[.int .i64 a0_0,.int .i64 a0_1,.int .u64 a0_2,.string a0_3,.slice A0_4 l0_4.length c0_4] 56 (0,0)) (by (with_reducible repeat (first | refine blk_drewN ?_ _ | refine blk_drew ?_ | refine blk_alloc ?_ _));exact BK121.out)):gb122≠gb121));clear BK121;clear HB;have BK121:=n0_;have HB:=n1_;have BK122:=n2_;have GW122:=n3_;have GE122:=n4_;have NB121_122:=n5_;have NB122_121:=n6_;clear n0_ n1_ n2_ n3_ n4_ n5_ n6_;clear hb hbox hg)))
 (try simp only [Act.put,List.setIfInBounds_toArray,List.set_cons_zero,List.set_cons_succ])
 go_cut [40] (fun v40 wc=>∃ (kq:Nat) (x40_2:Bool),v40=.bool x40_2∧Aside0 (saturatetop_sameNode.j0 kq x40_2 a0_0 a0_1 a0_2 a0_3 l0_4 a1_0 a1_1 a1_2 a1_3 l1_4=some r)∧Aside0 (kq≤k)∧Aside0 (wc.heap[gb121]?=some (.cells #[.int .i64 a0_0,.int .i64 a0_1,.int .u64 a0_2,.string a0_3,(.slice A0_4 l0_4.length c0_4)] 56 (0,0)))∧Aside0 (wc.heap[gb122]?=some (.cells #[.int .i64 a1_0,.int .i64 a1_1,.int .u64 a1_2,.string a1_3,(.slice A1_4 l1_4.length c1_4)] 56 (0,0)))∧Aside0 (Below w.heap.size w wc))
 case first =>
  have H:=HC3.out
  clear HC3
  by_cases c6:a0_0=a1_0
  ·rw [if_pos c6]at H
   have c6b0:(a0_0 == a1_0)=true:=beq_iff_eq.mpr c6
   have c6b1:(a0_0 != a1_0)=false:=bne_eq_false_iff_eq.mpr c6
   clear c6
   (first | rw [c6b0] | (simp only [i64_w,i32_w];rw [c6b0]) | skip)
   by_cases c7:a0_1=a1_1
   ·rw [if_pos c7]at H
    have c7b0:(a0_1 == a1_1)=true:=beq_iff_eq.mpr c7
    have c7b1:(a0_1 != a1_1)=false:=bne_eq_false_iff_eq.mpr c7
    clear c7
    by_cases c8:a0_2=a1_2
    ·rw [if_pos c8]at H
     have c8b0:(a0_2 == a1_2)=true:=beq_iff_eq.mpr c8
     have c8b1:(a0_2 != a1_2)=false:=bne_eq_false_iff_eq.mpr c8
     clear c8
     by_cases c9:a0_3.toList=a1_3.toList
     ·rw [if_pos c9]at H
      have c9b0:(a0_3.toList == a1_3.toList)=true:=beq_iff_eq.mpr c9
      have c9b1:(a0_3.toList != a1_3.toList)=false:=bne_eq_false_iff_eq.mpr c9
      clear c9
      have H':=Aside0.mk H
      clear H
      have hnb10:=NB121_122.out
      have hnc10:=NB122_121.out
      have hcz11_0:w5.cell? ⟨gb121,0,none⟩=some (.int .i64 a0_0):=(blk_cell BK121.out 0).trans rfl
      have hcz11_1:w5.cell? ⟨gb121,1,none⟩=some (.int .i64 a0_1):=(blk_cell BK121.out 1).trans rfl
      have hcz11_2:w5.cell? ⟨gb121,2,none⟩=some (.int .u64 a0_2):=(blk_cell BK121.out 2).trans rfl
      have hcz11_3:w5.cell? ⟨gb121,3,none⟩=some (.string a0_3):=(blk_cell BK121.out 3).trans rfl
      have hcz11_4:w5.cell? ⟨gb121,4,none⟩=some (.slice A0_4 l0_4.length c0_4):=(blk_cell BK121.out 4).trans rfl
      have hfz11_0:=blk_frozen BK121.out 0
      have hfz11_1:=blk_frozen BK121.out 1
      have hfz11_2:=blk_frozen BK121.out 2
      have hfz11_3:=blk_frozen BK121.out 3
      have hfz11_4:=blk_frozen BK121.out 4
      have hcz12_0:w5.cell? ⟨gb122,0,none⟩=some (.int .i64 a1_0):=(blk_cell BK122.out 0).trans rfl
      have hcz12_1:w5.cell? ⟨gb122,1,none⟩=some (.int .i64 a1_1):=(blk_cell BK122.out 1).trans rfl
      have hcz12_2:w5.cell? ⟨gb122,2,none⟩=some (.int .u64 a1_2):=(blk_cell BK122.out 2).trans rfl
      have hcz12_3:w5.cell? ⟨gb122,3,none⟩=some (.string a1_3):=(blk_cell BK122.out 3).trans rfl
      have hcz12_4:w5.cell? ⟨gb122,4,none⟩=some (.slice A1_4 l1_4.length c1_4):=(blk_cell BK122.out 4).trans rfl
      have hfz12_0:=blk_frozen BK122.out 0
      have hfz12_1:=blk_frozen BK122.out 1
      have hfz12_2:=blk_frozen BK122.out 2
      have hfz12_3:=blk_frozen BK122.out 3
      have hfz12_4:=blk_frozen BK122.out 4
      go_wp2
      repeat (go_quiet (fail);try go_wp2)
      go_meet
      case rel=>exact ⟨_,(((l0_4.length:Int) != (l1_4.length:Int))),(by first | rfl | (simp;done) | (simp [*];done)),H',⟨by first | omega | exact Nat.le_refl _⟩,⟨by (with_reducible repeat (first | refine blk_drewN ?_ _ | refine blk_drew ?_ | refine blk_alloc ?_ _));exact BK121.out⟩,⟨by (with_reducible repeat (first | refine blk_drewN ?_ _ | refine blk_drew ?_ | refine blk_alloc ?_ _));exact BK122.out⟩,⟨by repeat (first | (with_reducible first | exact HB.out | apply below_alloc | apply pw_below_drewN | apply below_drew1 | refine below_set ?_ GE121.out | refine below_set ?_ GE122.out) | exact HB.out)⟩⟩
     ·rw [if_neg c9]at H
      have c9b0:(a0_3.toList == a1_3.toList)=false:=beq_eq_false_iff_ne.mpr c9
      have c9b1:(a0_3.toList != a1_3.toList)=true:=bne_iff_ne.mpr c9
      have H':=Aside0.mk H
      clear H
      have hnb13:=NB121_122.out
      have hnc13:=NB122_121.out
      have hcz14_0:w5.cell? ⟨gb121,0,none⟩=some (.int .i64 a0_0):=(blk_cell BK121.out 0).trans rfl
      have hcz14_1:w5.cell? ⟨gb121,1,none⟩=some (.int .i64 a0_1):=(blk_cell BK121.out 1).trans rfl
      have hcz14_2:w5.cell? ⟨gb121,2,none⟩=some (.int .u64 a0_2):=(blk_cell BK121.out 2).trans rfl
      have hcz14_3:w5.cell? ⟨gb121,3,none⟩=some (.string a0_3):=(blk_cell BK121.out 3).trans rfl
      have hcz14_4:w5.cell? ⟨gb121,4,none⟩=some (.slice A0_4 l0_4.length c0_4):=(blk_cell BK121.out 4).trans rfl
      have hfz14_0:=blk_frozen BK121.out 0
      have hfz14_1:=blk_frozen BK121.out 1
      have hfz14_2:=blk_frozen BK121.out 2
      have hfz14_3:=blk_frozen BK121.out 3
      have hfz14_4:=blk_frozen BK121.out 4
      have hcz15_0:w5.cell? ⟨gb122,0,none⟩=some (.int .i64 a1_0):=(blk_cell BK122.out 0).trans rfl
      have hcz15_1:w5.cell? ⟨gb122,1,none⟩=some (.int .i64 a1_1):=(blk_cell BK122.out 1).trans rfl
      have hcz15_2:w5.cell? ⟨gb122,2,none⟩=some (.int .u64 a1_2):=(blk_cell BK122.out 2).trans rfl
      have hcz15_3:w5.cell? ⟨gb122,3,none⟩=some (.string a1_3):=(blk_cell BK122.out 3).trans rfl
      have hcz15_4:w5.cell? ⟨gb122,4,none⟩=some (.slice A1_4 l1_4.length c1_4):=(blk_cell BK122.out 4).trans rfl
      have hfz15_0:=blk_frozen BK122.out 0
      have hfz15_1:=blk_frozen BK122.out 1
      have hfz15_2:=blk_frozen BK122.out 2
      have hfz15_3:=blk_frozen BK122.out 3
      have hfz15_4:=blk_frozen BK122.out 4
      go_wp2
      repeat (go_quiet (fail);try go_wp2)
      go_meet
      case rel=>exact ⟨_,(true),(by first | rfl | (simp;done) | (simp [*];done)),H',⟨by first | omega | exact Nat.le_refl _⟩,⟨by (with_reducible repeat (first | refine blk_drewN ?_ _ | refine blk_drew ?_ | refine blk_alloc ?_ _));exact BK121.out⟩,⟨by (with_reducible repeat (first | refine blk_drewN ?_ _ | refine blk_drew ?_ | refine blk_alloc ?_ _));exact BK122.out⟩,⟨by repeat (first | (with_reducible first | exact HB.out | apply below_alloc | apply pw_below_drewN | apply below_drew1 | refine below_set ?_ GE121.out | refine below_set ?_ GE122.out) | exact HB.out)⟩⟩
    ·rw [if_neg c8]at H
     have c8b0:(a0_2 == a1_2)=false:=beq_eq_false_iff_ne.mpr c8
     have c8b1:(a0_2 != a1_2)=true:=bne_iff_ne.mpr c8
     have H':=Aside0.mk H
     clear H
     have hnb16:=NB121_122.out
     have hnc16:=NB122_121.out
     have hcz17_0:w5.cell? ⟨gb121,0,none⟩=some (.int .i64 a0_0):=(blk_cell BK121.out 0).trans rfl
     have hcz17_1:w5.cell? ⟨gb121,1,none⟩=some (.int .i64 a0_1):=(blk_cell BK121.out 1).trans rfl
     have hcz17_2:w5.cell? ⟨gb121,2,none⟩=some (.int .u64 a0_2):=(blk_cell BK121.out 2).trans rfl
     have hcz17_3:w5.cell? ⟨gb121,3,none⟩=some (.string a0_3):=(blk_cell BK121.out 3).trans rfl
     have hcz17_4:w5.cell? ⟨gb121,4,none⟩=some (.slice A0_4 l0_4.length c0_4):=(blk_cell BK121.out 4).trans rfl
     have hfz17_0:=blk_frozen BK121.out 0
     have hfz17_1:=blk_frozen BK121.out 1
     have hfz17_2:=blk_frozen BK121.out 2
     have hfz17_3:=blk_frozen BK121.out 3
     have hfz17_4:=blk_frozen BK121.out 4
     have hcz18_0:w5.cell? ⟨gb122,0,none⟩=some (.int .i64 a1_0):=(blk_cell BK122.out 0).trans rfl
     have hcz18_1:w5.cell? ⟨gb122,1,none⟩=some (.int .i64 a1_1):=(blk_cell BK122.out 1).trans rfl
     have hcz18_2:w5.cell? ⟨gb122,2,none⟩=some (.int .u64 a1_2):=(blk_cell BK122.out 2).trans rfl
     have hcz18_3:w5.cell? ⟨gb122,3,none⟩=some (.string a1_3):=(blk_cell BK122.out 3).trans rfl
     have hcz18_4:w5.cell? ⟨gb122,4,none⟩=some (.slice A1_4 l1_4.length c1_4):=(blk_cell BK122.out 4).trans rfl
     have hfz18_0:=blk_frozen BK122.out 0
     have hfz18_1:=blk_frozen BK122.out 1
     have hfz18_2:=blk_frozen BK122.out 2
     have hfz18_3:=blk_frozen BK122.out 3
     have hfz18_4:=blk_frozen BK122.out 4
     go_wp2
     repeat (go_quiet (fail);try go_wp2)
     go_meet
     case rel=>exact ⟨_,(true),(by first | rfl | (simp;done) | (simp [*];done)),H',⟨by first | omega | exact Nat.le_refl _⟩,⟨by (with_reducible repeat (first | refine blk_drewN ?_ _ | refine blk_drew ?_ | refine blk_alloc ?_ _));exact BK121.out⟩,⟨by (with_reducible repeat (first | refine blk_drewN ?_ _ | refine blk_drew ?_ | refine blk_alloc ?_ _));exact BK122.out⟩,⟨by repeat (first | (with_reducible first | exact HB.out | apply below_alloc | apply pw_below_drewN | apply below_drew1 | refine below_set ?_ GE121.out | refine below_set ?_ GE122.out) | exact HB.out)⟩⟩
   ·rw [if_neg c7]at H
    have c7b0:(a0_1 == a1_1)=false:=beq_eq_false_iff_ne.mpr c7
    have c7b1:(a0_1 != a1_1)=true:=bne_iff_ne.mpr c7
    have H':=Aside0.mk H
    clear H
    have hnb19:=NB121_122.out
    have hnc19:=NB122_121.out
    have hcz20_0:w5.cell? ⟨gb121,0,none⟩=some (.int .i64 a0_0):=(blk_cell BK121.out 0).trans rfl
    have hcz20_1:w5.cell? ⟨gb121,1,none⟩=some (.int .i64 a0_1):=(blk_cell BK121.out 1).trans rfl
    have hcz20_2:w5.cell? ⟨gb121,2,none⟩=some (.int .u64 a0_2):=(blk_cell BK121.out 2).trans rfl
    have hcz20_3:w5.cell? ⟨gb121,3,none⟩=some (.string a0_3):=(blk_cell BK121.out 3).trans rfl
    have hcz20_4:w5.cell? ⟨gb121,4,none⟩=some (.slice A0_4 l0_4.length c0_4):=(blk_cell BK121.out 4).trans rfl
    have hfz20_0:=blk_frozen BK121.out 0
    have hfz20_1:=blk_frozen BK121.out 1
    have hfz20_2:=blk_frozen BK121.out 2
    have hfz20_3:=blk_frozen BK121.out 3
    have hfz20_4:=blk_frozen BK121.out 4
    have hcz21_0:w5.cell? ⟨gb122,0,none⟩=some (.int .i64 a1_0):=(blk_cell BK122.out 0).trans rfl
    have hcz21_1:w5.cell? ⟨gb122,1,none⟩=some (.int .i64 a1_1):=(blk_cell BK122.out 1).trans rfl
    have hcz21_2:w5.cell? ⟨gb122,2,none⟩=some (.int .u64 a1_2):=(blk_cell BK122.out 2).trans rfl
    have hcz21_3:w5.cell? ⟨gb122,3,none⟩=some (.string a1_3):=(blk_cell BK122.out 3).trans rfl
    have hcz21_4:w5.cell? ⟨gb122,4,none⟩=some (.slice A1_4 l1_4.length c1_4):=(blk_cell BK122.out 4).trans rfl
    have hfz21_0:=blk_frozen BK122.out 0
    have hfz21_1:=blk_frozen BK122.out 1
    have hfz21_2:=blk_frozen BK122.out 2
    have hfz21_3:=blk_frozen BK122.out 3
    have hfz21_4:=blk_frozen BK122.out 4
    go_wp2
    repeat (go_quiet (fail);try go_wp2)
    go_meet
    case rel=>exact ⟨_,(true),(by first | rfl | (simp;done) | (simp [*];done)),H',⟨by first | omega | exact Nat.le_refl _⟩,⟨by (with_reducible repeat (first | refine blk_drewN ?_ _ | refine blk_drew ?_ | refine blk_alloc ?_ _));exact BK121.out⟩,⟨by (with_reducible repeat (first | refine blk_drewN ?_ _ | refine blk_drew ?_ | refine blk_alloc ?_ _));exact BK122.out⟩,⟨by repeat (first | (with_reducible first | exact HB.out | apply below_alloc | apply pw_below_drewN | apply below_drew1 | refine below_set ?_ GE121.out | refine below_set ?_ GE122.out) | exact HB.out)⟩⟩
  ·rw [if_neg c6]at H
   have c6b0:(a0_0 == a1_0)=false:=beq_eq_false_iff_ne.mpr c6
   have c6b1:(a0_0 != a1_0)=true:=bne_iff_ne.mpr c6
   (first | rw [c6b0] | (simp only [i64_w,i32_w];rw [c6b0]) | skip)
   have H':=Aside0.mk H
   clear H
   have hnb22:=NB121_122.out
   have hnc22:=NB122_121.out
   have hcz23_0:w5.cell? ⟨gb121,0,none⟩=some (.int .i64 a0_0):=(blk_cell BK121.out 0).trans rfl
   have hcz23_1:w5.cell? ⟨gb121,1,none⟩=some (.int .i64 a0_1):=(blk_cell BK121.out 1).trans rfl
   have hcz23_2:w5.cell? ⟨gb121,2,none⟩=some (.int .u64 a0_2):=(blk_cell BK121.out 2).trans rfl
   have hcz23_3:w5.cell? ⟨gb121,3,none⟩=some (.string a0_3):=(blk_cell BK121.out 3).trans rfl
   have hcz23_4:w5.cell? ⟨gb121,4,none⟩=some (.slice A0_4 l0_4.length c0_4):=(blk_cell BK121.out 4).trans rfl
   have hfz23_0:=blk_frozen BK121.out 0
   have hfz23_1:=blk_frozen BK121.out 1
   have hfz23_2:=blk_frozen BK121.out 2
   have hfz23_3:=blk_frozen BK121.out 3
   have hfz23_4:=blk_frozen BK121.out 4
   have hcz24_0:w5.cell? ⟨gb122,0,none⟩=some (.int .i64 a1_0):=(blk_cell BK122.out 0).trans rfl
   have hcz24_1:w5.cell? ⟨gb122,1,none⟩=some (.int .i64 a1_1):=(blk_cell BK122.out 1).trans rfl
   have hcz24_2:w5.cell? ⟨gb122,2,none⟩=some (.int .u64 a1_2):=(blk_cell BK122.out 2).trans rfl
   have hcz24_3:w5.cell? ⟨gb122,3,none⟩=some (.string a1_3):=(blk_cell BK122.out 3).trans rfl
   have hcz24_4:w5.cell? ⟨gb122,4,none⟩=some (.slice A1_4 l1_4.length c1_4):=(blk_cell BK122.out 4).trans rfl
   have hfz24_0:=blk_frozen BK122.out 0
   have hfz24_1:=blk_frozen BK122.out 1
   have hfz24_2:=blk_frozen BK122.out 2
   have hfz24_3:=blk_frozen BK122.out 3
   have hfz24_4:=blk_frozen BK122.out 4
   go_wp2
   repeat (go_quiet (fail);try go_wp2)
   go_meet
   case rel=>exact ⟨_,(true),(by first | rfl | (simp;done) | (simp [*];done)),H',⟨by first | omega | exact Nat.le_refl _⟩,⟨by (with_reducible repeat (first | refine blk_drewN ?_ _ | refine blk_drew ?_ | refine blk_alloc ?_ _));exact BK121.out⟩,⟨by (with_reducible repeat (first | refine blk_drewN ?_ _ | refine blk_drew ?_ | refine blk_alloc ?_ _));exact BK122.out⟩,⟨by repeat (first | (with_reducible first | exact HB.out | apply below_alloc | apply pw_below_drewN | apply below_drew1 | refine below_set ?_ GE121.out | refine below_set ?_ GE122.out) | exact HB.out)⟩⟩
 case rest =>
  clear HC3
  try clear c1
  try clear c2
  try clear p2
  try clear c6
  try clear c6b0
  try clear c6b1
  try clear c7
  try clear c7b0
  try clear c7b1
  try clear c8
  try clear c8b0
  try clear c8b1
  try clear c9
  try clear c9b0
  try clear c9b1
  try clear c10
  try clear c13
  try clear c16
  try clear c17
  try clear c19
  try clear c22
  try clear hcz11_0
  try clear hcz11_1
  try clear hcz11_2
  try clear hcz11_3
  try clear hcz11_4
  try clear hcz12_0
  try clear hcz12_1
  try clear hcz12_2
  try clear hcz12_3
  try clear hcz12_4
  try clear hcz14_0
  try clear hcz14_1
  try clear hcz14_2
  try clear hcz14_3
  try clear hcz14_4
  try clear hcz15_0
  try clear hcz15_1
  try clear hcz15_2
  try clear hcz15_3
  try clear hcz15_4
  try clear hcz17_0
  try clear hcz17_1
  try clear hcz17_2
  try clear hcz17_3
  try clear hcz17_4
  try clear hcz18_0
  try clear hcz18_1
  try clear hcz18_2
  try clear hcz18_3
  try clear hcz18_4
  try clear hcz20_0
  try clear hcz20_1
  try clear hcz20_2
  try clear hcz20_3
  try clear hcz20_4
  try clear hcz21_0
  try clear hcz21_1
  try clear hcz21_2
  try clear hcz21_3
  try clear hcz21_4
  try clear hcz23_0
  try clear hcz23_1
  try clear hcz23_2
  try clear hcz23_3
  try clear hcz23_4
  try clear hcz24_0
  try clear hcz24_1
  try clear hcz24_2
  try clear hcz24_3
  try clear hcz24_4
  try clear hfz11_0
  try clear hfz11_1
  try clear hfz11_2
  try clear hfz11_3
  try clear hfz11_4
  try clear hfz12_0
  try clear hfz12_1
  try clear hfz12_2
  try clear hfz12_3
  try clear hfz12_4
  try clear hfz14_0
  try clear hfz14_1
  try clear hfz14_2
  try clear hfz14_3
  try clear hfz14_4
  try clear hfz15_0
  try clear hfz15_1
  try clear hfz15_2
  try clear hfz15_3
  try clear hfz15_4
  try clear hfz17_0
  try clear hfz17_1
  try clear hfz17_2
  try clear hfz17_3
  try clear hfz17_4
  try clear hfz18_0
  try clear hfz18_1
  try clear hfz18_2
  try clear hfz18_3
  try clear hfz18_4
  try clear hfz20_0
  try clear hfz20_1
  try clear hfz20_2
  try clear hfz20_3
  try clear hfz20_4
  try clear hfz21_0
  try clear hfz21_1
  try clear hfz21_2
  try clear hfz21_3
  try clear hfz21_4
  try clear hfz23_0
  try clear hfz23_1
  try clear hfz23_2
  try clear hfz23_3
  try clear hfz23_4
  try clear hfz24_0
  try clear hfz24_1
  try clear hfz24_2
  try clear hfz24_3
  try clear hfz24_4
  obtain ⟨kq,x40_2,rfl,HA,HJ2,BK121,BK122,HB⟩:=hcut
  cases kq with
  | zero=>exact absurd HA.out (by simp [saturatetop_sameNode.j0])
  | succ kj2 =>
   have H:=HA.out
   clear HA
   simp only [saturatetop_sameNode.j0]at H
   by_cases c25:x40_2=true
   ·subst c25
    have H1:(some false)=some r:=by rw [if_pos rfl]at H;exact H
    clear H
    have H:=H1
    clear H1
    obtain rfl:=Option.some.inj H
    go_wp2
    repeat (go_quiet (fail);try go_wp2)
    go_ret
    exact ⟨by first | rfl | (simp [errW_none,errW_some] <;> rfl) | (simp [*,errW_none,errW_some] <;> rfl),by repeat (first | (with_reducible first | exact HB.out | apply below_alloc | apply pw_below_drewN | apply below_drew1 | refine below_set ?_ GE121.out | refine below_set ?_ GE122.out) | exact HB.out)⟩
   ·replace c25:=Bool.eq_false_iff.mpr c25
    subst c25
    have H1:(saturatetop_sameNode.l0 kj2 (l0_4.length:Int) 0 a0_0 a0_1 a0_2 a0_3 l0_4 a1_0 a1_1 a1_2 a1_3 l1_4)=some r:=by rw [if_neg (show ¬ (false=true) by decide)]at H;exact H
    clear H
    have H:=H1
    clear H1
    have H':=Aside0.mk H
    clear H
    have hnb26:=NB121_122.out
    have hnc26:=NB122_121.out
    have hcz27_0:wc.cell? ⟨gb121,0,none⟩=some (.int .i64 a0_0):=(blk_cell BK121.out 0).trans rfl
    have hcz27_1:wc.cell? ⟨gb121,1,none⟩=some (.int .i64 a0_1):=(blk_cell BK121.out 1).trans rfl
    have hcz27_2:wc.cell? ⟨gb121,2,none⟩=some (.int .u64 a0_2):=(blk_cell BK121.out 2).trans rfl
    have hcz27_3:wc.cell? ⟨gb121,3,none⟩=some (.string a0_3):=(blk_cell BK121.out 3).trans rfl
    have hcz27_4:wc.cell? ⟨gb121,4,none⟩=some (.slice A0_4 l0_4.length c0_4):=(blk_cell BK121.out 4).trans rfl
    have hfz27_0:=blk_frozen BK121.out 0
    have hfz27_1:=blk_frozen BK121.out 1
    have hfz27_2:=blk_frozen BK121.out 2
    have hfz27_3:=blk_frozen BK121.out 3
    have hfz27_4:=blk_frozen BK121.out 4
    go_wp2
    repeat (go_quiet (fail);try go_wp2)
    go_loopg [44] kj2 (fun kq v44 w'=>∃ (x44_2:Int),v44=.int .i64 x44_2∧Aside0 (saturatetop_sameNode.l0 kq (l0_4.length:Int) x44_2 a0_0 a0_1 a0_2 a0_3 l0_4 a1_0 a1_1 a1_2 a1_3 l1_4=some r)∧Aside0 (kq≤kj2)∧Aside0 (w'.heap[gb121]?=some (.cells #[.int .i64 a0_0,.int .i64 a0_1,.int .u64 a0_2,.string a0_3,(.slice A0_4 l0_4.length c0_4)] 56 (0,0)))∧Aside0 (w'.heap[gb122]?=some (.cells #[.int .i64 a1_0,.int .i64 a1_1,.int .u64 a1_2,.string a1_3,(.slice A1_4 l1_4.length c1_4)] 56 (0,0)))∧Aside0 (Below w.heap.size w w'))
    case atStart=>exact ⟨(0),(by first | rfl | (simp;done) | (simp [*];done)),H',⟨Nat.le_refl _⟩,⟨by (with_reducible repeat (first | refine blk_drewN ?_ _ | refine blk_drew ?_ | refine blk_alloc ?_ _));exact BK121.out⟩,⟨by (with_reducible repeat (first | refine blk_drewN ?_ _ | refine blk_drew ?_ | refine blk_alloc ?_ _));exact BK122.out⟩,⟨by repeat (first | (with_reducible first | exact HB.out | apply below_alloc | apply pw_below_drewN | apply below_drew1 | refine below_set ?_ GE121.out | refine below_set ?_ GE122.out) | exact HB.out)⟩⟩
    case round =>
     clear H'
     try clear c1
     try clear c2
     try clear p2
     try clear c6
     try clear c6b0
     try clear c6b1
     try clear c7
     try clear c7b0
     try clear c7b1
     try clear c8
     try clear c8b0
     try clear c8b1
     try clear c9
     try clear c9b0
     try clear c9b1
     try clear c10
     try clear c13
     try clear c16
     try clear c17
     try clear c19
     try clear c22
     try clear c25
     try clear c26
     try clear hcz11_0
     try clear hcz11_1
     try clear hcz11_2
     try clear hcz11_3
     try clear hcz11_4
     try clear hcz12_0
     try clear hcz12_1
     try clear hcz12_2
     try clear hcz12_3
     try clear hcz12_4
     try clear hcz14_0
     try clear hcz14_1
     try clear hcz14_2
     try clear hcz14_3
     try clear hcz14_4
     try clear hcz15_0
     try clear hcz15_1
     try clear hcz15_2
     try clear hcz15_3
     try clear hcz15_4
     try clear hcz17_0
     try clear hcz17_1
     try clear hcz17_2
     try clear hcz17_3
     try clear hcz17_4
     try clear hcz18_0
     try clear hcz18_1
     try clear hcz18_2
     try clear hcz18_3
     try clear hcz18_4
     try clear hcz20_0
     try clear hcz20_1
     try clear hcz20_2
     try clear hcz20_3
     try clear hcz20_4
     try clear hcz21_0
     try clear hcz21_1
     try clear hcz21_2
     try clear hcz21_3
     try clear hcz21_4
     try clear hcz23_0
     try clear hcz23_1
     try clear hcz23_2
     try clear hcz23_3
     try clear hcz23_4
     try clear hcz24_0
     try clear hcz24_1
     try clear hcz24_2
     try clear hcz24_3
     try clear hcz24_4
     try clear hcz27_0
     try clear hcz27_1
     try clear hcz27_2
     try clear hcz27_3
     try clear hcz27_4
     try clear hfz11_0
     try clear hfz11_1
     try clear hfz11_2
     try clear hfz11_3
     try clear hfz11_4
     try clear hfz12_0
     try clear hfz12_1
     try clear hfz12_2
     try clear hfz12_3
     try clear hfz12_4
     try clear hfz14_0
     try clear hfz14_1
     try clear hfz14_2
     try clear hfz14_3
     try clear hfz14_4
     try clear hfz15_0
     try clear hfz15_1
     try clear hfz15_2
     try clear hfz15_3
     try clear hfz15_4
     try clear hfz17_0
     try clear hfz17_1
     try clear hfz17_2
     try clear hfz17_3
     try clear hfz17_4
     try clear hfz18_0
     try clear hfz18_1
     try clear hfz18_2
     try clear hfz18_3
     try clear hfz18_4
     try clear hfz20_0
     try clear hfz20_1
     try clear hfz20_2
     try clear hfz20_3
     try clear hfz20_4
     try clear hfz21_0
     try clear hfz21_1
     try clear hfz21_2
     try clear hfz21_3
     try clear hfz21_4
     try clear hfz23_0
     try clear hfz23_1
     try clear hfz23_2
     try clear hfz23_3
     try clear hfz23_4
     try clear hfz24_0
     try clear hfz24_1
     try clear hfz24_2
     try clear hfz24_3
     try clear hfz24_4
     try clear hfz27_0
     try clear hfz27_1
     try clear hfz27_2
     try clear hfz27_3
     try clear hfz27_4
     try clear p2
     obtain ⟨x44_2,rfl,HA,HK2,BK121,BK122,HB⟩:=hrel
     cases gk with
     | zero=>exact absurd HA.out (by simp [saturatetop_sameNode.l0])
     | succ k2 =>
      have H:=HA.out
      clear HA
      simp only [saturatetop_sameNode.l0]at H
      by_cases c28:x44_2 < (l0_4.length:Int)
      ·rw [if_pos c28]at H
       have c28b0:decide (x44_2 < (l0_4.length:Int))=true:=decide_eq_true c28
       clear c28
       by_cases c29:0≤x44_2
       ·rw [if_pos c29]at H
        have c29b0:decide (0≤x44_2)=true:=decide_eq_true c29
        clear c29
        by_cases c30:x44_2 < (l0_4.length:Int)
        ·rw [if_pos c30]at H
         have c30b0:decide (x44_2 < (l0_4.length:Int))=true:=decide_eq_true c30
         clear c30
         by_cases c31:x44_2 < (l1_4.length:Int)
         ·rw [if_pos c31]at H
          have c31b0:decide (x44_2 < (l1_4.length:Int))=true:=decide_eq_true c31
          clear c31
          by_cases c32:(rd l0_4 x44_2)=(rd l1_4 x44_2)
          ·rw [if_pos c32]at H
           have c32b0:((rd l0_4 x44_2) == (rd l1_4 x44_2))=true:=beq_iff_eq.mpr c32
           have c32b1:((rd l0_4 x44_2) != (rd l1_4 x44_2))=false:=bne_eq_false_iff_eq.mpr c32
           clear c32
           have H':=Aside0.mk H
           clear H
           have hnb33:=NB121_122.out
           have hnc33:=NB122_121.out
           have hcz34_0:wr.cell? ⟨gb121,0,none⟩=some (.int .i64 a0_0):=(blk_cell BK121.out 0).trans rfl
           have hcz34_1:wr.cell? ⟨gb121,1,none⟩=some (.int .i64 a0_1):=(blk_cell BK121.out 1).trans rfl
           have hcz34_2:wr.cell? ⟨gb121,2,none⟩=some (.int .u64 a0_2):=(blk_cell BK121.out 2).trans rfl
           have hcz34_3:wr.cell? ⟨gb121,3,none⟩=some (.string a0_3):=(blk_cell BK121.out 3).trans rfl
           have hcz34_4:wr.cell? ⟨gb121,4,none⟩=some (.slice A0_4 l0_4.length c0_4):=(blk_cell BK121.out 4).trans rfl
           have hfz34_0:=blk_frozen BK121.out 0
           have hfz34_1:=blk_frozen BK121.out 1
           have hfz34_2:=blk_frozen BK121.out 2
           have hfz34_3:=blk_frozen BK121.out 3
           have hfz34_4:=blk_frozen BK121.out 4
           have p123:0≤(x44_2:Int):=of_decide_eq_true (by first | (with_reducible assumption) | assumption)
           have q123:x44_2 < (l0_4.length:Int):=of_decide_eq_true (by first | (with_reducible assumption) | assumption)
           obtain ⟨ad123,e123,hx123_0⟩:=Kd.at_int HR0_4.out x44_2 p123 q123
           cases e123
           replace hx123_0:=(HB.out.cell (World.block_lt_of_cell? w _ hx123_0)).trans hx123_0
           replace p123:=eq_true p123
           replace q123:=eq_true q123
           have hcz35_0:wr.cell? ⟨gb122,0,none⟩=some (.int .i64 a1_0):=(blk_cell BK122.out 0).trans rfl
           have hcz35_1:wr.cell? ⟨gb122,1,none⟩=some (.int .i64 a1_1):=(blk_cell BK122.out 1).trans rfl
           have hcz35_2:wr.cell? ⟨gb122,2,none⟩=some (.int .u64 a1_2):=(blk_cell BK122.out 2).trans rfl
           have hcz35_3:wr.cell? ⟨gb122,3,none⟩=some (.string a1_3):=(blk_cell BK122.out 3).trans rfl
           have hcz35_4:wr.cell? ⟨gb122,4,none⟩=some (.slice A1_4 l1_4.length c1_4):=(blk_cell BK122.out 4).trans rfl
           have hfz35_0:=blk_frozen BK122.out 0
           have hfz35_1:=blk_frozen BK122.out 1
           have hfz35_2:=blk_frozen BK122.out 2
           have hfz35_3:=blk_frozen BK122.out 3
           have hfz35_4:=blk_frozen BK122.out 4
           have p124:0≤(x44_2:Int):=of_decide_eq_true (by first | (with_reducible assumption) | assumption)
           have q124:x44_2 < (l1_4.length:Int):=of_decide_eq_true (by first | (with_reducible assumption) | assumption)
           obtain ⟨ad124,e124,hx124_0⟩:=Kd.at_int HR1_4.out x44_2 p124 q124
           cases e124
           replace hx124_0:=(HB.out.cell (World.block_lt_of_cell? w _ hx124_0)).trans hx124_0
           replace p124:=eq_true p124
           replace q124:=eq_true q124
           go_wp2
           repeat (go_quiet (fail);try go_wp2)
           go_roundg k2
           case measure=>have:=HJ2.out;have:=HK2.out;omega
           case rel=>exact ⟨(wrap64 (x44_2+1)),(by first | rfl | (simp;done) | (simp [*];done)),H',⟨by have:=HJ2.out;have:=HK2.out;omega⟩,⟨by (with_reducible repeat (first | refine blk_drewN ?_ _ | refine blk_drew ?_ | refine blk_alloc ?_ _));exact BK121.out⟩,⟨by (with_reducible repeat (first | refine blk_drewN ?_ _ | refine blk_drew ?_ | refine blk_alloc ?_ _));exact BK122.out⟩,⟨by repeat (first | (with_reducible first | exact HB.out | apply below_alloc | apply pw_below_drewN | apply below_drew1 | refine below_set ?_ GE121.out | refine below_set ?_ GE122.out) | exact HB.out)⟩⟩
          ·rw [if_neg c32]at H
           have c32b0:((rd l0_4 x44_2) == (rd l1_4 x44_2))=false:=beq_eq_false_iff_ne.mpr c32
           have c32b1:((rd l0_4 x44_2) != (rd l1_4 x44_2))=true:=bne_iff_ne.mpr c32
           obtain rfl:=Option.some.inj H
           have hnb36:=NB121_122.out
           have hnc36:=NB122_121.out
           have hcz37_0:wr.cell? ⟨gb121,0,none⟩=some (.int .i64 a0_0):=(blk_cell BK121.out 0).trans rfl
           have hcz37_1:wr.cell? ⟨gb121,1,none⟩=some (.int .i64 a0_1):=(blk_cell BK121.out 1).trans rfl
           have hcz37_2:wr.cell? ⟨gb121,2,none⟩=some (.int .u64 a0_2):=(blk_cell BK121.out 2).trans rfl
           have hcz37_3:wr.cell? ⟨gb121,3,none⟩=some (.string a0_3):=(blk_cell BK121.out 3).trans rfl
           have hcz37_4:wr.cell? ⟨gb121,4,none⟩=some (.slice A0_4 l0_4.length c0_4):=(blk_cell BK121.out 4).trans rfl
           have hfz37_0:=blk_frozen BK121.out 0
           have hfz37_1:=blk_frozen BK121.out 1
           have hfz37_2:=blk_frozen BK121.out 2
           have hfz37_3:=blk_frozen BK121.out 3
           have hfz37_4:=blk_frozen BK121.out 4
           have p123:0≤(x44_2:Int):=of_decide_eq_true (by first | (with_reducible assumption) | assumption)
           have q123:x44_2 < (l0_4.length:Int):=of_decide_eq_true (by first | (with_reducible assumption) | assumption)
           obtain ⟨ad123,e123,hx123_0⟩:=Kd.at_int HR0_4.out x44_2 p123 q123
           cases e123
           replace hx123_0:=(HB.out.cell (World.block_lt_of_cell? w _ hx123_0)).trans hx123_0
           replace p123:=eq_true p123
           replace q123:=eq_true q123
           have hcz38_0:wr.cell? ⟨gb122,0,none⟩=some (.int .i64 a1_0):=(blk_cell BK122.out 0).trans rfl
           have hcz38_1:wr.cell? ⟨gb122,1,none⟩=some (.int .i64 a1_1):=(blk_cell BK122.out 1).trans rfl
           have hcz38_2:wr.cell? ⟨gb122,2,none⟩=some (.int .u64 a1_2):=(blk_cell BK122.out 2).trans rfl
           have hcz38_3:wr.cell? ⟨gb122,3,none⟩=some (.string a1_3):=(blk_cell BK122.out 3).trans rfl
           have hcz38_4:wr.cell? ⟨gb122,4,none⟩=some (.slice A1_4 l1_4.length c1_4):=(blk_cell BK122.out 4).trans rfl
           have hfz38_0:=blk_frozen BK122.out 0
           have hfz38_1:=blk_frozen BK122.out 1
           have hfz38_2:=blk_frozen BK122.out 2
           have hfz38_3:=blk_frozen BK122.out 3
           have hfz38_4:=blk_frozen BK122.out 4
           have p124:0≤(x44_2:Int):=of_decide_eq_true (by first | (with_reducible assumption) | assumption)
           have q124:x44_2 < (l1_4.length:Int):=of_decide_eq_true (by first | (with_reducible assumption) | assumption)
           obtain ⟨ad124,e124,hx124_0⟩:=Kd.at_int HR1_4.out x44_2 p124 q124
           cases e124
           replace hx124_0:=(HB.out.cell (World.block_lt_of_cell? w _ hx124_0)).trans hx124_0
           replace p124:=eq_true p124
           replace q124:=eq_true q124
           go_wp2
           repeat (go_quiet (fail);try go_wp2)
           go_ret
           exact ⟨by first | rfl | (simp [errW_none,errW_some] <;> rfl) | (simp [*,errW_none,errW_some] <;> rfl),by repeat (first | (with_reducible first | exact HB.out | apply below_alloc | apply pw_below_drewN | apply below_drew1 | refine below_set ?_ GE121.out | refine below_set ?_ GE122.out) | exact HB.out)⟩
         ·rw [if_neg c31]at H
          exact absurd H (by simp)
        ·rw [if_neg c30]at H
         exact absurd H (by simp)
       ·rw [if_neg c29]at H
        exact absurd H (by simp)
      ·rw [if_neg c28]at H
       have c28b0:decide (x44_2 < (l0_4.length:Int))=false:=decide_eq_false c28
       clear c28
       obtain rfl:=Option.some.inj H
       go_wp2
       repeat (go_quiet (fail);try go_wp2)
       go_ret
       exact ⟨by first | rfl | (simp [errW_none,errW_some] <;> rfl) | (simp [*,errW_none,errW_some] <;> rfl),by repeat (first | (with_reducible first | exact HB.out | apply below_alloc | apply pw_below_drewN | apply below_drew1 | refine below_set ?_ GE121.out | refine below_set ?_ GE122.out) | exact HB.out)⟩
def cmp_Or_int.l0:Nat→Int→List Int→Int→Int→Option (Int)
 | 0,_,_,_,_=>none
 | k+1,x3,x6,x7,x8=>if x8 < x7 then (if 0≤x8 then (if x8 < (x6.length:Int)then (if (rd x6 x8)=x3 then (cmp_Or_int.l0 k x3 x6 x7 (wrap64 (x8+1)))else (some (rd x6 x8)))else (none))else (none))else (some x3)
def cmp_Or_int.f (k:Nat) (l0:List Int):Option (Int):=cmp_Or_int.l0 k 0 l0 (l0.length:Int) 0
theorem cmp_Or_int.mono_l:∀ k,(∀ y0 y1 y2 y3,LeO (cmp_Or_int.l0 k y0 y1 y2 y3) (cmp_Or_int.l0 (k+1) y0 y1 y2 y3))
 | 0=>fun _ _ _ _ r h=>by simp [cmp_Or_int.l0]at h
 | k+1=>by
  have ih0:=cmp_Or_int.mono_l k
  ·intro y0 y1 y2 y3
   unfold cmp_Or_int.l0
   repeat' first
   | (with_reducible exact ih0 _ _ _ _)
   | (with_reducible exact LeO.refl _)
   | (with_reducible exact LeO.none _)
   | (with_reducible refine LeO.ite ?_ ?_)
   | (with_reducible refine LeO.bind ?_ (fun _=>?_))
   | exact ih0 _ _ _ _
   | exact LeO.none _
   | refine LeO.ite ?_ ?_
   | refine LeO.bind ?_ (fun _=>?_)
theorem cmp_Or_int.mono:∀ a0 k,LeO (cmp_Or_int.f k a0) (cmp_Or_int.f (k+1) a0):=by
 intro a0 k
 have ih0:=cmp_Or_int.mono_l k
 unfold cmp_Or_int.f
 repeat' first
   | (with_reducible exact ih0 _ _ _ _)
   | (with_reducible exact LeO.refl _)
   | (with_reducible exact LeO.none _)
   | (with_reducible refine LeO.ite ?_ ?_)
   | (with_reducible refine LeO.bind ?_ (fun _=>?_))
   | exact ih0 _ _ _ _
   | exact LeO.none _
   | refine LeO.ite ?_ ?_
   | refine LeO.bind ?_ (fun _=>?_)
set_option maxHeartbeats 8000000 in
set_option maxRecDepth 100000 in
theorem cmp_Or_int.calls (k:Nat) (A0:Option Addr) (c0:Nat) (l0:List Int) (r:Int) (w:World) (hr0:Kd.C (Kd.int .i64) w A0 l0.length l0) (hc0:l0.length≤c0) (h:cmp_Or_int.f k l0=some r) :
  Calls Tryz.prog 92 #[.slice A0 l0.length c0] w fun e w'=>e=.returned (.int .i64 r)∧Drawn0 w w':=by
 have HR0:=Aside0.mk hr0
 have HC0:=Aside0.mk hc0
 clear hr0 hc0
 have H:(cmp_Or_int.l0 k 0 l0 (l0.length:Int) 0)=some r:=h
 clear h
 have H':=Aside0.mk H
 clear H
 go_enter Tryz.func92,Tryz.ntmps92
 go_wp2
 go_loopg [8] k (fun kq v8 w'=>∃ (x8_1:Int),v8=.int .i64 x8_1∧Aside0 (cmp_Or_int.l0 kq 0 l0 (l0.length:Int) x8_1=some r)∧Aside0 (kq≤k)∧Drawn0 w w')
 case atStart=>exact ⟨(0),(by first | rfl | (simp;done) | (simp [*];done)),H',⟨Nat.le_refl _⟩,by repeat (first | exact Drawn0.refl _ | apply Drawn0.step)⟩
 case round =>
  clear H'
  obtain ⟨x8_1,rfl,HA,HK1,⟨m1,rfl⟩⟩:=hrel
  cases gk with
  | zero=>exact absurd HA.out (by simp [cmp_Or_int.l0])
  | succ k1 =>
   have H:=HA.out
   clear HA
   simp only [cmp_Or_int.l0]at H
   by_cases c2:x8_1 < (l0.length:Int)
   ·rw [if_pos c2]at H
    have c2b0:decide (x8_1 < (l0.length:Int))=true:=decide_eq_true c2
    clear c2
    by_cases c3:0≤x8_1
    ·rw [if_pos c3]at H
     have c3b0:decide (0≤x8_1)=true:=decide_eq_true c3
     clear c3
     by_cases c4:x8_1 < (l0.length:Int)
     ·rw [if_pos c4]at H
      have c4b0:decide (x8_1 < (l0.length:Int))=true:=decide_eq_true c4
      clear c4
      by_cases c5:(rd l0 x8_1)=0
      ·rw [if_pos c5]at H
       have c5b0:((rd l0 x8_1) == 0)=true:=beq_iff_eq.mpr c5
       have c5b1:((rd l0 x8_1) != 0)=false:=bne_eq_false_iff_eq.mpr c5
       clear c5
       have H':=Aside0.mk H
       clear H
       have p125:0≤(x8_1:Int):=of_decide_eq_true (by first | (with_reducible assumption) | assumption)
       have q125:x8_1 < (l0.length:Int):=of_decide_eq_true (by first | (with_reducible assumption) | assumption)
       obtain ⟨ad125,e125,hx125_0⟩:=Kd.at_int HR0.out x8_1 p125 q125
       cases e125
       replace p125:=eq_true p125
       replace q125:=eq_true q125
       go_wp2
       go_roundg k1
       case measure=>have:=HK1.out;omega
       case rel=>exact ⟨(wrap64 (x8_1+1)),(by first | rfl | (simp;done) | (simp [*];done)),H',⟨by have:=HK1.out;omega⟩,by repeat (first | exact Drawn0.refl _ | apply Drawn0.step)⟩
      ·rw [if_neg c5]at H
       have c5b0:((rd l0 x8_1) == 0)=false:=beq_eq_false_iff_ne.mpr c5
       have c5b1:((rd l0 x8_1) != 0)=true:=bne_iff_ne.mpr c5
       obtain rfl:=Option.some.inj H
       have p125:0≤(x8_1:Int):=of_decide_eq_true (by first | (with_reducible assumption) | assumption)
       have q125:x8_1 < (l0.length:Int):=of_decide_eq_true (by first | (with_reducible assumption) | assumption)
       obtain ⟨ad125,e125,hx125_0⟩:=Kd.at_int HR0.out x8_1 p125 q125
       cases e125
       replace p125:=eq_true p125
       replace q125:=eq_true q125
       go_wp2
       go_ret
       exact ⟨by first | rfl | (simp;done) | (simp [*];done),by repeat (first | exact Drawn0.refl _ | apply Drawn0.step)⟩
     ·rw [if_neg c4]at H
      exact absurd H (by simp)
    ·rw [if_neg c3]at H
     exact absurd H (by simp)
   ·rw [if_neg c2]at H
    have c2b0:decide (x8_1 < (l0.length:Int))=false:=decide_eq_false c2
    clear c2
    obtain rfl:=Option.some.inj H
    go_wp2
    go_ret
    exact ⟨by first | rfl | (simp;done) | (simp [*];done),by repeat (first | exact Drawn0.refl _ | apply Drawn0.step)⟩
def api_Op_100.f (a0:Int):Option (Bool):=some (a0 != a0)
set_option maxHeartbeats 8000000 in
set_option maxRecDepth 100000 in
theorem api_Op_100.calls (a0:Int) (r:Bool) (w:World) (h:api_Op_100.f a0=some r) :
  Calls Tryz.prog 100 #[.int .i64 a0] w fun e w'=>e=.returned (.bool r)∧Drawn0 w w':=by
 have H:(some (a0 != a0))=some r:=h
 clear h
 obtain rfl:=Option.some.inj H
 go_enter Tryz.func100,Tryz.ntmps100
 go_wp2
 go_ret
 exact ⟨by first | rfl | (simp;done) | (simp [*];done),by repeat (first | exact Drawn0.refl _ | apply Drawn0.step)⟩
end Go.Proofs.YtjckhhecnebmmaaGreatDoor.QAll
end
