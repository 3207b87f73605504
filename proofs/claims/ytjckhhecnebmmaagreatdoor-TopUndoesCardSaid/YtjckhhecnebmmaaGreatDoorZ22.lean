/- Steps towards the law TopUndoes; words printed by the kit, and printed texts, are cut to what is used, and spaces are left out. No condition. -/
import Derived.Test.YtjckhhecnebmmaaGreatDoorZ4
set_option linter.unusedVariables false
set_option linter.unusedSimpArgs false
section
namespace Go.Proofs.YtjckhhecnebmmaaGreatDoor.QAll
open Go.RowKit Go.Proofs.YtjckhhecnebmmaaGreatDoorW.PrintWords Go.Proofs.YtjckhhecnebmmaaGreatDoorW.PrintLast Go.Proofs.YtjckhhecnebmmaaGreatDoorW.PrintMore
attribute [local go_sem] max2_int min2_int max_two min_two max_three min_three max_four min_four   
set_option linter.unusedVariables false
set_option linter.unusedSimpArgs false
mutual
def term_measure.j0:Nat→Int→Int→Bool→Int→Int→Int→ByteArray→List (S35)→Option (Int × Bool)
 | 0,_,_,_,_,_,_,_,_=>none
 | k+1,x1,x2,x17,x102000,x102001,x102002,x102003,x102004=>if x17=true then (some (0,false))else (term_measure.l0 k (wrap64 (x1 - 1)) x2 x102004 (x102004.length:Int) 0)
def term_measure.l0:Nat→Int→Int→List (S35)→Int→Int→Option (Int × Bool)
 | 0,_,_,_,_,_=>none
 | k+1,x1,x2,x21,x22,x23=>if x23 < x22 then (if 0≤x23 then (if x23 < (x21.length:Int)then ((term_measure.f k ((rd_T35 x21 x23).f0) ((rd_T35 x21 x23).f1) ((rd_T35 x21 x23).f2) ((rd_T35 x21 x23).f3) ((rd_T35 x21 x23).f4) x1 (wrap64 (x2 - 1))).bind fun bt104=>(if bt104.2=true then (term_measure.l0 k bt104.1 x2 x21 x22 (wrap64 (x23+1)))else (some (0,false))))else (none))else (none))else (some (x1,true))
def term_measure.f:Nat→Int→Int→Int→ByteArray→List (S35)→Int→Int→Option (Int × Bool)
 | 0,_,_,_,_,_,_,_=>none
 | k+1,a0_0,a0_1,a0_2,a0_3,l0_4,a1,a2=>if a1 < 1 then (term_measure.j0 k a1 a2 true a0_0 a0_1 a0_2 a0_3 l0_4)else (term_measure.j0 k a1 a2 (decide (a2 < 1)) a0_0 a0_1 a0_2 a0_3 l0_4)
end
theorem term_measure.mono_l:∀ k,(∀ y0 y1 y2 y3 y4 y5 y6,LeO (term_measure.f k y0 y1 y2 y3 y4 y5 y6) (term_measure.f (k+1) y0 y1 y2 y3 y4 y5 y6))∧(∀ y0 y1 y2 y3 y4 y5 y6 y7,LeO (term_measure.j0 k y0 y1 y2 y3 y4 y5 y6 y7) (term_measure.j0 (k+1) y0 y1 y2 y3 y4 y5 y6 y7))∧(∀ y0 y1 y2 y3 y4,LeO (term_measure.l0 k y0 y1 y2 y3 y4) (term_measure.l0 (k+1) y0 y1 y2 y3 y4))
 | 0=>⟨fun _ _ _ _ _ _ _ r h=>by simp [term_measure.f]at h,fun _ _ _ _ _ _ _ _ r h=>by simp [term_measure.j0]at h,fun _ _ _ _ _ r h=>by simp [term_measure.l0]at h⟩
 | k+1=>by
  obtain ⟨ih0,ih1,ih2⟩:=term_measure.mono_l k
  refine ⟨?_,?_,?_⟩
  ·intro y0 y1 y2 y3 y4 y5 y6
   unfold term_measure.f
   repeat' first
   | (with_reducible exact ih0 _ _ _ _ _ _ _)
   | (with_reducible exact ih1 _ _ _ _ _ _ _ _)
   | (with_reducible exact ih2 _ _ _ _ _)
   | (with_reducible exact LeO.refl _)
   | (with_reducible exact LeO.none _)
   | (with_reducible refine LeO.ite ?_ ?_)
   | (with_reducible refine LeO.bind ?_ (fun _=>?_))
   | exact ih0 _ _ _ _ _ _ _
   | exact ih1 _ _ _ _ _ _ _ _
   | exact ih2 _ _ _ _ _
   | exact LeO.none _
   | refine LeO.ite ?_ ?_
   | refine LeO.bind ?_ (fun _=>?_)
  ·intro y0 y1 y2 y3 y4 y5 y6 y7
   unfold term_measure.j0
   repeat' first
   | (with_reducible exact ih0 _ _ _ _ _ _ _)
   | (with_reducible exact ih1 _ _ _ _ _ _ _ _)
   | (with_reducible exact ih2 _ _ _ _ _)
   | (with_reducible exact LeO.refl _)
   | (with_reducible exact LeO.none _)
   | (with_reducible refine LeO.ite ?_ ?_)
   | (with_reducible refine LeO.bind ?_ (fun _=>?_))
   | exact ih0 _ _ _ _ _ _ _
   | exact ih1 _ _ _ _ _ _ _ _
   | exact ih2 _ _ _ _ _
   | exact LeO.none _
   | refine LeO.ite ?_ ?_
   | refine LeO.bind ?_ (fun _=>?_)
  ·intro y0 y1 y2 y3 y4
   unfold term_measure.l0
   repeat' first
   | (with_reducible exact ih0 _ _ _ _ _ _ _)
   | (with_reducible exact ih1 _ _ _ _ _ _ _ _)
   | (with_reducible exact ih2 _ _ _ _ _)
   | (with_reducible exact LeO.refl _)
   | (with_reducible exact LeO.none _)
   | (with_reducible refine LeO.ite ?_ ?_)
   | (with_reducible refine LeO.bind ?_ (fun _=>?_))
   | exact ih0 _ _ _ _ _ _ _
   | exact ih1 _ _ _ _ _ _ _ _
   | exact ih2 _ _ _ _ _
   | exact LeO.none _
   | refine LeO.ite ?_ ?_
   | refine LeO.bind ?_ (fun _=>?_)
set_option maxHeartbeats 8000000 in
set_option maxRecDepth 100000 in
theorem term_measure.calls (k:Nat):∀ (a0_0:Int) (a0_1:Int) (a0_2:Int) (a0_3:ByteArray) (A0_4:Option Addr) (c0_4:Nat) (l0_4:List (S35)) (a1:Int) (a2:Int) (r1:Int) (r2:Bool) (w:World) (hr0_4:Kd.C k35 w A0_4 l0_4.length l0_4) (hc0_4:l0_4.length≤c0_4) (h:term_measure.f k a0_0 a0_1 a0_2 a0_3 l0_4 a1 a2=some (r1,r2)),
  Calls Tryz.prog 50 #[.agg #[.int .i64 a0_0,.int .i64 a0_1,.int .u64 a0_2,.string a0_3,.slice A0_4 l0_4.length c0_4],.int .i64 a1,.int .i64 a2] w fun e w'=>e=.returned (.tuple #[.int .i64 r1,.bool r2])∧Below w.heap.size w w':=by
 induction k using Nat.strongRecOn with
 | _ k ih =>
 intro a0_0 a0_1 a0_2 a0_3 A0_4 c0_4 l0_4 a1 a2 r1 r2 w hr0_4 hc0_4 h
 cases k with
 | zero=>exact absurd h (by simp [term_measure.f])
 | succ k =>
 simp only [term_measure.f]at h
 have hu35:=Tryz.underlying35
 have HR0_4:=Aside0.mk hr0_4
 have HC0_4:=Aside0.mk hc0_4
 clear hr0_4 hc0_4
 have HB:=Aside0.mk (Below.refl w.heap.size w)
 have H:(if a1 < 1 then (term_measure.j0 k a1 a2 true a0_0 a0_1 a0_2 a0_3 l0_4)else (term_measure.j0 k a1 a2 (decide (a2 < 1)) a0_0 a0_1 a0_2 a0_3 l0_4))=some (r1,r2):=h
 clear h
 have HC4:=Aside0.mk H
 clear H
 go_enter Tryz.func50,Tryz.ntmps50
 go_upto_region 1 with (first | ((with_reducible refine gate_dst (N:=3) rfl ?_);refine box_event ?hg (N:=3) ?hd (cs:=#[.int .i64 a0_0,.int .i64 a0_1,.int .u64 a0_2,.string a0_3,.slice A0_4 l0_4.length c0_4]) (t:=35) ?hr ?_;(case hd=>rfl);(case hg=>rfl);(case hr=>first | (go_simp;done) | (go_simp;rfl));intro gb101 hg w5 hbox hb;have n0_:=Aside0.mk (below_step (by repeat (first | (with_reducible first | exact HB.out | apply below_alloc | apply pw_below_drewN | apply below_drew1) | exact HB.out)) hb);have n1_:=Aside0.mk (hbox);have n2_:=Aside0.mk ((by rw [hg];exact (below_size (by repeat (first | (with_reducible first | exact HB.out | apply below_alloc | apply pw_below_drewN | apply below_drew1) | exact HB.out))):w.heap.size≤gb101));have n3_:=Aside0.mk ((by rw [hg];exact (below_size (by repeat (first | (with_reducible first | exact HB.out | apply below_alloc | apply pw_below_drewN | apply below_drew1) | exact HB.out))):w.heap.size≤gb101));clear HB;have HB:=n0_;have BK101:=n1_;have GW101:=n2_;have GE101:=n3_;clear n0_ n1_ n2_ n3_;clear hb hbox hg))
 (try simp only [Act.put,List.setIfInBounds_toArray,List.set_cons_zero,List.set_cons_succ])
 go_cut [17] (fun v17 wc=>∃ (kq:Nat) (x17_3:Bool),v17=.bool x17_3∧Aside0 (term_measure.j0 kq a1 a2 x17_3 a0_0 a0_1 a0_2 a0_3 l0_4=some (r1,r2))∧Aside0 (kq≤k)∧Aside0 (wc.heap[gb101]?=some (.cells #[.int .i64 a0_0,.int .i64 a0_1,.int .u64 a0_2,.string a0_3,(.slice A0_4 l0_4.length c0_4)] 35 (0,0)))∧Aside0 (Below w.heap.size w wc))
 case first =>
  have H:=HC4.out
  clear HC4
  by_cases c6:a1 < 1
  ·rw [if_pos c6]at H
   have c6b0:decide (a1 < 1)=true:=decide_eq_true c6
   clear c6
   (first | rw [c6b0] | (simp only [i64_w,i32_w];rw [c6b0]) | skip)
   have H':=Aside0.mk H
   clear H
   go_wp2
   go_meet
   case rel=>exact ⟨_,(true),(by first | rfl | (simp;done) | (simp [*];done)),H',⟨by first | omega | exact Nat.le_refl _⟩,⟨by (with_reducible repeat (first | refine blk_drewN ?_ _ | refine blk_drew ?_ | refine blk_alloc ?_ _));exact BK101.out⟩,⟨by repeat (first | (with_reducible first | exact HB.out | apply below_alloc | apply pw_below_drewN | apply below_drew1 | refine below_set ?_ GE101.out) | exact HB.out)⟩⟩
  ·rw [if_neg c6]at H
   have c6b0:decide (a1 < 1)=false:=decide_eq_false c6
   clear c6
   (first | rw [c6b0] | (simp only [i64_w,i32_w];rw [c6b0]) | skip)
   have H':=Aside0.mk H
   clear H
   go_wp2
   go_meet
   case rel=>exact ⟨_,(decide (a2 < 1)),(by first | rfl | (simp;done) | (simp [*];done)),H',⟨by first | omega | exact Nat.le_refl _⟩,⟨by (with_reducible repeat (first | refine blk_drewN ?_ _ | refine blk_drew ?_ | refine blk_alloc ?_ _));exact BK101.out⟩,⟨by repeat (first | (with_reducible first | exact HB.out | apply below_alloc | apply pw_below_drewN | apply below_drew1 | refine below_set ?_ GE101.out) | exact HB.out)⟩⟩
 case rest =>
  clear HC4
  try clear p2
  try clear c5
  try clear c6
  try clear c6b0
  obtain ⟨kq,x17_3,rfl,HA,HJ3,BK101,HB⟩:=hcut
  cases kq with
  | zero=>exact absurd HA.out (by simp [term_measure.j0])
  | succ kj3 =>
   have H:=HA.out
   clear HA
   simp only [term_measure.j0]at H
   by_cases c7:x17_3=true
   ·subst c7
    have H1:(some (0,false))=some (r1,r2):=by rw [if_pos rfl]at H;exact H
    clear H
    have H:=H1
    clear H1
    simp only [Option.some.injEq,Prod.mk.injEq]at H
    obtain ⟨rfl,rfl⟩:=H
    go_wp2
    go_ret2
    exact ⟨by first | rfl | (simp [errW_none,errW_some] <;> rfl) | (simp [*,errW_none,errW_some] <;> rfl),by repeat (first | (with_reducible first | exact HB.out | apply below_alloc | apply pw_below_drewN | apply below_drew1 | refine below_set ?_ GE101.out) | exact HB.out)⟩
   ·replace c7:=Bool.eq_false_iff.mpr c7
    subst c7
    have H1:(term_measure.l0 kj3 (wrap64 (a1 - 1)) a2 l0_4 (l0_4.length:Int) 0)=some (r1,r2):=by rw [if_neg (show ¬ (false=true) by decide)]at H;exact H
    clear H
    have H:=H1
    clear H1
    have H':=Aside0.mk H
    clear H
    have hcz8_0:wc.cell? ⟨gb101,0,none⟩=some (.int .i64 a0_0):=(blk_cell BK101.out 0).trans rfl
    have hcz8_1:wc.cell? ⟨gb101,1,none⟩=some (.int .i64 a0_1):=(blk_cell BK101.out 1).trans rfl
    have hcz8_2:wc.cell? ⟨gb101,2,none⟩=some (.int .u64 a0_2):=(blk_cell BK101.out 2).trans rfl
    have hcz8_3:wc.cell? ⟨gb101,3,none⟩=some (.string a0_3):=(blk_cell BK101.out 3).trans rfl
    have hcz8_4:wc.cell? ⟨gb101,4,none⟩=some (.slice A0_4 l0_4.length c0_4):=(blk_cell BK101.out 4).trans rfl
    have hfz8_0:=blk_frozen BK101.out 0
    have hfz8_1:=blk_frozen BK101.out 1
    have hfz8_2:=blk_frozen BK101.out 2
    have hfz8_3:=blk_frozen BK101.out 3
    have hfz8_4:=blk_frozen BK101.out 4
    go_wp2
    go_loopg [1,23] kj3 (fun kq v1 v23 w'=>∃ (x1_2:Int) (x23_2:Int),v1=.int .i64 x1_2∧v23=.int .i64 x23_2∧Aside0 (term_measure.l0 kq x1_2 a2 l0_4 (l0_4.length:Int) x23_2=some (r1,r2))∧Aside0 (kq≤kj3)∧Aside0 (w'.heap[gb101]?=some (.cells #[.int .i64 a0_0,.int .i64 a0_1,.int .u64 a0_2,.string a0_3,(.slice A0_4 l0_4.length c0_4)] 35 (0,0)))∧Aside0 (Below w.heap.size w w'))
    case atStart=>exact ⟨(wrap64 (a1 - 1)),(0),(by first | rfl | (simp;done) | (simp [*];done)),(by first | rfl | (simp;done) | (simp [*];done)),H',⟨Nat.le_refl _⟩,⟨by (with_reducible repeat (first | refine blk_drewN ?_ _ | refine blk_drew ?_ | refine blk_alloc ?_ _));exact BK101.out⟩,⟨by repeat (first | (with_reducible first | exact HB.out | apply below_alloc | apply pw_below_drewN | apply below_drew1 | refine below_set ?_ GE101.out) | exact HB.out)⟩⟩
    case round =>
     clear H'
     try clear p2
     try clear c5
     try clear c6
     try clear c6b0
     try clear p6
     try clear c7
     try clear hcz8_0
     try clear hcz8_1
     try clear hcz8_2
     try clear hcz8_3
     try clear hcz8_4
     try clear hfz8_0
     try clear hfz8_1
     try clear hfz8_2
     try clear hfz8_3
     try clear hfz8_4
     try clear p2
     obtain ⟨x1_2,x23_2,rfl,rfl,HA,HK2,BK101,HB⟩:=hrel
     cases gk with
     | zero=>exact absurd HA.out (by simp [term_measure.l0])
     | succ k2 =>
      have H:=HA.out
      clear HA
      simp only [term_measure.l0]at H
      by_cases c9:x23_2 < (l0_4.length:Int)
      ·rw [if_pos c9]at H
       have c9b0:decide (x23_2 < (l0_4.length:Int))=true:=decide_eq_true c9
       clear c9
       by_cases c10:0≤x23_2
       ·rw [if_pos c10]at H
        have c10b0:decide (0≤x23_2)=true:=decide_eq_true c10
        clear c10
        by_cases c11:x23_2 < (l0_4.length:Int)
        ·rw [if_pos c11]at H
         have c11b0:decide (x23_2 < (l0_4.length:Int))=true:=decide_eq_true c11
         clear c11
         replace H:=Option.bind_eq_some_iff.mp H
         obtain ⟨⟨t104,t105⟩,A120,H⟩:=H
         replace H:(if t105=true then (term_measure.l0 k2 t104 a2 l0_4 (l0_4.length:Int) (wrap64 (x23_2+1)))else (some (0,false)))=some (r1,r2):=H
         have A12:=Aside0.mk A120
         clear A120
         by_cases c13:t105=true
         ·subst c13
          have H1:(term_measure.l0 k2 t104 a2 l0_4 (l0_4.length:Int) (wrap64 (x23_2+1)))=some (r1,r2):=by rw [if_pos rfl]at H;exact H
          clear H
          have H:=H1
          clear H1
          have H':=Aside0.mk H
          clear H
          have p102:0≤(x23_2:Int):=of_decide_eq_true (by first | (with_reducible assumption) | assumption)
          have q102:x23_2 < (l0_4.length:Int):=of_decide_eq_true (by first | (with_reducible assumption) | assumption)
          obtain ⟨ad102,A102_4,c102_4,e102,hx102_0,hx102_1,hx102_2,hx102_3,hx102_4,hl102_4,hi102_4⟩:=at_T35 HR0_4.out x23_2 p102 q102
          cases e102
          replace hx102_0:=(HB.out.cell (World.block_lt_of_cell? w _ hx102_0)).trans hx102_0
          replace hx102_1:=(HB.out.cell (World.block_lt_of_cell? w _ hx102_1)).trans hx102_1
          replace hx102_2:=(HB.out.cell (World.block_lt_of_cell? w _ hx102_2)).trans hx102_2
          replace hx102_3:=(HB.out.cell (World.block_lt_of_cell? w _ hx102_3)).trans hx102_3
          replace hx102_4:=(HB.out.cell (World.block_lt_of_cell? w _ hx102_4)).trans hx102_4
          have HR102_4:=Aside0.mk hi102_4
          have HC102_4:=Aside0.mk hl102_4
          clear hi102_4 hl102_4
          replace p102:=eq_true p102
          replace q102:=eq_true q102
          go_wp2_with (first | ((with_reducible refine gate_dst (N:=9) rfl ?_);refine box_event ?hg (N:=9) ?hd (cs:=#[.int .i64 0,.int .i64 0,.int .u64 0,.string (⟨#[]⟩:ByteArray),.slice none 0 0]) (t:=35) ?hr ?_;(case hd=>rfl);(case hg=>rfl);(case hr=>first | (go_simp;done) | (go_simp;rfl));intro gb103 hg w14 hbox hb;have n0_:=Aside0.mk (blk_below (g:=gb101) (o:=.cells #[.int .i64 a0_0,.int .i64 a0_1,.int .u64 a0_2,.string a0_3,.slice (some ad102) l0_4.length c0_4] 35 (0,0)) (by (with_reducible repeat (first | refine blk_drewN ?_ _ | refine blk_drew ?_ | refine blk_alloc ?_ _));exact BK101.out) hb);have n1_:=Aside0.mk (below_step (by repeat (first | (with_reducible first | exact HB.out | apply below_alloc | apply pw_below_drewN | apply below_drew1 | refine below_set ?_ GE101.out) | exact HB.out)) hb);have n2_:=Aside0.mk (hbox);have n3_:=Aside0.mk ((by rw [hg];exact (below_size (by repeat (first | (with_reducible first | exact HB.out | apply below_alloc | apply pw_below_drewN | apply below_drew1 | refine below_set ?_ GE101.out) | exact HB.out))):w.heap.size≤gb103));have n4_:=Aside0.mk ((by rw [hg];exact (below_size (by repeat (first | (with_reducible first | exact HB.out | apply below_alloc | apply pw_below_drewN | apply below_drew1 | refine below_set ?_ GE101.out) | exact HB.out))):w.heap.size≤gb103));have n5_:=Aside0.mk ((by rw [hg];exact Nat.ne_of_lt (blk_lt (g:=gb101) (o:=.cells #[.int .i64 a0_0,.int .i64 a0_1,.int .u64 a0_2,.string a0_3,.slice (some ad102) l0_4.length c0_4] 35 (0,0)) (by (with_reducible repeat (first | refine blk_drewN ?_ _ | refine blk_drew ?_ | refine blk_alloc ?_ _));exact BK101.out)):gb101≠gb103));have n6_:=Aside0.mk ((by rw [hg];exact Nat.ne_of_gt (blk_lt (g:=gb101) (o:=.cells #[.int .i64 a0_0,.int .i64 a0_1,.int .u64 a0_2,.string a0_3,.slice (some ad102) l0_4.length c0_4] 35 (0,0)) (by (with_reducible repeat (first | refine blk_drewN ?_ _ | refine blk_drew ?_ | refine blk_alloc ?_ _));exact BK101.out)):gb103≠gb101));clear BK101;clear HB;have BK101:=n0_;have HB:=n1_;have BK103:=n2_;have GW103:=n3_;have GE103:=n4_;have NB101_103:=n5_;have NB103_101:=n6_;clear n0_ n1_ n2_ n3_ n4_ n5_ n6_;clear hb hbox hg;have hnb15:=NB103_101.out;have hnc15:=NB101_103.out;have hcz16_0:w14.cell? ⟨gb103,0,none⟩=some (.int .i64 0):=(blk_cell BK103.out 0).trans rfl;have hcz16_1:w14.cell? ⟨gb103,1,none⟩=some (.int .i64 0):=(blk_cell BK103.out 1).trans rfl;have hcz16_2:w14.cell? ⟨gb103,2,none⟩=some (.int .u64 0):=(blk_cell BK103.out 2).trans rfl;have hcz16_3:w14.cell? ⟨gb103,3,none⟩=some (.string (⟨#[]⟩:ByteArray)):=(blk_cell BK103.out 3).trans rfl;have hcz16_4:w14.cell? ⟨gb103,4,none⟩=some (.slice none 0 0):=(blk_cell BK103.out 4).trans rfl;have hfz16_0:=blk_frozen BK103.out 0;have hfz16_1:=blk_frozen BK103.out 1;have hfz16_2:=blk_frozen BK103.out 2;have hfz16_3:=blk_frozen BK103.out 3;have hfz16_4:=blk_frozen BK103.out 4) | ((with_reducible refine gate_callee (f:=50) rfl ?_);refine goesL_ (some 32) rfl rfl Tryz.func50 (by kernel_rfl) rfl #[.agg #[.int .i64 ((rd_T35 l0_4 x23_2).f0),.int .i64 ((rd_T35 l0_4 x23_2).f1),.int .u64 ((rd_T35 l0_4 x23_2).f2),.string ((rd_T35 l0_4 x23_2).f3),.slice A102_4 ((rd_T35 l0_4 x23_2).f4).length c102_4],.int .i64 x1_2,.int .i64 (wrap64 (a2 - 1))] rfl (by (try simp only [List.map_toArray,List.map_cons,List.map_nil]);first | done | rfl | (simp only [List.length_drop,List.length_take];rfl)) ?_;(with_reducible refine (ih k2 (by have:=HJ3.out;have:=HK2.out;omega) ((rd_T35 l0_4 x23_2).f0) ((rd_T35 l0_4 x23_2).f1) ((rd_T35 l0_4 x23_2).f2) ((rd_T35 l0_4 x23_2).f3) _ _ ((rd_T35 l0_4 x23_2).f4) x1_2 (wrap64 (a2 - 1)) t104 true _ ?side1 ?side2 A12.out).mono ?_);(case side1=>exact Kd.C_below HR102_4.out (by repeat (first | (with_reducible first | exact HB.out | apply below_alloc | apply pw_below_drewN | apply below_drew1 | refine below_set ?_ GE101.out | refine below_set ?_ GE103.out) | exact HB.out)));(case side2=>exact HC102_4.out);rintro e w17 ⟨rfl,hb⟩;refine ⟨_,rfl,?_⟩;have n0_:=Aside0.mk (blk_below (g:=gb101) (o:=.cells #[.int .i64 a0_0,.int .i64 a0_1,.int .u64 a0_2,.string a0_3,.slice (some ad102) l0_4.length c0_4] 35 (0,0)) (by (with_reducible repeat (first | refine blk_drewN ?_ _ | refine blk_drew ?_ | refine blk_alloc ?_ _));refine blk_far ?_ NB101_103.out _;(with_reducible repeat (first | refine blk_drewN ?_ _ | refine blk_drew ?_ | refine blk_alloc ?_ _));refine blk_far ?_ NB101_103.out _;(with_reducible repeat (first | refine blk_drewN ?_ _ | refine blk_drew ?_ | refine blk_alloc ?_ _));refine blk_far ?_ NB101_103.out _;(with_reducible repeat (first | refine blk_drewN ?_ _ | refine blk_drew ?_ | refine blk_alloc ?_ _));refine blk_far ?_ NB101_103.out _;(with_reducible repeat (first | refine blk_drewN ?_ _ | refine blk_drew ?_ | refine blk_alloc ?_ _));refine blk_far ?_ NB101_103.out _;(with_reducible repeat (first | refine blk_drewN ?_ _ | refine blk_drew ?_ | refine blk_alloc ?_ _));exact BK101.out) hb);have n1_:=Aside0.mk (blk_below (g:=gb103) (o:=.cells #[.int .i64 ((rd_T35 l0_4 x23_2).f0),.int .i64 ((rd_T35 l0_4 x23_2).f1),.int .u64 ((rd_T35 l0_4 x23_2).f2),.string ((rd_T35 l0_4 x23_2).f3),.slice A102_4 ((rd_T35 l0_4 x23_2).f4).length c102_4] 35 (0,0)) (by (with_reducible repeat (first | refine blk_drewN ?_ _ | refine blk_drew ?_ | refine blk_alloc ?_ _));refine blk_put (cs:=#[.int .i64 ((rd_T35 l0_4 x23_2).f0),.int .i64 ((rd_T35 l0_4 x23_2).f1),.int .u64 ((rd_T35 l0_4 x23_2).f2),.string ((rd_T35 l0_4 x23_2).f3),.slice none 0 0]) ?_ 4 _ rfl;(with_reducible repeat (first | refine blk_drewN ?_ _ | refine blk_drew ?_ | refine blk_alloc ?_ _));refine blk_put (cs:=#[.int .i64 ((rd_T35 l0_4 x23_2).f0),.int .i64 ((rd_T35 l0_4 x23_2).f1),.int .u64 ((rd_T35 l0_4 x23_2).f2),.string (⟨#[]⟩:ByteArray),.slice none 0 0]) ?_ 3 _ rfl;(with_reducible repeat (first | refine blk_drewN ?_ _ | refine blk_drew ?_ | refine blk_alloc ?_ _));refine blk_put (cs:=#[.int .i64 ((rd_T35 l0_4 x23_2).f0),.int .i64 ((rd_T35 l0_4 x23_2).f1),.int .u64 0,.string (⟨#[]⟩:ByteArray),.slice none 0 0]) ?_ 2 _ rfl;(with_reducible repeat (first | refine blk_drewN ?_ _ | refine blk_drew ?_ | refine blk_alloc ?_ _));refine blk_put (cs:=#[.int .i64 ((rd_T35 l0_4 x23_2).f0),.int .i64 0,.int .u64 0,.string (⟨#[]⟩:ByteArray),.slice none 0 0]) ?_ 1 _ rfl;(with_reducible repeat (first | refine blk_drewN ?_ _ | refine blk_drew ?_ | refine blk_alloc ?_ _));refine blk_put (cs:=#[.int .i64 0,.int .i64 0,.int .u64 0,.string (⟨#[]⟩:ByteArray),.slice none 0 0]) ?_ 0 _ rfl;(with_reducible repeat (first | refine blk_drewN ?_ _ | refine blk_drew ?_ | refine blk_alloc ?_ _));exact BK103.out) hb);have n2_:=Aside0.mk (below_step (by repeat (first | (with_reducible first | exact HB.out | apply below_alloc | apply pw_below_drewN | apply below_drew1 | refine below_set ?_ GE101.out | refine below_set ?_ GE103.out) | exact HB.out)) hb);clear BK101;clear BK103;clear HB;have BK101:=n0_;have BK103:=n1_;have HB:=n2_;clear n0_ n1_ n2_;(try clear hb);(try clear hb2);(try clear hk);(try clear hi)))
          go_roundg k2
          case measure=>have:=HJ3.out;have:=HK2.out;omega
          case rel=>exact ⟨(t104),(wrap64 (x23_2+1)),(by first | rfl | (simp;done) | (simp [*];done)),(by first | rfl | (simp;done) | (simp [*];done)),H',⟨by have:=HJ3.out;have:=HK2.out;omega⟩,⟨by (with_reducible repeat (first | refine blk_drewN ?_ _ | refine blk_drew ?_ | refine blk_alloc ?_ _));exact BK101.out⟩,⟨by repeat (first | (with_reducible first | exact HB.out | apply below_alloc | apply pw_below_drewN | apply below_drew1 | refine below_set ?_ GE101.out | refine below_set ?_ GE103.out) | exact HB.out)⟩⟩
         ·replace c13:=Bool.eq_false_iff.mpr c13
          subst c13
          have H1:(some (0,false))=some (r1,r2):=by rw [if_neg (show ¬ (false=true) by decide)]at H;exact H
          clear H
          have H:=H1
          clear H1
          simp only [Option.some.injEq,Prod.mk.injEq]at H
          obtain ⟨rfl,rfl⟩:=H
          have p102:0≤(x23_2:Int):=of_decide_eq_true (by first | (with_reducible assumption) | assumption)
          have q102:x23_2 < (l0_4.length:Int):=of_decide_eq_true (by first | (with_reducible assumption) | assumption)
          obtain ⟨ad102,A102_4,c102_4,e102,hx102_0,hx102_1,hx102_2,hx102_3,hx102_4,hl102_4,hi102_4⟩:=at_T35 HR0_4.out x23_2 p102 q102
          cases e102
          replace hx102_0:=(HB.out.cell (World.block_lt_of_cell? w _ hx102_0)).trans hx102_0
          replace hx102_1:=(HB.out.cell (World.block_lt_of_cell? w _ hx102_1)).trans hx102_1
          replace hx102_2:=(HB.out.cell (World.block_lt_of_cell? w _ hx102_2)).trans hx102_2
          replace hx102_3:=(HB.out.cell (World.block_lt_of_cell? w _ hx102_3)).trans hx102_3
          replace hx102_4:=(HB.out.cell (World.block_lt_of_cell? w _ hx102_4)).trans hx102_4
          have HR102_4:=Aside0.mk hi102_4
          have HC102_4:=Aside0.mk hl102_4
          clear hi102_4 hl102_4
          replace p102:=eq_true p102
          replace q102:=eq_true q102
          go_wp2_with (first | ((with_reducible refine gate_dst (N:=9) rfl ?_);refine box_event ?hg (N:=9) ?hd (cs:=#[.int .i64 0,.int .i64 0,.int .u64 0,.string (⟨#[]⟩:ByteArray),.slice none 0 0]) (t:=35) ?hr ?_;(case hd=>rfl);(case hg=>rfl);(case hr=>first | (go_simp;done) | (go_simp;rfl));intro gb103 hg w18 hbox hb;have n0_:=Aside0.mk (blk_below (g:=gb101) (o:=.cells #[.int .i64 a0_0,.int .i64 a0_1,.int .u64 a0_2,.string a0_3,.slice (some ad102) l0_4.length c0_4] 35 (0,0)) (by (with_reducible repeat (first | refine blk_drewN ?_ _ | refine blk_drew ?_ | refine blk_alloc ?_ _));exact BK101.out) hb);have n1_:=Aside0.mk (below_step (by repeat (first | (with_reducible first | exact HB.out | apply below_alloc | apply pw_below_drewN | apply below_drew1 | refine below_set ?_ GE101.out) | exact HB.out)) hb);have n2_:=Aside0.mk (hbox);have n3_:=Aside0.mk ((by rw [hg];exact (below_size (by repeat (first | (with_reducible first | exact HB.out | apply below_alloc | apply pw_below_drewN | apply below_drew1 | refine below_set ?_ GE101.out) | exact HB.out))):w.heap.size≤gb103));have n4_:=Aside0.mk ((by rw [hg];exact (below_size (by repeat (first | (with_reducible first | exact HB.out | apply below_alloc | apply pw_below_drewN | apply below_drew1 | refine below_set ?_ GE101.out) | exact HB.out))):w.heap.size≤gb103));have n5_:=Aside0.mk ((by rw [hg];exact Nat.ne_of_lt (blk_lt (g:=gb101) (o:=.cells #[.int .i64 a0_0,.int .i64 a0_1,.int .u64 a0_2,.string a0_3,.slice (some ad102) l0_4.length c0_4] 35 (0,0)) (by (with_reducible repeat (first | refine blk_drewN ?_ _ | refine blk_drew ?_ | refine blk_alloc ?_ _));exact BK101.out)):gb101≠gb103));have n6_:=Aside0.mk ((by rw [hg];exact Nat.ne_of_gt (blk_lt (g:=gb101) (o:=.cells #[.int .i64 a0_0,.int .i64 a0_1,.int .u64 a0_2,.string a0_3,.slice (some ad102) l0_4.length c0_4] 35 (0,0)) (by (with_reducible repeat (first | refine blk_drewN ?_ _ | refine blk_drew ?_ | refine blk_alloc ?_ _));exact BK101.out)):gb103≠gb101));clear BK101;clear HB;have BK101:=n0_;have HB:=n1_;have BK103:=n2_;have GW103:=n3_;have GE103:=n4_;have NB101_103:=n5_;have NB103_101:=n6_;clear n0_ n1_ n2_ n3_ n4_ n5_ n6_;clear hb hbox hg;have hnb19:=NB103_101.out;have hnc19:=NB101_103.out;have hcz20_0:w18.cell? ⟨gb103,0,none⟩=some (.int .i64 0):=(blk_cell BK103.out 0).trans rfl;have hcz20_1:w18.cell? ⟨gb103,1,none⟩=some (.int .i64 0):=(blk_cell BK103.out 1).trans rfl;have hcz20_2:w18.cell? ⟨gb103,2,none⟩=some (.int .u64 0):=(blk_cell BK103.out 2).trans rfl;have hcz20_3:w18.cell? ⟨gb103,3,none⟩=some (.string (⟨#[]⟩:ByteArray)):=(blk_cell BK103.out 3).trans rfl;have hcz20_4:w18.cell? ⟨gb103,4,none⟩=some (.slice none 0 0):=(blk_cell BK103.out 4).trans rfl;have hfz20_0:=blk_frozen BK103.out 0;have hfz20_1:=blk_frozen BK103.out 1;have hfz20_2:=blk_frozen BK103.out 2;have hfz20_3:=blk_frozen BK103.out 3;have hfz20_4:=blk_frozen BK103.out 4) | ((with_reducible refine gate_callee (f:=50) rfl ?_);refine goesL_ (some 32) rfl rfl Tryz.func50 (by kernel_rfl) rfl #[.agg #[.int .i64 ((rd_T35 l0_4 x23_2).f0),.int .i64 ((rd_T35 l0_4 x23_2).f1),.int .u64 ((rd_T35 l0_4 x23_2).f2),.string ((rd_T35 l0_4 x23_2).f3),.slice A102_4 ((rd_T35 l0_4 x23_2).f4).length c102_4],.int .i64 x1_2,.int .i64 (wrap64 (a2 - 1))] rfl (by (try simp only [List.map_toArray,List.map_cons,List.map_nil]);first | done | rfl | (simp only [List.length_drop,List.length_take];rfl)) ?_;(with_reducible refine (ih k2 (by have:=HJ3.out;have:=HK2.out;omega) ((rd_T35 l0_4 x23_2).f0) ((rd_T35 l0_4 x23_2).f1) ((rd_T35 l0_4 x23_2).f2) ((rd_T35 l0_4 x23_2).f3) _ _ ((rd_T35 l0_4 x23_2).f4) x1_2 (wrap64 (a2 - 1)) t104 false _ ?side1 ?side2 A12.out).mono ?_);(case side1=>exact Kd.C_below HR102_4.out (by repeat (first | (with_reducible first | exact HB.out | apply below_alloc | apply pw_below_drewN | apply below_drew1 | refine below_set ?_ GE101.out | refine below_set ?_ GE103.out) | exact HB.out)));(case side2=>exact HC102_4.out);rintro e w21 ⟨rfl,hb⟩;refine ⟨_,rfl,?_⟩;have n0_:=Aside0.mk (blk_below (g:=gb101) (o:=.cells #[.int .i64 a0_0,.int .i64 a0_1,.int .u64 a0_2,.string a0_3,.slice (some ad102) l0_4.length c0_4] 35 (0,0)) (by (with_reducible repeat (first | refine blk_drewN ?_ _ | refine blk_drew ?_ | refine blk_alloc ?_ _));refine blk_far ?_ NB101_103.out _;(with_reducible repeat (first | refine blk_drewN ?_ _ | refine blk_drew ?_ | refine blk_alloc ?_ _));refine blk_far ?_ NB101_103.out _;(with_reducible repeat (first | refine blk_drewN ?_ _ | refine blk_drew ?_ | refine blk_alloc ?_ _));refine blk_far ?_ NB101_103.out _;(with_reducible repeat (first | refine blk_drewN ?_ _ | refine blk_drew ?_ | refine blk_alloc ?_ _));refine blk_far ?_ NB101_103.out _;(with_reducible repeat (first | refine blk_drewN ?_ _ | refine blk_drew ?_ | refine blk_alloc ?_ _));refine blk_far ?_ NB101_103.out _;(with_reducible repeat (first | refine blk_drewN ?_ _ | refine blk_drew ?_ | refine blk_alloc ?_ _));exact BK101.out) hb);have n1_:=Aside0.mk (blk_below (g:=gb103) (o:=.cells #[.int .i64 ((rd_T35 l0_4 x23_2).f0),.int .i64 ((rd_T35 l0_4 x23_2).f1),.int .u64 ((rd_T35 l0_4 x23_2).f2),.string ((rd_T35 l0_4 x23_2).f3),.slice A102_4 ((rd_T35 l0_4 x23_2).f4).length c102_4] 35 (0,0)) (by (with_reducible repeat (first | refine blk_drewN ?_ _ | refine blk_drew ?_ | refine blk_alloc ?_ _));refine blk_put (cs:=#[.int .i64 ((rd_T35 l0_4 x23_2).f0),.int .i64 ((rd_T35 l0_4 x23_2).f1),.int .u64 ((rd_T35 l0_4 x23_2).f2),.string ((rd_T35 l0_4 x23_2).f3),.slice none 0 0]) ?_ 4 _ rfl;(with_reducible repeat (first | refine blk_drewN ?_ _ | refine blk_drew ?_ | refine blk_alloc ?_ _));refine blk_put (cs:=#[.int .i64 ((rd_T35 l0_4 x23_2).f0),.int .i64 ((rd_T35 l0_4 x23_2).f1),.int .u64 ((rd_T35 l0_4 x23_2).f2),.string (⟨#[]⟩:ByteArray),.slice none 0 0]) ?_ 3 _ rfl;(with_reducible repeat (first | refine blk_drewN ?_ _ | refine blk_drew ?_ | refine blk_alloc ?_ _));refine blk_put (cs:=#[.int .i64 ((rd_T35 l0_4 x23_2).f0),.int .i64 ((rd_T35 l0_4 x23_2).f1),.int .u64 0,.string (⟨#[]⟩:ByteArray),.slice none 0 0]) ?_ 2 _ rfl;(with_reducible repeat (first | refine blk_drewN ?_ _ | refine blk_drew ?_ | refine blk_alloc ?_ _));refine blk_put (cs:=#[.int .i64 ((rd_T35 l0_4 x23_2).f0),.int .i64 0,.int .u64 0,.string (⟨#[]⟩:ByteArray),.slice none 0 0]) ?_ 1 _ rfl;(with_reducible repeat (first | refine blk_drewN ?_ _ | refine blk_drew ?_ | refine blk_alloc ?_ _));refine blk_put (cs:=#[.int .i64 0,.int .i64 0,.int .u64 0,.string (⟨#[]⟩:ByteArray),.slice none 0 0]) ?_ 0 _ rfl;(with_reducible repeat (first | refine blk_drewN ?_ _ | refine blk_drew ?_ | refine blk_alloc ?_ _));exact BK103.out) hb);have n2_:=Aside0.mk (below_step (by repeat (first | (with_reducible first | exact HB.out | apply below_alloc | apply pw_below_drewN | apply below_drew1 | refine below_set ?_ GE101.out | refine below_set ?_ GE103.out) | exact HB.out)) hb);clear BK101;clear BK103;clear HB;have BK101:=n0_;have BK103:=n1_;have HB:=n2_;clear n0_ n1_ n2_;(try clear hb);(try clear hb2);(try clear hk);(try clear hi)))
          go_ret2
          exact ⟨by first | rfl | (simp [errW_none,errW_some] <;> rfl) | (simp [*,errW_none,errW_some] <;> rfl),by repeat (first | (with_reducible first | exact HB.out | apply below_alloc | apply pw_below_drewN | apply below_drew1 | refine below_set ?_ GE101.out | refine below_set ?_ GE103.out) | exact HB.out)⟩
        ·rw [if_neg c11]at H
         exact absurd H (by simp)
       ·rw [if_neg c10]at H
        exact absurd H (by simp)
      ·rw [if_neg c9]at H
       have c9b0:decide (x23_2 < (l0_4.length:Int))=false:=decide_eq_false c9
       clear c9
       simp only [Option.some.injEq,Prod.mk.injEq]at H
       obtain ⟨rfl,rfl⟩:=H
       go_wp2
       go_ret2
       exact ⟨by first | rfl | (simp [errW_none,errW_some] <;> rfl) | (simp [*,errW_none,errW_some] <;> rfl),by repeat (first | (with_reducible first | exact HB.out | apply below_alloc | apply pw_below_drewN | apply below_drew1 | refine below_set ?_ GE101.out) | exact HB.out)⟩
mutual
def term_Copy.l0:Nat→List (S35)→Int→Int→Int→Int→Int→ByteArray→List (S35)→Option (Int × Int × Int × ByteArray × (List (S35)))
 | 0,_,_,_,_,_,_,_,_=>none
 | k+1,x9,x10,x11,x109000,x109001,x109002,x109003,x109004=>if x11 < x10 then (if 0≤x11 then (if x11 < (x9.length:Int)then ((term_Copy.f k ((rd_T35 x9 x11).f0) ((rd_T35 x9 x11).f1) ((rd_T35 x9 x11).f2) ((rd_T35 x9 x11).f3) ((rd_T35 x9 x11).f4)).bind fun bt111=>(if x109004.length < 2199023255552 then (term_Copy.l0 k x9 x10 (wrap64 (x11+1)) x109000 x109001 x109002 x109003 (x109004++[(⟨bt111.1,bt111.2.1,bt111.2.2.1,bt111.2.2.2.1,bt111.2.2.2.2⟩:S35)]))else (none)))else (none))else (none))else (some (x109000,x109001,x109002,x109003,x109004))
def term_Copy.f:Nat→Int→Int→Int→ByteArray→List (S35)→Option (Int × Int × Int × ByteArray × (List (S35)))
 | 0,_,_,_,_,_=>none
 | k+1,a0_0,a0_1,a0_2,a0_3,l0_4=>term_Copy.l0 k l0_4 (l0_4.length:Int) 0 a0_0 a0_1 a0_2 a0_3 ([]:List (S35))
end
theorem term_Copy.mono_l:∀ k,(∀ y0 y1 y2 y3 y4,LeO (term_Copy.f k y0 y1 y2 y3 y4) (term_Copy.f (k+1) y0 y1 y2 y3 y4))∧(∀ y0 y1 y2 y3 y4 y5 y6 y7,LeO (term_Copy.l0 k y0 y1 y2 y3 y4 y5 y6 y7) (term_Copy.l0 (k+1) y0 y1 y2 y3 y4 y5 y6 y7))
 | 0=>⟨fun _ _ _ _ _ r h=>by simp [term_Copy.f]at h,fun _ _ _ _ _ _ _ _ r h=>by simp [term_Copy.l0]at h⟩
 | k+1=>by
  obtain ⟨ih0,ih1⟩:=term_Copy.mono_l k
  refine ⟨?_,?_⟩
  ·intro y0 y1 y2 y3 y4
   unfold term_Copy.f
   repeat' first
   | (with_reducible exact ih0 _ _ _ _ _)
   | (with_reducible exact ih1 _ _ _ _ _ _ _ _)
   | (with_reducible exact LeO.refl _)
   | (with_reducible exact LeO.none _)
   | (with_reducible refine LeO.ite ?_ ?_)
   | (with_reducible refine LeO.bind ?_ (fun _=>?_))
   | exact ih0 _ _ _ _ _
   | exact ih1 _ _ _ _ _ _ _ _
   | exact LeO.none _
   | refine LeO.ite ?_ ?_
   | refine LeO.bind ?_ (fun _=>?_)
  ·intro y0 y1 y2 y3 y4 y5 y6 y7
   unfold term_Copy.l0
   repeat' first
   | (with_reducible exact ih0 _ _ _ _ _)
   | (with_reducible exact ih1 _ _ _ _ _ _ _ _)
   | (with_reducible exact LeO.refl _)
   | (with_reducible exact LeO.none _)
   | (with_reducible refine LeO.ite ?_ ?_)
   | (with_reducible refine LeO.bind ?_ (fun _=>?_))
   | exact ih0 _ _ _ _ _
   | exact ih1 _ _ _ _ _ _ _ _
   | exact LeO.none _
   | refine LeO.ite ?_ ?_
   | refine LeO.bind ?_ (fun _=>?_)
def term_Copy.T6:Bool × List (List Nat × List Nat):=(true,[([],[]),([0],[0]),([],[]),([2],[2]),([3],[3]),([1,4,3],[1,4]),([0,1,2,3,4,5],[]),([6,5,5,0,1,2,3,4,5],[5,6])])
def term_Copy.B6:List Nat:=[0,1,0,4,12,31,63,127]
theorem term_Copy.tab6:rtab .any (opsOf Tryz.f15 6)=term_Copy.T6:=by kernel_rfl
theorem term_Copy.bits6:waitsOk term_Copy.T6.2 term_Copy.B6=true:=by kernel_rfl
set_option maxHeartbeats 8000000 in
set_option maxRecDepth 100000 in
theorem term_Copy.calls (k:Nat):∀ (a0_0:Int) (a0_1:Int) (a0_2:Int) (a0_3:ByteArray) (A0_4:Option Addr) (c0_4:Nat) (l0_4:List (S35)) (r1:Int) (r2:Int) (r3:Int) (r4:ByteArray) (r5:List (S35)) (w:World) (hr0_4:Kd.C k35 w A0_4 l0_4.length l0_4) (hc0_4:l0_4.length≤c0_4) (h:term_Copy.f k a0_0 a0_1 a0_2 a0_3 l0_4=some (r1,r2,r3,r4,r5)),
  Calls Tryz.prog 15 #[.agg #[.int .i64 a0_0,.int .i64 a0_1,.int .u64 a0_2,.string a0_3,.slice A0_4 l0_4.length c0_4]] w fun e w'=>∃ v4_:Value,e=.returned (.agg #[.int .i64 r1,.int .i64 r2,.int .u64 r3,.string r4,v4_])∧Kd.R k35 35 w' w.heap.size (fun _=>True) v4_ r5∧Below w.heap.size w w':=by
 induction k using Nat.strongRecOn with
 | _ k ih =>
 intro a0_0 a0_1 a0_2 a0_3 A0_4 c0_4 l0_4 r1 r2 r3 r4 r5 w hr0_4 hc0_4 h
 cases k with
 | zero=>exact absurd h (by simp [term_Copy.f])
 | succ k =>
 simp only [term_Copy.f]at h
 have hu35:=Tryz.underlying35
 have HR0_4:=Aside0.mk hr0_4
 have HC0_4:=Aside0.mk hc0_4
 clear hr0_4 hc0_4
 have HB:=Aside0.mk (Below.refl w.heap.size w)
 have H:(term_Copy.l0 k l0_4 (l0_4.length:Int) 0 a0_0 a0_1 a0_2 a0_3 ([]:List (S35)))=some (r1,r2,r3,r4,r5):=h
 clear h
 have H':=Aside0.mk H
 clear H
 go_enter Tryz.func15,Tryz.ntmps15
 go_wp2_with (first | ((with_reducible refine gate_dst (N:=1) rfl ?_);refine box_event ?hg (N:=1) ?hd (cs:=#[.int .i64 a0_0,.int .i64 a0_1,.int .u64 a0_2,.string a0_3,.slice A0_4 l0_4.length c0_4]) (t:=35) ?hr ?_;(case hd=>rfl);(case hg=>rfl);(case hr=>first | (go_simp;done) | (go_simp;rfl));intro gb106 hg w2 hbox hb;have n0_:=Aside0.mk (below_step (by repeat (first | (with_reducible first | exact HB.out | apply below_alloc | apply pw_below_drewN | apply below_drew1) | exact HB.out)) hb);have n1_:=Aside0.mk (hbox);have n2_:=Aside0.mk ((by rw [hg];exact (below_size (by repeat (first | (with_reducible first | exact HB.out | apply below_alloc | apply pw_below_drewN | apply below_drew1) | exact HB.out))):w.heap.size≤gb106));have n3_:=Aside0.mk ((by rw [hg];exact (below_size (by repeat (first | (with_reducible first | exact HB.out | apply below_alloc | apply pw_below_drewN | apply below_drew1) | exact HB.out))):w.heap.size≤gb106));clear HB;have HB:=n0_;have BK106:=n1_;have GW106:=n2_;have GE106:=n3_;clear n0_ n1_ n2_ n3_;clear hb hbox hg) | ((with_reducible refine gate_dst (N:=2) rfl ?_);refine box_event ?hg (N:=2) ?hd (cs:=#[.int .i64 0,.int .i64 0,.int .u64 0,.string (⟨#[]⟩:ByteArray),.slice none 0 0]) (t:=35) ?hr ?_;(case hd=>rfl);(case hg=>rfl);(case hr=>first | (go_simp;done) | (go_simp;rfl));intro gb107 hg w3 hbox hb;have n0_:=Aside0.mk (blk_below (g:=gb106) (o:=.cells #[.int .i64 a0_0,.int .i64 a0_1,.int .u64 a0_2,.string a0_3,.slice A0_4 l0_4.length c0_4] 35 (0,0)) (by (with_reducible repeat (first | refine blk_drewN ?_ _ | refine blk_drew ?_ | refine blk_alloc ?_ _));exact BK106.out) hb);have n1_:=Aside0.mk (below_step (by repeat (first | (with_reducible first | exact HB.out | apply below_alloc | apply pw_below_drewN | apply below_drew1 | refine below_set ?_ GE106.out) | exact HB.out)) hb);have n2_:=Aside0.mk (hbox);have n3_:=Aside0.mk ((by rw [hg];exact (below_size (by repeat (first | (with_reducible first | exact HB.out | apply below_alloc | apply pw_below_drewN | apply below_drew1 | refine below_set ?_ GE106.out) | exact HB.out))):w.heap.size≤gb107));have n4_:=Aside0.mk ((by rw [hg];exact (below_size (by repeat (first | (with_reducible first | exact HB.out | apply below_alloc | apply pw_below_drewN | apply below_drew1 | refine below_set ?_ GE106.out) | exact HB.out))):w.heap.size≤gb107));have n5_:=Aside0.mk ((by rw [hg];exact Nat.ne_of_lt (blk_lt (g:=gb106) (o:=.cells #[.int .i64 a0_0,.int .i64 a0_1,.int .u64 a0_2,.string a0_3,.slice A0_4 l0_4.length c0_4] 35 (0,0)) (by (with_reducible repeat (first | refine blk_drewN ?_ _ | refine blk_drew ?_ | refine blk_alloc ?_ _));exact BK106.out)):gb106≠gb107));have n6_:=Aside0.mk ((by rw [hg];exact Nat.ne_of_gt (blk_lt (g:=gb106) (o:=.cells #[.int .i64 a0_0,.int .i64 a0_1,.int .u64 a0_2,.string a0_3,.slice A0_4 l0_4.length c0_4] 35 (0,0)) (by (with_reducible repeat (first | refine blk_drewN ?_ _ | refine blk_drew ?_ | refine blk_alloc ?_ _));exact BK106.out)):gb107≠gb106));clear BK106;clear HB;have BK106:=n0_;have HB:=n1_;have BK107:=n2_;have GW107:=n3_;have GE107:=n4_;have NB106_107:=n5_;have NB107_106:=n6_;clear n0_ n1_ n2_ n3_ n4_ n5_ n6_;clear hb hbox hg;have hnb4:=NB106_107.out;have hnc4:=NB107_106.out;have hcz5_0:w3.cell? ⟨gb106,0,none⟩=some (.int .i64 a0_0):=(blk_cell BK106.out 0).trans rfl;have hcz5_1:w3.cell? ⟨gb106,1,none⟩=some (.int .i64 a0_1):=(blk_cell BK106.out 1).trans rfl;have hcz5_2:w3.cell? ⟨gb106,2,none⟩=some (.int .u64 a0_2):=(blk_cell BK106.out 2).trans rfl;have hcz5_3:w3.cell? ⟨gb106,3,none⟩=some (.string a0_3):=(blk_cell BK106.out 3).trans rfl;have hcz5_4:w3.cell? ⟨gb106,4,none⟩=some (.slice A0_4 l0_4.length c0_4):=(blk_cell BK106.out 4).trans rfl;have hfz5_0:=blk_frozen BK106.out 0;have hfz5_1:=blk_frozen BK106.out 1;have hfz5_2:=blk_frozen BK106.out 2;have hfz5_3:=blk_frozen BK106.out 3;have hfz5_4:=blk_frozen BK106.out 4) | ((with_reducible refine gate_dst (N:=3) rfl ?_);refine box_event ?hg (N:=3) ?hd (cs:=#[.int .i64 0,.int .i64 0,.int .u64 0,.string (⟨#[]⟩:ByteArray),.slice none 0 0]) (t:=35) ?hr ?_;(case hd=>rfl);(case hg=>rfl);(case hr=>first | (go_simp;done) | (go_simp;rfl));intro gb108 hg w6 hbox hb;have n0_:=Aside0.mk (blk_below (g:=gb106) (o:=.cells #[.int .i64 a0_0,.int .i64 a0_1,.int .u64 a0_2,.string a0_3,.slice A0_4 l0_4.length c0_4] 35 (0,0)) (by (with_reducible repeat (first | refine blk_drewN ?_ _ | refine blk_drew ?_ | refine blk_alloc ?_ _));exact BK106.out) hb);have n1_:=Aside0.mk (blk_below (g:=gb107) (o:=.cells #[.int .i64 0,.int .i64 0,.int .u64 0,.string (⟨#[]⟩:ByteArray),.slice none 0 0] 35 (0,0)) (by (with_reducible repeat (first | refine blk_drewN ?_ _ | refine blk_drew ?_ | refine blk_alloc ?_ _));exact BK107.out) hb);have n2_:=Aside0.mk (below_step (by repeat (first | (with_reducible first | exact HB.out | apply below_alloc | apply pw_below_drewN | apply below_drew1 | refine below_set ?_ GE106.out | refine below_set ?_ GE107.out) | exact HB.out)) hb);have n3_:=Aside0.mk (hbox);have n4_:=Aside0.mk ((by rw [hg];exact (below_size (by repeat (first | (with_reducible first | exact HB.out | apply below_alloc | apply pw_below_drewN | apply below_drew1 | refine below_set ?_ GE106.out | refine below_set ?_ GE107.out) | exact HB.out))):w.heap.size≤gb108));have n5_:=Aside0.mk ((by rw [hg];exact (below_size (by repeat (first | (with_reducible first | exact HB.out | apply below_alloc | apply pw_below_drewN | apply below_drew1 | refine below_set ?_ GE106.out | refine below_set ?_ GE107.out) | exact HB.out))):w.heap.size≤gb108));have n6_:=Aside0.mk ((by rw [hg];exact Nat.ne_of_lt (blk_lt (g:=gb106) (o:=.cells #[.int .i64 a0_0,.int .i64 a0_1,.int .u64 a0_2,.string a0_3,.slice A0_4 l0_4.length c0_4] 35 (0,0)) (by (with_reducible repeat (first | refine blk_drewN ?_ _ | refine blk_drew ?_ | refine blk_alloc ?_ _));exact BK106.out)):gb106≠gb108));have n7_:=Aside0.mk ((by rw [hg];exact Nat.ne_of_gt (blk_lt (g:=gb106) (o:=.cells #[.int .i64 a0_0,.int .i64 a0_1,.int .u64 a0_2,.string a0_3,.slice A0_4 l0_4.length c0_4] 35 (0,0)) (by (with_reducible repeat (first | refine blk_drewN ?_ _ | refine blk_drew ?_ | refine blk_alloc ?_ _));exact BK106.out)):gb108≠gb106));have n8_:=Aside0.mk ((by rw [hg];exact Nat.ne_of_lt (blk_lt (g:=gb107) (o:=.cells #[.int .i64 0,.int .i64 0,.int .u64 0,.string (⟨#[]⟩:ByteArray),.slice none 0 0] 35 (0,0)) (by (with_reducible repeat (first | refine blk_drewN ?_ _ | refine blk_drew ?_ | refine blk_alloc ?_ _));exact BK107.out)):gb107≠gb108));have n9_:=Aside0.mk ((by rw [hg];exact Nat.ne_of_gt (blk_lt (g:=gb107) (o:=.cells #[.int .i64 0,.int .i64 0,.int .u64 0,.string (⟨#[]⟩:ByteArray),.slice none 0 0] 35 (0,0)) (by (with_reducible repeat (first | refine blk_drewN ?_ _ | refine blk_drew ?_ | refine blk_alloc ?_ _));exact BK107.out)):gb108≠gb107));clear BK106;clear BK107;clear HB;have BK106:=n0_;have BK107:=n1_;have HB:=n2_;have BK108:=n3_;have GW108:=n4_;have GE108:=n5_;have NB106_108:=n6_;have NB108_106:=n7_;have NB107_108:=n8_;have NB108_107:=n9_;clear n0_ n1_ n2_ n3_ n4_ n5_ n6_ n7_ n8_ n9_;clear hb hbox hg;have hnb7:=NB108_106.out;have hnc7:=NB106_108.out;have hnb8:=NB108_107.out;have hnc8:=NB107_108.out;have hcz9_0:w6.cell? ⟨gb108,0,none⟩=some (.int .i64 0):=(blk_cell BK108.out 0).trans rfl;have hcz9_1:w6.cell? ⟨gb108,1,none⟩=some (.int .i64 0):=(blk_cell BK108.out 1).trans rfl;have hcz9_2:w6.cell? ⟨gb108,2,none⟩=some (.int .u64 0):=(blk_cell BK108.out 2).trans rfl;have hcz9_3:w6.cell? ⟨gb108,3,none⟩=some (.string (⟨#[]⟩:ByteArray)):=(blk_cell BK108.out 3).trans rfl;have hcz9_4:w6.cell? ⟨gb108,4,none⟩=some (.slice none 0 0):=(blk_cell BK108.out 4).trans rfl;have hfz9_0:=blk_frozen BK108.out 0;have hfz9_1:=blk_frozen BK108.out 1;have hfz9_2:=blk_frozen BK108.out 2;have hfz9_3:=blk_frozen BK108.out 3;have hfz9_4:=blk_frozen BK108.out 4;have hcz10_0:w6.cell? ⟨gb106,0,none⟩=some (.int .i64 a0_0):=(blk_cell BK106.out 0).trans rfl;have hcz10_1:w6.cell? ⟨gb106,1,none⟩=some (.int .i64 a0_1):=(blk_cell BK106.out 1).trans rfl;have hcz10_2:w6.cell? ⟨gb106,2,none⟩=some (.int .u64 a0_2):=(blk_cell BK106.out 2).trans rfl;have hcz10_3:w6.cell? ⟨gb106,3,none⟩=some (.string a0_3):=(blk_cell BK106.out 3).trans rfl;have hcz10_4:w6.cell? ⟨gb106,4,none⟩=some (.slice A0_4 l0_4.length c0_4):=(blk_cell BK106.out 4).trans rfl;have hfz10_0:=blk_frozen BK106.out 0;have hfz10_1:=blk_frozen BK106.out 1;have hfz10_2:=blk_frozen BK106.out 2;have hfz10_3:=blk_frozen BK106.out 3;have hfz10_4:=blk_frozen BK106.out 4))
 go_loopg [11] k (fun kq v11 w'=>∃ (x11_1:Int) (x109004_1:List (S35)) (u109004:Value),v11=.int .i64 x11_1∧Aside0 (term_Copy.l0 kq l0_4 (l0_4.length:Int) x11_1 a0_0 a0_1 a0_2 a0_3 x109004_1=some (r1,r2,r3,r4,r5))∧Aside0 (kq≤k)∧Aside0 (Kd.R k35 35 w' w.heap.size (fun k_=>k_≠gb106∧k_≠gb107∧k_≠gb108) u109004 x109004_1)∧Aside0 (w'.heap[gb106]?=some (.cells #[.int .i64 a0_0,.int .i64 a0_1,.int .u64 a0_2,.string a0_3,(.slice A0_4 l0_4.length c0_4)] 35 (0,0)))∧Aside0 (w'.heap[gb107]?=some (.cells #[.int .i64 0,.int .i64 0,.int .u64 0,.string (⟨#[]⟩:ByteArray),(.slice none 0 0)] 35 (0,0)))∧Aside0 (w'.heap[gb108]?=some (.cells #[.int .i64 a0_0,.int .i64 a0_1,.int .u64 a0_2,.string a0_3,u109004] 35 (0,0)))∧Aside0 (Below w.heap.size w w'))
 case atStart=>exact ⟨(0),(([]:List (S35))),(.slice none 0 0),(by first | rfl | (simp;done) | (simp [*];done)),H',⟨Nat.le_refl _⟩,⟨by first | exact Kd.R_nil _ _ _ _ _ | exact Kd.N_nil _ _ _ _ _ | exact Kd.V_nil _ _ _ _ _ | exact Kd.Q_nil _ _ _ _ _ | exact Kd.S_nil _ _ _ _ _⟩,⟨by (with_reducible repeat (first | refine blk_drewN ?_ _ | refine blk_drew ?_ | refine blk_alloc ?_ _));refine blk_far ?_ NB106_108.out _;(with_reducible repeat (first | refine blk_drewN ?_ _ | refine blk_drew ?_ | refine blk_alloc ?_ _));refine blk_far ?_ NB106_108.out _;(with_reducible repeat (first | refine blk_drewN ?_ _ | refine blk_drew ?_ | refine blk_alloc ?_ _));refine blk_far ?_ NB106_108.out _;(with_reducible repeat (first | refine blk_drewN ?_ _ | refine blk_drew ?_ | refine blk_alloc ?_ _));refine blk_far ?_ NB106_108.out _;(with_reducible repeat (first | refine blk_drewN ?_ _ | refine blk_drew ?_ | refine blk_alloc ?_ _));refine blk_far ?_ NB106_108.out _;(with_reducible repeat (first | refine blk_drewN ?_ _ | refine blk_drew ?_ | refine blk_alloc ?_ _));refine blk_far ?_ NB106_108.out _;(with_reducible repeat (first | refine blk_drewN ?_ _ | refine blk_drew ?_ | refine blk_alloc ?_ _));exact BK106.out⟩,⟨by (with_reducible repeat (first | refine blk_drewN ?_ _ | refine blk_drew ?_ | refine blk_alloc ?_ _));refine blk_far ?_ NB107_108.out _;(with_reducible repeat (first | refine blk_drewN ?_ _ | refine blk_drew ?_ | refine blk_alloc ?_ _));refine blk_far ?_ NB107_108.out _;(with_reducible repeat (first | refine blk_drewN ?_ _ | refine blk_drew ?_ | refine blk_alloc ?_ _));refine blk_far ?_ NB107_108.out _;(with_reducible repeat (first | refine blk_drewN ?_ _ | refine blk_drew ?_ | refine blk_alloc ?_ _));refine blk_far ?_ NB107_108.out _;(with_reducible repeat (first | refine blk_drewN ?_ _ | refine blk_drew ?_ | refine blk_alloc ?_ _));refine blk_far ?_ NB107_108.out _;(with_reducible repeat (first | refine blk_drewN ?_ _ | refine blk_drew ?_ | refine blk_alloc ?_ _));refine blk_far ?_ NB107_108.out _;(with_reducible repeat (first | refine blk_drewN ?_ _ | refine blk_drew ?_ | refine blk_alloc ?_ _));exact BK107.out⟩,⟨by (with_reducible repeat (first | refine blk_drewN ?_ _ | refine blk_drew ?_ | refine blk_alloc ?_ _));refine blk_put (cs:=#[.int .i64 a0_0,.int .i64 a0_1,.int .u64 a0_2,.string a0_3,.slice A0_4 l0_4.length c0_4]) ?_ 4 _ rfl;(with_reducible repeat (first | refine blk_drewN ?_ _ | refine blk_drew ?_ | refine blk_alloc ?_ _));refine blk_put (cs:=#[.int .i64 a0_0,.int .i64 a0_1,.int .u64 a0_2,.string a0_3,.slice none 0 0]) ?_ 4 _ rfl;(with_reducible repeat (first | refine blk_drewN ?_ _ | refine blk_drew ?_ | refine blk_alloc ?_ _));refine blk_put (cs:=#[.int .i64 a0_0,.int .i64 a0_1,.int .u64 a0_2,.string (⟨#[]⟩:ByteArray),.slice none 0 0]) ?_ 3 _ rfl;(with_reducible repeat (first | refine blk_drewN ?_ _ | refine blk_drew ?_ | refine blk_alloc ?_ _));refine blk_put (cs:=#[.int .i64 a0_0,.int .i64 a0_1,.int .u64 0,.string (⟨#[]⟩:ByteArray),.slice none 0 0]) ?_ 2 _ rfl;(with_reducible repeat (first | refine blk_drewN ?_ _ | refine blk_drew ?_ | refine blk_alloc ?_ _));refine blk_put (cs:=#[.int .i64 a0_0,.int .i64 0,.int .u64 0,.string (⟨#[]⟩:ByteArray),.slice none 0 0]) ?_ 1 _ rfl;(with_reducible repeat (first | refine blk_drewN ?_ _ | refine blk_drew ?_ | refine blk_alloc ?_ _));refine blk_put (cs:=#[.int .i64 0,.int .i64 0,.int .u64 0,.string (⟨#[]⟩:ByteArray),.slice none 0 0]) ?_ 0 _ rfl;(with_reducible repeat (first | refine blk_drewN ?_ _ | refine blk_drew ?_ | refine blk_alloc ?_ _));exact BK108.out⟩,⟨by repeat (first | (with_reducible first | exact HB.out | apply below_alloc | apply pw_below_drewN | apply below_drew1 | refine below_set ?_ GE106.out | refine below_set ?_ GE107.out | refine below_set ?_ GE108.out) | exact HB.out)⟩⟩
 case round =>
  clear H'
  try clear c1
  try clear p2
  try clear c4
  try clear c7
  try clear c8
  try clear hcz10_0
  try clear hcz10_1
  try clear hcz10_2
  try clear hcz10_3
  try clear hcz10_4
  try clear hcz5_0
  try clear hcz5_1
  try clear hcz5_2
  try clear hcz5_3
  try clear hcz5_4
  try clear hcz9_0
  try clear hcz9_1
  try clear hcz9_2
  try clear hcz9_3
  try clear hcz9_4
  try clear hfz10_0
  try clear hfz10_1
  try clear hfz10_2
  try clear hfz10_3
  try clear hfz10_4
  try clear hfz5_0
  try clear hfz5_1
  try clear hfz5_2
  try clear hfz5_3
  try clear hfz5_4
  try clear hfz9_0
  try clear hfz9_1
  try clear hfz9_2
  try clear hfz9_3
  try clear hfz9_4
  obtain ⟨x11_1,x109004_1,u109004,rfl,HA,HK1,HO_109004,BK106,BK107,BK108,HB⟩:=hrel
  cases gk with
  | zero=>exact absurd HA.out (by simp [term_Copy.l0])
  | succ k1 =>
   have H:=HA.out
   clear HA
   simp only [term_Copy.l0]at H
   by_cases c11:x11_1 < (l0_4.length:Int)
   ·rw [if_pos c11]at H
    have c11b0:decide (x11_1 < (l0_4.length:Int))=true:=decide_eq_true c11
    clear c11
    by_cases c12:0≤x11_1
    ·rw [if_pos c12]at H
     have c12b0:decide (0≤x11_1)=true:=decide_eq_true c12
     clear c12
     by_cases c13:x11_1 < (l0_4.length:Int)
     ·rw [if_pos c13]at H
      have c13b0:decide (x11_1 < (l0_4.length:Int))=true:=decide_eq_true c13
      clear c13
      replace H:=Option.bind_eq_some_iff.mp H
      obtain ⟨⟨t111,t112,t113,t114,t115⟩,A140,H⟩:=H
      replace H:(if x109004_1.length < 2199023255552 then (term_Copy.l0 k1 l0_4 (l0_4.length:Int) (wrap64 (x11_1+1)) a0_0 a0_1 a0_2 a0_3 (x109004_1++[(⟨t111,t112,t113,t114,t115⟩:S35)]))else (none))=some (r1,r2,r3,r4,r5):=H
      have A14:=Aside0.mk A140
      clear A140
      by_cases c15:x109004_1.length < 2199023255552
      ·rw [if_pos c15]at H
       have LMc15:=Aside0.mk c15
       clear c15
       obtain ⟨y118,hy118⟩:∃ y_:List (S35),y_=(x109004_1++[(⟨t111,t112,t113,t114,t115⟩:S35)]):=⟨_,rfl⟩
       replace H:(term_Copy.l0 k1 l0_4 (l0_4.length:Int) (wrap64 (x11_1+1)) a0_0 a0_1 a0_2 a0_3 y118)=some (r1,r2,r3,r4,r5):=by first | (rw [hy118];with_reducible exact H) | (have H2_:=(Option.bind_some _ _).symm.trans H;rw [hy118];with_reducible exact H2_) | (have H2_:=(Option.bind_some _ _).symm.trans H;with_reducible exact H2_) | with_reducible exact H | (rw [hy118];exact H) | exact H
       have Ny118:=Aside0.mk hy118
       clear hy118
       have H':=Aside0.mk H
       clear H
       have p109:0≤(x11_1:Int):=of_decide_eq_true (by first | (with_reducible assumption) | assumption)
       have q109:x11_1 < (l0_4.length:Int):=of_decide_eq_true (by first | (with_reducible assumption) | assumption)
       obtain ⟨ad109,A109_4,c109_4,e109,hx109_0,hx109_1,hx109_2,hx109_3,hx109_4,hl109_4,hi109_4⟩:=at_T35 HR0_4.out x11_1 p109 q109
       cases e109
       replace hx109_0:=(HB.out.cell (World.block_lt_of_cell? w _ hx109_0)).trans hx109_0
       replace hx109_1:=(HB.out.cell (World.block_lt_of_cell? w _ hx109_1)).trans hx109_1
       replace hx109_2:=(HB.out.cell (World.block_lt_of_cell? w _ hx109_2)).trans hx109_2
       replace hx109_3:=(HB.out.cell (World.block_lt_of_cell? w _ hx109_3)).trans hx109_3
       replace hx109_4:=(HB.out.cell (World.block_lt_of_cell? w _ hx109_4)).trans hx109_4
       have HR109_4:=Aside0.mk hi109_4
       have HC109_4:=Aside0.mk hl109_4
       clear hi109_4 hl109_4
       replace p109:=eq_true p109
       replace q109:=eq_true q109
       try go_wp2_with (first | ((with_reducible refine gate_dst (N:=5) rfl ?_);refine box_event ?hg (N:=5) ?hd (cs:=#[.int .i64 0,.int .i64 0,.int .u64 0,.string (⟨#[]⟩:ByteArray),.slice none 0 0]) (t:=35) ?hr ?_;(case hd=>rfl);(case hg=>rfl);(case hr=>first | (go_simp;done) | (go_simp;rfl));intro gb110 hg w16 hbox hb;have n0_:=Aside0.mk (Kd.R_below (Kd.R_elderB (by (with_reducible repeat (first | apply Kd.R_alloc | apply Kd.R_drewN | apply Kd.R_drew));exact HO_109004.out) gb110 (Nat.le_of_eq hg.symm)) hb);have n1_:=Aside0.mk (blk_below (g:=gb106) (o:=.cells #[.int .i64 a0_0,.int .i64 a0_1,.int .u64 a0_2,.string a0_3,.slice (some ad109) l0_4.length c0_4] 35 (0,0)) (by (with_reducible repeat (first | refine blk_drewN ?_ _ | refine blk_drew ?_ | refine blk_alloc ?_ _));exact BK106.out) hb);have n2_:=Aside0.mk (blk_below (g:=gb107) (o:=.cells #[.int .i64 0,.int .i64 0,.int .u64 0,.string (⟨#[]⟩:ByteArray),.slice none 0 0] 35 (0,0)) (by (with_reducible repeat (first | refine blk_drewN ?_ _ | refine blk_drew ?_ | refine blk_alloc ?_ _));exact BK107.out) hb);have n3_:=Aside0.mk (blk_below (g:=gb108) (o:=.cells #[.int .i64 a0_0,.int .i64 a0_1,.int .u64 a0_2,.string a0_3,u109004] 35 (0,0)) (by (with_reducible repeat (first | refine blk_drewN ?_ _ | refine blk_drew ?_ | refine blk_alloc ?_ _));exact BK108.out) hb);have n4_:=Aside0.mk (below_step (by repeat (first | (with_reducible first | exact HB.out | apply below_alloc | apply pw_below_drewN | apply below_drew1 | refine below_set ?_ GE106.out | refine below_set ?_ GE107.out | refine below_set ?_ GE108.out) | exact HB.out)) hb);have n5_:=Aside0.mk (hbox);have n6_:=Aside0.mk ((by rw [hg];exact (below_size (by repeat (first | (with_reducible first | exact HB.out | apply below_alloc | apply pw_below_drewN | apply below_drew1 | refine below_set ?_ GE106.out | refine below_set ?_ GE107.out | refine below_set ?_ GE108.out) | exact HB.out))):w.heap.size≤gb110));have n7_:=Aside0.mk ((by rw [hg];exact (below_size (by repeat (first | (with_reducible first | exact HB.out | apply below_alloc | apply pw_below_drewN | apply below_drew1 | refine below_set ?_ GE106.out | refine below_set ?_ GE107.out | refine below_set ?_ GE108.out) | exact HB.out))):w.heap.size≤gb110));have n8_:=Aside0.mk ((by rw [hg];exact Nat.ne_of_lt (blk_lt (g:=gb106) (o:=.cells #[.int .i64 a0_0,.int .i64 a0_1,.int .u64 a0_2,.string a0_3,.slice (some ad109) l0_4.length c0_4] 35 (0,0)) (by (with_reducible repeat (first | refine blk_drewN ?_ _ | refine blk_drew ?_ | refine blk_alloc ?_ _));exact BK106.out)):gb106≠gb110));have n9_:=Aside0.mk ((by rw [hg];exact Nat.ne_of_gt (blk_lt (g:=gb106) (o:=.cells #[.int .i64 a0_0,.int .i64 a0_1,.int .u64 a0_2,.string a0_3,.slice (some ad109) l0_4.length c0_4] 35 (0,0)) (by (with_reducible repeat (first | refine blk_drewN ?_ _ | refine blk_drew ?_ | refine blk_alloc ?_ _));exact BK106.out)):gb110≠gb106));have n10_:=Aside0.mk ((by rw [hg];exact Nat.ne_of_lt (blk_lt (g:=gb107) (o:=.cells #[.int .i64 0,.int .i64 0,.int .u64 0,.string (⟨#[]⟩:ByteArray),.slice none 0 0] 35 (0,0)) (by (with_reducible repeat (first | refine blk_drewN ?_ _ | refine blk_drew ?_ | refine blk_alloc ?_ _));exact BK107.out)):gb107≠gb110));have n11_:=Aside0.mk ((by rw [hg];exact Nat.ne_of_gt (blk_lt (g:=gb107) (o:=.cells #[.int .i64 0,.int .i64 0,.int .u64 0,.string (⟨#[]⟩:ByteArray),.slice none 0 0] 35 (0,0)) (by (with_reducible repeat (first | refine blk_drewN ?_ _ | refine blk_drew ?_ | refine blk_alloc ?_ _));exact BK107.out)):gb110≠gb107));have n12_:=Aside0.mk ((by rw [hg];exact Nat.ne_of_lt (blk_lt (g:=gb108) (o:=.cells #[.int .i64 a0_0,.int .i64 a0_1,.int .u64 a0_2,.string a0_3,u109004] 35 (0,0)) (by (with_reducible repeat (first | refine blk_drewN ?_ _ | refine blk_drew ?_ | refine blk_alloc ?_ _));exact BK108.out)):gb108≠gb110));have n13_:=Aside0.mk ((by rw [hg];exact Nat.ne_of_gt (blk_lt (g:=gb108) (o:=.cells #[.int .i64 a0_0,.int .i64 a0_1,.int .u64 a0_2,.string a0_3,u109004] 35 (0,0)) (by (with_reducible repeat (first | refine blk_drewN ?_ _ | refine blk_drew ?_ | refine blk_alloc ?_ _));exact BK108.out)):gb110≠gb108));clear HO_109004;clear BK106;clear BK107;clear BK108;clear HB;have HO_109004:=n0_;have BK106:=n1_;have BK107:=n2_;have BK108:=n3_;have HB:=n4_;have BK110:=n5_;have GW110:=n6_;have GE110:=n7_;have NB106_110:=n8_;have NB110_106:=n9_;have NB107_110:=n10_;have NB110_107:=n11_;have NB108_110:=n12_;have NB110_108:=n13_;clear n0_ n1_ n2_ n3_ n4_ n5_ n6_ n7_ n8_ n9_ n10_ n11_ n12_ n13_;clear hb hbox hg;have hnb17:=NB110_106.out;have hnc17:=NB106_110.out;have hnb18:=NB110_107.out;have hnc18:=NB107_110.out;have hnb19:=NB110_108.out;have hnc19:=NB108_110.out;have hcz20_0:w16.cell? ⟨gb110,0,none⟩=some (.int .i64 0):=(blk_cell BK110.out 0).trans rfl;have hcz20_1:w16.cell? ⟨gb110,1,none⟩=some (.int .i64 0):=(blk_cell BK110.out 1).trans rfl;have hcz20_2:w16.cell? ⟨gb110,2,none⟩=some (.int .u64 0):=(blk_cell BK110.out 2).trans rfl;have hcz20_3:w16.cell? ⟨gb110,3,none⟩=some (.string (⟨#[]⟩:ByteArray)):=(blk_cell BK110.out 3).trans rfl;have hcz20_4:w16.cell? ⟨gb110,4,none⟩=some (.slice none 0 0):=(blk_cell BK110.out 4).trans rfl;have hfz20_0:=blk_frozen BK110.out 0;have hfz20_1:=blk_frozen BK110.out 1;have hfz20_2:=blk_frozen BK110.out 2;have hfz20_3:=blk_frozen BK110.out 3;have hfz20_4:=blk_frozen BK110.out 4))
       have n0_:Aside0 (Kd.R k35 35 (((((w16.setCell ⟨gb110,0,none⟩ (.int .i64 ((rd_T35 l0_4 x11_1).f0))).setCell ⟨gb110,1,none⟩ (.int .i64 ((rd_T35 l0_4 x11_1).f1))).setCell ⟨gb110,2,none⟩ (.int .u64 ((rd_T35 l0_4 x11_1).f2))).setCell ⟨gb110,3,none⟩ (.string ((rd_T35 l0_4 x11_1).f3))).setCell ⟨gb110,4,none⟩ (.slice A109_4 ((rd_T35 l0_4 x11_1).f4).length c109_4)) w.heap.size (fun k_=>k_≠gb106∧k_≠gb107∧k_≠gb108∧k_≠gb110) u109004 x109004_1):=⟨by (with_reducible repeat (first | apply Kd.R_alloc | apply Kd.R_drewN | apply Kd.R_drew));exact Kd.R_mono (Kd.R_far (p:=⟨gb110,4,none⟩) (Kd.R_far (p:=⟨gb110,3,none⟩) (Kd.R_far (p:=⟨gb110,2,none⟩) (Kd.R_far (p:=⟨gb110,1,none⟩) (Kd.R_far (p:=⟨gb110,0,none⟩) (Kd.R_mono HO_109004.out (fun k_ hk=>(⟨hk,hk.2⟩:_∧k_≠gb110))) (fun _ hk=>hk.2) (.int .i64 ((rd_T35 l0_4 x11_1).f0))) (fun _ hk=>hk.2) (.int .i64 ((rd_T35 l0_4 x11_1).f1))) (fun _ hk=>hk.2) (.int .u64 ((rd_T35 l0_4 x11_1).f2))) (fun _ hk=>hk.2) (.string ((rd_T35 l0_4 x11_1).f3))) (fun _ hk=>hk.2) (.slice A109_4 ((rd_T35 l0_4 x11_1).f4).length c109_4)) (fun _ hk=>⟨hk.1.1.1,⟨hk.1.1.2.1,⟨hk.1.1.2.2,hk.1.2⟩⟩⟩)⟩
       have n1_:Aside0 ((((((w16.setCell ⟨gb110,0,none⟩ (.int .i64 ((rd_T35 l0_4 x11_1).f0))).setCell ⟨gb110,1,none⟩ (.int .i64 ((rd_T35 l0_4 x11_1).f1))).setCell ⟨gb110,2,none⟩ (.int .u64 ((rd_T35 l0_4 x11_1).f2))).setCell ⟨gb110,3,none⟩ (.string ((rd_T35 l0_4 x11_1).f3))).setCell ⟨gb110,4,none⟩ (.slice A109_4 ((rd_T35 l0_4 x11_1).f4).length c109_4)).heap[gb106]?=some (.cells #[.int .i64 a0_0,.int .i64 a0_1,.int .u64 a0_2,.string a0_3,.slice (some ad109) l0_4.length c0_4] 35 (0,0))):=⟨by (with_reducible repeat (first | refine blk_drewN ?_ _ | refine blk_drew ?_ | refine blk_alloc ?_ _));refine blk_far ?_ NB106_110.out _;(with_reducible repeat (first | refine blk_drewN ?_ _ | refine blk_drew ?_ | refine blk_alloc ?_ _));refine blk_far ?_ NB106_110.out _;(with_reducible repeat (first | refine blk_drewN ?_ _ | refine blk_drew ?_ | refine blk_alloc ?_ _));refine blk_far ?_ NB106_110.out _;(with_reducible repeat (first | refine blk_drewN ?_ _ | refine blk_drew ?_ | refine blk_alloc ?_ _));refine blk_far ?_ NB106_110.out _;(with_reducible repeat (first | refine blk_drewN ?_ _ | refine blk_drew ?_ | refine blk_alloc ?_ _));refine blk_far ?_ NB106_110.out _;(with_reducible repeat (first | refine blk_drewN ?_ _ | refine blk_drew ?_ | refine blk_alloc ?_ _));exact BK106.out⟩
       have n2_:Aside0 ((((((w16.setCell ⟨gb110,0,none⟩ (.int .i64 ((rd_T35 l0_4 x11_1).f0))).setCell ⟨gb110,1,none⟩ (.int .i64 ((rd_T35 l0_4 x11_1).f1))).setCell ⟨gb110,2,none⟩ (.int .u64 ((rd_T35 l0_4 x11_1).f2))).setCell ⟨gb110,3,none⟩ (.string ((rd_T35 l0_4 x11_1).f3))).setCell ⟨gb110,4,none⟩ (.slice A109_4 ((rd_T35 l0_4 x11_1).f4).length c109_4)).heap[gb107]?=some (.cells #[.int .i64 0,.int .i64 0,.int .u64 0,.string (⟨#[]⟩:ByteArray),.slice none 0 0] 35 (0,0))):=⟨by (with_reducible repeat (first | refine blk_drewN ?_ _ | refine blk_drew ?_ | refine blk_alloc ?_ _));refine blk_far ?_ NB107_110.out _;(with_reducible repeat (first | refine blk_drewN ?_ _ | refine blk_drew ?_ | refine blk_alloc ?_ _));refine blk_far ?_ NB107_110.out _;(with_reducible repeat (first | refine blk_drewN ?_ _ | refine blk_drew ?_ | refine blk_alloc ?_ _));refine blk_far ?_ NB107_110.out _;(with_reducible repeat (first | refine blk_drewN ?_ _ | refine blk_drew ?_ | refine blk_alloc ?_ _));refine blk_far ?_ NB107_110.out _;(with_reducible repeat (first | refine blk_drewN ?_ _ | refine blk_drew ?_ | refine blk_alloc ?_ _));refine blk_far ?_ NB107_110.out _;(with_reducible repeat (first | refine blk_drewN ?_ _ | refine blk_drew ?_ | refine blk_alloc ?_ _));exact BK107.out⟩
       have n3_:Aside0 ((((((w16.setCell ⟨gb110,0,none⟩ (.int .i64 ((rd_T35 l0_4 x11_1).f0))).setCell ⟨gb110,1,none⟩ (.int .i64 ((rd_T35 l0_4 x11_1).f1))).setCell ⟨gb110,2,none⟩ (.int .u64 ((rd_T35 l0_4 x11_1).f2))).setCell ⟨gb110,3,none⟩ (.string ((rd_T35 l0_4 x11_1).f3))).setCell ⟨gb110,4,none⟩ (.slice A109_4 ((rd_T35 l0_4 x11_1).f4).length c109_4)).heap[gb108]?=some (.cells #[.int .i64 a0_0,.int .i64 a0_1,.int .u64 a0_2,.string a0_3,u109004] 35 (0,0))):=⟨by (with_reducible repeat (first | refine blk_drewN ?_ _ | refine blk_drew ?_ | refine blk_alloc ?_ _));refine blk_far ?_ NB108_110.out _;(with_reducible repeat (first | refine blk_drewN ?_ _ | refine blk_drew ?_ | refine blk_alloc ?_ _));refine blk_far ?_ NB108_110.out _;(with_reducible repeat (first | refine blk_drewN ?_ _ | refine blk_drew ?_ | refine blk_alloc ?_ _));refine blk_far ?_ NB108_110.out _;(with_reducible repeat (first | refine blk_drewN ?_ _ | refine blk_drew ?_ | refine blk_alloc ?_ _));refine blk_far ?_ NB108_110.out _;(with_reducible repeat (first | refine blk_drewN ?_ _ | refine blk_drew ?_ | refine blk_alloc ?_ _));refine blk_far ?_ NB108_110.out _;(with_reducible repeat (first | refine blk_drewN ?_ _ | refine blk_drew ?_ | refine blk_alloc ?_ _));exact BK108.out⟩
       have n4_:Aside0 ((((((w16.setCell ⟨gb110,0,none⟩ (.int .i64 ((rd_T35 l0_4 x11_1).f0))).setCell ⟨gb110,1,none⟩ (.int .i64 ((rd_T35 l0_4 x11_1).f1))).setCell ⟨gb110,2,none⟩ (.int .u64 ((rd_T35 l0_4 x11_1).f2))).setCell ⟨gb110,3,none⟩ (.string ((rd_T35 l0_4 x11_1).f3))).setCell ⟨gb110,4,none⟩ (.slice A109_4 ((rd_T35 l0_4 x11_1).f4).length c109_4)).heap[gb110]?=some (.cells #[.int .i64 ((rd_T35 l0_4 x11_1).f0),.int .i64 ((rd_T35 l0_4 x11_1).f1),.int .u64 ((rd_T35 l0_4 x11_1).f2),.string ((rd_T35 l0_4 x11_1).f3),.slice A109_4 ((rd_T35 l0_4 x11_1).f4).length c109_4] 35 (0,0))):=⟨by (with_reducible repeat (first | refine blk_drewN ?_ _ | refine blk_drew ?_ | refine blk_alloc ?_ _));refine blk_put (cs:=#[.int .i64 ((rd_T35 l0_4 x11_1).f0),.int .i64 ((rd_T35 l0_4 x11_1).f1),.int .u64 ((rd_T35 l0_4 x11_1).f2),.string ((rd_T35 l0_4 x11_1).f3),.slice none 0 0]) ?_ 4 _ rfl;(with_reducible repeat (first | refine blk_drewN ?_ _ | refine blk_drew ?_ | refine blk_alloc ?_ _));refine blk_put (cs:=#[.int .i64 ((rd_T35 l0_4 x11_1).f0),.int .i64 ((rd_T35 l0_4 x11_1).f1),.int .u64 ((rd_T35 l0_4 x11_1).f2),.string (⟨#[]⟩:ByteArray),.slice none 0 0]) ?_ 3 _ rfl;(with_reducible repeat (first | refine blk_drewN ?_ _ | refine blk_drew ?_ | refine blk_alloc ?_ _));refine blk_put (cs:=#[.int .i64 ((rd_T35 l0_4 x11_1).f0),.int .i64 ((rd_T35 l0_4 x11_1).f1),.int .u64 0,.string (⟨#[]⟩:ByteArray),.slice none 0 0]) ?_ 2 _ rfl;(with_reducible repeat (first | refine blk_drewN ?_ _ | refine blk_drew ?_ | refine blk_alloc ?_ _));refine blk_put (cs:=#[.int .i64 ((rd_T35 l0_4 x11_1).f0),.int .i64 0,.int .u64 0,.string (⟨#[]⟩:ByteArray),.slice none 0 0]) ?_ 1 _ rfl;(with_reducible repeat (first | refine blk_drewN ?_ _ | refine blk_drew ?_ | refine blk_alloc ?_ _));refine blk_put (cs:=#[.int .i64 0,.int .i64 0,.int .u64 0,.string (⟨#[]⟩:ByteArray),.slice none 0 0]) ?_ 0 _ rfl;(with_reducible repeat (first | refine blk_drewN ?_ _ | refine blk_drew ?_ | refine blk_alloc ?_ _));exact BK110.out⟩
       have n5_:Aside0 (Below w.heap.size w (((((w16.setCell ⟨gb110,0,none⟩ (.int .i64 ((rd_T35 l0_4 x11_1).f0))).setCell ⟨gb110,1,none⟩ (.int .i64 ((rd_T35 l0_4 x11_1).f1))).setCell ⟨gb110,2,none⟩ (.int .u64 ((rd_T35 l0_4 x11_1).f2))).setCell ⟨gb110,3,none⟩ (.string ((rd_T35 l0_4 x11_1).f3))).setCell ⟨gb110,4,none⟩ (.slice A109_4 ((rd_T35 l0_4 x11_1).f4).length c109_4))):=⟨by repeat (first | (with_reducible first | exact HB.out | apply below_alloc | apply pw_below_drewN | apply below_drew1 | refine below_set ?_ GE106.out | refine below_set ?_ GE107.out | refine below_set ?_ GE108.out | refine below_set ?_ GE110.out) | exact HB.out)⟩
       (try clear HO_109004)
       (try clear BK106)
       (try clear BK107)
       (try clear BK108)
       (try clear BK110)
       (try clear HB)
       generalize (((((w16.setCell ⟨gb110,0,none⟩ (.int .i64 ((rd_T35 l0_4 x11_1).f0))).setCell ⟨gb110,1,none⟩ (.int .i64 ((rd_T35 l0_4 x11_1).f1))).setCell ⟨gb110,2,none⟩ (.int .u64 ((rd_T35 l0_4 x11_1).f2))).setCell ⟨gb110,3,none⟩ (.string ((rd_T35 l0_4 x11_1).f3))).setCell ⟨gb110,4,none⟩ (.slice A109_4 ((rd_T35 l0_4 x11_1).f4).length c109_4))=w21 at n0_ n1_ n2_ n3_ n4_ n5_ ⊢
       have HO_109004:=n0_
       have BK106:=n1_
       have BK107:=n2_
       have BK108:=n3_
       have BK110:=n4_
       have HB:=n5_
       clear n0_ n1_ n2_ n3_ n4_ n5_
       have n0_:=Aside0.mk (Kd.R_drew HO_109004.out)
       have n1_:=Aside0.mk (blk_drew BK106.out)
       have n2_:=Aside0.mk (blk_drew BK107.out)
       have n3_:=Aside0.mk (blk_drew BK108.out)
       have n4_:=Aside0.mk (blk_drew BK110.out)
       have n5_:=Aside0.mk (below_drew1 HB.out)
       clear HO_109004
       clear BK106
       clear BK107
       clear BK108
       clear BK110
       clear HB
       have HO_109004:=n0_
       have BK106:=n1_
       have BK107:=n2_
       have BK108:=n3_
       have BK110:=n4_
       have HB:=n5_
       clear n0_ n1_ n2_ n3_ n4_ n5_
       refine start_ (n:=8) (S:=fun w'=>w'.cell? ⟨gb108,0,none⟩=some (.int .i64 a0_0)∧w'.cell? ⟨gb108,1,none⟩=some (.int .i64 a0_1)∧w'.cell? ⟨gb108,2,none⟩=some (.int .u64 a0_2)∧w'.cell? ⟨gb108,3,none⟩=some (.string a0_3)∧w'.cell? ⟨gb108,4,none⟩=some (u109004)∧w'.cell? ⟨gb110,0,none⟩=some (.int .i64 ((rd_T35 l0_4 x11_1).f0))∧w'.cell? ⟨gb110,1,none⟩=some (.int .i64 ((rd_T35 l0_4 x11_1).f1))∧w'.cell? ⟨gb110,2,none⟩=some (.int .u64 ((rd_T35 l0_4 x11_1).f2))∧w'.cell? ⟨gb110,3,none⟩=some (.string ((rd_T35 l0_4 x11_1).f3))∧w'.cell? ⟨gb110,4,none⟩=some (.slice A109_4 ((rd_T35 l0_4 x11_1).f4).length c109_4)) (ds:=[7]) #[false,false,false,false,false,false,false,false] (by kernel_rfl) rfl rfl ⟨(blk_cell BK108.out 0).trans rfl,(blk_cell BK108.out 1).trans rfl,(blk_cell BK108.out 2).trans rfl,(blk_cell BK108.out 3).trans rfl,(blk_cell BK108.out 4).trans rfl,(blk_cell BK110.out 0).trans rfl,(blk_cell BK110.out 1).trans rfl,(blk_cell BK110.out 2).trans rfl,(blk_cell BK110.out 3).trans rfl,(blk_cell BK110.out 4).trans rfl⟩ (fun hHeld=>?_);refine with_tabW term_Copy.tab6 term_Copy.bits6 (fun HT_ HW_=>?_)
       generalize w21.drew=w22 at HO_109004 BK106 BK107 BK108 BK110 HB hHeld ⊢
       refine pure_ (i:=0) (N:=some 15) (v:=?_) (a':=?_) #[true,false,false,false,false,false,false,false] rfl rfl (any_of HT_.out (by kernel_rfl)) (fun _ _ _ h=>h) (Or.inl ⟨by rfl,?_⟩) ?_ ?_
       rotate_left
       ·intro w'
        go_simp
        with_reducible rfl
       rotate_left
       ·simp only [Act.put,List.setIfInBounds_toArray,List.set_cons_zero,List.set_cons_succ,i64_w,i32_w]
        rfl
       refine take_ (i:=1) (N:=some 16) (v:=?_) (a':=?_) #[true,true,false,false,false,false,false,false] rfl rfl (take_ofW HT_.out HW_.out (by kernel_rfl)) (fun _ _ _ h=>h) (Or.inl ⟨by rfl,?_⟩) hHeld ?_ ?_
       rotate_left
       ·rintro w' ⟨s0,s1,s2,s3,s4,s5,s6,s7,s8,s9⟩
        go_simp
        with_reducible rfl
       rotate_left
       ·simp only [Act.put,List.setIfInBounds_toArray,List.set_cons_zero,List.set_cons_succ,i64_w,i32_w]
        rfl
       refine take_ (i:=2) (N:=some 17) (v:=?_) (a':=?_) #[true,true,true,false,false,false,false,false] rfl rfl (take_ofW HT_.out HW_.out (by kernel_rfl)) (fun _ _ _ h=>h) (Or.inl ⟨by rfl,?_⟩) hHeld ?_ ?_
       rotate_left
       ·rintro w' ⟨s0,s1,s2,s3,s4,s5,s6,s7,s8,s9⟩
        go_simp
        with_reducible rfl
       rotate_left
       ·simp only [Act.put,List.setIfInBounds_toArray,List.set_cons_zero,List.set_cons_succ,i64_w,i32_w]
        rfl
       refine one_ (i:=3) (N:=some 18) #[true,true,true,true,false,false,false,false] rfl rfl (one_of HT_.out (by kernel_rfl)) (by decide) (fun K hK=>?_)
       refine goes_ Tryz.func15 (by kernel_rfl) rfl #[.agg #[.int .i64 ((rd_T35 l0_4 x11_1).f0),.int .i64 ((rd_T35 l0_4 x11_1).f1),.int .u64 ((rd_T35 l0_4 x11_1).f2),.string ((rd_T35 l0_4 x11_1).f3),.slice A109_4 ((rd_T35 l0_4 x11_1).f4).length c109_4]] (by rfl) rfl rfl (by (try simp only [List.map_toArray,List.map_cons,List.map_nil]);first | done | rfl | (simp only [List.length_drop,List.length_take];rfl)) ?_
       with_reducible refine (ih k1 (by have:=HK1.out;omega) ((rd_T35 l0_4 x11_1).f0) ((rd_T35 l0_4 x11_1).f1) ((rd_T35 l0_4 x11_1).f2) ((rd_T35 l0_4 x11_1).f3) _ _ ((rd_T35 l0_4 x11_1).f4) t111 t112 t113 t114 t115 _ ?side1 ?side2 A14.out).mono ?_
       (case side1=>repeat (first | exact (Kd.C_below HR109_4.out HB.out) | (with_reducible refine Kd.C_alloc ?_ _) | (with_reducible refine Kd.C_drewN ?_ _) | (with_reducible refine Kd.C_drew ?_)))
       (case side2=>exact HC109_4.out)
       rintro e w23 ⟨v116,rfl,ho0,hb⟩
       refine ⟨_,rfl,?_⟩
       have n0_:=Aside0.mk (Kd.R_elder' (by (with_reducible repeat (first | apply Kd.R_alloc | apply Kd.R_drewN | apply Kd.R_drew));exact HO_109004.out) (Kd.R_base ho0) hb)
       have n1_:=Aside0.mk (Kd.R_lower (Kd.R_newB (Kd.R_newB (Kd.R_newB (Kd.R_newB (Kd.R_new' ho0 (Kd.R_lt (by (with_reducible repeat (first | apply Kd.R_alloc | apply Kd.R_drewN | apply Kd.R_drew));exact HO_109004.out))) (g:=gb106) (o:=.cells #[.int .i64 a0_0,.int .i64 a0_1,.int .u64 a0_2,.string a0_3,.slice (some ad109) l0_4.length c0_4] 35 (0,0)) (by (with_reducible repeat (first | refine blk_drewN ?_ _ | refine blk_drew ?_ | refine blk_alloc ?_ _));exact BK106.out)) (g:=gb107) (o:=.cells #[.int .i64 0,.int .i64 0,.int .u64 0,.string (⟨#[]⟩:ByteArray),.slice none 0 0] 35 (0,0)) (by (with_reducible repeat (first | refine blk_drewN ?_ _ | refine blk_drew ?_ | refine blk_alloc ?_ _));exact BK107.out)) (g:=gb108) (o:=.cells #[.int .i64 a0_0,.int .i64 a0_1,.int .u64 a0_2,.string a0_3,u109004] 35 (0,0)) (by (with_reducible repeat (first | refine blk_drewN ?_ _ | refine blk_drew ?_ | refine blk_alloc ?_ _));exact BK108.out)) (g:=gb110) (o:=.cells #[.int .i64 ((rd_T35 l0_4 x11_1).f0),.int .i64 ((rd_T35 l0_4 x11_1).f1),.int .u64 ((rd_T35 l0_4 x11_1).f2),.string ((rd_T35 l0_4 x11_1).f3),.slice A109_4 ((rd_T35 l0_4 x11_1).f4).length c109_4] 35 (0,0)) (by (with_reducible repeat (first | refine blk_drewN ?_ _ | refine blk_drew ?_ | refine blk_alloc ?_ _));exact BK110.out)) (below_size (by repeat (first | (with_reducible first | exact HB.out | apply below_alloc | apply pw_below_drewN | apply below_drew1 | refine below_set ?_ GE106.out | refine below_set ?_ GE107.out | refine below_set ?_ GE108.out | refine below_set ?_ GE110.out) | exact HB.out))))
       have n2_:=Aside0.mk (blk_below (g:=gb106) (o:=.cells #[.int .i64 a0_0,.int .i64 a0_1,.int .u64 a0_2,.string a0_3,.slice (some ad109) l0_4.length c0_4] 35 (0,0)) (by (with_reducible repeat (first | refine blk_drewN ?_ _ | refine blk_drew ?_ | refine blk_alloc ?_ _));exact BK106.out) hb)
       have n3_:=Aside0.mk (blk_below (g:=gb107) (o:=.cells #[.int .i64 0,.int .i64 0,.int .u64 0,.string (⟨#[]⟩:ByteArray),.slice none 0 0] 35 (0,0)) (by (with_reducible repeat (first | refine blk_drewN ?_ _ | refine blk_drew ?_ | refine blk_alloc ?_ _));exact BK107.out) hb)
       have n4_:=Aside0.mk (blk_below (g:=gb108) (o:=.cells #[.int .i64 a0_0,.int .i64 a0_1,.int .u64 a0_2,.string a0_3,u109004] 35 (0,0)) (by (with_reducible repeat (first | refine blk_drewN ?_ _ | refine blk_drew ?_ | refine blk_alloc ?_ _));exact BK108.out) hb)
       have n5_:=Aside0.mk (blk_below (g:=gb110) (o:=.cells #[.int .i64 ((rd_T35 l0_4 x11_1).f0),.int .i64 ((rd_T35 l0_4 x11_1).f1),.int .u64 ((rd_T35 l0_4 x11_1).f2),.string ((rd_T35 l0_4 x11_1).f3),.slice A109_4 ((rd_T35 l0_4 x11_1).f4).length c109_4] 35 (0,0)) (by (with_reducible repeat (first | refine blk_drewN ?_ _ | refine blk_drew ?_ | refine blk_alloc ?_ _));exact BK110.out) hb)
       have n6_:=Aside0.mk (below_step (by repeat (first | (with_reducible first | exact HB.out | apply below_alloc | apply pw_below_drewN | apply below_drew1 | refine below_set ?_ GE106.out | refine below_set ?_ GE107.out | refine below_set ?_ GE108.out | refine below_set ?_ GE110.out) | exact HB.out)) hb)
       clear HO_109004
       clear BK106
       clear BK107
       clear BK108
       clear BK110
       clear HB
       have HO_109004:=n0_
       have HO117:=n1_
       have BK106:=n2_
       have BK107:=n3_
       have BK108:=n4_
       have BK110:=n5_
       have HB:=n6_
       clear n0_ n1_ n2_ n3_ n4_ n5_ n6_
       (try clear hb)
       (try clear hb2)
       (try clear hk)
       (try clear hi)
       (try clear ho0)
       obtain ⟨Ao25,co25,eo25⟩:=Kd.R_slice HO117.out
       (first | subst eo25 | (injection eo25 with f1_ f2_ f3_;have f4_:=f1_.symm;have f5_:=f3_.symm;clear f1_ f2_ f3_;subst f4_;subst f5_))
       refine hK.out _ _ ⟨(blk_cell BK108.out 0).trans rfl,(blk_cell BK108.out 1).trans rfl,(blk_cell BK108.out 2).trans rfl,(blk_cell BK108.out 3).trans rfl,(blk_cell BK108.out 4).trans rfl,(blk_cell BK110.out 0).trans rfl,(blk_cell BK110.out 1).trans rfl,(blk_cell BK110.out 2).trans rfl,(blk_cell BK110.out 3).trans rfl,(blk_cell BK110.out 4).trans rfl⟩ (fun hHeld=>?_)
       clear hK K
       refine norm_ (a':=?_) ?_ ?_
       rotate_left
       ·show Act.put _ (some 18) _=_
        simp only [Act.put,List.setIfInBounds_toArray,List.set_cons_zero,List.set_cons_succ,i64_w,i32_w]
        rfl
       refine one_ (i:=4) (N:=some 19) #[true,true,true,true,true,false,false,false] rfl rfl (one_of HT_.out (by kernel_rfl)) (by decide) (fun K hK=>?_)
       refine value_ (w1:=?_) (v:=?_) (by rfl) rfl ?_ ?_
       rotate_left 2
       ·go_simp
        constructor
        ·rfl
        ·rfl
       refine hK.out _ _ ⟨(blk_cell (blk_alloc BK108.out _) 0).trans rfl,(blk_cell (blk_alloc BK108.out _) 1).trans rfl,(blk_cell (blk_alloc BK108.out _) 2).trans rfl,(blk_cell (blk_alloc BK108.out _) 3).trans rfl,(blk_cell (blk_alloc BK108.out _) 4).trans rfl,(blk_cell (blk_alloc BK110.out _) 0).trans rfl,(blk_cell (blk_alloc BK110.out _) 1).trans rfl,(blk_cell (blk_alloc BK110.out _) 2).trans rfl,(blk_cell (blk_alloc BK110.out _) 3).trans rfl,(blk_cell (blk_alloc BK110.out _) 4).trans rfl⟩ (fun hHeld=>?_)
       clear hK K
       refine norm_ (a':=?_) ?_ ?_
       rotate_left
       ·show Act.put _ (some 19) _=_
        simp only [Act.put,List.setIfInBounds_toArray,List.set_cons_zero,List.set_cons_succ,i64_w,i32_w]
        rfl
       refine one_ (i:=5) (N:=some 20) #[true,true,true,true,true,true,false,false] rfl rfl (one_of HT_.out (by kernel_rfl)) (by decide) (fun K hK=>?_)
       refine Kd.R_append_step k35 (w0:=w) w.heap.size (by rfl) (.tmp 16) (.tmp 19) 33 35 (.agg #[(.int .i64 0),(.int .i64 0),(.int .u64 0),(.string ⟨#[]⟩),(.slice none 0 0)]) 64 rfl Tryz.underlying33 info35 rfl (by decide) (by omega) u109004 x109004_1 (⟨t111,t112,t113,t114,t115⟩:S35) [.int .i64 t111,.int .i64 t112,.int .u64 t113,.string t114,.slice Ao25 t115.length co25] (fun k_=>k_≠gb106∧k_≠gb107∧k_≠gb108∧k_≠gb110) (fun k_=>((fun k_=>k_≠gb106∧k_≠gb107∧k_≠gb108∧k_≠gb110)) k_∧some k_≠(u109004:Value).ownBlock) rfl rfl ?aP (fun _ hk=>hk) ?aF ?aO ?aB ?aS ?aL ?_
       (case aP=>exact k35_mkM _ _ _ (⟨t111,t112,t113,t114,t115⟩:S35) (Kd.R_mono (HO117.out) (fun k_ hk=>⟨⟨hk.1.1.1.2,⟨hk.1.1.2,⟨hk.1.2,hk.2⟩⟩⟩,hk.1.1.1.1.2⟩)))
       (case aB=>exact (by repeat (first | (with_reducible first | exact HB.out | apply below_alloc | apply pw_below_drewN | apply below_drew1 | refine below_set ?_ GE106.out | refine below_set ?_ GE107.out | refine below_set ?_ GE108.out | refine below_set ?_ GE110.out) | exact HB.out)))
       (case aF=>exact (fun k_ hk=>⟨Kd.freshB (g:=gb106) (o:=.cells #[.int .i64 a0_0,.int .i64 a0_1,.int .u64 a0_2,.string a0_3,.slice (some ad109) l0_4.length c0_4] 35 (0,0)) (by (with_reducible repeat (first | refine blk_drewN ?_ _ | refine blk_drew ?_ | refine blk_alloc ?_ _));exact BK106.out) k_ hk,Kd.freshB (g:=gb107) (o:=.cells #[.int .i64 0,.int .i64 0,.int .u64 0,.string (⟨#[]⟩:ByteArray),.slice none 0 0] 35 (0,0)) (by (with_reducible repeat (first | refine blk_drewN ?_ _ | refine blk_drew ?_ | refine blk_alloc ?_ _));exact BK107.out) k_ hk,Kd.freshB (g:=gb108) (o:=.cells #[.int .i64 a0_0,.int .i64 a0_1,.int .u64 a0_2,.string a0_3,u109004] 35 (0,0)) (by (with_reducible repeat (first | refine blk_drewN ?_ _ | refine blk_drew ?_ | refine blk_alloc ?_ _));exact BK108.out) k_ hk,Kd.freshB (g:=gb110) (o:=.cells #[.int .i64 ((rd_T35 l0_4 x11_1).f0),.int .i64 ((rd_T35 l0_4 x11_1).f1),.int .u64 ((rd_T35 l0_4 x11_1).f2),.string ((rd_T35 l0_4 x11_1).f3),.slice A109_4 ((rd_T35 l0_4 x11_1).f4).length c109_4] 35 (0,0)) (by (with_reducible repeat (first | refine blk_drewN ?_ _ | refine blk_drew ?_ | refine blk_alloc ?_ _));exact BK110.out) k_ hk⟩))
       (case aO=>exact (by (with_reducible repeat (first | apply Kd.R_alloc | apply Kd.R_drewN | apply Kd.R_drew));exact Kd.R_mono HO_109004.out (fun _ hk=>⟨hk.1.1,⟨hk.1.2.1,⟨hk.1.2.2.1,hk.1.2.2.2⟩⟩⟩)))
       (case aS=>exact (below_size (by repeat (first | (with_reducible first | exact HB.out | apply below_alloc | apply pw_below_drewN | apply below_drew1 | refine below_set ?_ GE106.out | refine below_set ?_ GE107.out | refine below_set ?_ GE108.out | refine below_set ?_ GE110.out) | exact HB.out))))
       (case aL=>have:=LMc15.out;omega)
       intro v119 w24 ho hb hg hat
       rw [← Ny118.out]at ho
       have n0_:=Aside0.mk (blk_grown (g:=gb106) (o:=.cells #[.int .i64 a0_0,.int .i64 a0_1,.int .u64 a0_2,.string a0_3,.slice (some ad109) l0_4.length c0_4] 35 (0,0)) (by (with_reducible repeat (first | refine blk_drewN ?_ _ | refine blk_drew ?_ | refine blk_alloc ?_ _));exact BK106.out) hg (Kd.R_away HO_109004.out (fun _ hk=>hk.1.1)))
       have n1_:=Aside0.mk (blk_grown (g:=gb107) (o:=.cells #[.int .i64 0,.int .i64 0,.int .u64 0,.string (⟨#[]⟩:ByteArray),.slice none 0 0] 35 (0,0)) (by (with_reducible repeat (first | refine blk_drewN ?_ _ | refine blk_drew ?_ | refine blk_alloc ?_ _));exact BK107.out) hg (Kd.R_away HO_109004.out (fun _ hk=>hk.1.2.1)))
       have n2_:=Aside0.mk (blk_grown (g:=gb108) (o:=.cells #[.int .i64 a0_0,.int .i64 a0_1,.int .u64 a0_2,.string a0_3,u109004] 35 (0,0)) (by (with_reducible repeat (first | refine blk_drewN ?_ _ | refine blk_drew ?_ | refine blk_alloc ?_ _));exact BK108.out) hg (Kd.R_away HO_109004.out (fun _ hk=>hk.1.2.2.1)))
       have n3_:=Aside0.mk (blk_grown (g:=gb110) (o:=.cells #[.int .i64 ((rd_T35 l0_4 x11_1).f0),.int .i64 ((rd_T35 l0_4 x11_1).f1),.int .u64 ((rd_T35 l0_4 x11_1).f2),.string ((rd_T35 l0_4 x11_1).f3),.slice A109_4 ((rd_T35 l0_4 x11_1).f4).length c109_4] 35 (0,0)) (by (with_reducible repeat (first | refine blk_drewN ?_ _ | refine blk_drew ?_ | refine blk_alloc ?_ _));exact BK110.out) hg (Kd.R_away HO_109004.out (fun _ hk=>hk.1.2.2.2)))
       have n4_:=Aside0.mk (hb)
       have n5_:=Aside0.mk (ho)
       clear BK106
       clear BK107
       clear BK108
       clear BK110
       clear HB
       clear HO_109004
       clear HO117
       have BK106:=n0_
       have BK107:=n1_
       have BK108:=n2_
       have BK110:=n3_
       have HB:=n4_
       have HO120:=n5_
       clear n0_ n1_ n2_ n3_ n4_ n5_
       clear ho hb hg hat
       obtain ⟨Ao26,co26,eo26⟩:=Kd.R_slice HO120.out
       (first | subst eo26 | (injection eo26 with f1_ f2_ f3_;have f4_:=f1_.symm;have f5_:=f3_.symm;clear f1_ f2_ f3_;subst f4_;subst f5_))
       refine hK.out _ _ ⟨(blk_cell BK108.out 0).trans rfl,(blk_cell BK108.out 1).trans rfl,(blk_cell BK108.out 2).trans rfl,(blk_cell BK108.out 3).trans rfl,(blk_cell BK108.out 4).trans rfl,(blk_cell BK110.out 0).trans rfl,(blk_cell BK110.out 1).trans rfl,(blk_cell BK110.out 2).trans rfl,(blk_cell BK110.out 3).trans rfl,(blk_cell BK110.out 4).trans rfl⟩ (fun hHeld=>?_)
       clear hK K
       refine norm_ (a':=?_) ?_ ?_
       rotate_left
       ·show Act.put _ (some 20) _=_
        simp only [Act.put,List.setIfInBounds_toArray,List.set_cons_zero,List.set_cons_succ,i64_w,i32_w]
        rfl
       refine pure_ (i:=6) (N:=some 21) (v:=?_) (a':=?_) #[true,true,true,true,true,true,true,false] rfl rfl (any_of HT_.out (by kernel_rfl)) (fun _ _ _ h=>h) (Or.inl ⟨by rfl,?_⟩) ?_ ?_
       rotate_left
       ·intro w'
        go_simp
        with_reducible rfl
       rotate_left
       ·simp only [Act.put,List.setIfInBounds_toArray,List.set_cons_zero,List.set_cons_succ,i64_w,i32_w]
        rfl
       refine last_ (i:=7) (N:=none) #[true,true,true,true,true,true,true,true] rfl rfl (one_of HT_.out (by kernel_rfl)) (by decide) (fun K hK=>?_)
       have hs27:w24.cell? ⟨gb108,4,none⟩=some (u109004):=(blk_cell BK108.out 4).trans rfl
       have hfs27:=blk_frozen BK108.out 4
       have hns27_0:=NB106_108.out
       have hns27_1:=NB107_108.out
       have hns27_3:=NB110_108.out
       have hms27_0:=NB108_106.out
       have hms27_1:=NB108_107.out
       have hms27_3:=NB108_110.out
       refine skip_ (w1:=?_) (by rfl) rfl ?_ ?_
       rotate_left
       ·go_simp
        rfl
       refine hK.out _ _ ?_
       clear hK K
       refine done_ (done_of HT_.out (by kernel_rfl)) ?_
       try go_wp2
       go_roundg k1
       case measure=>have:=HK1.out;omega
       case rel=>exact ⟨(wrap64 (x11_1+1)),(y118),(.slice Ao26 y118.length co26),(by first | rfl | (simp;done) | (simp [*];done)),H',⟨by have:=HK1.out;omega⟩,⟨by (with_reducible repeat (first | apply Kd.R_alloc | apply Kd.R_drewN | apply Kd.R_drew));exact Kd.R_mono (Kd.R_far (p:=⟨gb108,4,none⟩) (Kd.R_mono HO120.out (fun k_ hk=>(⟨hk,hk.2.2.1⟩:_∧k_≠gb108))) (fun _ hk=>hk.2) (.slice Ao26 y118.length co26)) (fun _ hk=>⟨hk.1.1,⟨hk.1.2.1,hk.1.2.2.1⟩⟩)⟩,⟨by (with_reducible repeat (first | refine blk_drewN ?_ _ | refine blk_drew ?_ | refine blk_alloc ?_ _));refine blk_far ?_ NB106_108.out _;(with_reducible repeat (first | refine blk_drewN ?_ _ | refine blk_drew ?_ | refine blk_alloc ?_ _));exact BK106.out⟩,⟨by (with_reducible repeat (first | refine blk_drewN ?_ _ | refine blk_drew ?_ | refine blk_alloc ?_ _));refine blk_far ?_ NB107_108.out _;(with_reducible repeat (first | refine blk_drewN ?_ _ | refine blk_drew ?_ | refine blk_alloc ?_ _));exact BK107.out⟩,⟨by (with_reducible repeat (first | refine blk_drewN ?_ _ | refine blk_drew ?_ | refine blk_alloc ?_ _));refine blk_put (cs:=#[.int .i64 a0_0,.int .i64 a0_1,.int .u64 a0_2,.string a0_3,u109004]) ?_ 4 _ rfl;(with_reducible repeat (first | refine blk_drewN ?_ _ | refine blk_drew ?_ | refine blk_alloc ?_ _));exact BK108.out⟩,⟨by repeat (first | (with_reducible first | exact HB.out | apply below_alloc | apply pw_below_drewN | apply below_drew1 | refine below_set ?_ GE106.out | refine below_set ?_ GE107.out | refine below_set ?_ GE108.out | refine below_set ?_ GE110.out) | exact HB.out)⟩⟩
      ·rw [if_neg c15]at H
       exact absurd H (by simp)
     ·rw [if_neg c13]at H
      exact absurd H (by simp)
    ·rw [if_neg c12]at H
     exact absurd H (by simp)
   ·rw [if_neg c11]at H
    have c11b0:decide (x11_1 < (l0_4.length:Int))=false:=decide_eq_false c11
    clear c11
    simp only [Option.some.injEq,Prod.mk.injEq]at H
    obtain ⟨rfl,rfl,rfl,rfl,rfl⟩:=H
    have hnb28:=NB108_106.out
    have hnc28:=NB106_108.out
    have hnb29:=NB108_107.out
    have hnc29:=NB107_108.out
    have hcz30_0:wr.cell? ⟨gb108,0,none⟩=some (.int .i64 a0_0):=(blk_cell BK108.out 0).trans rfl
    have hcz30_1:wr.cell? ⟨gb108,1,none⟩=some (.int .i64 a0_1):=(blk_cell BK108.out 1).trans rfl
    have hcz30_2:wr.cell? ⟨gb108,2,none⟩=some (.int .u64 a0_2):=(blk_cell BK108.out 2).trans rfl
    have hcz30_3:wr.cell? ⟨gb108,3,none⟩=some (.string a0_3):=(blk_cell BK108.out 3).trans rfl
    have hcz30_4:wr.cell? ⟨gb108,4,none⟩=some (u109004):=(blk_cell BK108.out 4).trans rfl
    have hfz30_0:=blk_frozen BK108.out 0
    have hfz30_1:=blk_frozen BK108.out 1
    have hfz30_2:=blk_frozen BK108.out 2
    have hfz30_3:=blk_frozen BK108.out 3
    have hfz30_4:=blk_frozen BK108.out 4
    have hnb31:=NB107_106.out
    have hnc31:=NB106_107.out
    have hcz32_0:wr.cell? ⟨gb107,0,none⟩=some (.int .i64 0):=(blk_cell BK107.out 0).trans rfl
    have hcz32_1:wr.cell? ⟨gb107,1,none⟩=some (.int .i64 0):=(blk_cell BK107.out 1).trans rfl
    have hcz32_2:wr.cell? ⟨gb107,2,none⟩=some (.int .u64 0):=(blk_cell BK107.out 2).trans rfl
    have hcz32_3:wr.cell? ⟨gb107,3,none⟩=some (.string (⟨#[]⟩:ByteArray)):=(blk_cell BK107.out 3).trans rfl
    have hcz32_4:wr.cell? ⟨gb107,4,none⟩=some (.slice none 0 0):=(blk_cell BK107.out 4).trans rfl
    have hfz32_0:=blk_frozen BK107.out 0
    have hfz32_1:=blk_frozen BK107.out 1
    have hfz32_2:=blk_frozen BK107.out 2
    have hfz32_3:=blk_frozen BK107.out 3
    have hfz32_4:=blk_frozen BK107.out 4
    obtain ⟨Ao33,co33,eo33⟩:=Kd.R_slice HO_109004.out
    subst eo33
    go_wp2
    refine bodyPost_ret (results_cell_row rfl _ _ gb107 35 #[.int .i64 a0_0,.int .i64 a0_1,.int .u64 a0_2,.string a0_3,.slice Ao33 x109004_1.length co33] (0,0) _ rfl (by (with_reducible repeat (first | refine blk_drewN ?_ _ | refine blk_drew ?_ | refine blk_alloc ?_ _));refine blk_put (cs:=#[.int .i64 a0_0,.int .i64 a0_1,.int .u64 a0_2,.string a0_3,.slice none 0 0]) ?_ 4 _ rfl;(with_reducible repeat (first | refine blk_drewN ?_ _ | refine blk_drew ?_ | refine blk_alloc ?_ _));refine blk_put (cs:=#[.int .i64 a0_0,.int .i64 a0_1,.int .u64 a0_2,.string (⟨#[]⟩:ByteArray),.slice none 0 0]) ?_ 3 _ rfl;(with_reducible repeat (first | refine blk_drewN ?_ _ | refine blk_drew ?_ | refine blk_alloc ?_ _));refine blk_put (cs:=#[.int .i64 a0_0,.int .i64 a0_1,.int .u64 0,.string (⟨#[]⟩:ByteArray),.slice none 0 0]) ?_ 2 _ rfl;(with_reducible repeat (first | refine blk_drewN ?_ _ | refine blk_drew ?_ | refine blk_alloc ?_ _));refine blk_put (cs:=#[.int .i64 a0_0,.int .i64 0,.int .u64 0,.string (⟨#[]⟩:ByteArray),.slice none 0 0]) ?_ 1 _ rfl;(with_reducible repeat (first | refine blk_drewN ?_ _ | refine blk_drew ?_ | refine blk_alloc ?_ _));refine blk_put (cs:=#[.int .i64 0,.int .i64 0,.int .u64 0,.string (⟨#[]⟩:ByteArray),.slice none 0 0]) ?_ 0 _ rfl;(with_reducible repeat (first | refine blk_drewN ?_ _ | refine blk_drew ?_ | refine blk_alloc ?_ _));exact BK107.out) Tryz.underlying35 rfl (by kernel_rfl)) rfl ?_
    exact ⟨_,by first | rfl | (simp [errW_none,errW_some] <;> rfl) | (simp [*,errW_none,errW_some] <;> rfl),by (with_reducible repeat (first | apply Kd.R_alloc | apply Kd.R_drewN | apply Kd.R_drew));exact Kd.R_mono (Kd.R_far (p:=⟨gb107,4,none⟩) (Kd.R_far (p:=⟨gb107,3,none⟩) (Kd.R_far (p:=⟨gb107,2,none⟩) (Kd.R_far (p:=⟨gb107,1,none⟩) (Kd.R_far (p:=⟨gb107,0,none⟩) (Kd.R_mono HO_109004.out (fun k_ hk=>(⟨hk,hk.2.1⟩:_∧k_≠gb107))) (fun _ hk=>hk.2) (.int .i64 a0_0)) (fun _ hk=>hk.2) (.int .i64 a0_1)) (fun _ hk=>hk.2) (.int .u64 a0_2)) (fun _ hk=>hk.2) (.string a0_3)) (fun _ hk=>hk.2) (.slice Ao33 x109004_1.length co33)) (fun _ hk=>trivial),by repeat (first | (with_reducible first | exact HB.out | apply below_alloc | apply pw_below_drewN | apply below_drew1 | refine below_set ?_ GE106.out | refine below_set ?_ GE107.out | refine below_set ?_ GE108.out) | exact HB.out)⟩
end Go.Proofs.YtjckhhecnebmmaaGreatDoor.QAll
end
