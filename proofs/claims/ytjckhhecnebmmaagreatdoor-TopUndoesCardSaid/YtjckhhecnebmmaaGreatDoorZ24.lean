/- Steps towards the law TopUndoes; words printed by the kit, and printed texts, are cut to what is used, and spaces are left out. No condition. -/
import Derived.Test.YtjckhhecnebmmaaGreatDoorZ4
import Derived.Test.YtjckhhecnebmmaaGreatDoorZ23
import Derived.Test.YtjckhhecnebmmaaGreatDoorZ18
set_option linter.unusedVariables false
set_option linter.unusedSimpArgs false
section
namespace Go.Proofs.YtjckhhecnebmmaaGreatDoor.QAll
open Go.RowKit Go.Proofs.YtjckhhecnebmmaaGreatDoorW.PrintWords Go.Proofs.YtjckhhecnebmmaaGreatDoorW.PrintLast Go.Proofs.YtjckhhecnebmmaaGreatDoorW.PrintMore
attribute [local go_sem] max2_int min2_int max_two min_two max_three min_three max_four min_four   
set_option linter.unusedVariables false
set_option linter.unusedSimpArgs false
def term_widths.l0:Nat→List Int→List (S35)→Int→Int→Option (List Int)
 | 0,_,_,_,_=>none
 | k+1,x3,x9,x10,x11=>if x11 < x10 then (if 0≤x11 then (if x11 < (x9.length:Int)then (if x11 < (x3.length:Int)then (term_widths.l0 k (x3.set (x11:Int).toNat ((rd_T35 x9 x11).f1)) x9 x10 (wrap64 (x11+1)))else (none))else (none))else (none))else (some x3)
def term_widths.f (k:Nat) (l0:List (S35)):Option (List Int):=if 0≤(l0.length:Int)then (if ((l0.length:Int):Int).toNat≤35184372088832 then (term_widths.l0 k (List.replicate ((l0.length:Int):Int).toNat 0) l0 (l0.length:Int) 0)else (none))else (none)
set_option maxHeartbeats 8000000 in
set_option maxRecDepth 100000 in
theorem term_widths.calls (k:Nat) (A0:Option Addr) (c0:Nat) (l0:List (S35)) (r:List Int) (w:World) (hr0:Kd.C k35 w A0 l0.length l0) (hc0:l0.length≤c0) (h:term_widths.f k l0=some r) :
  Calls Tryz.prog 77 #[.slice A0 l0.length c0] w fun e w'=>∃ v0_:Value,e=.returned (v0_)∧Kd.R (Kd.int .i64) 3 w' w.heap.size (fun _=>True) v0_ r∧Below w.heap.size w w':=by
 have hu35:=Tryz.underlying35
 have HR0:=Aside0.mk hr0
 have HC0:=Aside0.mk hc0
 clear hr0 hc0
 have HB:=Aside0.mk (Below.refl w.heap.size w)
 have H:(if 0≤(l0.length:Int)then (if ((l0.length:Int):Int).toNat≤35184372088832 then (term_widths.l0 k (List.replicate ((l0.length:Int):Int).toNat 0) l0 (l0.length:Int) 0)else (none))else (none))=some r:=h
 clear h
 by_cases c2:0≤(l0.length:Int)
 ·rw [if_pos c2]at H
  have c2b0:=eq_true c2
  have c2b1:decide (0≤(l0.length:Int))=true:=decide_eq_true c2
  clear c2
  by_cases c3:((l0.length:Int):Int).toNat≤35184372088832
  ·rw [if_pos c3]at H
   have c3b0:=eq_true c3
   have c3b1:decide (((l0.length:Int):Int).toNat≤35184372088832)=true:=decide_eq_true c3
   clear c3
   obtain ⟨y101,hy101⟩:∃ y_:List Int,y_=(List.replicate ((l0.length:Int):Int).toNat 0):=⟨_,rfl⟩
   replace H:(term_widths.l0 k y101 l0 (l0.length:Int) 0)=some r:=by first | (rw [hy101];with_reducible exact H) | (have H2_:=(Option.bind_some _ _).symm.trans H;rw [hy101];with_reducible exact H2_) | (have H2_:=(Option.bind_some _ _).symm.trans H;with_reducible exact H2_) | with_reducible exact H | (rw [hy101];exact H) | exact H
   have Ny101:=Aside0.mk hy101
   clear hy101
   have H':=Aside0.mk H
   clear H
   go_enter Tryz.func77,Tryz.ntmps77
   go_wp2_with (first | ((with_reducible refine gate_dst (N:=8) rfl ?_);refine Kd.R_make (Kd.int .i64) _ 3 rfl (N:=8) rfl 26 _ _ rfl (l0.length:Int) rfl rfl Tryz.underlying26 (.int .i64 0) 8 info3 rfl (by decide) (by omega) 0 (ok:=fun _=>True) (okp:=fun _=>True) rfl (fun _ hk=>hk) trivial (of_decide_eq_true (by first | (with_reducible assumption) | assumption)) (Nat.le_trans (Nat.mul_le_mul_right _ (of_decide_eq_true (by first | (with_reducible assumption) | assumption):(l0.length:Int).toNat≤35184372088832)) (by omega)) (Below.refl _ _) (Nat.le_refl _) ?_;intro v102 w4 ho5 hb hg_ hnew_;clear hg_ hnew_;(first | rw [← Ny101.out]at ho5 | (simp only [Int.reduceToNat]at ho5;rw [← Ny101.out]at ho5));have n0_:=Aside0.mk (Kd.R_lower ho5 (below_size (by repeat (first | (with_reducible first | exact HB.out | apply below_alloc | apply pw_below_drewN | apply below_drew1) | exact HB.out))));have n1_:=Aside0.mk (below_step (by repeat (first | (with_reducible first | exact HB.out | apply below_alloc | apply pw_below_drewN | apply below_drew1) | exact HB.out)) hb);clear HB;have HO103:=n0_;have HB:=n1_;clear n0_ n1_;clear hb ho5))
   go_loopg [11] k (fun kq v11 w'=>∃ (x3_1:List Int) (x11_1:Int),v11=.int .i64 x11_1∧Aside0 (term_widths.l0 kq x3_1 l0 (l0.length:Int) x11_1=some r)∧Aside0 (kq≤k)∧Aside0 (Kd.R (Kd.int .i64) 3 w' w.heap.size (fun _=>True) v102 x3_1)∧Aside0 (Below w.heap.size w w'))
   case atStart=>exact ⟨(y101),(0),(by first | rfl | (simp;done) | (simp [*];done)),H',⟨Nat.le_refl _⟩,⟨by (with_reducible repeat (first | apply Kd.R_alloc | apply Kd.R_drewN | apply Kd.R_drew));exact HO103.out⟩,⟨by repeat (first | (with_reducible first | exact HB.out | apply below_alloc | apply pw_below_drewN | apply below_drew1) | exact HB.out)⟩⟩
   case round =>
    clear H'
    try clear c2
    try clear c2b0
    try clear c2b1
    try clear p2
    try clear c3
    try clear c3b0
    try clear c3b1
    obtain ⟨x3_1,x11_1,rfl,HA,HK1,HO_3,HB⟩:=hrel
    cases gk with
    | zero=>exact absurd HA.out (by simp [term_widths.l0])
    | succ k1 =>
     have H:=HA.out
     clear HA
     simp only [term_widths.l0]at H
     by_cases c6:x11_1 < (l0.length:Int)
     ·rw [if_pos c6]at H
      have c6b0:decide (x11_1 < (l0.length:Int))=true:=decide_eq_true c6
      clear c6
      by_cases c7:0≤x11_1
      ·rw [if_pos c7]at H
       have c7b0:decide (0≤x11_1)=true:=decide_eq_true c7
       clear c7
       by_cases c8:x11_1 < (l0.length:Int)
       ·rw [if_pos c8]at H
        have c8b0:decide (x11_1 < (l0.length:Int))=true:=decide_eq_true c8
        clear c8
        by_cases c9:x11_1 < (x3_1.length:Int)
        ·rw [if_pos c9]at H
         have c9b0:decide (x11_1 < (x3_1.length:Int))=true:=decide_eq_true c9
         clear c9
         obtain ⟨y106,hy106⟩:∃ y_:List Int,y_=(x3_1.set (x11_1:Int).toNat ((rd_T35 l0 x11_1).f1)):=⟨_,rfl⟩
         replace H:(term_widths.l0 k1 y106 l0 (l0.length:Int) (wrap64 (x11_1+1)))=some r:=by first | (rw [hy106];with_reducible exact H) | (have H2_:=(Option.bind_some _ _).symm.trans H;rw [hy106];with_reducible exact H2_) | (have H2_:=(Option.bind_some _ _).symm.trans H;with_reducible exact H2_) | with_reducible exact H | (rw [hy106];exact H) | exact H
         have Ny106:=Aside0.mk hy106
         clear hy106
         have H':=Aside0.mk H
         clear H
         have p104:0≤(x11_1:Int):=of_decide_eq_true (by first | (with_reducible assumption) | assumption)
         have q104:x11_1 < (l0.length:Int):=of_decide_eq_true (by first | (with_reducible assumption) | assumption)
         obtain ⟨ad104,A104_4,c104_4,e104,hx104_0,hx104_1,hx104_2,hx104_3,hx104_4,hl104_4,hi104_4⟩:=at_T35 HR0.out x11_1 p104 q104
         cases e104
         replace hx104_0:=(HB.out.cell (World.block_lt_of_cell? w _ hx104_0)).trans hx104_0
         replace hx104_1:=(HB.out.cell (World.block_lt_of_cell? w _ hx104_1)).trans hx104_1
         replace hx104_2:=(HB.out.cell (World.block_lt_of_cell? w _ hx104_2)).trans hx104_2
         replace hx104_3:=(HB.out.cell (World.block_lt_of_cell? w _ hx104_3)).trans hx104_3
         replace hx104_4:=(HB.out.cell (World.block_lt_of_cell? w _ hx104_4)).trans hx104_4
         have HR104_4:=Aside0.mk hi104_4
         have HC104_4:=Aside0.mk hl104_4
         clear hi104_4 hl104_4
         replace p104:=eq_true p104
         replace q104:=eq_true q104
         go_wp2_with (first | ((with_reducible refine gate_dst (N:=5) rfl ?_);refine box_event ?hg (N:=5) ?hd (cs:=#[.int .i64 0,.int .i64 0,.int .u64 0,.string (⟨#[]⟩:ByteArray),.slice none 0 0]) (t:=35) ?hr ?_;(case hd=>rfl);(case hg=>rfl);(case hr=>first | (go_simp;done) | (go_simp;rfl));intro gb105 hg w11 hbox hb;have n0_:=Aside0.mk (Kd.R_below (by (with_reducible repeat (first | apply Kd.R_alloc | apply Kd.R_drewN | apply Kd.R_drew));exact HO_3.out) hb);have n1_:=Aside0.mk (below_step (by repeat (first | (with_reducible first | exact HB.out | apply below_alloc | apply pw_below_drewN | apply below_drew1) | exact HB.out)) hb);have n2_:=Aside0.mk (hbox);have n3_:=Aside0.mk ((by rw [hg];exact (below_size (by repeat (first | (with_reducible first | exact HB.out | apply below_alloc | apply pw_below_drewN | apply below_drew1) | exact HB.out))):w.heap.size≤gb105));have n4_:=Aside0.mk ((by rw [hg];exact (below_size (by repeat (first | (with_reducible first | exact HB.out | apply below_alloc | apply pw_below_drewN | apply below_drew1) | exact HB.out))):w.heap.size≤gb105));clear HO_3;clear HB;have HO_3:=n0_;have HB:=n1_;have BK105:=n2_;have GW105:=n3_;have GE105:=n4_;clear n0_ n1_ n2_ n3_ n4_;clear hb hbox hg;have hcz12_0:w11.cell? ⟨gb105,0,none⟩=some (.int .i64 0):=(blk_cell BK105.out 0).trans rfl;have hcz12_1:w11.cell? ⟨gb105,1,none⟩=some (.int .i64 0):=(blk_cell BK105.out 1).trans rfl;have hcz12_2:w11.cell? ⟨gb105,2,none⟩=some (.int .u64 0):=(blk_cell BK105.out 2).trans rfl;have hcz12_3:w11.cell? ⟨gb105,3,none⟩=some (.string (⟨#[]⟩:ByteArray)):=(blk_cell BK105.out 3).trans rfl;have hcz12_4:w11.cell? ⟨gb105,4,none⟩=some (.slice none 0 0):=(blk_cell BK105.out 4).trans rfl;have hfz12_0:=blk_frozen BK105.out 0;have hfz12_1:=blk_frozen BK105.out 1;have hfz12_2:=blk_frozen BK105.out 2;have hfz12_3:=blk_frozen BK105.out 3;have hfz12_4:=blk_frozen BK105.out 4) | ((with_reducible refine gate_store (t:=35) (p:=5) rfl ?_);refine store_event (t:=35) (p:=5) (v:=?vo_w13) (w1:=(((((w11.setCell ⟨gb105,0,none⟩ (.int .i64 ((rd_T35 l0 x11_1).f0))).setCell ⟨gb105,1,none⟩ (.int .i64 ((rd_T35 l0 x11_1).f1))).setCell ⟨gb105,2,none⟩ (.int .u64 ((rd_T35 l0 x11_1).f2))).setCell ⟨gb105,3,none⟩ (.string ((rd_T35 l0 x11_1).f3))).setCell ⟨gb105,4,none⟩ (.slice A104_4 ((rd_T35 l0 x11_1).f4).length c104_4))) ?hg ?ho ?hn ?hr ?_;(case ho=>rfl);(case hg=>rfl);(case hn=>rfl);(case hr=>first | (go_simp;done) | (go_simp;rfl));intro w13 hw;have n0_:Aside0 (Kd.R (Kd.int .i64) 3 w13 w.heap.size (fun _=>True) v102 x3_1):=⟨(by rw [hw];exact (by (with_reducible repeat (first | apply Kd.R_alloc | apply Kd.R_drewN | apply Kd.R_drew));exact Kd.R_mono (Kd.R_far (p:=⟨gb105,4,none⟩) (Kd.R_far (p:=⟨gb105,3,none⟩) (Kd.R_far (p:=⟨gb105,2,none⟩) (Kd.R_far (p:=⟨gb105,1,none⟩) (Kd.R_far (p:=⟨gb105,0,none⟩) (Kd.R_types HO_3.out BK105.out (by decide)) (fun _ hk=>hk.2) (.int .i64 ((rd_T35 l0 x11_1).f0))) (fun _ hk=>hk.2) (.int .i64 ((rd_T35 l0 x11_1).f1))) (fun _ hk=>hk.2) (.int .u64 ((rd_T35 l0 x11_1).f2))) (fun _ hk=>hk.2) (.string ((rd_T35 l0 x11_1).f3))) (fun _ hk=>hk.2) (.slice A104_4 ((rd_T35 l0 x11_1).f4).length c104_4)) (fun _ hk=>trivial)))⟩;have n1_:Aside0 (w13.heap[gb105]?=some (.cells #[.int .i64 ((rd_T35 l0 x11_1).f0),.int .i64 ((rd_T35 l0 x11_1).f1),.int .u64 ((rd_T35 l0 x11_1).f2),.string ((rd_T35 l0 x11_1).f3),.slice A104_4 ((rd_T35 l0 x11_1).f4).length c104_4] 35 (0,0))):=⟨(by rw [hw];exact (by (with_reducible repeat (first | refine blk_drewN ?_ _ | refine blk_drew ?_ | refine blk_alloc ?_ _));refine blk_put (cs:=#[.int .i64 ((rd_T35 l0 x11_1).f0),.int .i64 ((rd_T35 l0 x11_1).f1),.int .u64 ((rd_T35 l0 x11_1).f2),.string ((rd_T35 l0 x11_1).f3),.slice none 0 0]) ?_ 4 _ rfl;(with_reducible repeat (first | refine blk_drewN ?_ _ | refine blk_drew ?_ | refine blk_alloc ?_ _));refine blk_put (cs:=#[.int .i64 ((rd_T35 l0 x11_1).f0),.int .i64 ((rd_T35 l0 x11_1).f1),.int .u64 ((rd_T35 l0 x11_1).f2),.string (⟨#[]⟩:ByteArray),.slice none 0 0]) ?_ 3 _ rfl;(with_reducible repeat (first | refine blk_drewN ?_ _ | refine blk_drew ?_ | refine blk_alloc ?_ _));refine blk_put (cs:=#[.int .i64 ((rd_T35 l0 x11_1).f0),.int .i64 ((rd_T35 l0 x11_1).f1),.int .u64 0,.string (⟨#[]⟩:ByteArray),.slice none 0 0]) ?_ 2 _ rfl;(with_reducible repeat (first | refine blk_drewN ?_ _ | refine blk_drew ?_ | refine blk_alloc ?_ _));refine blk_put (cs:=#[.int .i64 ((rd_T35 l0 x11_1).f0),.int .i64 0,.int .u64 0,.string (⟨#[]⟩:ByteArray),.slice none 0 0]) ?_ 1 _ rfl;(with_reducible repeat (first | refine blk_drewN ?_ _ | refine blk_drew ?_ | refine blk_alloc ?_ _));refine blk_put (cs:=#[.int .i64 0,.int .i64 0,.int .u64 0,.string (⟨#[]⟩:ByteArray),.slice none 0 0]) ?_ 0 _ rfl;(with_reducible repeat (first | refine blk_drewN ?_ _ | refine blk_drew ?_ | refine blk_alloc ?_ _));exact BK105.out))⟩;have n2_:Aside0 (Below w.heap.size w w13):=⟨(by rw [hw];exact (by repeat (first | (with_reducible first | exact HB.out | apply below_alloc | apply pw_below_drewN | apply below_drew1 | refine below_set ?_ GE105.out) | exact HB.out)))⟩;clear hw;clear HO_3;clear BK105;clear HB;have HO_3:=n0_;have BK105:=n1_;have HB:=n2_;clear n0_ n1_ n2_;have hcz14_0:w13.cell? ⟨gb105,0,none⟩=some (.int .i64 ((rd_T35 l0 x11_1).f0)):=(blk_cell BK105.out 0).trans rfl;have hcz14_1:w13.cell? ⟨gb105,1,none⟩=some (.int .i64 ((rd_T35 l0 x11_1).f1)):=(blk_cell BK105.out 1).trans rfl;have hcz14_2:w13.cell? ⟨gb105,2,none⟩=some (.int .u64 ((rd_T35 l0 x11_1).f2)):=(blk_cell BK105.out 2).trans rfl;have hcz14_3:w13.cell? ⟨gb105,3,none⟩=some (.string ((rd_T35 l0 x11_1).f3)):=(blk_cell BK105.out 3).trans rfl;have hcz14_4:w13.cell? ⟨gb105,4,none⟩=some (.slice A104_4 ((rd_T35 l0 x11_1).f4).length c104_4):=(blk_cell BK105.out 4).trans rfl;have hfz14_0:=blk_frozen BK105.out 0;have hfz14_1:=blk_frozen BK105.out 1;have hfz14_2:=blk_frozen BK105.out 2;have hfz14_3:=blk_frozen BK105.out 3;have hfz14_4:=blk_frozen BK105.out 4;have p10:0≤(x11_1:Int):=of_decide_eq_true (by first | (with_reducible assumption) | assumption);have q10:(x11_1:Int) < ((x3_1.length:Int):Int):=of_decide_eq_true (by first | (with_reducible assumption) | assumption);obtain ⟨go10,co10,eo10,gb10,gl10,cl10,HG10⟩:=Kd.R_form HO_3.out (by omega);(first | cases eo10 | (injection eo10 with ea_ en_ ec_;(first | subst ea_ | (injection ea_ with ea_;subst ea_));subst ec_;clear en_));have GB10:=Aside0.mk gb10;have GG10:=Aside0.mk HG10;clear gb10 gl10 HG10;obtain ⟨hx10_0,hf10_0⟩:=Kd.R_celln 0 HO_3.out (x11_1:Int) p10 q10;replace p10:=eq_true p10;replace q10:=eq_true q10;obtain ⟨hy15_,hz15_⟩:=Kd.R_celln 0 HO_3.out (x11_1:Int) (of_decide_eq_true (by first | (with_reducible assumption) | assumption)) (of_decide_eq_true (by first | (with_reducible assumption) | assumption));have HP15:=Kd.R_putg HO_3.out (x11_1:Int) ((rd_T35 l0 x11_1).f1)) | ((with_reducible refine gate_store (t:=3) (p:=20) rfl ?_);refine store_event (t:=3) (p:=20) (v:=?vo_w16) (w1:=(w13.setCell ⟨go10,(x11_1:Int).toNat,none⟩ (.int .i64 ((rd_T35 l0 x11_1).f1)))) ?hg ?ho ?hn ?hr ?_;(case ho=>rfl);(case hg=>rfl);(case hn=>rfl);(case hr=>first | (go_simp;done) | (go_simp;rfl));intro w16 hw;have hg:w13.grownBy w16 (some go10):=(by rw [hw];exact HP15.2);have hp_:Kd.R (Kd.int .i64) 3 w16 w.heap.size (fun _=>True) (.slice (some ⟨go10,0,none⟩) x3_1.length co10) y106:=(by rw [hw,Ny106.out];exact HP15.1);clear HP15;have n0_:=Aside0.mk (hp_);have n1_:=Aside0.mk (blk_grown (g:=gb105) (o:=.cells #[.int .i64 ((rd_T35 l0 x11_1).f0),.int .i64 ((rd_T35 l0 x11_1).f1),.int .u64 ((rd_T35 l0 x11_1).f2),.string ((rd_T35 l0 x11_1).f3),.slice A104_4 ((rd_T35 l0 x11_1).f4).length c104_4] 35 (0,0)) (by (with_reducible repeat (first | refine blk_drewN ?_ _ | refine blk_drew ?_ | refine blk_alloc ?_ _));exact BK105.out) hg (Kd.R_ne HO_3.out BK105.out (by decide)));have n2_:=Aside0.mk ((by rw [hw];exact below_set (HB.out) GB10.out:Below w.heap.size w w16));clear HO_3;clear BK105;clear HB;have HO_3:=n0_;have BK105:=n1_;have HB:=n2_;clear n0_ n1_ n2_;clear hg hw hp_))
         go_roundg k1
         case measure=>have:=HK1.out;omega
         case rel=>exact ⟨(y106),(wrap64 (x11_1+1)),(by first | rfl | (simp;done) | (simp [*];done)),H',⟨by have:=HK1.out;omega⟩,⟨by (with_reducible repeat (first | apply Kd.R_alloc | apply Kd.R_drewN | apply Kd.R_drew));exact HO_3.out⟩,⟨by repeat (first | (with_reducible first | exact HB.out | apply below_alloc | apply pw_below_drewN | apply below_drew1 | refine below_set ?_ GE105.out) | exact HB.out)⟩⟩
        ·rw [if_neg c9]at H
         exact absurd H (by simp)
       ·rw [if_neg c8]at H
        exact absurd H (by simp)
      ·rw [if_neg c7]at H
       exact absurd H (by simp)
     ·rw [if_neg c6]at H
      have c6b0:decide (x11_1 < (l0.length:Int))=false:=decide_eq_false c6
      clear c6
      obtain rfl:=Option.some.inj H
      go_wp2
      go_ret
      exact ⟨_,by first | rfl | (simp [errW_none,errW_some] <;> rfl) | (simp [*,errW_none,errW_some] <;> rfl),by (with_reducible repeat (first | apply Kd.R_alloc | apply Kd.R_drewN | apply Kd.R_drew));exact HO_3.out,by repeat (first | (with_reducible first | exact HB.out | apply below_alloc | apply pw_below_drewN | apply below_drew1) | exact HB.out)⟩
  ·rw [if_neg c3]at H
   exact absurd H (by simp)
 ·rw [if_neg c2]at H
  exact absurd H (by simp)
end Go.Proofs.YtjckhhecnebmmaaGreatDoor.QAll
end
section
namespace Go.Proofs.YtjckhhecnebmmaaGreatDoor.TU
open Go.RowKit Go.Proofs.YtjckhhecnebmmaaGreatDoorW.PrintWords Go.Proofs.YtjckhhecnebmmaaGreatDoorW.PrintLast Go.Proofs.YtjckhhecnebmmaaGreatDoorW.PrintMore Go.Proofs.YtjckhhecnebmmaaGreatDoor.QAll
attribute [local go_sem] max2_int min2_int max_two min_two max_three min_three max_four min_four
set_option linter.unusedVariables false
theorem nameB_big (s:ByteArray) (hs:16 < s.size):nameB s=false:=by
 unfold nameB
 rw [if_neg]
 rintro ⟨k,h⟩
 unfold term_Name.f at h
 rw [if_neg (by omega),if_pos (by omega)]at h
 cases k with
 | zero=>cases h
 | succ k=>rw [term_Name.j0,if_pos rfl]at h;cases h
theorem nameB_calls' (s:ByteArray) (w:World):Calls Tryz.prog 75 #[.string s] w fun e w'=>e=.returned (.bool (nameB s))∧Below w.heap.size w w':=by
 by_cases hs:s.size≤1000000
 ·exact nameB_calls s w hs
 ·rw [nameB_big s (by omega)]
  refine (term_Name.calls 1 s false w ?_).mono ?_
  ·unfold term_Name.f
   rw [if_neg (by omega),if_pos (by omega),term_Name.j0,if_pos rfl]
  ·rintro e w' ⟨rfl,hd⟩
   exact ⟨rfl,hd.below⟩
def ws35 (l:List S35):List Int:=l.map S35.f1
theorem widths_f (l:List S35) (hl:l.length≤1000):∃ k,term_widths.f k l=some (ws35 l):=by
 have loop:∀ (m j:Nat) (x:List Int),j+m=l.length→x.length=l.length→x.take j=(ws35 l).take j→term_widths.l0 (m+1) x l (l.length:Int) (j:Int)=some (ws35 l):=by
  intro m
  induction m with
  | zero =>
   intro j x hj hx ht
   obtain rfl:j=l.length:=by omega
   rw [term_widths.l0,if_neg (by omega)]
   rw [List.take_of_length_le (by omega),List.take_of_length_le (by simp [ws35])]at ht
   rw [ht]
  | succ m ihm =>
   intro j x hj hx ht
   have hlt:j < l.length:=by omega
   rw [term_widths.l0,if_pos (by omega),if_pos (by omega),if_pos (by omega),if_pos (by omega),rd_at hlt,w64n (by omega)]
   refine ihm (j+1) _ (by omega) (by rw [List.length_set];exact hx) ?_
   have e1:(ws35 l).take (j+1)=(ws35 l).take j++[l[j].f1]:=by
    rw [List.take_succ_eq_append_getElem (by simp [ws35];omega)]
    simp [ws35]
   have e2:(x.set j l[j].f1).take (j+1)=x.take j++[l[j].f1]:=by
    rw [List.take_succ_eq_append_getElem (by rw [List.length_set];omega),List.take_set_of_le (Nat.le_refl _)]
    simp
   rw [Int.toNat_natCast,e1,e2,ht]
 refine ⟨l.length+1,?_⟩
 unfold term_widths.f
 rw [if_pos (by omega),Int.toNat_natCast,if_pos (by omega)]
 exact loop l.length 0 _ (by omega) (by simp) rfl
theorem widths_calls (l:List S35) (A:Option Addr) (c:Nat) (w:World) (hC:k35.C w A l.length l) (hc:l.length≤c) (hl:l.length≤1000) :
  Calls Tryz.prog 77 #[.slice A l.length c] w fun e w'=>∃ v,e=.returned v∧Held w' v (ws35 l)∧Below w.heap.size w w':=by
 obtain ⟨k,h⟩:=widths_f l hl
 refine (term_widths.calls k A c l _ w hC hc h).mono ?_
 rintro e w' ⟨v,rfl,hr,hb⟩
 obtain ⟨A2,c2,rfl,h1,h2⟩:=Kd.R_reads hr
 exact ⟨_,rfl,⟨A2,c2,rfl,h1,h2⟩,hb⟩
def badT2 (t:S35):Bool:=!decide (t.f0=1) && !decide (t.f3.toList=[])
def badT3 (t:S35):Bool:=!decide (t.f0=2) && !decide (t.f0=21) && !decide (t.f2=0)
noncomputable def badT4 (t:S35):Bool:=decide (t.f0=1) && !nameB t.f3
def badT5 (t:S35):Bool:=!decide ((opWidth t.f0 t.f1 t.f2 (ws35 t.f4)).2=0) || !decide ((opWidth t.f0 t.f1 t.f2 (ws35 t.f4)).1=t.f1)
noncomputable def nodeF (t:S35):Int :=
 if arity t.f0 < 0∨(24≤t.f0∧t.f0≤26)∨(t.f4.length:Int)≠arity t.f0 then 4
 else if badT2 t=true then 4
 else if badT3 t=true then 4
 else if badT4 t=true then 5
 else if t.f1 < 1 then 3
 else if badT5 t=true then 3
 else 0
set_option maxHeartbeats 6400000 in
set_option maxRecDepth 20000 in
theorem node_calls (t:S35) (A:Option Addr) (c:Nat) (w:World) (hC:k35.C w A t.f4.length t.f4) (hc:t.f4.length≤c) (hl:t.f4.length≤1000) :
  Calls Tryz.prog 52 #[.agg (tcells t A c)] w (FlawPost w (nodeF t)):=by
 have har:=fun w=>arity_calls t.f0 w
 have hpt:=fun w=>pattern_calls t.f0 w
 have HB:=Lib.hid ((below_alloc (Below.refl w.heap.size w) (.cells (tcells t A c) 35)))
 have HAR:=Lib.hid har
 have HPT:=Lib.hid hpt
 have HC:=Lib.hid hC
 have HCC:=Lib.hid hc
 have HL:=Lib.hid hl
 clear har hpt hC hc hl
 simp only [tcells]at HB ⊢
 go_enter Tryz.func52,Tryz.ntmps52
 go_upto_region 1 with fail
 go_cut [0,5] (fun _ s5 wx=>s5=.bool (decide (arity t.f0 < 0∨(24≤t.f0∧t.f0≤26)∨(t.f4.length:Int)≠arity t.f0))∧Hid (Below w.heap.size w wx)∧Hid (wx.heap[w.heap.size]?=some (.cells #[.int .i64 t.f0,.int .i64 t.f1,.int .u64 t.f2,.string t.f3,.slice A t.f4.length c] 35 (0,0))))
 case first =>
  go_wp2_with fail
  have HX:=Lib.hid (blk_new w (.cells #[.int .i64 t.f0,.int .i64 t.f1,.int .u64 t.f2,.string t.f3,.slice A t.f4.length c] 35))
  generalize w.alloc (.cells #[.int .i64 t.f0,.int .i64 t.f1,.int .u64 t.f2,.string t.f3,.slice A t.f4.length c] 35)=w1 at *
  have x0:w1.cell? ⟨w.heap.size,0,none⟩=some (.int .i64 t.f0):=(blk_cell HX.out 0).trans rfl
  have x4:w1.cell? ⟨w.heap.size,4,none⟩=some (.slice A t.f4.length c):=(blk_cell HX.out 4).trans rfl
  by_cases h1:arity t.f0 < 0
  ·have e5:decide (arity t.f0 < 0∨(24≤t.f0∧t.f0≤26)∨(t.f4.length:Int)≠arity t.f0)=true:=decide_eq_true (.inl h1)
   have E5:=Lib.hid e5
   have h1b:decide (arity t.f0 < 0)=true:=decide_eq_true h1
   clear e5
   generalize arity t.f0=ar at *
   go_quiet (first
    | (go_at_call 73;refine Calls.quiet_of_same ((HAR.out _).mono fun _ _ h=>⟨h.1,h.2.symm⟩)))
   go_wp2
   go_meet
   exact ⟨by rw [E5.out],pw_below_drewN HB.out _,HX.out⟩
  ·have h1b:decide (arity t.f0 < 0)=false:=decide_eq_false h1
   by_cases h2:24≤t.f0∧t.f0≤26
   ·have e5:decide (arity t.f0 < 0∨(24≤t.f0∧t.f0≤26)∨(t.f4.length:Int)≠arity t.f0)=true:=decide_eq_true (.inr (.inl h2))
    have E5:=Lib.hid e5
    have hp:(decide (24≤t.f0) && decide (t.f0≤26))=true:=by simp [h2]
    rw [hp]at HPT
    clear e5 h2 hp
    generalize arity t.f0=ar at *
    go_quiet (first
     | (go_at_call 73;refine Calls.quiet_of_same ((HAR.out _).mono fun _ _ h=>⟨h.1,h.2.symm⟩))
     | (go_at_call 74;refine Calls.quiet_of_same ((HPT.out _).mono fun _ _ h=>⟨h.1,h.2.symm⟩)))
    go_wp2
    go_meet
    exact ⟨by rw [E5.out],pw_below_drewN HB.out _,HX.out⟩
   ·have hp:(decide (24≤t.f0) && decide (t.f0≤26))=false:=by simp;omega
    have e5:decide (arity t.f0 < 0∨(24≤t.f0∧t.f0≤26)∨(t.f4.length:Int)≠arity t.f0)=((t.f4.length:Int) != arity t.f0):=by
     rw [Bool.eq_iff_iff];simp [h1,h2]
    have E5:=Lib.hid e5
    rw [hp]at HPT
    clear e5 h2 hp
    generalize arity t.f0=ar at *
    go_quiet (first
     | (go_at_call 73;refine Calls.quiet_of_same ((HAR.out _).mono fun _ _ h=>⟨h.1,h.2.symm⟩))
     | (go_at_call 74;refine Calls.quiet_of_same ((HPT.out _).mono fun _ _ h=>⟨h.1,h.2.symm⟩)))
    go_wp2
    go_meet
    exact ⟨by rw [E5.out],pw_below_drewN HB.out _,HX.out⟩
 case rest =>
 obtain ⟨rfl,hb0,hx0⟩:=hcut
 have HB0:=Lib.hid hb0.out
 have HX0:=Lib.hid hx0.out
 clear HB hb0 hx0 HAR HPT
 by_cases h1:arity t.f0 < 0∨(24≤t.f0∧t.f0≤26)∨(t.f4.length:Int)≠arity t.f0
 ·have hf:nodeF t=4:=if_pos h1
  have HF:=Lib.hid hf
  rw [decide_eq_true h1]
  clear hf h1
  go_wp2
  go_ret
  exact ⟨by rw [HF.out];rfl,HB0.out⟩
 have HF:=Lib.hid (show nodeF t=_ from if_neg h1)
 have H1:=Lib.hid h1
 rw [decide_eq_false h1]
 have x0:wc.cell? ⟨w.heap.size,0,none⟩=some (.int .i64 t.f0):=(blk_cell HX0.out 0).trans rfl
 have x1:wc.cell? ⟨w.heap.size,1,none⟩=some (.int .i64 t.f1):=(blk_cell HX0.out 1).trans rfl
 have x2:wc.cell? ⟨w.heap.size,2,none⟩=some (.int .u64 t.f2):=(blk_cell HX0.out 2).trans rfl
 have x3:wc.cell? ⟨w.heap.size,3,none⟩=some (.string t.f3):=(blk_cell HX0.out 3).trans rfl
 have x4:wc.cell? ⟨w.heap.size,4,none⟩=some (.slice A t.f4.length c):=(blk_cell HX0.out 4).trans rfl
 clear h1
 go_upto_region 3 with fail
 go_cut [24] (fun s wx=>s=.bool (badT2 t)∧wx=wc)
 case first =>
  go_wp2_with fail
  all_goals
   go_meet
   exact ⟨by first | (simp [badT2, *];done) | (refine congrArg Value.bool ?_;rw [Bool.eq_iff_iff];simp [badT2, *];done) | (refine congrArg Value.bool ?_;rw [Bool.eq_iff_iff];simp [badT2, *];omega),rfl⟩
 case rest =>
 obtain ⟨rfl,rfl⟩:=hcut
 cases h2:badT2 t with
 | true =>
  have HBAD:=Lib.hid h2
  clear h2
  go_wp2
  go_ret
  refine ⟨?_,HB0.out⟩
  rw [HF.out,if_pos HBAD.out]
  rfl
 | false =>
 have hf2:=HF.out
 rw [if_neg (by rw [h2];simp)]at hf2
 have HF2:=Lib.hid hf2
 clear hf2 HF h2
 go_upto_region 5 with fail
 go_cut [33] (fun s wx=>s=.bool (badT3 t)∧wx=wc)
 case first =>
  go_wp2_with fail
  all_goals
   go_meet
   exact ⟨by first | (simp [badT3, *];done) | (refine congrArg Value.bool ?_;rw [Bool.eq_iff_iff];simp [badT3, *];done) | (refine congrArg Value.bool ?_;rw [Bool.eq_iff_iff];simp [badT3, *];omega),rfl⟩
 case rest =>
 obtain ⟨rfl,rfl⟩:=hcut
 cases h3:badT3 t with
 | true =>
  have HBAD:=Lib.hid h3
  clear h3
  go_wp2
  go_ret
  refine ⟨?_,HB0.out⟩
  rw [HF2.out,if_pos HBAD.out]
  rfl
 | false =>
 have hf3:=HF2.out
 rw [if_neg (by rw [h3];simp)]at hf3
 have HF3:=Lib.hid hf3
 clear hf3 HF2 h3
 go_upto_region 7 with fail
 go_cut [47] (fun s wx=>s=.bool (badT4 t)∧Hid (Below wc.heap.size wc wx))
 case first =>
  by_cases hop:t.f0=1
  ·have hnm:=nameB_calls' t.f3 wc
   have HOP:=Lib.hid hop
   rw [hop]at x0
   clear hop
   go_wp2_with fail
   refine hnm.mono ?_
   rintro e w' ⟨rfl,hb⟩
   have HB2:=Lib.hid hb
   clear hb hnm
   go_wp2_with fail
   go_meet
   exact ⟨by simp [badT4,HOP.out],HB2.out⟩
  ·go_wp2_with fail
   go_meet
   exact ⟨by simp [badT4,hop],Below.refl _ _⟩
 case rest =>
 obtain ⟨rfl,hb2⟩:=hcut
 have HB2:=Lib.hid (HB0.out.trans (hb2.out.mono HB0.out.size))
 have HX2:=Lib.hid (blk_below HX0.out hb2.out)
 have HC2:=Lib.hid (Kd.C_below HC.out HB2.out)
 clear x0 x1 x2 x3 x4 hb2 HB0 HX0
 cases h4:badT4 t with
 | true =>
  have HBAD:=Lib.hid h4
  clear h4
  go_wp2
  go_ret
  refine ⟨?_,HB2.out⟩
  rw [HF3.out,if_pos HBAD.out]
  rfl
 | false =>
 have hf4:=HF3.out
 rw [if_neg (by rw [h4];simp)]at hf4
 have HF4:=Lib.hid hf4
 clear hf4 HF3 h4
 have x1:wc.cell? ⟨w.heap.size,1,none⟩=some (.int .i64 t.f1):=(blk_cell HX2.out 1).trans rfl
 by_cases h5:t.f1 < 1
 ·have hf:=HF4.out
  rw [if_pos h5]at hf
  have HF5:=Lib.hid hf
  clear hf HF4
  have h5b:decide (t.f1 < 1)=true:=decide_eq_true h5
  clear h5
  go_wp2
  go_ret
  exact ⟨by rw [HF5.out];rfl,HB2.out⟩
 have hf5:=HF4.out
 rw [if_neg h5]at hf5
 have HF5:=Lib.hid hf5
 have h5b:decide (t.f1 < 1)=false:=decide_eq_false h5
 clear hf5 HF4 h5
 have hw1:=fun wr (hb:Below wc.heap.size wc wr)=>widths_calls t.f4 A c wr (Kd.C_below HC2.out hb) HCC.out HL.out
 have h1:=H1.out
 have hop:1≤t.f0∧t.f0≤23:=by
  have:¬ arity t.f0 < 0:=fun h=>h1 (.inl h)
  unfold arity at this
  split at this <;> omega
 have hw2:=fun va wr (hH:Held wr va (ws35 t.f4))=>width_calls t.f0 t.f1 t.f2 (ws35 t.f4) va wr hop (by have h:¬ ((t.f4.length:Int)≠arity t.f0):=fun h=>h1 (.inr (.inr h));simp only [ws35,List.length_map];omega) hH
 have HW1:=Lib.hid hw1
 have HW2:=Lib.hid hw2
 clear hw1 hw2 hop h1
 have x0:wc.cell? ⟨w.heap.size,0,none⟩=some (.int .i64 t.f0):=(blk_cell HX2.out 0).trans rfl
 have x2:wc.cell? ⟨w.heap.size,2,none⟩=some (.int .u64 t.f2):=(blk_cell HX2.out 2).trans rfl
 have x4:wc.cell? ⟨w.heap.size,4,none⟩=some (.slice A t.f4.length c):=(blk_cell HX2.out 4).trans rfl
 have L1:=Lib.hid (fun wr (hb:Below wc.heap.size wc wr)=>show wr.cell? ⟨w.heap.size,0,none⟩=some (.int .i64 t.f0)∧wr.cell? ⟨w.heap.size,1,none⟩=some (.int .i64 t.f1)∧wr.cell? ⟨w.heap.size,2,none⟩=some (.int .u64 t.f2)∧wr.cell? ⟨w.heap.size,4,none⟩=some (.slice A t.f4.length c)from ⟨pw_cell_below hb x0,pw_cell_below hb x1,pw_cell_below hb x2,pw_cell_below hb x4⟩)
 obtain ⟨q0,q1,q2,q4⟩:=L1.out wc.drew (Below.refl _ _).drew
 go_upto_region 11 with fail
 go_region_held3 (fun wr=>wr.cell? ⟨w.heap.size,0,none⟩=some (.int .i64 t.f0)∧wr.cell? ⟨w.heap.size,1,none⟩=some (.int .i64 t.f1)∧wr.cell? ⟨w.heap.size,2,none⟩=some (.int .u64 t.f2)∧wr.cell? ⟨w.heap.size,4,none⟩=some (.slice A t.f4.length c))
  ((refine L1.out _ ?_;first | exact (Below.refl _ _).drew | exact (Below.refl _ _).drew.trans HB3.out | exact (Below.refl _ _).drew.trans HB4.out))
  (first
   | (go_at_call 77;refine (HW1.out _ ?_).mono ?_;(exact (Below.refl _ _).drew);rintro e w3 ⟨v3,rfl,hh3,hb3⟩;have HB3:=Lib.hid hb3;have HH3:=Lib.hid hh3;clear hb3 hh3)
   | (go_at_call 76;refine (HW2.out _ _ HH3.out).mono ?_;rintro e w4 ⟨rfl,hb4⟩;have HB4:=Lib.hid (HB3.out.trans (hb4.mono HB3.out.size));clear hb4))
 obtain ⟨z0,z1,z2,z4⟩:=L1.out w4 ((Below.refl _ _).drew.trans HB4.out)
 have HB5:=Lib.hid (HB2.out.trans (((Below.refl wc.heap.size wc).drew.trans HB4.out).mono HB2.out.size))
 have hb5:badT5 t=(!decide ((opWidth t.f0 t.f1 t.f2 (ws35 t.f4)).2=0) || !decide ((opWidth t.f0 t.f1 t.f2 (ws35 t.f4)).1=t.f1)):=rfl
 clear q0 q1 q2 q4 z0 z2 z4 L1 HW1 HW2 x0 x1 x2 x4
 generalize (opWidth t.f0 t.f1 t.f2 (ws35 t.f4)).1=r1 at *
 generalize (opWidth t.f0 t.f1 t.f2 (ws35 t.f4)).2=r2 at *
 have HB6:=Lib.hid hb5
 clear hb5
 go_upto_region 12 with fail
 go_cut [3,4,81] (fun _ _ s wx=>s=.bool (badT5 t)∧wx=w4)
 case first =>
  go_wp2_with fail
  all_goals
   go_meet
   rw [HB6.out]
   exact ⟨by first | (simp [*];done) | (refine congrArg Value.bool ?_;rw [Bool.eq_iff_iff];simp [*];done) | (refine congrArg Value.bool ?_;rw [Bool.eq_iff_iff];simp [*];omega),rfl⟩
 case rest =>
 obtain ⟨rfl,rfl⟩:=hcut
 cases h6:badT5 t with
 | true =>
  have HBAD:=Lib.hid h6
  clear h6
  go_wp2
  go_ret
  refine ⟨?_,HB5.out⟩
  rw [HF5.out,if_pos HBAD.out]
  rfl
 | false =>
  have hf:=HF5.out
  rw [if_neg (by rw [h6];simp)]at hf
  have HF6:=Lib.hid hf
  clear hf HF5 h6
  go_wp2
  go_ret
  refine ⟨?_,HB5.out⟩
  rw [HF6.out]
  rfl
theorem agreedW_le {ok:Bool} {x:Int} (h:ok=true→x≤64):(agreedW ok x).1≤64:=by
 cases ok with
 | true=>exact h rfl
 | false=>show (0:Int)≤64;omega
theorem opWidth_le (op width val:Int) (ws:List Int) (h:(opWidth op width val ws).2=0):(opWidth op width val ws).1≤64:=by
 unfold opWidth at h ⊢
 have hget:ws.all ins=true→∀ j,ws.getD j 0≤64:=by
  intro ha j
  rcases Nat.lt_or_ge j ws.length with hj | hj
  ·rw [List.getD_eq_getElem?_getD,List.getElem?_eq_getElem hj]
   exact (ins_le (List.all_eq_true.1 ha _ (List.getElem_mem hj))).2
  ·rw [List.getD_eq_getElem?_getD,List.getElem?_eq_none hj];show (0:Int)≤64;omega
 split
 ·rename_i ha
  have hg:=hget ha
  rw [if_pos ha]at h
  split
  ·rename_i h1
   rw [if_pos h1]at h
   unfold leafW at h ⊢
   split
   ·show (0:Int)≤64;omega
   ·rename_i hi
    split
    ·show (0:Int)≤64;omega
    ·exact (ins_le (by simpa using hi)).2
  split
  ·exact hg 0
  split
  ·unfold resizedW
   split
   ·show (0:Int)≤64;omega
   ·split
    ·split
     ·show (0:Int)≤64;omega
     ·split
      ·show (0:Int)≤64;omega
      ·show width≤64;omega
    ·split
     ·show (0:Int)≤64;omega
     ·show width≤64;omega
  split
  ·exact agreedW_le (fun _=>hg 1)
  split
  ·exact agreedW_le (fun h=>by simp only [Bool.and_eq_true,decide_eq_true_eq]at h;exact h.2)
  split
  ·exact agreedW_le (fun _=>by omega)
  ·exact agreedW_le (fun _=>hg 0)
 ·show (0:Int)≤64;omega
theorem nodeF_ok {t:S35} (h:nodeF t=0):(1≤t.f0∧t.f0≤23)∧(t.f4.length:Int)=arity t.f0∧t.f3.size≤16∧1≤t.f1∧t.f1≤64:=by
 unfold nodeF at h
 split at h
 ·omega
 rename_i h1
 split at h
 ·omega
 rename_i h2
 split at h
 ·omega
 split at h
 ·omega
 rename_i h4
 split at h
 ·omega
 rename_i h5
 split at h
 ·omega
 rename_i h6
 have ha:¬ arity t.f0 < 0:=fun h=>h1 (.inl h)
 have hop:1≤t.f0∧t.f0≤23:=by unfold arity at ha;split at ha <;> omega
 refine ⟨hop,by omega,?_,by omega,?_⟩
 ·by_cases h1:t.f0=1
  ·by_cases hs:t.f3.size≤16
   ·exact hs
   ·exact absurd (by unfold badT4;rw [nameB_big _ (by omega),h1];rfl) h4
  ·have:t.f3.toList=[]:=by
    simpa [badT2,h1]using h2
   rw [ByteArray.toList_eq]at this
   have h:=data_length t.f3
   rw [this]at h
   simp at h
   omega
 ·have h:(opWidth t.f0 t.f1 t.f2 (ws35 t.f4)).2=0∧(opWidth t.f0 t.f1 t.f2 (ws35 t.f4)).1=t.f1:=by
   simpa [badT5]using h6
  rw [← h.2]
  exact opWidth_le _ _ _ _ h.1
end Go.Proofs.YtjckhhecnebmmaaGreatDoor.TU
end
