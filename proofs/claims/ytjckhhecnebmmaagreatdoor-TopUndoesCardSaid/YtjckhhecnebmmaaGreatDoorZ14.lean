/- Steps towards the law TopUndoes; words printed by the kit, and printed texts, are cut to what is used, and spaces are left out. No condition. -/
import Derived.Test.YtjckhhecnebmmaaGreatDoorZ13
import Derived.Test.YtjckhhecnebmmaaGreatDoorZ8
import Derived.Test.YtjckhhecnebmmaaGreatDoorZ5
import Derived.Deep.RegionHeld3
set_option linter.unusedVariables false
set_option linter.unusedSimpArgs false
section
namespace Go.Proofs.YtjckhhecnebmmaaGreatDoor.TU
open Go.RowKit Go.Proofs.YtjckhhecnebmmaaGreatDoorW.PrintWords Go.Proofs.YtjckhhecnebmmaaGreatDoorW.PrintLast Go.Proofs.YtjckhhecnebmmaaGreatDoorW.PrintMore Go.Proofs.YtjckhhecnebmmaaGreatDoor.QAll
attribute [local go_sem] max2_int min2_int max_two min_two max_three min_three max_four min_four
set_option linter.unusedVariables false
def sameB (n m:Nd):Bool:=decide (n.op=m.op) && decide (n.width=m.width) && decide (n.val=m.val) && decide (n.name=m.name) && decide (n.args=m.args)
theorem sameB_iff {n m:Nd}:sameB n m=true↔n=m:=by
 unfold sameB
 cases n;cases m
 simp [and_assoc]
theorem less_self:∀ l:List UInt8,Op.bytesLess l l=false:=by
 intro l
 induction l with
 | nil=>rfl
 | cons a l ih=>simp [Op.bytesLess,ih]
theorem cmpI (a b:Int):∃ r,cmp_Compare_int.f a b=some r∧(r=0↔a=b):=by
 unfold cmp_Compare_int.f cmp_isNaN_int.f
 simp only [bne_self_eq_false,Option.bind_some]
 rw [if_neg (by simp),if_neg (by simp)]
 by_cases h1:a < b
 ·rw [if_pos h1];exact ⟨_,rfl,by omega⟩
 ·rw [if_neg h1]
  by_cases h2:a > b
  ·rw [if_pos h2];exact ⟨_,rfl,by omega⟩
  ·rw [if_neg h2];exact ⟨_,rfl,by omega⟩
theorem cmpO (a b:Int):∃ r,api_Op_93.f a b=some r∧(r=0↔a=b):=by
 unfold api_Op_93.f api_Op_100.f
 simp only [bne_self_eq_false,Option.bind_some]
 rw [if_neg (by simp),if_neg (by simp)]
 by_cases h1:a < b
 ·rw [if_pos h1];exact ⟨_,rfl,by omega⟩
 ·rw [if_neg h1]
  by_cases h2:a > b
  ·rw [if_pos h2];exact ⟨_,rfl,by omega⟩
  ·rw [if_neg h2];exact ⟨_,rfl,by omega⟩
theorem cmpU (a b:Int):∃ r,cmp_Compare_uint64.f a b=some r∧(r=0↔a=b):=by
 unfold cmp_Compare_uint64.f cmp_isNaN_uint64.f
 simp only [bne_self_eq_false,Option.bind_some]
 rw [if_neg (by simp),if_neg (by simp)]
 by_cases h1:a < b
 ·rw [if_pos h1];exact ⟨_,rfl,by omega⟩
 ·rw [if_neg h1]
  by_cases h2:a > b
  ·rw [if_pos h2];exact ⟨_,rfl,by omega⟩
  ·rw [if_neg h2];exact ⟨_,rfl,by omega⟩
theorem toList_inj {a b:ByteArray} (h:a.toList=b.toList):a=b:=by
 rw [ByteArray.toList_eq,ByteArray.toList_eq]at h
 cases a;cases b
 simp_all
theorem cmpS (a b:ByteArray):∃ r,cmp_Compare_string.f a b=some r∧(r=0↔a=b):=by
 unfold cmp_Compare_string.f cmp_isNaN_string.f
 simp only [bne_self_eq_false,Option.bind_some]
 rw [if_neg (by simp),if_neg (by simp)]
 by_cases h1:Op.bytesLess a.toList b.toList=true
 ·rw [if_pos h1]
  refine ⟨_,rfl,⟨by omega,fun e=>?_⟩⟩
  rw [e,less_self]at h1
  cases h1
 ·rw [if_neg h1]
  by_cases h2:(a.toList == b.toList)=true
  ·rw [if_pos h2]
   exact ⟨_,rfl,⟨fun _=>toList_inj (by simpa using h2),fun _=>rfl⟩⟩
  ·rw [if_neg h2]
   exact ⟨_,rfl,⟨by omega,fun e=>absurd (by rw [e];simp) h2⟩⟩
theorem cmpL (l m:List Int) (hl:l.length≤1000):∀ (j k:Nat),j≤l.length→l.length < k+j→(∀ i,i < j→i < m.length→l.getD i 0=m.getD i 0)→j≤m.length →
  ∃ r,slices_Compare_int_int.l0 k l m l (l.length:Int) (j:Int)=some r∧(r=0↔l=m):=by
 intro j k
 induction k generalizing j with
 | zero=>intro h1 h2;omega
 | succ k ih =>
  intro h1 h2 h3 h4
  simp only [slices_Compare_int_int.l0]
  by_cases hj:j < l.length
  ·rw [if_pos (by omega),if_pos (by omega),if_pos (by omega)]
   by_cases hm:j < m.length
   ·rw [if_neg (by omega),if_pos (by omega)]
    obtain ⟨r,e,hr⟩:=cmpI (rd l (j:Int)) (rd m (j:Int))
    have e1:rd l (j:Int)=l.getD j 0:=by unfold rd;rw [Int.toNat_natCast]
    have e2:rd m (j:Int)=m.getD j 0:=by unfold rd;rw [Int.toNat_natCast]
    rw [e,Option.bind_some]
    by_cases h0:r=0
    ·rw [if_pos h0]
     have hw:wrap64 ((j:Int)+1)=((j+1:Nat):Int):=by rw [IntWalk.wrap64_in _ (by omega)];omega
     rw [hw]
     refine ih (j+1) (by omega) (by omega) (fun i hi hi2=>?_) (by omega)
     by_cases hij:i=j
     ·subst hij;rw [← e1,← e2];exact hr.1 h0
     ·exact h3 i (by omega) hi2
    ·rw [if_neg h0]
     refine ⟨r,rfl,⟨fun h=>absurd h h0,fun h=>absurd (hr.2 (by rw [h])) h0⟩⟩
   ·rw [if_pos (by omega)]
    exact ⟨1,rfl,⟨by omega,fun h=>by rw [h]at hj;omega⟩⟩
  ·rw [if_neg (by omega)]
   by_cases hm:(l.length:Int) < (m.length:Int)
   ·rw [if_pos hm]
    exact ⟨-1,rfl,⟨by omega,fun h=>by rw [h]at hm;omega⟩⟩
   ·rw [if_neg hm]
    refine ⟨0,rfl,⟨fun _=>?_,fun _=>rfl⟩⟩
    apply List.ext_getElem (by omega)
    intro i hi hi2
    have:=h3 i (by omega) hi2
    rwa [List.getD_eq_getElem?_getD,List.getD_eq_getElem?_getD,List.getElem?_eq_getElem hi,List.getElem?_eq_getElem hi2]at this
theorem orL (a b c d e f:Int):∃ r,cmp_Or_int.f 8 [a,b,c,d,e,f]=some r∧(r=0↔a=0∧b=0∧c=0∧d=0∧e=0∧f=0):=by
 have w1:wrap64 1=1:=IntWalk.wrap64_in _ (by omega)
 have w2:wrap64 2=2:=IntWalk.wrap64_in _ (by omega)
 have w3:wrap64 3=3:=IntWalk.wrap64_in _ (by omega)
 have w4:wrap64 4=4:=IntWalk.wrap64_in _ (by omega)
 have w5:wrap64 5=5:=IntWalk.wrap64_in _ (by omega)
 have w6:wrap64 6=6:=IntWalk.wrap64_in _ (by omega)
 unfold cmp_Or_int.f
 simp only [cmp_Or_int.l0,List.length_cons,List.length_nil,rd]
 by_cases ha:a=0
 ·by_cases hb:b=0
  ·by_cases hc:c=0
   ·by_cases hd:d=0
    ·by_cases he:e=0
     ·by_cases hf:f=0
      ·simp [ha,hb,hc,hd,he,hf,w1,w2,w3,w4,w5,w6]
      ·simp [ha,hb,hc,hd,he,hf,w1,w2,w3,w4,w5,w6]
     ·simp [ha,hb,hc,hd,he,w1,w2,w3,w4,w5,w6]
    ·simp [ha,hb,hc,hd,w1,w2,w3,w4,w5,w6]
   ·simp [ha,hb,hc,w1,w2,w3,w4,w5,w6]
  ·simp [ha,hb,w1,w2,w3,w4,w5,w6]
 ·simp [ha,w1,w2,w3,w4,w5,w6]
theorem same_f (n m:Nd) (hl:n.args.length≤1000):∃ k,hashcons_Same.f k n.op n.width n.val n.name n.args m.op m.width m.val m.name m.args=some (sameB n m):=by
 obtain ⟨r1,e1,h1⟩:=cmpO n.op m.op
 obtain ⟨r2,e2,h2⟩:=cmpI n.width m.width
 obtain ⟨r3,e3,h3⟩:=cmpU n.val m.val
 obtain ⟨r4,e4,h4⟩:=cmpS n.name m.name
 obtain ⟨r5,e5,h5⟩:=cmpI n.args.length m.args.length
 obtain ⟨r6,e6,h6⟩:=cmpL n.args m.args hl 0 (n.args.length+8) (Nat.zero_le _) (by omega) (fun i hi=>by omega) (Nat.zero_le _)
 obtain ⟨r,e,h⟩:=orL r1 r2 r3 r4 r5 r6
 refine ⟨n.args.length+8,?_⟩
 have e':=more_rounds (g:=fun k=>cmp_Or_int.f k [r1,r2,r3,r4,r5,r6]) (fun k=>cmp_Or_int.mono _ k) 8 n.args.length r e
 have e6':slices_Compare_int_int.f (n.args.length+8) n.args m.args=some r6:=e6
 simp only [show 8+n.args.length=n.args.length+8 by omega]at e'
 unfold hashcons_Same.f hashcons_Compare.f
 rw [e1,Option.bind_some,e2,Option.bind_some,e3,Option.bind_some,e4,Option.bind_some,e5,Option.bind_some,e6',Option.bind_some,e',Option.bind_some,Option.bind_some]
 have:(r == 0)=sameB n m:=by
  rw [Bool.eq_iff_iff,sameB_iff]
  cases n with | mk a b c d l=>cases m with | mk a' b' c' d' l' =>
  simp only [Nd.mk.injEq,beq_iff_eq]
  simp only at h1 h2 h3 h4 h5 h6
  rw [h,h1,h2,h3,h4,h5,h6]
  constructor
  ·rintro ⟨g1,g2,g3,g4,g5,g6⟩;exact ⟨g1,g2,by omega,g4,g6⟩
  ·rintro ⟨g1,g2,g3,g4,g6⟩;exact ⟨g1,g2,by omega,g4,by rw [g6],g6⟩
 rw [this]
theorem hsame_calls {w:World} (n m:Nd) (va vb:Value) (hA:Held w va n.args) (hB:Held w vb m.args) (hl:n.args.length≤1000) :
  Calls Tryz.prog 61 #[.agg (n.cells va),.agg (m.cells vb)] w fun e w'=>e=.returned (.bool (sameB n m))∧Below w.heap.size w w':=by
 obtain ⟨A,c,rfl,h1,h2⟩:=hA
 obtain ⟨A',c',rfl,h3,h4⟩:=hB
 obtain ⟨k,hk⟩:=same_f n m hl
 exact hashcons_Same.calls k n.op n.width n.val n.name A c n.args m.op m.width m.val m.name A' c' m.args _ w h2 h1 h4 h3 hk
end Go.Proofs.YtjckhhecnebmmaaGreatDoor.TU
end
section
namespace Go.Proofs.YtjckhhecnebmmaaGreatDoor.TU
open Go.RowKit Go.Proofs.YtjckhhecnebmmaaGreatDoorW.PrintWords Go.Proofs.YtjckhhecnebmmaaGreatDoorW.PrintLast Go.Proofs.YtjckhhecnebmmaaGreatDoorW.PrintMore Go.Proofs.YtjckhhecnebmmaaGreatDoor.QAll
attribute [local go_sem] max2_int min2_int max_two min_two max_three min_three max_four min_four
set_option linter.unusedVariables false
set_option maxRecDepth 20000 in
set_option maxHeartbeats 3200000 in
theorem get_calls {b B g N:Nat} {w:World} {o:Own} {T:ByteArray→Option Int} (H:TabAt b w o g T N) (n:Nd) (va:Value) (A:Option Addr) (c:Nat) (hva:va=.slice A n.args.length c) (hC:(Kd.int .i64).C w A n.args.length n.args) (hn:n.Ok) (htab:Tab B w) (hB:B≤w.heap.size) :
  Calls Tryz.prog 63 #[.pointer (some ⟨g,0,none⟩),.agg (n.cells va)] w fun e w'=>e=.returned (.tuple #[.int .i64 ((T (keyStr n)).getD 0),.bool (T (keyStr n)).isSome])∧Below w.heap.size w w':=by
 have hks:=keyStr_size n hn
 obtain ⟨m,D,h1,h2,h3,h4⟩:=id H
 have hgl:=blk_lt h1.1
 have hml:=h3.lt
 obtain ⟨ea,eb,ec,es,eA,el,ecp,hl0⟩:=h3.look (keyStr n) hks
 rw [h4]at hl0
 have hk:∀ wr,Below w.heap.size w wr→Calls Tryz.prog 67 #[.agg (n.cells va)] wr fun e w'=>e=.returned (.string (keyStr n))∧Below wr.heap.size wr w':=fun wr hb=>key_calls n va A c hva (Kd.C_below hC hb) hn (htab.on (hb.mono hB)) (Nat.le_trans hB hb.size)
 have hmd:=fun wr (hb:Below w.heap.size w wr)=>made_calls (H.fr ((Kp.refl (fun _=>False) w o).below hb) (fun _ _ h=>h))
 have hb1:=below_alloc (Below.refl w.heap.size w) (.cells (n.cells va) 56)
 have hI:InTab w (w.alloc (.cells (n.cells va) 56)) (n.cells va):=⟨hb1,blk_new _ _⟩
 generalize keyStr n=ks at *
 have hcells:n.cells va=#[.int .i64 n.op,.int .i64 n.width,.int .u64 n.val,.string n.name,va]:=rfl
 rw [hcells]at hk hI ⊢
 generalize n.op=n0 at *
 generalize n.width=n1 at *
 generalize n.val=n2 at *
 generalize n.name=n3 at *
 have LIMB:=Lib.hid (fun wr (h:InTab w wr #[.int .i64 n0,.int .i64 n1,.int .u64 n2,.string n3,va])=>show
   (wr.cell? ⟨g,0,none⟩=some (.map (some m))∧wr.cell? ⟨w.heap.size,0,none⟩=some (.int .i64 n0)∧wr.cell? ⟨w.heap.size,1,none⟩=some (.int .i64 n1)∧wr.cell? ⟨w.heap.size,2,none⟩=some (.int .u64 n2)∧wr.cell? ⟨w.heap.size,3,none⟩=some (.string n3)∧wr.cell? ⟨w.heap.size,4,none⟩=some va ∧
    (Instr.lookup 90 (.map (some m)) (.string ks) true).run Tryz.prog wr=.ok (.tuple #[.agg #[.int .i64 ea,.int .i64 eb,.int .u64 ec,.string es,.slice eA el ecp,.int .i64 ((T ks).getD 0)],.bool (T ks).isSome]) wr∧Hid (InTab w wr #[.int .i64 n0,.int .i64 n1,.int .u64 n2,.string n3,va]))from
  ⟨(blk_cell (blk_below h1.1 h.bel) 0).trans rfl,(blk_cell h.box 0).trans rfl,(blk_cell h.box 1).trans rfl,(blk_cell h.box 2).trans rfl,(blk_cell h.box 3).trans rfl,(blk_cell h.box 4).trans rfl,hl0 wr (h.bel.block m hml),Lib.hid h⟩)
 have HI:=Lib.hid hI
 have HK:=Lib.hid hk
 have HM:=Lib.hid hmd
 clear hk hmd hI hb1 hl0 h1 h2 h3 h4 hva hC hn hcells H htab
 subst_vars
 go_enter Tryz.func63,Tryz.ntmps63
 go_wp2_with (go_at_call 66;refine (HM.out _ HI.out.bel).mono ?_;rintro e w' ⟨rfl,rfl⟩)
 have HId:=Lib.hid HI.out.drew
 obtain ⟨q0,q1,q2,q3,q4,q5,q6,q7⟩:=LIMB.out _ HId.out
 go_region_held3 (fun wr=>wr.cell? ⟨g,0,none⟩=some (.map (some m))∧wr.cell? ⟨w.heap.size,0,none⟩=some (.int .i64 n0)∧wr.cell? ⟨w.heap.size,1,none⟩=some (.int .i64 n1)∧wr.cell? ⟨w.heap.size,2,none⟩=some (.int .u64 n2)∧wr.cell? ⟨w.heap.size,3,none⟩=some (.string n3)∧wr.cell? ⟨w.heap.size,4,none⟩=some va ∧
    (Instr.lookup 90 (.map (some m)) (.string ks) true).run Tryz.prog wr=.ok (.tuple #[.agg #[.int .i64 ea,.int .i64 eb,.int .u64 ec,.string es,.slice eA el ecp,.int .i64 ((T ks).getD 0)],.bool (T ks).isSome]) wr∧Hid (InTab w wr #[.int .i64 n0,.int .i64 n1,.int .u64 n2,.string n3,va]))
  ((refine LIMB.out _ ?_;(repeat (with_reducible refine InTab.set ?_ _ _));(first | with_reducible exact Hid.out (by assumption) | exact InTab.alloc (Hid.out (by assumption)) _)))
  ((go_at_call 67;refine (HK.out _ ?_).mono ?_;(first | exact InTab.bel (Hid.out (by assumption)) | exact InTab.bel (InTab.drew (InTab.alloc HI.out _)));rintro e w2 ⟨rfl,hb2⟩;(first | have HI2:=Lib.hid (InTab.below (Hid.out (by assumption)) hb2) | (have HI2:=Lib.hid (InTab.below (InTab.drew (InTab.alloc HI.out _)) hb2);have hz:=fresh_after (w:=w) (o:=.cells #[.int .i64 n0,.int .i64 n1,.int .u64 n2,.string n3,va] 56) (X:=#[.int .i64 0,.int .i64 0,.int .u64 0,.string ⟨#[]⟩,.slice none 0 0,.int .i64 0]) (e:=121) hb2;have z0:w2.cell? ⟨w.heap.size+1,0,none⟩=some (.int .i64 0):=(blk_cell hz 0).trans rfl;have z1:w2.cell? ⟨w.heap.size+1,1,none⟩=some (.int .i64 0):=(blk_cell hz 1).trans rfl;have z2:w2.cell? ⟨w.heap.size+1,2,none⟩=some (.int .u64 0):=(blk_cell hz 2).trans rfl;have z3:w2.cell? ⟨w.heap.size+1,3,none⟩=some (.string ⟨#[]⟩):=(blk_cell hz 3).trans rfl;have z4:w2.cell? ⟨w.heap.size+1,4,none⟩=some (.slice none 0 0):=(blk_cell hz 4).trans rfl;have z5:w2.cell? ⟨w.heap.size+1,5,none⟩=some (.int .i64 0):=(blk_cell hz 5).trans rfl;have y0:=blk_frozen hz 0;have y1:=blk_frozen hz 1;have y2:=blk_frozen hz 2;have y3:=blk_frozen hz 3;have y4:=blk_frozen hz 4;have y5:=blk_frozen hz 5;clear hz));clear hb2))
 all_goals clear HI HId q0 q1 q2 q3 q4 q5 q6 q7
 all_goals go_wp2
 ·go_ret2
  exact ⟨rfl,(HI2.out.alloc _).bel⟩
 ·go_ret2
  exact ⟨rfl,(HI2.out.alloc _).bel⟩
 ·go_ret2
  exact ⟨rfl,((((((HI2.out.set _ _).set _ _).set _ _).set _ _).set _ _).set _ _).bel⟩
end Go.Proofs.YtjckhhecnebmmaaGreatDoor.TU
end
