/- Steps towards the law TopUndoes; words printed by the kit, and printed texts, are cut to what is used, and spaces are left out. No condition. -/
import Derived.Test.YtjckhhecnebmmaaGreatDoorZ20
import Derived.Test.YtjckhhecnebmmaaGreatDoorZ19
import Derived.Test.YtjckhhecnebmmaaGreatDoorZ4
set_option linter.unusedVariables false
set_option linter.unusedSimpArgs false
section
namespace Go.Proofs.YtjckhhecnebmmaaGreatDoor.TU
open Go.RowKit Go.Proofs.YtjckhhecnebmmaaGreatDoorW.PrintWords Go.Proofs.YtjckhhecnebmmaaGreatDoorW.PrintLast Go.Proofs.YtjckhhecnebmmaaGreatDoorW.PrintMore Go.Proofs.YtjckhhecnebmmaaGreatDoor.QAll
attribute [local go_sem] max2_int min2_int max_two min_two max_three min_three max_four min_four
set_option linter.unusedVariables false
theorem fnd_new (S:St):fnd (newP S) (newId S)=newId S:=by
 have hin:inB (newP S) (newId S)=true:=inB_yes (by unfold newId;omega) (by unfold newP newId;simp;omega)
 unfold fnd
 rw [if_pos hin]
 apply rt_end
 unfold rd newP newId
 rw [Int.toNat_natCast,List.getD_eq_getElem?_getD,List.getElem?_append_right (Nat.le_refl _),Nat.sub_self]
 rfl
theorem fnd_le {p:List Int} (hW:Well p) {y:Int} (h0:0≤y) (h1:y < p.length):0≤fnd p y∧fnd p y≤y:=by
 unfold fnd
 rw [if_pos (inB_yes h0 h1)]
 exact root_range hW _ y h0 h1
set_option maxHeartbeats 12800000 in
set_option maxRecDepth 100000 in
theorem seg28 {B b g tg:Nat} {w:World} {o:Own} {S:St} {n:Nd} {A:Option Addr} {c:Nat} (E:AddEnv B b g tg w o S n):Seg (addC 15) B b g tg w o S n A c (st7 S n):=by
 intro cb C wx o1 ob kb s1 s2 s4 s5 s7 s8 s9 s13 s14 s15 s16 s17 s18 s19 s20 s21 s22 s23 s24 s25 s26 s27 s28 s29 s30 s31 s32 s33 s34 s35 s36 s37 s38 s39 s40 s41 s42 s43 s44 s45 s46 s47 s48 s49 s50 s51 s52 s53 s54 s55 s56 s57 s58 s59 s60 s61 s62 s63 s64 s65 s66 s67 s68 s69 s70 s71 s72 s73 s74 s75 s76 s77 s78 s79 s80 s81 s82 s83 s84 s85 s86 s87 s88 s89 s90 s91 s92 s93 s94 s95 s96 s97 s98 s99 s100 s101 s102 s103 s104 s105 s106 s107 s108 s109 s110 s111 s112 s113 s114 s115 s116 s117 s118 s119 s120 s121 s122 s123 s124 s125 s126 s127 s128 s129 s130 s131 s132 s133 s134 s135 s136 s137 s138 s139 s140 s141 s142 s143 s144 s145 s146 s147 s148 s149 s150 s151 s152 s153 s154 s155 s156 s157 s158 s159 s160 s161 s162 s163 s164 s165 s166 s167 s168 s169 s170 s171 s172 s173 s174 s175 s176 s177 s178 s179 s180 s181 s182 s183 s184 hA hob hkb
 conv=>arg 2;whnf
 obtain ⟨Ao,co,hBo,hIo⟩:=id hkb
 have hW:=well_snoc E.hS.well
 have hkok:(newKey S n).Ok:=canonN_ok hW (by have:=E.hS.hp;have:=E.few;unfold newP;simp;omega) E.hn
 have hget:=fun wr (hb:Below wx.heap.size wx wr)=>get_calls (B:=B) ((hA.core.below hb).table) (newKey S n) _ Ao co rfl (hIo.held.below hb |> fun h=>by obtain ⟨A',c',e,_,h⟩:=h;injection e with e1 e2 e3;subst e1;exact h) hkok (hA.gl.on hb).tab (hA.gl.on hb).le
 have g5:=hA.core.at5
 have x0:wx.cell? ⟨kb,0,none⟩=some (.int .i64 (newKey S n).op):=(blk_cell hBo.1 0).trans rfl
 have x1:wx.cell? ⟨kb,1,none⟩=some (.int .i64 (newKey S n).width):=(blk_cell hBo.1 1).trans rfl
 have x2:wx.cell? ⟨kb,2,none⟩=some (.int .u64 (newKey S n).val):=(blk_cell hBo.1 2).trans rfl
 have x3:wx.cell? ⟨kb,3,none⟩=some (.string (newKey S n).name):=(blk_cell hBo.1 3).trans rfl
 have x4:wx.cell? ⟨kb,4,none⟩=some (.slice Ao (newKey S n).args.length co):=(blk_cell hBo.1 4).trans rfl
 have L1:=Lib.hid (fun wr (hb:Below wx.heap.size wx wr)=>show wr.cell? ⟨cb,5,none⟩=some (.pointer (some ⟨C.tg,0,none⟩))∧wr.cell? ⟨kb,0,none⟩=some (.int .i64 (newKey S n).op)∧wr.cell? ⟨kb,1,none⟩=some (.int .i64 (newKey S n).width)∧wr.cell? ⟨kb,2,none⟩=some (.int .u64 (newKey S n).val)∧wr.cell? ⟨kb,3,none⟩=some (.string (newKey S n).name)∧wr.cell? ⟨kb,4,none⟩=some (.slice Ao (newKey S n).args.length co)from ⟨pw_cell_below hb g5,pw_cell_below hb x0,pw_cell_below hb x1,pw_cell_below hb x2,pw_cell_below hb x3,pw_cell_below hb x4⟩)
 have HA:=Lib.hid hA
 have HBo:=Lib.hid hBo
 have HIo:=Lib.hid hIo
 have HE:=Lib.hid E
 have HKOK:=Lib.hid hkok
 have HW:=Lib.hid hW
 have ht0:(st7 S n).tab=S.tab:=rfl
 rw [ht0]at hget
 obtain ⟨q0,q1,q2,q3,q4,q5⟩:=L1.out wx.drew (Below.refl _ _).drew
 clear hob hkb hA E hBo hIo x0 x1 x2 x3 x4 g5 hkok hW ht0
 cases hT:S.tab (keyStr (newKey S n))with
 | none =>
  rw [hT]at hget
  simp only [Option.getD_none,Option.isSome_none]at hget
  have han:addNew S n={ grown S n with tab:=putT S.tab (keyStr (newKey S n)) (newId S) }:=by unfold addNew;rw [hT]
  have HAN:=Lib.hid han
  have HT:=Lib.hid hT
  have HGET:=Lib.hid hget
  clear han hT hget
  go_upto_region 28 with fail
  go_region_held3 (fun wr=>wr.cell? ⟨cb,5,none⟩=some (.pointer (some ⟨C.tg,0,none⟩))∧wr.cell? ⟨kb,0,none⟩=some (.int .i64 (newKey S n).op)∧wr.cell? ⟨kb,1,none⟩=some (.int .i64 (newKey S n).width)∧wr.cell? ⟨kb,2,none⟩=some (.int .u64 (newKey S n).val)∧wr.cell? ⟨kb,3,none⟩=some (.string (newKey S n).name)∧wr.cell? ⟨kb,4,none⟩=some (.slice Ao (newKey S n).args.length co))
   ((refine L1.out _ ?_;first | exact (Below.refl _ _).drew | exact (Below.refl _ _).drew.trans HB2.out))
   ((go_at_call 63;refine (HGET.out _ ?_).mono ?_;(exact (Below.refl _ _).drew);rintro e w2 ⟨rfl,hb2⟩;have HB2:=Lib.hid hb2;clear hb2))
  have hb3:=Lib.hid ((Below.refl wx.heap.size wx).drew.trans HB2.out)
  obtain ⟨r0,r1,r2,r3,r4,r5⟩:=L1.out w2.drew hb3.out.drew
  have HA2:=Lib.hid (HA.out.below HE.out.htg HE.out.hb0 hb3.out.drew)
  have kz:=Lib.hid (show Kp (fun _=>False) wx o1 w2.drew (o1.from_ wx.heap.size 0)from ((Kp.refl _ wx o1).renew 0).below hb3.out.drew)
  have hput:=Lib.hid (put_calls (B:=B) (HA2.out.core.table) (by have:=HE.out.hN;show S.N+2≤_;omega) (newKey S n) (.slice Ao (newKey S n).args.length co) (HIo.out.fr kz.out (fun h=>h)).held HKOK.out (newId S) HA2.out.gl.tab HA2.out.gl.le)
  have ht0:(st7 S n).tab=S.tab:=rfl
  rw [ht0,HT.out]at hput
  have HOC:=Lib.hid (show ¬ TabM (b+11) ((o1.from_ wx.heap.size 0) cb) by rw [Own.from_lt (blk_lt HA.out.core.blk.1),HA.out.core.blk.2];unfold TabM;omega)
  have HOO:=Lib.hid (show ¬ TabM (b+11) ((o1.from_ wx.heap.size 0) kb) by rw [Own.from_lt (blk_lt HBo.out.1),HBo.out.2];unfold TabM;omega)
  clear ht0
  go_wp2_with fail
  go_region_held3 (fun wr=>wr.cell? ⟨cb,5,none⟩=some (.pointer (some ⟨C.tg,0,none⟩))∧wr.cell? ⟨kb,0,none⟩=some (.int .i64 (newKey S n).op)∧wr.cell? ⟨kb,1,none⟩=some (.int .i64 (newKey S n).width)∧wr.cell? ⟨kb,2,none⟩=some (.int .u64 (newKey S n).val)∧wr.cell? ⟨kb,3,none⟩=some (.string (newKey S n).name)∧wr.cell? ⟨kb,4,none⟩=some (.slice Ao (newKey S n).args.length co))
   ((first | (refine ⟨?_,?_,?_,?_,?_,?_⟩ <;> assumption) | fail))
   ((go_at_call 46;refine hput.out.mono ?_;rintro e w3 ⟨o3,rfl,hT3,hF3⟩;have k5:=hF3.kp.cell r0 HOC.out;have k0:=hF3.kp.cell r1 HOO.out;have k1:=hF3.kp.cell r2 HOO.out;have k2:=hF3.kp.cell r3 HOO.out;have k3:=hF3.kp.cell r4 HOO.out;have k4:=hF3.kp.cell r5 HOO.out;have HT3:=Lib.hid hT3;have HF3:=Lib.hid hF3;clear hT3 hF3))
  go_wp2
  go_ret2
  have hcore:=HA2.out.core.onTable HF3.out.kp (Nat.le_succ _) HT3.out
  have hfr:=HF3.out.mono (fun _ h=>tab11_core h)
  have hA3:=HA2.out.next HE.out.htg HE.out.hb0 hcore hfr
  rw [HAN.out]
  exact ⟨_,S.L,rfl,⟨cb,_,hA3.gr,hA3.core⟩,Nat.le_succ _,hA3.fr⟩
 | some y =>
  rw [hT]at hget
  simp only [Option.getD_some,Option.isSome_some]at hget
  have han:addNew S n={ grown S n with p:=(newP S).set (mx (fnd (newP S) y) (fnd (newP S) (newId S))).toNat (mn (fnd (newP S) y) (fnd (newP S) (newId S))),t:=S.t++[⟨true,newId S⟩]++[⟨false,mx (fnd (newP S) y) (fnd (newP S) (newId S))⟩] }:=by unfold addNew;rw [hT]
  have hyr:=HE.out.hS.tb _ _ hT
  have HAN:=Lib.hid han
  have HGET:=Lib.hid hget
  have hp:=HE.out.hS.hp
  have hy0:=hyr.1
  have hid0:newId S=(S.ns.length:Int):=by show (S.p.length:Int)=_;rw [hp]
  have hpl:(newP S).length=S.ns.length+1:=by unfold newP;simp [hp]
  have hfy:=fnd_le (p:=newP S) HW.out hyr.1 (by omega)
  have hfn:=fnd_new S
  have HFN:=Lib.hid hfn
  have HFY:=Lib.hid hfy
  have HID0:=Lib.hid hid0
  have HPL:=Lib.hid hpl
  have HYR:=Lib.hid hyr
  clear han hT hget hyr hp hid0 hpl hfy hfn
  go_upto_region 28 with fail
  go_region_held3 (fun wr=>wr.cell? ⟨cb,5,none⟩=some (.pointer (some ⟨C.tg,0,none⟩))∧wr.cell? ⟨kb,0,none⟩=some (.int .i64 (newKey S n).op)∧wr.cell? ⟨kb,1,none⟩=some (.int .i64 (newKey S n).width)∧wr.cell? ⟨kb,2,none⟩=some (.int .u64 (newKey S n).val)∧wr.cell? ⟨kb,3,none⟩=some (.string (newKey S n).name)∧wr.cell? ⟨kb,4,none⟩=some (.slice Ao (newKey S n).args.length co))
   ((refine L1.out _ ?_;first | exact (Below.refl _ _).drew | exact (Below.refl _ _).drew.trans HB2.out))
   ((go_at_call 63;refine (HGET.out _ ?_).mono ?_;(exact (Below.refl _ _).drew);rintro e w2 ⟨rfl,hb2⟩;have HB2:=Lib.hid hb2;clear hb2))
  have hb3:=Lib.hid ((Below.refl wx.heap.size wx).drew.trans HB2.out)
  have HA2:=Lib.hid (HA.out.below HE.out.htg HE.out.hb0 hb3.out)
  have g0:=HA2.out.core.at0
  have hj:=sets_join (HA2.out.core.sets) (show (newP S).length≤1000 by have:=HPL.out;have:=HE.out.few;omega) (show (S.t++[(⟨true,S.p.length⟩:S115)]).length≤1000 by have:=HE.out.htl;simp;omega) HW.out y (newId S) HFY.out.1 (show 0≤fnd (newP S) (newId S) by rw [HFN.out,HID0.out];omega) (show ¬ fnd (newP S) y=fnd (newP S) (newId S) by rw [HFN.out,HID0.out];have:=HFY.out.2;have:=HYR.out;omega)
  have HJ:=Lib.hid hj
  clear hj q0 q1 q2 q3 q4 q5 L1
  go_wp2_with fail
  refine HJ.out.mono ?_
  rintro e w4 ⟨rfl,o4,h4,f4⟩
  have hA4:=HA2.out.next HE.out.htg HE.out.hb0 (HA2.out.core.onSets f4.kp h4) (f4.mono (fun _ h=>setsM_core h))
  have HA4:=Lib.hid hA4
  have g6:=hA4.core.at6
  have hb0:=HE.out.hb0
  clear h4 f4 hA4 HJ g0
  go_wp2_with fail
  refine (forest_link (b:=b+13) (by omega) HA4.out.core.forest (show S.L.length≤900 by have:=HE.out.hLl;omega) y (newId S) (-1) (by have:=HYR.out;have:=HE.out.few;unfold I64;omega) (by have:=HID0.out;have:=HE.out.few;unfold I64;omega) hy0 (by have:=HID0.out;omega)).mono ?_
  rintro e w5 ⟨o5,L5,r5,rfl,h5,hl5,f5⟩
  have hA5:=HA4.out.next HE.out.htg HE.out.hb0 ((HA4.out.core.onForest f5.kp h5).monoN (N:=S.N+3) (show S.N+2≤_ by omega)) (f5.mono (fun _ h=>forM_core (b:=b) h))
  have HA5:=Lib.hid hA5
  have HL5:=Lib.hid (show L5.length≤S.L.length+1 from hl5)
  clear h5 hl5 f5 hA5
  go_wp2
  go_ret2
  rw [HAN.out]
  exact ⟨_,L5,rfl,⟨cb,_,HA5.out.gr,HA5.out.core⟩,HL5.out,HA5.out.fr⟩
end Go.Proofs.YtjckhhecnebmmaaGreatDoor.TU
end
section
namespace Go.Proofs.YtjckhhecnebmmaaGreatDoor.TU
open Go.RowKit Go.Proofs.YtjckhhecnebmmaaGreatDoorW.PrintWords Go.Proofs.YtjckhhecnebmmaaGreatDoorW.PrintLast Go.Proofs.YtjckhhecnebmmaaGreatDoorW.PrintMore Go.Proofs.YtjckhhecnebmmaaGreatDoor.QAll
attribute [local go_sem] max2_int min2_int max_two min_two max_three min_three max_four min_four
set_option linter.unusedVariables false
set_option maxHeartbeats 12800000 in
set_option maxRecDepth 100000 in
theorem add_new {B b g tg:Nat} {w:World} {o:Own} {S:St} (G:Gl B w o) (H:GraphAt b w o g S) (hS:Fine S) (hb0:0 < b) (htg:¬ GraphM b tg) (n:Nd) (hn:n.Ok) (A:Option Addr) (c:Nat) (hr:Row (Kd.int .i64) 3 w o tg (.slice A n.args.length c) n.args) (hf:flawF S n=0) (hid:S.ex (keyStr n)=none) (hin:∀ a∈n.args,0≤a∧a < S.ns.length) (hfew:S.ns.length≤500) (htl:S.t.length≤890) (hLl:S.L.length≤790) (hN:S.N≤1152921504606800000) :
  Calls Tryz.prog 54 #[.pointer (some ⟨g,0,none⟩),.agg (n.cells (.slice A n.args.length c))] w (AddPost B b g w o (newId S) 0 (addNew S n) (S.L.length+1)):=by
 obtain ⟨cb,C,h1,h2⟩:=H
 have hAS:=as_start G h1 h2 n A c hr
 have c0:(w.alloc (.cells (n.cells (.slice A n.args.length c)) 56)).cell? ⟨g,0,none⟩=some (.pointer (some ⟨cb,0,none⟩)):=(blk_cell hAS.gr.1 0).trans rfl
 have hfl:=flaw_calls hAS.core hS n hn _ hAS.held
 rw [hf]at hfl
 have HENV:=Lib.hid (AddEnv.mk (B:=B) (b:=b) (g:=g) (w:=w) (o:=o) hb0 htg hn hS hin hid hfew htl hLl hN)
 have HAS:=Lib.hid hAS
 have HN:=Lib.hid hn
 have HID:=Lib.hid hid
 have HS:=Lib.hid hS
 have HIN:=Lib.hid hin
 have HTL:=Lib.hid htl
 have HLL:=Lib.hid hLl
 have HNN:=Lib.hid hN
 clear hAS h1 h2 hr hf G hS hn hid hin htl hLl hN
 simp only [Nd.cells]at hfl c0 HAS ⊢
 go_enter Tryz.func54,Tryz.ntmps54
 go_wp2_with fail
 refine (gmade_calls c0).mono ?_
 rintro e w' ⟨rfl,rfl⟩
 go_wp2_with fail
 refine hfl.mono ?_
 rintro e w2 ⟨rfl,hb2⟩
 have hA2:=HAS.out.below htg hb0 hb2
 have hget:=fun wr (hb:Below w2.heap.size w2 wr)=>get_calls (B:=B) ((hA2.core.below hb).exact) n _ A c rfl (hA2.held.below hb |> fun h=>by obtain ⟨A',c',e,_,h⟩:=h;injection e with e1 e2 e3;subst e1;exact h) HN.out (hA2.gl.on hb).tab (hA2.gl.on hb).le
 rw [HID.out]at hget
 simp only [Option.getD_none,Option.isSome_none]at hget
 have g4:=hA2.core.at4
 have x0:w2.cell? ⟨w.heap.size,0,none⟩=some (.int .i64 n.op):=(blk_cell hA2.nb.1.1 0).trans rfl
 have x1:w2.cell? ⟨w.heap.size,1,none⟩=some (.int .i64 n.width):=(blk_cell hA2.nb.1.1 1).trans rfl
 have x2:w2.cell? ⟨w.heap.size,2,none⟩=some (.int .u64 n.val):=(blk_cell hA2.nb.1.1 2).trans rfl
 have x3:w2.cell? ⟨w.heap.size,3,none⟩=some (.string n.name):=(blk_cell hA2.nb.1.1 3).trans rfl
 have x4:w2.cell? ⟨w.heap.size,4,none⟩=some (.slice A n.args.length c):=(blk_cell hA2.nb.1.1 4).trans rfl
 have L1:=Lib.hid (fun wr (hb:Below w2.heap.size w2 wr)=>show wr.cell? ⟨cb,4,none⟩=some (.pointer (some ⟨C.eg,0,none⟩))∧wr.cell? ⟨w.heap.size,0,none⟩=some (.int .i64 n.op)∧wr.cell? ⟨w.heap.size,1,none⟩=some (.int .i64 n.width)∧wr.cell? ⟨w.heap.size,2,none⟩=some (.int .u64 n.val)∧wr.cell? ⟨w.heap.size,3,none⟩=some (.string n.name)∧wr.cell? ⟨w.heap.size,4,none⟩=some (.slice A n.args.length c)from ⟨pw_cell_below hb g4,pw_cell_below hb x0,pw_cell_below hb x1,pw_cell_below hb x2,pw_cell_below hb x3,pw_cell_below hb x4⟩)
 have HGET:=Lib.hid hget
 have HA2:=Lib.hid hA2
 obtain ⟨q0,q1,q2,q3,q4,q5⟩:=L1.out w2.drew (Below.refl _ _).drew
 clear hget hA2 x0 x1 x2 x3 x4 g4 hb2 hfl HAS c0
 simp only [Nd.cells]at HGET
 go_upto_region 7 with fail
 go_region_held3 (fun wr=>wr.cell? ⟨cb,4,none⟩=some (.pointer (some ⟨C.eg,0,none⟩))∧wr.cell? ⟨w.heap.size,0,none⟩=some (.int .i64 n.op)∧wr.cell? ⟨w.heap.size,1,none⟩=some (.int .i64 n.width)∧wr.cell? ⟨w.heap.size,2,none⟩=some (.int .u64 n.val)∧wr.cell? ⟨w.heap.size,3,none⟩=some (.string n.name)∧wr.cell? ⟨w.heap.size,4,none⟩=some (.slice A n.args.length c))
  ((refine L1.out _ ?_;first | exact (Below.refl _ _).drew | exact (Below.refl _ _).drew.trans HB3.out))
  ((go_at_call 63;refine (HGET.out _ ?_).mono ?_;(exact (Below.refl _ _).drew);rintro e w3 ⟨rfl,hb3⟩;have HB3:=Lib.hid hb3;clear hb3))
 obtain ⟨o3,hA3⟩:∃ o3,AS B b g cb w.heap.size tg w o n A c w3 o3 C S:=⟨_,HA2.out.below htg hb0 ((Below.refl _ _).drew.trans HB3.out)⟩
 obtain ⟨An,cn,hvn⟩:=hA3.core.nodes.slice
 have g1:=hA3.core.at1
 have g0:=hA3.core.at0
 rw [hvn]at g1
 have HA3:=Lib.hid hA3
 have hmake:=sets_make (hA3.core.sets) (by have:=HS.out.pl;omega) (by have:=HTL.out;omega)
 have HMAKE:=Lib.hid hmake
 clear q0 q1 q2 q3 q4 q5 L1 HGET HA2 HB3 hA3 hvn hmake
 have hl1:¬ (65536:Int)≤(S.ns.length:Int):=by omega
 have hl2:decide ((65536:Int)≤(S.ns.length:Int))=false:=by simpa using hl1
 have hl3:¬ 65536≤S.ns.length:=by omega
 go_upto_region 12 with fail
 go_wp2_with fail
 refine HMAKE.out.mono ?_
 rintro e w4 ⟨rfl,o4,h4,f4⟩
 have hA4:=HA3.out.next htg hb0 (HA3.out.core.onSets f4.kp h4) (f4.mono (fun _ h=>setsM_core h))
 have hcopy:=copy_calls n _ hA4.held HN.out.few
 have x0:w4.cell? ⟨w.heap.size,0,none⟩=some (.int .i64 n.op):=(blk_cell hA4.nb.1.1 0).trans rfl
 have x1:w4.cell? ⟨w.heap.size,1,none⟩=some (.int .i64 n.width):=(blk_cell hA4.nb.1.1 1).trans rfl
 have x2:w4.cell? ⟨w.heap.size,2,none⟩=some (.int .u64 n.val):=(blk_cell hA4.nb.1.1 2).trans rfl
 have x3:w4.cell? ⟨w.heap.size,3,none⟩=some (.string n.name):=(blk_cell hA4.nb.1.1 3).trans rfl
 have x4:w4.cell? ⟨w.heap.size,4,none⟩=some (.slice A n.args.length c):=(blk_cell hA4.nb.1.1 4).trans rfl
 have HA4:=Lib.hid hA4
 simp only [Nd.cells]at hcopy
 have HCOPY:=Lib.hid hcopy
 clear hA4 hcopy h4 f4 HMAKE HA3 g0 g1
 go_upto_region 13 with fail
 go_cut [11] (fun s11 wx=>∃ ob,s11=.pointer (some ⟨ob,0,none⟩)∧Hid (∃ o6,AS B b g cb w.heap.size tg w o n A c wx o6 C (st1 S)∧Box wx o6 ob n))
 case first =>
  go_wp2_with fail
  refine HCOPY.out.mono ?_
  rintro e w5 ⟨v5,rfl,hf5,hb5⟩
  obtain ⟨A5,c5,rfl,_⟩:=id hf5
  have HF5:=Lib.hid hf5
  have HB5:=Lib.hid hb5
  clear hf5 hb5 x0 x1 x2 x3 x4 HCOPY
  go_wp2_with fail
  go_meet
  have hb6:=(below_alloc HB5.out (.cells #[.int .i64 n.op,.int .i64 n.width,.int .u64 n.val,.string n.name,.slice A5 n.args.length c5] 56))
  exact ⟨_,rfl,o4.from_ w4.heap.size 0,HA4.out.below htg hb0 hb6,A5,c5,⟨blk_new w5 _,Own.from_ge HB5.out.size⟩,(HF5.out.below (below_alloc (Below.refl _ _) _)).imm (fun k h=>Own.from_ge h)⟩
 case rest =>
  obtain ⟨ob,rfl,o6,h1,h2⟩:=hcut
  refine (‹∀ (a:Act) (w:World),Code.wp _ _ _ a w→_›) _ _ ?_
  exact seg14 HENV.out (seg15 HENV.out (seg16 HENV.out (seg17 HENV.out (seg18 HENV.out (seg25 HENV.out (seg26 HENV.out (seg28 HENV.out))))))) cb C wc o6 ob _ _ _ _ _ _ _ _ _ _ _ _ _ _ _ _ _ _ _ _ _ _ _ _ _ _ _ _ _ _ _ _ _ _ _ _ _ _ _ _ _ _ _ _ _ _ _ _ _ _ _ _ _ _ _ _ _ _ _ _ _ _ _ _ _ _ _ _ _ _ _ _ _ _ _ _ _ _ _ _ _ _ _ _ _ _ _ _ _ _ _ _ _ _ _ _ _ _ _ _ _ _ _ _ _ _ _ _ _ _ _ _ _ _ _ _ _ _ _ _ _ _ _ _ _ _ _ _ _ _ _ _ _ _ _ _ _ _ _ _ _ _ _ _ _ _ _ _ _ _ _ _ _ _ _ _ _ _ _ _ _ _ _ _ _ _ _ _ _ _ _ _ _ _ _ _ _ _ _ _ h1 h2
noncomputable def addS (S:St) (n:Nd):St × Int × Int :=
 if flawF S n≠0 then (S,0,flawF S n)else match S.ex (keyStr n)with
  | some id=>(S,id,0)
  | none=>(addNew S n,newId S,0)
theorem flaw_args {S:St} {n:Nd} (h:flawF S n=0):∀ a∈n.args,0≤a∧a < S.ns.length:=by
 unfold flawF at h
 have h2:argsIn S n=true:=by
  cases hh:argsIn S n with
  | true=>rfl
  | false =>
   rw [hh]at h
   simp only [if_true]at h
   split at h
   ·omega
   ·split at h
    ·omega
    ·split at h <;> omega
 intro a ha
 unfold argsIn at h2
 have:=List.all_eq_true.1 h2 a ha
 simpa using this
theorem add_calls' {B b g tg:Nat} {w:World} {o:Own} {S:St} (G:Gl B w o) (H:GraphAt b w o g S) (hS:Fine S) (hb0:0 < b) (htg:¬ GraphM b tg) (n:Nd) (hn:n.Ok) (A:Option Addr) (c:Nat) (hr:Row (Kd.int .i64) 3 w o tg (.slice A n.args.length c) n.args) (hfew:S.ns.length≤500) (htl:S.t.length≤890) (hLl:S.L.length≤790) (hN:S.N≤1152921504606800000) :
  Calls Tryz.prog 54 #[.pointer (some ⟨g,0,none⟩),.agg (n.cells (.slice A n.args.length c))] w (AddPost B b g w o (addS S n).2.1 (addS S n).2.2 (addS S n).1 (S.L.length+1)):=by
 by_cases hf:flawF S n=0
 ·cases hid:S.ex (keyStr n)with
  | some id =>
   have e:addS S n=(S,id,0):=by unfold addS;rw [if_neg (by simp [hf]),hid]
   rw [e]
   refine (add_hit G H hS hb0 htg n hn A c hr hf id hid).mono ?_
   rintro e w' ⟨o',L',h1,h2,h3,h4⟩
   exact ⟨o',L',h1,h2,by omega,h4⟩
  | none =>
   have e:addS S n=(addNew S n,newId S,0):=by unfold addS;rw [if_neg (by simp [hf]),hid]
   rw [e]
   exact add_new G H hS hb0 htg n hn A c hr hf hid (flaw_args hf) hfew htl hLl hN
 ·have e:addS S n=(S,0,flawF S n):=by unfold addS;rw [if_pos hf]
  rw [e]
  refine (add_flaw G H hS hb0 htg n hn A c hr hf).mono ?_
  rintro e w' ⟨o',L',h1,h2,h3,h4⟩
  exact ⟨o',L',h1,h2,by omega,h4⟩
end Go.Proofs.YtjckhhecnebmmaaGreatDoor.TU
end
section
namespace Go.Proofs.YtjckhhecnebmmaaGreatDoor.TU
open Go.RowKit Go.Proofs.YtjckhhecnebmmaaGreatDoorW.PrintWords Go.Proofs.YtjckhhecnebmmaaGreatDoorW.PrintLast Go.Proofs.YtjckhhecnebmmaaGreatDoorW.PrintMore Go.Proofs.YtjckhhecnebmmaaGreatDoor.QAll
attribute [local go_sem] max2_int min2_int max_two min_two max_three min_three max_four min_four
set_option linter.unusedVariables false
def TIn (w:World) (o:Own):Nat→Option Addr→List S35→Prop
 | 0,_,l=>l=[]
 | n+1,A,l=>l.length≤9223372036854775807∧∀ (i:Nat) (x:S35),l[i]?=some x→∃ ad Ai ci,A=some ad∧ad.block < w.heap.size∧o ad.block=0∧w.cell? (ad.add (i * 5))=some (.int .i64 x.f0)∧w.cell? (ad.add (i * 5+1))=some (.int .i64 x.f1)∧w.cell? (ad.add (i * 5+2))=some (.int .u64 x.f2)∧w.cell? (ad.add (i * 5+3))=some (.string x.f3)∧w.cell? (ad.add (i * 5+4))=some (.slice Ai x.f4.length ci)∧x.f4.length≤ci∧TIn w o n Ai x.f4
theorem cell_at_block {w w':World} {a b:Addr} (hb:w'.heap[b.block]?=w.heap[b.block]?) (he:a.block=b.block) {v:Value} (h:w.cell? a=some v):w'.cell? a=some v:=(World.cell?_of_block (a:=a) (by rw [he];exact hb)).trans h
theorem TIn.fr {M:Nat→Prop} {w w':World} {o o':Own} (f:Kp M w o w' o') (h0:¬ M 0):∀ (n:Nat) (A:Option Addr) (l:List S35),TIn w o n A l→TIn w' o' n A l:=by
 intro n
 induction n with
 | zero=>intro A l h;exact h
 | succ n ih =>
  intro A l h
  refine ⟨h.1,fun i x hx=>?_⟩
  obtain ⟨ad,Ai,ci,e,hl,ho,a0,a1,a2,a3,a4,hc,hn⟩:=h.2 i x hx
  have hb:=f.block _ hl (by rw [ho];exact h0)
  exact ⟨ad,Ai,ci,e,Nat.lt_of_lt_of_le hl f.size,(f.own _ hl).trans ho,cell_at_block hb (add_block _ _) a0,cell_at_block hb (add_block _ _) a1,cell_at_block hb (add_block _ _) a2,cell_at_block hb (add_block _ _) a3,cell_at_block hb (add_block _ _) a4,hc,ih Ai x.f4 hn⟩
theorem TIn.C {w:World} {o:Own}:∀ (n:Nat) (A:Option Addr) (l:List S35),TIn w o n A l→k35.C w A l.length l:=by
 intro n
 induction n with
 | zero=>intro A l h;subst h;exact ⟨rfl,by simp,fun h=>by simp at h⟩
 | succ n ih =>
  intro A l h
  refine ⟨rfl,h.1,fun hne=>?_⟩
  replace h:=h.2
  have h0:0 < l.length:=by omega
  obtain ⟨ad,_,_,e,_⟩:=h 0 l[0] (List.getElem?_eq_getElem h0)
  refine ⟨ad,e,fun j x hj=>?_⟩
  obtain ⟨ad',Ai,ci,e',_,_,a0,a1,a2,a3,a4,hc,hn⟩:=h j x hj
  obtain rfl:ad=ad':=Option.some.inj (e.symm.trans e')
  refine ⟨_,rfl,k35_mk w x hc (ih Ai x.f4 hn),fun i u hu=>?_⟩
  match i,hu with
  | 0,hu=>rw [← Option.some.inj hu];exact a0
  | 1,hu=>rw [← Option.some.inj hu];exact a1
  | 2,hu=>rw [← Option.some.inj hu];exact a2
  | 3,hu=>rw [← Option.some.inj hu];exact a3
  | 4,hu=>rw [← Option.some.inj hu];exact a4
  | i+5,hu=>simp at hu
theorem TIn.mono {w:World} {o:Own}:∀ (n m:Nat) (A:Option Addr) (l:List S35),n≤m→TIn w o n A l→TIn w o m A l:=by
 intro n
 induction n with
 | zero =>
  intro m A l _ h
  subst h
  cases m with
  | zero=>rfl
  | succ m=>exact ⟨by simp,fun i x hx=>by simp at hx⟩
 | succ n ih =>
  intro m A l hm h
  cases m with
  | zero=>omega
  | succ m =>
   refine ⟨h.1,fun i x hx=>?_⟩
   obtain ⟨ad,Ai,ci,e,hl,ho,a0,a1,a2,a3,a4,hc,hn⟩:=h.2 i x hx
   exact ⟨ad,Ai,ci,e,hl,ho,a0,a1,a2,a3,a4,hc,ih m Ai x.f4 (by omega) hn⟩
theorem TIn.of {w:World} {o:Own} (ho:∀ k,k < w.heap.size→o k=0):∀ (n:Nat) (A:Option Addr) (l:List S35),(Kd.upto F35 5 [35] n).C w A l.length l→TIn w o n A l:=by
 intro n
 induction n with
 | zero =>
  intro A l h
  show l=[]
  cases l with
  | nil=>rfl
  | cons x l =>
   obtain ⟨ad,e,hc⟩:=h.2.2 (by simp)
   obtain ⟨c,_,hK,_⟩:=hc 0 x rfl
   exact hK.elim
 | succ n ih =>
  intro A l h
  refine ⟨h.2.1,fun i x hx=>?_⟩
  have hil:i < l.length:=by
   rcases Nat.lt_or_ge i l.length with h | h
   ·exact h
   ·rw [List.getElem?_eq_none h]at hx;cases hx
  obtain ⟨ad,e,hc⟩:=h.2.2 (by omega)
  obtain ⟨c,hlc,hK,hcell⟩:=hc i x hx
  obtain ⟨_,_,rfl,rfl,⟨_,_,rfl,rfl,⟨_,_,rfl,rfl,⟨_,_,rfl,rfl,⟨A4,c4,rfl,l4,g4⟩⟩⟩⟩⟩:=hK
  have a0:=hcell 0 _ rfl
  have hlt:ad.block < w.heap.size:=by have:=World.block_lt_of_cell? w _ a0;rwa [add_block]at this
  exact ⟨ad,A4,c4,e,hlt,ho _ hlt,a0,hcell 1 _ rfl,hcell 2 _ rfl,hcell 3 _ rfl,hcell 4 _ rfl,l4,ih A4 x.f4 g4⟩
theorem TIn.arg {w:World} {o:Own} (ho:∀ k,k < w.heap.size→o k=0) {A:Option Addr} {l:List S35} (h:k35.C w A l.length l):∃ n,TIn w o n A l:=by
 obtain ⟨n,hn⟩:=Kd.fix_C_back mono35 h
 exact ⟨n,TIn.of ho n A l hn⟩
end Go.Proofs.YtjckhhecnebmmaaGreatDoor.TU
end
