/- Steps towards the law TopUndoes; words printed by the kit, and printed texts, are cut to what is used, and spaces are left out. No condition. -/
import Derived.Test.YtjckhhecnebmmaaGreatDoorZ15
set_option linter.unusedVariables false
set_option linter.unusedSimpArgs false
section
namespace Go.Proofs.YtjckhhecnebmmaaGreatDoor.TU
open Go.RowKit Go.Proofs.YtjckhhecnebmmaaGreatDoorW.PrintWords Go.Proofs.YtjckhhecnebmmaaGreatDoorW.PrintLast Go.Proofs.YtjckhhecnebmmaaGreatDoorW.PrintMore Go.Proofs.YtjckhhecnebmmaaGreatDoor.QAll
attribute [local go_sem] max2_int min2_int max_two min_two max_three min_three max_four min_four
set_option linter.unusedVariables false
def opWidth (op width val:Int) (ws:List Int):Int × Int :=
 if ws.all ins then
  (if op=1∨op=2 then leafW op width val
  else if op=3∨op=4 then (ws.getD 0 0,0)
  else if op=21∨op=22∨op=23 then resizedW op width val (ws.getD 0 0)
  else if op=19 then agreedW (ws.getD 0 0 == 1 && ws.getD 1 0 == ws.getD 2 0) (ws.getD 1 0)
  else if op=20 then agreedW (decide (1≤ws.getD 0 0) && decide (1≤ws.getD 1 0) && decide (ws.getD 0 0+ws.getD 1 0≤64)) (ws.getD 0 0+ws.getD 1 0)
  else if op=16∨op=17∨op=18 then agreedW (ws.getD 0 0 == ws.getD 1 0) 1
  else agreedW (ws.getD 0 0 == ws.getD 1 0) (ws.getD 0 0))
 else (0,3)
theorem ops_cases23 {op:Int} (h:1≤op∧op≤23):op=1∨op=2∨op=3∨op=4∨op=5∨op=6∨op=7∨op=8∨op=9∨op=10∨op=11∨op=12∨op=13∨op=14∨op=15∨op=16∨op=17∨op=18∨op=19∨op=20∨op=21∨op=22∨op=23:=by omega
theorem ins_le {x:Int} (h:ins x=true):0≤x∧x≤64:=by simpa [ins]using h
theorem all_ins {ws:List Int} (h:∀ j,j < ws.length→ins (ws.getD j 0)=true):ws.all ins=true:=by
 rw [List.all_eq_true]
 intro x hx
 obtain ⟨j,hj,rfl⟩:=List.getElem_of_mem hx
 have:=h j hj
 rwa [List.getD_eq_getElem?_getD,List.getElem?_eq_getElem hj]at this
theorem not_all_ins {ws:List Int} {j:Nat} (hj:j < ws.length) (h:ins (ws.getD j 0)=false):ws.all ins=false:=by
 rw [List.all_eq_false]
 refine ⟨ws[j],List.getElem_mem hj,?_⟩
 rw [List.getD_eq_getElem?_getD,List.getElem?_eq_getElem hj]at h
 simpa using h
set_option maxRecDepth 20000 in
set_option maxHeartbeats 12800000 in
theorem width_calls (op width val:Int) (ws:List Int) (va:Value) (w:World) (hop:1≤op∧op≤23) (hl:(ws.length:Int)=arity op) (hA:Held w va ws) :
  Calls Tryz.prog 76 #[.int .i64 op,.int .i64 width,.int .u64 val,va] w fun e w'=>e=.returned (.tuple #[.int .i64 (opWidth op width val ws).1,.int .i64 (opWidth op width val ws).2])∧Below w.heap.size w w':=by
 obtain ⟨A,c,rfl,hlc,hC⟩:=hA
 have hkn:=known_calls op w
 have har:=arity_calls op w
 have hk1:(decide (1≤op) && decide (op≤26))=true:=by simp;omega
 rw [hk1]at hkn
 rw [← hl]at har
 have HC:=Lib.hid hC
 have HOP:=Lib.hid hop
 have HL:=Lib.hid hl
 have hle3:ws.length≤3:=by
  have:arity op≤3:=by
   rcases ops_cases23 hop with rfl | rfl | rfl | rfl | rfl | rfl | rfl | rfl | rfl | rfl | rfl | rfl | rfl | rfl | rfl | rfl | rfl | rfl | rfl | rfl | rfl | rfl | rfl <;> decide
  omega
 clear hk1 hC hop hl
 go_enter Tryz.func76,Tryz.ntmps76
 go_wp2_with (first
  | (go_at_call 86;refine hkn.mono ?_;rintro e w' ⟨rfl,rfl⟩)
  | (go_at_call 73;refine har.mono ?_;rintro e w' ⟨rfl,rfl⟩))
 go_loopw [11,24] (fun v i wr=>wr=w∧∃ (k:Nat),k≤ws.length∧i=.int .i64 k∧Hid (∀ j,j < k→ins (ws.getD j 0)=true)) (fun _ i _=>ws.length - (intOf i).toNat)
 case atStart=>exact ⟨rfl,0,Nat.zero_le _,rfl,fun j h=>by omega⟩
 case round =>
  obtain ⟨rfl,k,hk,rfl,HK⟩:=hrel
  by_cases hlt:k < ws.length
  ·obtain ⟨ad,rfl,hc0⟩:=C_int_at HC.out k hlt
   have hin:=inside_calls (ws.getD k 0) wr
   cases hi:ins (ws.getD k 0)
   ·rw [hi]at hin
    have hr:opWidth op width val ws=(0,3):=by unfold opWidth;rw [not_all_ins hlt hi];rfl
    have HR:=Lib.hid hr
    clear hr hi
    generalize ws.getD k 0=x at *
    go_wp2_with (go_at_call 87;refine hin.mono ?_;rintro e w' ⟨rfl,rfl⟩)
    go_ret2
    exact ⟨by rw [HR.out];rfl,Below.refl _ _⟩
   ·rw [hi]at hin
    have HI:=Lib.hid hi
    clear hi
    generalize hx:ws.getD k 0=x at *
    have HX:=Lib.hid hx
    clear hx
    go_wp2_with (go_at_call 87;refine hin.mono ?_;rintro e w' ⟨rfl,rfl⟩)
    go_roundw
    case rel =>
     refine ⟨by first | rfl | trivial,k+1,by omega,by go_num,fun j hj=>?_⟩
     by_cases e:j=k
     ·subst e;rw [HX.out];exact HI.out
     ·exact HK.out j (by omega)
    case measure=>simp [intOf];omega
  ·have hkl:k=ws.length:=by omega
   subst hkl
   have hall:=all_ins HK.out
   have hat:∀ j,j < ws.length→∃ ad,A=some ad∧wr.cell? (ad.add j)=some (.int .i64 (ws.getD j 0)):=fun j hj=>C_int_at HC.out j hj
   have hin:∀ j,j < ws.length→0≤ws.getD j 0∧ws.getD j 0≤64:=fun j hj=>ins_le (HK.out j hj)
   have hW:=opWidth.eq_1 op width val ws
   rw [if_pos hall]at hW
   have HW:=Lib.hid hW
   have HAT:=Lib.hid hat
   have HIN:=Lib.hid hin
   have hl:=HL.out
   have hop:=HOP.out
   clear HL HOP HK HC hkn har hall hat hin hW hle3 hk hlt
   rcases ops_cases23 hop with h | h | h | h | h | h | h | h | h | h | h | h | h | h | h | h | h | h | h | h | h | h | h
   all_goals
    subst h
    simp only [arity,arityL]at hl
   ·
    have hc:=leaf_calls 1 width val wr
    simp only [true_or,or_true,if_true]at HW
    go_wp2_with (go_at_call 88;refine hc.mono ?_;rintro e w' ⟨rfl,rfl⟩)
    go_ret2
    exact ⟨by rw [HW.out];rfl,Below.refl _ _⟩
   ·
    have hc:=leaf_calls 2 width val wr
    simp only [true_or,or_true,if_true]at HW
    go_wp2_with (go_at_call 88;refine hc.mono ?_;rintro e w' ⟨rfl,rfl⟩)
    go_ret2
    exact ⟨by rw [HW.out];rfl,Below.refl _ _⟩
   ·
    obtain ⟨x,rfl⟩:∃ x,ws=[x]:=by
     match ws,hl with
     | [x],_=>exact ⟨x,rfl⟩
    obtain ⟨ad,rfl,c0⟩:=HAT.out 0 (by simp)
    have i0:=HIN.out 0 (by simp)
    simp only [List.getD_cons_zero,List.getD_cons_succ,List.length_cons,List.length_nil]at c0 i0 hlc
    have c0:wr.cell? ad=some (.int .i64 x):=c0
    go_wp2
    go_ret2
    exact ⟨by rw [HW.out];rfl,Below.refl _ _⟩
   ·
    obtain ⟨x,rfl⟩:∃ x,ws=[x]:=by
     match ws,hl with
     | [x],_=>exact ⟨x,rfl⟩
    obtain ⟨ad,rfl,c0⟩:=HAT.out 0 (by simp)
    have i0:=HIN.out 0 (by simp)
    simp only [List.getD_cons_zero,List.getD_cons_succ,List.length_cons,List.length_nil]at c0 i0 hlc
    have c0:wr.cell? ad=some (.int .i64 x):=c0
    go_wp2
    go_ret2
    exact ⟨by rw [HW.out];rfl,Below.refl _ _⟩
   ·
    obtain ⟨x,y,rfl⟩:∃ x y,ws=[x,y]:=by
     match ws,hl with
     | [x,y],_=>exact ⟨x,y,rfl⟩
    obtain ⟨ad,rfl,c0⟩:=HAT.out 0 (by simp)
    obtain ⟨_,e,c1⟩:=HAT.out 1 (by simp)
    cases e
    have i0:=HIN.out 0 (by simp)
    have i1:=HIN.out 1 (by simp)
    simp only [List.getD_cons_zero,List.getD_cons_succ,List.length_cons,List.length_nil]at c0 c1 i0 i1 hlc
    have c0:wr.cell? ad=some (.int .i64 x):=c0
    have c1:wr.cell? ⟨ad.block,ad.off+1,none⟩=some (.int .i64 y):=c1
    go_wp2
    go_region_held3 (fun w'=>w'.cell? ad=some (.int .i64 x)∧w'.cell? ⟨ad.block,ad.off+1,none⟩=some (.int .i64 y))
     (first | (refine ⟨?_,?_⟩ <;> assumption) | fail)
     ((go_at_call 90;refine (agreed_calls (x == y) x _).mono ?_;rintro e w2 ⟨rfl,rfl⟩))
    go_wp2
    go_ret2
    exact ⟨by rw [HW.out];simp,(Below.refl _ _).drew⟩
   ·
    obtain ⟨x,y,rfl⟩:∃ x y,ws=[x,y]:=by
     match ws,hl with
     | [x,y],_=>exact ⟨x,y,rfl⟩
    obtain ⟨ad,rfl,c0⟩:=HAT.out 0 (by simp)
    obtain ⟨_,e,c1⟩:=HAT.out 1 (by simp)
    cases e
    have i0:=HIN.out 0 (by simp)
    have i1:=HIN.out 1 (by simp)
    simp only [List.getD_cons_zero,List.getD_cons_succ,List.length_cons,List.length_nil]at c0 c1 i0 i1 hlc
    have c0:wr.cell? ad=some (.int .i64 x):=c0
    have c1:wr.cell? ⟨ad.block,ad.off+1,none⟩=some (.int .i64 y):=c1
    go_wp2
    go_region_held3 (fun w'=>w'.cell? ad=some (.int .i64 x)∧w'.cell? ⟨ad.block,ad.off+1,none⟩=some (.int .i64 y))
     (first | (refine ⟨?_,?_⟩ <;> assumption) | fail)
     ((go_at_call 90;refine (agreed_calls (x == y) x _).mono ?_;rintro e w2 ⟨rfl,rfl⟩))
    go_wp2
    go_ret2
    exact ⟨by rw [HW.out];simp,(Below.refl _ _).drew⟩
   ·
    obtain ⟨x,y,rfl⟩:∃ x y,ws=[x,y]:=by
     match ws,hl with
     | [x,y],_=>exact ⟨x,y,rfl⟩
    obtain ⟨ad,rfl,c0⟩:=HAT.out 0 (by simp)
    obtain ⟨_,e,c1⟩:=HAT.out 1 (by simp)
    cases e
    have i0:=HIN.out 0 (by simp)
    have i1:=HIN.out 1 (by simp)
    simp only [List.getD_cons_zero,List.getD_cons_succ,List.length_cons,List.length_nil]at c0 c1 i0 i1 hlc
    have c0:wr.cell? ad=some (.int .i64 x):=c0
    have c1:wr.cell? ⟨ad.block,ad.off+1,none⟩=some (.int .i64 y):=c1
    go_wp2
    go_region_held3 (fun w'=>w'.cell? ad=some (.int .i64 x)∧w'.cell? ⟨ad.block,ad.off+1,none⟩=some (.int .i64 y))
     (first | (refine ⟨?_,?_⟩ <;> assumption) | fail)
     ((go_at_call 90;refine (agreed_calls (x == y) x _).mono ?_;rintro e w2 ⟨rfl,rfl⟩))
    go_wp2
    go_ret2
    exact ⟨by rw [HW.out];simp,(Below.refl _ _).drew⟩
   ·
    obtain ⟨x,y,rfl⟩:∃ x y,ws=[x,y]:=by
     match ws,hl with
     | [x,y],_=>exact ⟨x,y,rfl⟩
    obtain ⟨ad,rfl,c0⟩:=HAT.out 0 (by simp)
    obtain ⟨_,e,c1⟩:=HAT.out 1 (by simp)
    cases e
    have i0:=HIN.out 0 (by simp)
    have i1:=HIN.out 1 (by simp)
    simp only [List.getD_cons_zero,List.getD_cons_succ,List.length_cons,List.length_nil]at c0 c1 i0 i1 hlc
    have c0:wr.cell? ad=some (.int .i64 x):=c0
    have c1:wr.cell? ⟨ad.block,ad.off+1,none⟩=some (.int .i64 y):=c1
    go_wp2
    go_region_held3 (fun w'=>w'.cell? ad=some (.int .i64 x)∧w'.cell? ⟨ad.block,ad.off+1,none⟩=some (.int .i64 y))
     (first | (refine ⟨?_,?_⟩ <;> assumption) | fail)
     ((go_at_call 90;refine (agreed_calls (x == y) x _).mono ?_;rintro e w2 ⟨rfl,rfl⟩))
    go_wp2
    go_ret2
    exact ⟨by rw [HW.out];simp,(Below.refl _ _).drew⟩
   ·
    obtain ⟨x,y,rfl⟩:∃ x y,ws=[x,y]:=by
     match ws,hl with
     | [x,y],_=>exact ⟨x,y,rfl⟩
    obtain ⟨ad,rfl,c0⟩:=HAT.out 0 (by simp)
    obtain ⟨_,e,c1⟩:=HAT.out 1 (by simp)
    cases e
    have i0:=HIN.out 0 (by simp)
    have i1:=HIN.out 1 (by simp)
    simp only [List.getD_cons_zero,List.getD_cons_succ,List.length_cons,List.length_nil]at c0 c1 i0 i1 hlc
    have c0:wr.cell? ad=some (.int .i64 x):=c0
    have c1:wr.cell? ⟨ad.block,ad.off+1,none⟩=some (.int .i64 y):=c1
    go_wp2
    go_region_held3 (fun w'=>w'.cell? ad=some (.int .i64 x)∧w'.cell? ⟨ad.block,ad.off+1,none⟩=some (.int .i64 y))
     (first | (refine ⟨?_,?_⟩ <;> assumption) | fail)
     ((go_at_call 90;refine (agreed_calls (x == y) x _).mono ?_;rintro e w2 ⟨rfl,rfl⟩))
    go_wp2
    go_ret2
    exact ⟨by rw [HW.out];simp,(Below.refl _ _).drew⟩
   ·
    obtain ⟨x,y,rfl⟩:∃ x y,ws=[x,y]:=by
     match ws,hl with
     | [x,y],_=>exact ⟨x,y,rfl⟩
    obtain ⟨ad,rfl,c0⟩:=HAT.out 0 (by simp)
    obtain ⟨_,e,c1⟩:=HAT.out 1 (by simp)
    cases e
    have i0:=HIN.out 0 (by simp)
    have i1:=HIN.out 1 (by simp)
    simp only [List.getD_cons_zero,List.getD_cons_succ,List.length_cons,List.length_nil]at c0 c1 i0 i1 hlc
    have c0:wr.cell? ad=some (.int .i64 x):=c0
    have c1:wr.cell? ⟨ad.block,ad.off+1,none⟩=some (.int .i64 y):=c1
    go_wp2
    go_region_held3 (fun w'=>w'.cell? ad=some (.int .i64 x)∧w'.cell? ⟨ad.block,ad.off+1,none⟩=some (.int .i64 y))
     (first | (refine ⟨?_,?_⟩ <;> assumption) | fail)
     ((go_at_call 90;refine (agreed_calls (x == y) x _).mono ?_;rintro e w2 ⟨rfl,rfl⟩))
    go_wp2
    go_ret2
    exact ⟨by rw [HW.out];simp,(Below.refl _ _).drew⟩
   ·
    obtain ⟨x,y,rfl⟩:∃ x y,ws=[x,y]:=by
     match ws,hl with
     | [x,y],_=>exact ⟨x,y,rfl⟩
    obtain ⟨ad,rfl,c0⟩:=HAT.out 0 (by simp)
    obtain ⟨_,e,c1⟩:=HAT.out 1 (by simp)
    cases e
    have i0:=HIN.out 0 (by simp)
    have i1:=HIN.out 1 (by simp)
    simp only [List.getD_cons_zero,List.getD_cons_succ,List.length_cons,List.length_nil]at c0 c1 i0 i1 hlc
    have c0:wr.cell? ad=some (.int .i64 x):=c0
    have c1:wr.cell? ⟨ad.block,ad.off+1,none⟩=some (.int .i64 y):=c1
    go_wp2
    go_region_held3 (fun w'=>w'.cell? ad=some (.int .i64 x)∧w'.cell? ⟨ad.block,ad.off+1,none⟩=some (.int .i64 y))
     (first | (refine ⟨?_,?_⟩ <;> assumption) | fail)
     ((go_at_call 90;refine (agreed_calls (x == y) x _).mono ?_;rintro e w2 ⟨rfl,rfl⟩))
    go_wp2
    go_ret2
    exact ⟨by rw [HW.out];simp,(Below.refl _ _).drew⟩
   ·
    obtain ⟨x,y,rfl⟩:∃ x y,ws=[x,y]:=by
     match ws,hl with
     | [x,y],_=>exact ⟨x,y,rfl⟩
    obtain ⟨ad,rfl,c0⟩:=HAT.out 0 (by simp)
    obtain ⟨_,e,c1⟩:=HAT.out 1 (by simp)
    cases e
    have i0:=HIN.out 0 (by simp)
    have i1:=HIN.out 1 (by simp)
    simp only [List.getD_cons_zero,List.getD_cons_succ,List.length_cons,List.length_nil]at c0 c1 i0 i1 hlc
    have c0:wr.cell? ad=some (.int .i64 x):=c0
    have c1:wr.cell? ⟨ad.block,ad.off+1,none⟩=some (.int .i64 y):=c1
    go_wp2
    go_region_held3 (fun w'=>w'.cell? ad=some (.int .i64 x)∧w'.cell? ⟨ad.block,ad.off+1,none⟩=some (.int .i64 y))
     (first | (refine ⟨?_,?_⟩ <;> assumption) | fail)
     ((go_at_call 90;refine (agreed_calls (x == y) x _).mono ?_;rintro e w2 ⟨rfl,rfl⟩))
    go_wp2
    go_ret2
    exact ⟨by rw [HW.out];simp,(Below.refl _ _).drew⟩
   ·
    obtain ⟨x,y,rfl⟩:∃ x y,ws=[x,y]:=by
     match ws,hl with
     | [x,y],_=>exact ⟨x,y,rfl⟩
    obtain ⟨ad,rfl,c0⟩:=HAT.out 0 (by simp)
    obtain ⟨_,e,c1⟩:=HAT.out 1 (by simp)
    cases e
    have i0:=HIN.out 0 (by simp)
    have i1:=HIN.out 1 (by simp)
    simp only [List.getD_cons_zero,List.getD_cons_succ,List.length_cons,List.length_nil]at c0 c1 i0 i1 hlc
    have c0:wr.cell? ad=some (.int .i64 x):=c0
    have c1:wr.cell? ⟨ad.block,ad.off+1,none⟩=some (.int .i64 y):=c1
    go_wp2
    go_region_held3 (fun w'=>w'.cell? ad=some (.int .i64 x)∧w'.cell? ⟨ad.block,ad.off+1,none⟩=some (.int .i64 y))
     (first | (refine ⟨?_,?_⟩ <;> assumption) | fail)
     ((go_at_call 90;refine (agreed_calls (x == y) x _).mono ?_;rintro e w2 ⟨rfl,rfl⟩))
    go_wp2
    go_ret2
    exact ⟨by rw [HW.out];simp,(Below.refl _ _).drew⟩
   ·
    obtain ⟨x,y,rfl⟩:∃ x y,ws=[x,y]:=by
     match ws,hl with
     | [x,y],_=>exact ⟨x,y,rfl⟩
    obtain ⟨ad,rfl,c0⟩:=HAT.out 0 (by simp)
    obtain ⟨_,e,c1⟩:=HAT.out 1 (by simp)
    cases e
    have i0:=HIN.out 0 (by simp)
    have i1:=HIN.out 1 (by simp)
    simp only [List.getD_cons_zero,List.getD_cons_succ,List.length_cons,List.length_nil]at c0 c1 i0 i1 hlc
    have c0:wr.cell? ad=some (.int .i64 x):=c0
    have c1:wr.cell? ⟨ad.block,ad.off+1,none⟩=some (.int .i64 y):=c1
    go_wp2
    go_region_held3 (fun w'=>w'.cell? ad=some (.int .i64 x)∧w'.cell? ⟨ad.block,ad.off+1,none⟩=some (.int .i64 y))
     (first | (refine ⟨?_,?_⟩ <;> assumption) | fail)
     ((go_at_call 90;refine (agreed_calls (x == y) x _).mono ?_;rintro e w2 ⟨rfl,rfl⟩))
    go_wp2
    go_ret2
    exact ⟨by rw [HW.out];simp,(Below.refl _ _).drew⟩
   ·
    obtain ⟨x,y,rfl⟩:∃ x y,ws=[x,y]:=by
     match ws,hl with
     | [x,y],_=>exact ⟨x,y,rfl⟩
    obtain ⟨ad,rfl,c0⟩:=HAT.out 0 (by simp)
    obtain ⟨_,e,c1⟩:=HAT.out 1 (by simp)
    cases e
    have i0:=HIN.out 0 (by simp)
    have i1:=HIN.out 1 (by simp)
    simp only [List.getD_cons_zero,List.getD_cons_succ,List.length_cons,List.length_nil]at c0 c1 i0 i1 hlc
    have c0:wr.cell? ad=some (.int .i64 x):=c0
    have c1:wr.cell? ⟨ad.block,ad.off+1,none⟩=some (.int .i64 y):=c1
    go_wp2
    go_region_held3 (fun w'=>w'.cell? ad=some (.int .i64 x)∧w'.cell? ⟨ad.block,ad.off+1,none⟩=some (.int .i64 y))
     (first | (refine ⟨?_,?_⟩ <;> assumption) | fail)
     ((go_at_call 90;refine (agreed_calls (x == y) x _).mono ?_;rintro e w2 ⟨rfl,rfl⟩))
    go_wp2
    go_ret2
    exact ⟨by rw [HW.out];simp,(Below.refl _ _).drew⟩
   ·
    obtain ⟨x,y,rfl⟩:∃ x y,ws=[x,y]:=by
     match ws,hl with
     | [x,y],_=>exact ⟨x,y,rfl⟩
    obtain ⟨ad,rfl,c0⟩:=HAT.out 0 (by simp)
    obtain ⟨_,e,c1⟩:=HAT.out 1 (by simp)
    cases e
    have i0:=HIN.out 0 (by simp)
    have i1:=HIN.out 1 (by simp)
    simp only [List.getD_cons_zero,List.getD_cons_succ,List.length_cons,List.length_nil]at c0 c1 i0 i1 hlc
    have c0:wr.cell? ad=some (.int .i64 x):=c0
    have c1:wr.cell? ⟨ad.block,ad.off+1,none⟩=some (.int .i64 y):=c1
    go_wp2
    go_region_held3 (fun w'=>w'.cell? ad=some (.int .i64 x)∧w'.cell? ⟨ad.block,ad.off+1,none⟩=some (.int .i64 y))
     (first | (refine ⟨?_,?_⟩ <;> assumption) | fail)
     ((go_at_call 90;refine (agreed_calls (x == y) 1 _).mono ?_;rintro e w2 ⟨rfl,rfl⟩))
    go_wp2
    go_ret2
    exact ⟨by rw [HW.out];simp,(Below.refl _ _).drew⟩
   ·
    obtain ⟨x,y,rfl⟩:∃ x y,ws=[x,y]:=by
     match ws,hl with
     | [x,y],_=>exact ⟨x,y,rfl⟩
    obtain ⟨ad,rfl,c0⟩:=HAT.out 0 (by simp)
    obtain ⟨_,e,c1⟩:=HAT.out 1 (by simp)
    cases e
    have i0:=HIN.out 0 (by simp)
    have i1:=HIN.out 1 (by simp)
    simp only [List.getD_cons_zero,List.getD_cons_succ,List.length_cons,List.length_nil]at c0 c1 i0 i1 hlc
    have c0:wr.cell? ad=some (.int .i64 x):=c0
    have c1:wr.cell? ⟨ad.block,ad.off+1,none⟩=some (.int .i64 y):=c1
    go_wp2
    go_region_held3 (fun w'=>w'.cell? ad=some (.int .i64 x)∧w'.cell? ⟨ad.block,ad.off+1,none⟩=some (.int .i64 y))
     (first | (refine ⟨?_,?_⟩ <;> assumption) | fail)
     ((go_at_call 90;refine (agreed_calls (x == y) 1 _).mono ?_;rintro e w2 ⟨rfl,rfl⟩))
    go_wp2
    go_ret2
    exact ⟨by rw [HW.out];simp,(Below.refl _ _).drew⟩
   ·
    obtain ⟨x,y,rfl⟩:∃ x y,ws=[x,y]:=by
     match ws,hl with
     | [x,y],_=>exact ⟨x,y,rfl⟩
    obtain ⟨ad,rfl,c0⟩:=HAT.out 0 (by simp)
    obtain ⟨_,e,c1⟩:=HAT.out 1 (by simp)
    cases e
    have i0:=HIN.out 0 (by simp)
    have i1:=HIN.out 1 (by simp)
    simp only [List.getD_cons_zero,List.getD_cons_succ,List.length_cons,List.length_nil]at c0 c1 i0 i1 hlc
    have c0:wr.cell? ad=some (.int .i64 x):=c0
    have c1:wr.cell? ⟨ad.block,ad.off+1,none⟩=some (.int .i64 y):=c1
    go_wp2
    go_region_held3 (fun w'=>w'.cell? ad=some (.int .i64 x)∧w'.cell? ⟨ad.block,ad.off+1,none⟩=some (.int .i64 y))
     (first | (refine ⟨?_,?_⟩ <;> assumption) | fail)
     ((go_at_call 90;refine (agreed_calls (x == y) 1 _).mono ?_;rintro e w2 ⟨rfl,rfl⟩))
    go_wp2
    go_ret2
    exact ⟨by rw [HW.out];simp,(Below.refl _ _).drew⟩
   ·
    obtain ⟨x,y,z,rfl⟩:∃ x y z,ws=[x,y,z]:=by
     match ws,hl with
     | [x,y,z],_=>exact ⟨x,y,z,rfl⟩
    obtain ⟨ad,rfl,c0⟩:=HAT.out 0 (by simp)
    obtain ⟨_,e,c1⟩:=HAT.out 1 (by simp)
    cases e
    obtain ⟨_,e,c2⟩:=HAT.out 2 (by simp)
    cases e
    simp only [List.getD_cons_zero,List.getD_cons_succ,List.length_cons,List.length_nil]at c0 c1 c2 hlc
    have c0:wr.cell? ad=some (.int .i64 x):=c0
    have c1:wr.cell? ⟨ad.block,ad.off+1,none⟩=some (.int .i64 y):=c1
    have c2:wr.cell? ⟨ad.block,ad.off+2,none⟩=some (.int .i64 z):=c2
    cases hx:(x == 1)
    all_goals
     have HXX:=Lib.hid hx
     go_wp2
     go_quiet (first | (go_at_call 90;refine Calls.quiet_of_same ((agreed_calls _ y _).mono fun _ _ h=>⟨h.1,h.2.symm⟩)))
     go_wp2
     go_ret2
     exact ⟨by rw [HW.out];simp [HXX.out],pw_below_drewN (Below.refl _ _) _⟩
   ·
    obtain ⟨x,y,rfl⟩:∃ x y,ws=[x,y]:=by
     match ws,hl with
     | [x,y],_=>exact ⟨x,y,rfl⟩
    obtain ⟨ad,rfl,c0⟩:=HAT.out 0 (by simp)
    obtain ⟨_,e,c1⟩:=HAT.out 1 (by simp)
    cases e
    have i0:=HIN.out 0 (by simp)
    have i1:=HIN.out 1 (by simp)
    simp only [List.getD_cons_zero,List.getD_cons_succ,List.length_cons,List.length_nil]at c0 c1 i0 i1 hlc
    have c0:wr.cell? ad=some (.int .i64 x):=c0
    have c1:wr.cell? ⟨ad.block,ad.off+1,none⟩=some (.int .i64 y):=c1
    have hw:IntKind.i64.wrap (x+y)=x+y:=IntWalk.i64_in _ (by omega)
    by_cases hx:1≤x
    ·by_cases hy:1≤y
     ·go_wp2
      go_quiet (first | (go_at_call 90;refine Calls.quiet_of_same ((agreed_calls _ (x+y) _).mono fun _ _ h=>⟨h.1,h.2.symm⟩)))
      go_wp2
      go_ret2
      exact ⟨by rw [HW.out];simp [hx,hy,agreedW],pw_below_drewN (Below.refl _ _) _⟩
     ·have hyd:decide (1≤y)=false:=by simpa using hy
      go_wp2
      go_quiet (first | (go_at_call 90;refine Calls.quiet_of_same ((agreed_calls _ (x+y) _).mono fun _ _ h=>⟨h.1,h.2.symm⟩)))
      go_wp2
      go_ret2
      exact ⟨by rw [HW.out];have hny:¬ 1≤y:=(by omega);simp [hx,hny,agreedW],pw_below_drewN (Below.refl _ _) _⟩
    ·have hxd:decide (1≤x)=false:=by simpa using hx
     have hx':x < 1:=by omega
     go_wp2
     go_quiet (first | (go_at_call 90;refine Calls.quiet_of_same ((agreed_calls _ (x+y) _).mono fun _ _ h=>⟨h.1,h.2.symm⟩)))
     go_wp2
     go_ret2
     exact ⟨by rw [HW.out];simp [hx,hxd,agreedW],pw_below_drewN (Below.refl _ _) _⟩
   ·
    obtain ⟨x,rfl⟩:∃ x,ws=[x]:=by
     match ws,hl with
     | [x],_=>exact ⟨x,rfl⟩
    obtain ⟨ad,rfl,c0⟩:=HAT.out 0 (by simp)
    have i0:=HIN.out 0 (by simp)
    simp only [List.getD_cons_zero,List.getD_cons_succ,List.length_cons,List.length_nil]at c0 i0 hlc
    have c0:wr.cell? ad=some (.int .i64 x):=c0
    have hc:=resized_calls 21 width val x i0.2 wr
    go_wp2_with (go_at_call 89;refine hc.mono ?_;rintro e w' ⟨rfl,rfl⟩)
    go_ret2
    exact ⟨by rw [HW.out];rfl,Below.refl _ _⟩
   ·
    obtain ⟨x,rfl⟩:∃ x,ws=[x]:=by
     match ws,hl with
     | [x],_=>exact ⟨x,rfl⟩
    obtain ⟨ad,rfl,c0⟩:=HAT.out 0 (by simp)
    have i0:=HIN.out 0 (by simp)
    simp only [List.getD_cons_zero,List.getD_cons_succ,List.length_cons,List.length_nil]at c0 i0 hlc
    have c0:wr.cell? ad=some (.int .i64 x):=c0
    have hc:=resized_calls 22 width val x i0.2 wr
    go_wp2_with (go_at_call 89;refine hc.mono ?_;rintro e w' ⟨rfl,rfl⟩)
    go_ret2
    exact ⟨by rw [HW.out];rfl,Below.refl _ _⟩
   ·
    obtain ⟨x,rfl⟩:∃ x,ws=[x]:=by
     match ws,hl with
     | [x],_=>exact ⟨x,rfl⟩
    obtain ⟨ad,rfl,c0⟩:=HAT.out 0 (by simp)
    have i0:=HIN.out 0 (by simp)
    simp only [List.getD_cons_zero,List.getD_cons_succ,List.length_cons,List.length_nil]at c0 i0 hlc
    have c0:wr.cell? ad=some (.int .i64 x):=c0
    have hc:=resized_calls 23 width val x i0.2 wr
    go_wp2_with (go_at_call 89;refine hc.mono ?_;rintro e w' ⟨rfl,rfl⟩)
    go_ret2
    exact ⟨by rw [HW.out];rfl,Below.refl _ _⟩
end Go.Proofs.YtjckhhecnebmmaaGreatDoor.TU
end
