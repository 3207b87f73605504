/- Steps towards the law TopUndoes; words printed by the kit, and printed texts, are cut to what is used, and spaces are left out. No condition. -/
import Derived.Test.YtjckhhecnebmmaaGreatDoorZ24
import Derived.RangeFuncNested
import Derived.RangeFuncBound
import Derived.RangeFuncLeaves
import Derived.Shelf.Abstract
import Derived.Shelf.RegionOpen
import Derived.WalkKit
import Derived.OwnWalkIn
import Derived.TacticsInMore
import Derived.LoopNIn
import Derived.LoopIn
set_option linter.unusedVariables false
set_option linter.unusedSimpArgs false
section
namespace Go.Proofs.YtjckhhecnebmmaaGreatDoor.TU
open Go.RowKit Go.Proofs.YtjckhhecnebmmaaGreatDoorW.PrintWords Go.Proofs.YtjckhhecnebmmaaGreatDoorW.PrintLast Go.Proofs.YtjckhhecnebmmaaGreatDoorW.PrintMore Go.Proofs.YtjckhhecnebmmaaGreatDoor.QAll
attribute [local go_sem] max2_int min2_int max_two min_two max_three min_three max_four min_four
set_option linter.unusedVariables false
attribute [local go_sem] Oper.semAt_some
theorem room_of_none' {F:Fence} (hd:F.depth=none) (k:Nat):F.room k:=fun d h=>by rw [hd]at h;cases h
theorem RoundIn.anyD {F:Fence} (hd:F.depth=none) {m m':Nat} {P:Program} {l:Nat} {f:FuncId} {tmps:Array Value} {assign body:Code} {w:World} {R:Ending→World→Prop}
  (h:RoundIn F m P l f tmps assign body w R):RoundIn F m' P l f tmps assign body w R:=⟨h.1,fun c cs _=>h.2 c cs (room_of_none' hd _)⟩
theorem YieldAt.anyD {F:Fence} (hd:F.depth=none) {m:Nat} (m':Nat) {P:Program} {l:Nat} {args:Array Value} {W:World} {R:Ending→World→Prop} (h:YieldAt F m P l args W R):YieldAt F m' P l args W R:=by
 obtain ⟨fn,tmps,assign,body,hy,hR⟩:=h
 exact ⟨fn,tmps,assign,body,hy,RoundIn.anyD hd hR⟩
structure Kx (n0 B:Nat) (W W':World):Prop where
 size:W.heap.size≤W'.heap.size
 block:∀ k,k < W.heap.size→(k < n0∨B≤k)→W'.heap[k]?=W.heap[k]?
section
variable {n0 B:Nat} {W W1 W2:World}
theorem Kx.refl (W:World):Kx n0 B W W:=⟨Nat.le_refl _,fun _ _ _=>rfl⟩
theorem Kx.trans (h:Kx n0 B W W1) (k:Kx n0 B W1 W2):Kx n0 B W W2:=⟨Nat.le_trans h.size k.size,fun j hj ho=>(k.block j (Nat.lt_of_lt_of_le hj h.size) ho).trans (h.block j hj ho)⟩
theorem Kx.of_below (h:Below W.heap.size W W1):Kx n0 B W W1:=⟨h.size,fun k hk _=>h.block k hk⟩
def oB (n0:Nat):Own:=fun k=>if k < n0 then 0 else 1
theorem Kx.kp (h:Kx n0 B W W1):Kp (·=1) W (oB n0) W1 (oB n0):=⟨h.size,fun _ _=>rfl,fun k hk hn=>h.block k hk (.inl (by
 unfold oB at hn
 by_cases hl:k < n0
 ·exact hl
 ·rw [if_neg hl]at hn;exact absurd rfl hn))⟩
theorem Kx.tin (h:Kx n0 B W W1) {k:Nat} {A:Option Addr} {l:List S35} (ht:TIn W (oB n0) k A l):TIn W1 (oB n0) k A l:=TIn.fr h.kp (by omega) _ _ _ ht
theorem Kx.cell (h:Kx n0 B W W1) {a:Addr} {v:Value} (hb:B≤a.block) (hc:W.cell? a=some v):W1.cell? a=some v:=by
 have hl:=World.block_lt_of_cell? W _ hc
 exact (World.cell?_of_block (a:=a) (h.block _ hl (.inr hb))).trans hc
end
def Rw (B:Nat) (W:World) (A:Option Addr) (c:Nat) (l:List S35):Prop:=Kd.R k35 35 W B (fun _=>True) (.slice A l.length c) l
def YPost (n0 B:Nat) (J Jx:List S35→World→Prop) (xs:List S35) (W:World) (e:Ending) (W':World):Prop:=∃ b,e=.returned (.bool b)∧Hid (b=true→J xs W'∧Kx n0 B W W')∧Hid (b=false→Jx xs W')
def Rounds (l n0 B N:Nat) (J Jx:List S35→World→Prop):Prop:=∀ (m:Nat) (pre:List S35) (x:S35) (A:Option Addr) (c:Nat) (W:World),J pre W→B≤W.heap.size→Rw B W A c x.f4→x.f4.length≤1000→pre.length < N →
 YieldAt Fence.wide m Tryz.prog l #[.agg (tcells x A c)] W (YPost n0 B J Jx (pre++[x]) W)
def Stays (B:Nat) (J:List S35→World→Prop):Prop:=∀ pre W W',J pre W→B≤W.heap.size→Below W.heap.size W W'→J pre W'
set_option maxHeartbeats 4000000 in
set_option maxRecDepth 20000 in
theorem y72_calls {l n0 B N:Nat} {J Jx:List S35→World→Prop} (hJ:Stays B J) (hY:Rounds l n0 B N J Jx) (n k:Nat) (t:S35) (A:Option Addr) (c:Nat) (pre:List S35) (W:World) (yb:Nat) (hN:pre.length < N) (h0:J pre W) (hB:B≤W.heap.size) (hwf:WF k t) (hct:countT k t≤1000) (hC:k35.C W A t.f4.length t.f4) (hc:t.f4.length≤c) (hy:W.cell? ⟨yb,0,none⟩=some (.func (.yield l) #[] #[])) :
  CallsIn Fence.wide n Tryz.prog 72 #[.agg (tcells t A c),.pointer (some ⟨yb,0,none⟩)] W (YPost n0 B J Jx (pre++[t]) W):=by
 have hdd:∀ k:Nat,(Fence.wide.depth.isSome=true→1≤k):=fun k h=>by cases h
 obtain ⟨K,hcp⟩:=copy_f k t hwf hct
 have hlen:t.f4.length≤1000:=by
  cases k with
  | zero=>exact hwf.elim
  | succ k =>
   have h1:=countL_ge k t.f4 hwf.2
   have h2:1+countL (countT k) t.f4≤1000:=hct
   omega
 have hb1:=below_alloc (Below.refl W.heap.size W) (.cells (tcells t A c) 35)
 have x0:=blk_new W (.cells (tcells t A c) 35)
 have hcopy:=fun wr (hb:Below W.heap.size W wr)=>term_Copy.calls K t.f0 t.f1 t.f2 t.f3 A c t.f4 _ _ _ _ _ wr (Kd.C_below hC hb) hc hcp
 have HCOPY:=Lib.hid hcopy
 have HB1:=Lib.hid hb1
 have HJ0:=Lib.hid h0
 have HBB:=Lib.hid hB
 have HJ:=Lib.hid hJ
 have HY:=Lib.hid hY
 clear hcopy hcp hb1 hC hc h0 hB hJ hY hwf hct
 simp only [tcells]at *
 refine callsIn_of_wp Tryz.func72 rfl trivial ?_ rfl
 simp only [Tryz.ntmps72,List.size_toArray,List.length_cons,List.length_nil,Nat.reduceAdd,Nat.reduceSub,Array.replicate_succ,Array.replicate_zero,List.push_toArray,List.append_toArray,List.nil_append,List.cons_append]
 gi_wp2
 have hy1:=pw_cell_below HB1.out hy
 have HBW:Hid (Below W.heap.size W (W.alloc (.cells #[.int .i64 t.f0,.int .i64 t.f1,.int .u64 t.f2,.string t.f3,.slice A t.f4.length c] 35)).drew):=Lib.hid (Below.drew HB1.out)
 generalize (W.alloc (.cells #[.int .i64 t.f0,.int .i64 t.f1,.int .u64 t.f2,.string t.f3,.slice A t.f4.length c] 35))=W1 at *
 have c0:W1.drew.cell? ⟨W.heap.size,0,none⟩=some (.int .i64 t.f0):=(blk_cell x0 0).trans rfl
 have c1:W1.drew.cell? ⟨W.heap.size,1,none⟩=some (.int .i64 t.f1):=(blk_cell x0 1).trans rfl
 have c2:W1.drew.cell? ⟨W.heap.size,2,none⟩=some (.int .u64 t.f2):=(blk_cell x0 2).trans rfl
 have c3:W1.drew.cell? ⟨W.heap.size,3,none⟩=some (.string t.f3):=(blk_cell x0 3).trans rfl
 have c4:W1.drew.cell? ⟨W.heap.size,4,none⟩=some (.slice A t.f4.length c):=(blk_cell x0 4).trans rfl
 have cy:W1.drew.cell? ⟨yb,0,none⟩=some (.func (.yield l) #[] #[]):=hy1
 clear x0 hy hy1 HB1
 have hmx:Tryz.prog.follows .mixedOrders=true:=by kernel_rfl
 gi_region_with_o (first
  | (refine ⟨trivial,hdd _,?_⟩;refine (callsIn_wide.2 (HCOPY.out _ HBW.out)).mono ?_;rintro e w3 ⟨v3,rfl,hr3,hb3⟩;obtain ⟨A3,c3',rfl⟩:=Kd.R_slice hr3;have cy3:=pw_cell_below hb3 cy;obtain ⟨fn,tmps,assign,body,hy,hR⟩:=HY.out n pre t A3 c3' w3 (HJ.out _ _ _ HJ0.out HBB.out (HBW.out.trans (hb3.mono HBW.out.size))) (Nat.le_trans HBB.out (Nat.le_trans HBW.out.size hb3.size)) (Kd.R_lower hr3 (Nat.le_trans HBB.out HBW.out.size)) hlen hN;simp only [tcells]at hy;clear c0 c1 c2 c3 c4)
  | ((first | refine ⟨trivial,hdd _,?_⟩ | refine ⟨hdd _,?_⟩ | refine ⟨fun _ h=>(by cases h),hdd _,?_⟩ | skip);refine (RoundIn.anyD rfl hR).mono ?_;clear hR;rintro e W4 ⟨b4,rfl,H4,G4⟩;have HB3:=Lib.hid hb3;clear hb3))
 all_goals gi_wp2
 all_goals go_ret
 all_goals exact ⟨b4,rfl,fun h=>⟨(H4.out h).1,(Kx.of_below (HBW.out.trans (HB3.out.mono HBW.out.size))).trans (H4.out h).2⟩,G4⟩
def postL (f:S35→List S35):List S35→List S35
 | []=>[]
 | u :: l=>f u++postL f l
def postT:Nat→S35→List S35
 | 0,_=>[]
 | k+1,t=>postL (postT k) t.f4++[t]
theorem postL_take (f:S35→List S35):∀ (l:List S35) (i:Nat) (h:i < l.length),postL f (l.take (i+1))=postL f (l.take i)++f l[i]:=by
 intro l
 induction l with
 | nil=>intro i h;simp at h
 | cons u l ih =>
  intro i h
  cases i with
  | zero=>simp [postL]
  | succ i =>
   have:=ih i (by simpa using h)
   simp only [List.take_succ_cons,postL,List.getElem_cons_succ]
   rw [this,List.append_assoc]
theorem postL_pre (f:S35→List S35) (l:List S35) (i:Nat):postL f (l.take i) <+: postL f l:=by
 induction l generalizing i with
 | nil=>simp [postL]
 | cons u l ih =>
  cases i with
  | zero=>simp [postL]
  | succ i =>
   simp only [List.take_succ_cons,postL]
   exact (List.prefix_append_right_inj _).2 (ih i)
theorem TIn.at' {w:World} {o:Own} {n:Nat} {A:Option Addr} {l:List S35} (h:TIn w o (n+1) A l) {i:Nat} {x:S35} (hx:l[i]?=some x) :
  ∃ ad Ai ci,A=some ad∧w.cell? (ad.add (i * 5))=some (.int .i64 x.f0)∧w.cell? ⟨(ad.add (i * 5)).block,(ad.add (i * 5)).off+1,none⟩=some (.int .i64 x.f1)∧w.cell? ⟨(ad.add (i * 5)).block,(ad.add (i * 5)).off+2,none⟩=some (.int .u64 x.f2)∧w.cell? ⟨(ad.add (i * 5)).block,(ad.add (i * 5)).off+3,none⟩=some (.string x.f3)∧w.cell? ⟨(ad.add (i * 5)).block,(ad.add (i * 5)).off+4,none⟩=some (.slice Ai x.f4.length ci)∧x.f4.length≤ci∧TIn w o n Ai x.f4:=by
 obtain ⟨ad,Ai,ci,e,_,_,a0,a1,a2,a3,a4,hc,hn⟩:=h.2 i x hx
 exact ⟨ad,Ai,ci,e,a0,by rw [← add_field _ _ 1 (by omega)];exact a1,by rw [← add_field _ _ 2 (by omega)];exact a2,by rw [← add_field _ _ 3 (by omega)];exact a3,by rw [← add_field _ _ 4 (by omega)];exact a4,hc,hn⟩
def PPost (n0 B:Nat) (J Jx:List S35→World→Prop) (pre l:List S35) (W:World) (e:Ending) (W':World):Prop:=∃ b,e=.returned (.bool b)∧Hid (b=true→J (pre++l) W'∧Kx n0 B W W')∧Hid (b=false→∃ q,q <+: l∧Jx (pre++q) W')
set_option maxHeartbeats 8000000 in
set_option maxRecDepth 20000 in
theorem post_calls {l n0 B N:Nat} {J Jx:List S35→World→Prop} (hJ:Stays B J) (hY:Rounds l n0 B N J Jx):∀ (k n:Nat) (t:S35) (A:Option Addr) (c:Nat) (pre:List S35) (W:World) (yb:Nat),pre.length+(postT (k+1) t).length≤N→J pre W→B≤W.heap.size→B≤yb→TIn W (oB n0) k A t.f4→t.f4.length≤c→countT (k+1) t≤1000→W.cell? ⟨yb,0,none⟩=some (.func (.yield l) #[] #[]) →
  CallsIn Fence.wide n Tryz.prog 71 #[.agg (tcells t A c),.func (.func 72) #[] #[.pointer (some ⟨yb,0,none⟩)]] W (PPost n0 B J Jx pre (postT (k+1) t) W):=by
 intro k
 induction k using Nat.strongRecOn with
 | _ k ih =>
 intro n t A c pre W yb hN h0 hB hyb hT hc hct hy
 have hdd:∀ k:Nat,(Fence.wide.depth.isSome=true→1≤k):=fun k h=>by cases h
 have hb1:=below_alloc (Below.refl W.heap.size W) (.cells (tcells t A c) 35)
 have hwf:=TIn.wf' hT
 have hlen:t.f4.length≤1000:=by
  have h1:=countL_ge k t.f4 hwf.2
  have h2:1+countL (countT k) t.f4≤1000:=hct
  omega
 have HI:=Lib.hid (show ∃ W1,W1=W.alloc (.cells (tcells t A c) 35)∧J (pre++postL (postT k) (t.f4.take 0)) W1∧Kx n0 B W W1∧W1.heap[W.heap.size]?=some (.cells (tcells t A c) 35 (0,0))from ⟨_,rfl,by rw [List.take_zero];show J (pre++[]) _;rw [List.append_nil];exact hJ _ _ _ h0 hB hb1,Kx.of_below hb1,blk_new _ _⟩)
 have HIH:=Lib.hid ih
 have HN:=Lib.hid hN
 have HT:=Lib.hid hT
 have HWF:=Lib.hid hwf
 have HCC:=Lib.hid hc
 have HCT:=Lib.hid hct
 have HBB:=Lib.hid hB
 have HYB:=Lib.hid hyb
 have HJ:=Lib.hid hJ
 have HY:=Lib.hid hY
 have HYC:=Lib.hid hy
 clear ih hN hT hwf hc hct hB hyb hJ hY hy h0 hb1
 simp only [tcells]at *
 refine callsIn_of_wp Tryz.func71 rfl trivial ?_ rfl
 simp only [Tryz.ntmps71,List.size_toArray,List.length_cons,List.length_nil,Nat.reduceAdd,Nat.reduceSub,Array.replicate_succ,Array.replicate_zero,List.push_toArray,List.append_toArray,List.nil_append,List.cons_append]
 gi_wp2
 obtain ⟨W1,eW1,j1,k1,tb1⟩:=HI.out
 rw [← eW1]
 have HT1:=Lib.hid (k1.tin HT.out)
 have HJ1:=Lib.hid j1
 have HK1:=Lib.hid k1
 have HTB1:=Lib.hid tb1
 clear HI eW1 j1 k1 tb1
 gi_loopw [10] (fun s wr=>∃ (i:Nat),i≤t.f4.length∧s=.int .i64 i∧Hid (J (pre++postL (postT k) (t.f4.take i)) wr∧Kx n0 B W1 wr)) (fun s _=>t.f4.length - (intOf s).toNat)
 case atStart=>exact ⟨0,Nat.zero_le _,rfl,HJ1.out,Kx.refl _⟩
 case round =>
  obtain ⟨i,hi,rfl,hi1⟩:=hrel
  have HJI:=Lib.hid hi1.out.1
  have HKI:=Lib.hid hi1.out.2
  clear hi1
  by_cases hlt:i < t.f4.length
  ·cases k with
   | zero =>
    have h:t.f4=[]:=HT.out
    rw [h]at hlt
    simp at hlt
   | succ k =>
    obtain ⟨ad,Au,cu,rfl,a0,a1,a2,a3,a4,hcu,htu⟩:=TIn.at' (HKI.out.tin HT1.out) (List.getElem?_eq_getElem hlt)
    have hwu:=HWF.out.2 _ (List.getElem_mem hlt)
    have htk:=postL_take (postT (k+1)) t.f4 i hlt
    have hcm:=countL_mem (f:=countT (k+1)) (List.getElem_mem hlt)
    have hpx:=postL_pre (postT (k+1)) t.f4 (i+1)
    rw [htk]at hpx
    generalize t.f4[i]=u at *
    have hb3:=below_alloc (Below.refl wr.heap.size wr) (.cells (tcells u Au cu) 35)
    have hBr:B≤wr.heap.size:=Nat.le_trans HBB.out (Nat.le_trans HK1.out.size HKI.out.size)
    have hcall:=HIH.out k (by omega) (n - 1) u Au cu (pre++postL (postT (k+1)) (t.f4.take i)) (wr.alloc (.cells (tcells u Au cu) 35)) yb (by
     have h1:=hpx.length_le
     have h2:=HN.out
     have h3:(postT (k+1+1) t).length=(postL (postT (k+1)) t.f4).length+1:=by show (postL (postT (k+1)) t.f4++[t]).length=_;rw [List.length_append];rfl
     rw [List.length_append]at h1 ⊢
     omega) (HJ.out _ _ _ HJI.out hBr hb3) (Nat.le_trans hBr hb3.size) HYB.out ((Kx.of_below hb3:Kx n0 B wr _).tin htu) hcu (by
     have h2:1+countL (countT (k+1)) t.f4≤1000:=HCT.out
     omega) ((Kx.of_below hb3:Kx n0 B wr _).cell HYB.out (HKI.out.cell HYB.out (HK1.out.cell HYB.out HYC.out)))
    have HCALL:=Lib.hid hcall
    have HTK:=Lib.hid htk
    have HPX:=Lib.hid hpx
    have HB3:=Lib.hid hb3
    clear hcall hwu htk hcm htu hpx hb3
    simp only [tcells]at HCALL HB3
    gi_wp2
    refine ⟨trivial,hdd _,?_⟩
    refine HCALL.out.mono ?_
    clear HCALL
    rintro e w2 ⟨b2,rfl,hg2,hx2⟩
    cases b2 with
    | true =>
     have HG2:=Lib.hid (hg2.out rfl)
     clear hg2 hx2
     gi_wp2
     go_roundw
     case rel=>exact ⟨i+1,by omega,by go_num,by rw [HTK.out,← List.append_assoc];exact HG2.out.1,HKI.out.trans ((Kx.of_below HB3.out).trans HG2.out.2)⟩
     case measure=>first | (simp [intOf];done) | (simp [intOf];omega)
    | false =>
     obtain ⟨q,hq,hjx⟩:=hx2.out rfl
     clear hg2 hx2
     gi_wp2
     go_ret
     refine ⟨false,rfl,(fun h=>by cases h),fun _=>⟨postL (postT (k+1)) (t.f4.take i)++q,?_,by rw [← List.append_assoc];exact hjx⟩⟩
     exact (((List.prefix_append_right_inj _).2 hq).trans HPX.out).trans (List.prefix_append _ _)
  ·have hil:i=t.f4.length:=by omega
   have hx:=blk_cell ((HKI.out.block _ (blk_lt HTB1.out) (.inr HBB.out)).trans HTB1.out)
   have x0:wr.cell? ⟨W.heap.size,0,none⟩=some (.int .i64 t.f0):=(hx 0).trans rfl
   have x1:wr.cell? ⟨W.heap.size,1,none⟩=some (.int .i64 t.f1):=(hx 1).trans rfl
   have x2:wr.cell? ⟨W.heap.size,2,none⟩=some (.int .u64 t.f2):=(hx 2).trans rfl
   have x3:wr.cell? ⟨W.heap.size,3,none⟩=some (.string t.f3):=(hx 3).trans rfl
   have x4:wr.cell? ⟨W.heap.size,4,none⟩=some (.slice A t.f4.length c):=(hx 4).trans rfl
   have hcall:=y72_calls HJ.out HY.out (n - 1) (k+1) t A c (pre++postL (postT k) (t.f4.take i)) wr yb (by
    have h2:=HN.out
    have h3:(postT (k+1) t).length=(postL (postT k) t.f4).length+1:=by show (postL (postT k) t.f4++[t]).length=_;rw [List.length_append];rfl
    rw [List.length_append,hil,List.take_length]
    omega) HJI.out (Nat.le_trans HBB.out (Nat.le_trans HK1.out.size HKI.out.size)) HWF.out HCT.out (TIn.C _ _ _ (HKI.out.tin HT1.out)) HCC.out (HKI.out.cell HYB.out (HK1.out.cell HYB.out HYC.out))
   rw [hil,List.take_length,List.append_assoc]at hcall
   have HCALL:=Lib.hid hcall
   clear hx hcall
   subst hil
   simp only [tcells]at HCALL
   gi_wp2
   refine ⟨trivial,hdd _,?_⟩
   refine HCALL.out.mono ?_
   clear HCALL
   rintro e w2 ⟨b2,rfl,hg2,hx2⟩
   gi_wp2
   go_ret
   exact ⟨b2,rfl,fun h=>⟨(hg2.out h).1,HK1.out.trans (HKI.out.trans (hg2.out h).2)⟩,fun h=>⟨_,List.prefix_refl _,hx2.out h⟩⟩
theorem postL_count (k:Nat) (ih:∀ t,WF k t→(postT k t).length=countT k t):∀ l:List S35,(∀ u∈l,WF k u)→(postL (postT k) l).length=countL (countT k) l:=by
 intro l
 induction l with
 | nil=>intro _;rfl
 | cons u l ihl =>
  intro h
  show (postT k u++postL (postT k) l).length=countT k u+countL (countT k) l
  rw [List.length_append,ih u (h u (List.mem_cons_self ..)),ihl (fun v hv=>h v (List.mem_cons_of_mem _ hv))]
theorem postT_count:∀ (k:Nat) (t:S35),WF k t→(postT k t).length=countT k t:=by
 intro k
 induction k with
 | zero=>intro t h;exact h.elim
 | succ k ih =>
  intro t h
  show (postL (postT k) t.f4++[t]).length=1+countL (countT k) t.f4
  rw [List.length_append,postL_count k ih _ h.2,List.length_singleton]
  omega
set_option maxHeartbeats 4000000 in
set_option maxRecDepth 20000 in
theorem all70_calls {l n0 B N:Nat} {J Jx:List S35→World→Prop} (hJ:Stays B J) (hY:Rounds l n0 B N J Jx) (k n:Nat) (t:S35) (A:Option Addr) (c:Nat) (W:World) (tb:Nat) (htb:W.heap[tb]?=some (.cells (tcells t A c) 35 (0,0))) (hN:(postT (k+1) t).length≤N) (h0:J [] W) (hB:B≤W.heap.size) (hT:TIn W (oB n0) k A t.f4) (hc:t.f4.length≤c) (hct:countT (k+1) t≤1000) :
  CallsIn Fence.wide n Tryz.prog 70 #[.func (.yield l) #[] #[],.pointer (some ⟨tb,0,none⟩)] W fun e W'=>(∃ v,e=.returned v)∧(J (postT (k+1) t) W'∨∃ q,q <+: postT (k+1) t∧Jx q W'):=by
 have hdd:∀ k:Nat,(Fence.wide.depth.isSome=true→1≤k):=fun k h=>by cases h
 have hb1:=below_alloc (Below.refl W.heap.size W) (.cells #[.func (.yield l) #[] #[]] 124)
 have hcall:=post_calls hJ hY k (n - 1) t A c [] (W.alloc (.cells #[.func (.yield l) #[] #[]] 124)) W.heap.size (by simpa using hN) (hJ _ _ _ h0 hB hb1) (Nat.le_trans hB hb1.size) hB ((Kx.of_below hb1:Kx n0 B W _).tin hT) hc hct (blk_cell (blk_new W _) 0 |>.trans rfl)
 have HCALL:=Lib.hid hcall
 have hx:=blk_cell (blk_below htb hb1)
 have x0:(W.alloc (.cells #[.func (.yield l) #[] #[]] 124)).cell? ⟨tb,0,none⟩=some (.int .i64 t.f0):=(hx 0).trans rfl
 have x1:(W.alloc (.cells #[.func (.yield l) #[] #[]] 124)).cell? ⟨tb,1,none⟩=some (.int .i64 t.f1):=(hx 1).trans rfl
 have x2:(W.alloc (.cells #[.func (.yield l) #[] #[]] 124)).cell? ⟨tb,2,none⟩=some (.int .u64 t.f2):=(hx 2).trans rfl
 have x3:(W.alloc (.cells #[.func (.yield l) #[] #[]] 124)).cell? ⟨tb,3,none⟩=some (.string t.f3):=(hx 3).trans rfl
 have x4:(W.alloc (.cells #[.func (.yield l) #[] #[]] 124)).cell? ⟨tb,4,none⟩=some (.slice A t.f4.length c):=(hx 4).trans rfl
 clear hcall hx hJ hY htb hN h0 hB hT hct hb1
 simp only [tcells]at HCALL
 refine callsIn_of_wp Tryz.func70 rfl trivial ?_ rfl
 simp only [Tryz.ntmps70,List.size_toArray,List.length_cons,List.length_nil,Nat.reduceAdd,Nat.reduceSub,Array.replicate_succ,Array.replicate_zero,List.push_toArray,List.append_toArray,List.nil_append,List.cons_append]
 gi_wp2
 refine ⟨trivial,hdd _,?_⟩
 refine HCALL.out.mono ?_
 clear HCALL
 rintro e w2 ⟨b2,rfl,hg2,hx2⟩
 gi_wp2
 go_end0
 refine ⟨⟨_,rfl⟩,?_⟩
 cases b2 with
 | true=>exact .inl (hg2.out rfl).1
 | false=>exact .inr (hx2.out rfl)
theorem all_calls (t:S35) (A:Option Addr) (c:Nat) (w:World) :
  Calls Tryz.prog 51 #[.agg (tcells t A c)] w fun e w'=>e=.returned (.func (.func 70) #[] #[.pointer (some ⟨w.heap.size,0,none⟩)])∧w'=w.alloc (.cells (tcells t A c) 35):=by
 simp only [tcells]
 go_enter Tryz.func51,Tryz.ntmps51
 go_wp2
 go_ret
 exact ⟨rfl,rfl⟩
end Go.Proofs.YtjckhhecnebmmaaGreatDoor.TU
end
section
namespace Go.Proofs.YtjckhhecnebmmaaGreatDoor.TU
open Go.RowKit Go.Proofs.YtjckhhecnebmmaaGreatDoorW.PrintWords Go.Proofs.YtjckhhecnebmmaaGreatDoorW.PrintLast Go.Proofs.YtjckhhecnebmmaaGreatDoorW.PrintMore Go.Proofs.YtjckhhecnebmmaaGreatDoor.QAll
attribute [local go_sem] max2_int min2_int max_two min_two max_three min_three max_four min_four
set_option linter.unusedVariables false
attribute [local go_sem] Oper.semAt_some
def BPost (n0 n1:Nat) (I:List S35→World→Prop) (Ix:Code→List S35→World→Prop) (xs:List S35) (W:World):Exit→Act→World→Prop
 | .normal,_,W'=>Kx n0 n1 W W'∧I xs W'
 | .ret,_,W'=>Kx n0 n1 W W'∧Ix .ret xs W'
 | _,_,_=>False
theorem kx_putObj {n0 B:Nat} {W:World} {l:Nat} (o:Obj) (h0:n0≤l) (hB:l < B):Kx n0 B W (W.putObj l o):=⟨by simp,fun k _ ho=>World.putObj_heap_other (by omega)⟩
theorem below_putObj {n1:Nat} {W:World} {l:Nat} (o:Obj) (h:n1≤l):Below n1 W (W.putObj l o):=⟨rfl,rfl,rfl,by simp,fun k hk=>World.putObj_heap_other (by omega)⟩
theorem Kx.narrow {n0 B B':Nat} {W W1:World} (h:Kx n0 B W W1) (hB:B≤B'):Kx n0 B' W W1:=⟨h.size,fun k hk ho=>h.block k hk (by omega)⟩
theorem range_terms {n n0 k N:Nat} {g:Operand} {ps:Array Tmp} {assign body:Code} {Q:Exit→Act→World→Prop} {a:Act} {w:World} {tb:Nat} {t:S35} {A:Option Addr} {c:Nat}
  (hg:a.eval g=.func (.func 70) #[] #[.pointer (some ⟨tb,0,none⟩)]) (htb:w.heap[tb]?=some (.cells (tcells t A c) 35 (0,0))) (hN:(postT (k+1) t).length≤N) (hT:TIn w (oB n0) k A t.f4) (hc:t.f4.length≤c) (hct:countT (k+1) t≤1000) (hn0:n0≤w.heap.size) (hps:ps.size=1)
  (I:List S35→World→Prop) (Ix:Code→List S35→World→Prop) (hI:∀ pre W W',I pre W→Below w.heap.size W W'→I pre W') (hIx:∀ c pre W W',Ix c pre W→Below w.heap.size W W'→Ix c pre W') (h0:I [] w) (tmps':S35→Option Addr→Nat→Nat→Array Value)
  (hassign:∀ (l:Nat) (x:S35) (A:Option Addr) (c:Nat) (W:World) (K:Act→World→Prop),K { tmps:=tmps' x A c W.heap.size,defers:=[] } (W.alloc (.cells (tcells x A c) 35)) →
   assign.wpIn (Fence.wide.inRound l) (n - 1 - 1) Tryz.prog (Exit.then K (fun _ _ _=>False)) { tmps:=(ps.zip #[.agg (tcells x A c)]).foldl (fun t (p,v)=>t.setIfInBounds p v) a.tmps,defers:=[] } W)
  (hbody:∀ (l:Nat) (pre:List S35) (x:S35) (A:Option Addr) (c ub:Nat) (W:World),I pre W→w.heap.size≤ub→W.heap[ub]?=some (.cells (tcells x A c) 35 (0,0))→Rw (w.heap.size+2) W A c x.f4→x.f4.length≤1000→pre.length < N →
   body.wpIn (Fence.wide.inRound l) (n - 1 - 1) Tryz.prog (BPost n0 w.heap.size I Ix (pre++[x]) W) { tmps:=tmps' x A c ub,defers:=[] } W)
  (hdone:∀ (D:Nat) (W:World),w.heap.size≤D→I (postT (k+1) t) W→W.heap[D]?=some (.deferred (some []))→Q .normal { a with defers:={ target:=.collected D,args:=#[] } :: a.defers } W)
  (hstop:∀ (D:Nat) (q:List S35) (W:World),w.heap.size≤D→q <+: postT (k+1) t→Ix .ret q W→W.heap[D]?=some (.deferred (some []))→Code.ret.wpIn Fence.wide n Tryz.prog Q { a with defers:={ target:=.collected D,args:=#[] } :: a.defers } W) :
  (Code.rangeFunc g ps assign body).wpIn Fence.wide n Tryz.prog Q a w:=by
 have hdd:∀ k:Nat,(Fence.wide.depth.isSome=true→1≤k):=fun k h=>by cases h
 refine wpIn_rangeFunc ?_
 intro fn hfn
 obtain ⟨rec,hrec⟩:∃ rec:LoopState→Option Code→Loop,rec=fun st pe=>{ state:=st,pending:=pe,fn,tmps:=a.tmps,params:=ps,assign,body,defers:=w.heap.size }:=⟨_,rfl⟩
 obtain ⟨W1,hW1⟩:∃ W1,(w.alloc (.deferred (some []))).alloc (.loop (rec .ready none))=W1:=⟨_,rfl⟩
 have hL1:W1.heap[w.heap.size+1]?=some (.loop (rec .ready none)):=by
  rw [← hW1];have:=World.alloc_heap_new (w.alloc (.deferred (some []))) (.loop (rec .ready none));rwa [World.size_alloc]at this
 have hK1:W1.heap[w.heap.size]?=some (.deferred (some [])):=by
  rw [← hW1];exact (Below.heap_alloc _ _ _ (by simp)).trans (World.alloc_heap_new w _)
 have hs1:W1.heap.size=w.heap.size+2:=by rw [← hW1];simp
 have hb1:Below w.heap.size w W1:=by
  rw [← hW1];exact below_alloc (below_alloc (Below.refl _ _) _) _
 have hI1:I [] W1:=hI _ _ _ h0 hb1
 refine ⟨w.heap.size+1,[{ target:=.collected w.heap.size,args:=#[] }],W1,{ target:=.fn (.func 70) #[.pointer (some ⟨tb,0,none⟩)],args:=#[.func (.yield (w.heap.size+1)) #[] #[]] },W1,70,
  #[.func (.yield (w.heap.size+1)) #[] #[]]++#[.pointer (some ⟨tb,0,none⟩)],W1,?_,?_,?_,?_,hdd _,?_⟩
 ·rw [← hW1,hrec];exact run_enterLoop_outer _ _ _ _ _
 ·simp only [resolve,hg]
  simp [go_sem]
 ·intro f' hf';trivial
 ·simp [invoke,go_sem,enters_of Tryz.func70 (by kernel_rfl) rfl]
 ·refine (all70_calls (l:=w.heap.size+1) (n0:=n0) (B:=w.heap.size+2) (N:=N)
   (J:=fun pre W=>I pre W∧W.heap[w.heap.size+1]?=some (.loop (rec .ready none))∧W.heap[w.heap.size]?=some (.deferred (some [])))
   (Jx:=fun pre W=>Ix .ret pre W∧W.heap[w.heap.size+1]?=some (.loop (rec .done (some .ret)))∧W.heap[w.heap.size]?=some (.deferred (some [])))
   ?_ ?_ k (n - 1) t A c W1 tb (blk_below htb hb1) hN ⟨hI1,hL1,hK1⟩ (by omega) ((Kx.of_below hb1:Kx n0 (w.heap.size+2) w W1).tin hT) hc hct).mono ?_
  ·rintro pre W W' ⟨hi,hl,hk⟩ hB hb
   exact ⟨hI _ _ _ hi (hb.mono (by omega)),(hb.block _ (blk_lt hl)).trans hl,(hb.block _ (blk_lt hk)).trans hk⟩
  ·rintro m pre x Ax cx W ⟨hi,hl,hk⟩ hB hrw hx hlen
   have hlt:w.heap.size+1 < W.heap.size:=blk_lt hl
   have hy:=run_yield (P:=Tryz.prog) (args:=#[.agg (tcells x Ax cx)]) hl (by rw [hrec];exact hps.symm)
   rw [hrec]at hy
   refine ⟨fn,_,assign,body,hy,RoundIn.anyD rfl (roundIn_of_wpIn (n:=n - 1 - 1) hfn (hassign (w.heap.size+1) x Ax cx W _ ?_))⟩
   clear hy
   have hba:=below_alloc (Below.refl W.heap.size W) (.cells (tcells x Ax cx) 35)
   have hbx:=blk_new W (.cells (tcells x Ax cx) 35)
   have hsz:(W.alloc (.cells (tcells x Ax cx) 35)).heap.size=W.heap.size+1:=by simp
   generalize W.alloc (.cells (tcells x Ax cx) 35)=Wa at *
   replace hl:=blk_below hl hba
   replace hk:=blk_below hk hba
   replace hi:=hI _ _ _ hi (hba.mono (by omega))
   replace hrw:Rw (w.heap.size+2) Wa Ax cx x.f4:=Kd.R_below hrw hba
   refine ⟨_,run_beginRound hl (by rw [hrec]),?_⟩
   have hl2:(Wa.putObj (w.heap.size+1) (.loop { rec .ready none with state:=.busy })).heap[w.heap.size+1]?=some (.loop { rec .ready none with state:=.busy }):=World.putObj_heap_same (by omega)
   have hk2:(Wa.putObj (w.heap.size+1) (.loop { rec .ready none with state:=.busy })).heap[w.heap.size]?=some (.deferred (some [])):=(World.putObj_heap_other (by omega)).trans hk
   have hbx2:(Wa.putObj (w.heap.size+1) (.loop { rec .ready none with state:=.busy })).heap[W.heap.size]?=some (.cells (tcells x Ax cx) 35 (0,0)):=(World.putObj_heap_other (by omega)).trans hbx
   have hi2:=hI _ _ _ hi (below_putObj (W:=Wa) (.loop { rec .ready none with state:=.busy }) (show w.heap.size≤w.heap.size+1 by omega))
   have hrw2:Rw (w.heap.size+2) (Wa.putObj (w.heap.size+1) (.loop { rec .ready none with state:=.busy })) Ax cx x.f4:=by
    have h:=Kd.R_bound hrw
    exact Kd.R_mono (Kd.R_move h (fun k hk=>World.putObj_heap_other (by have:=hk.2.1;omega))) (fun _ _=>trivial)
   have hk2x:Kx n0 (w.heap.size+2) W (Wa.putObj (w.heap.size+1) (.loop { rec .ready none with state:=.busy })):=(Kx.of_below hba).trans (kx_putObj _ (by omega) (by omega))
   generalize Wa.putObj (w.heap.size+1) (.loop { rec .ready none with state:=.busy })=W2 at *
   refine wpIn_mono (hbody (w.heap.size+1) pre x Ax cx W.heap.size W2 hi2 (by omega) hbx2 hrw2 hx hlen) ?_
   rintro e a3 W3 hp
   have fin:∀ (jump:Option Code),Kx n0 w.heap.size W2 W3 →
     (Instr.endRound (w.heap.size+1) jump).run Tryz.prog W3=.ok (.bool jump.isNone) (W3.putObj (w.heap.size+1) (.loop (rec (if jump.isNone then .ready else .done) jump))) ∧
     (W3.putObj (w.heap.size+1) (.loop (rec (if jump.isNone then .ready else .done) jump))).heap[w.heap.size+1]?=some (.loop (rec (if jump.isNone then .ready else .done) jump)) ∧
     (W3.putObj (w.heap.size+1) (.loop (rec (if jump.isNone then .ready else .done) jump))).heap[w.heap.size]?=some (.deferred (some [])):=fun jump hk3=>by
    have hl3:=(hk3.block _ (blk_lt hl2) (.inr (by omega))).trans hl2
    have:=run_endRound (P:=Tryz.prog) jump hl3
    rw [hrec]at this ⊢
    exact ⟨this,World.putObj_heap_same (blk_lt hl3),(World.putObj_heap_other (by omega)).trans ((hk3.block _ (blk_lt hk2) (.inr (by omega))).trans hk2)⟩
   cases e with
   | normal =>
    obtain ⟨hk3,hi3⟩:=hp
    obtain ⟨hr,hl4,hk4⟩:=fin none hk3
    exact ⟨_,_,hr,true,rfl,fun _=>⟨⟨hI _ _ _ hi3 (below_putObj _ (by omega)),hl4,hk4⟩,hk2x.trans ((hk3.narrow (by omega)).trans (kx_putObj _ (by omega) (by omega)))⟩,(fun h=>by cases h)⟩
   | ret =>
    obtain ⟨hk3,hi3⟩:=hp
    obtain ⟨hr,hl4,hk4⟩:=fin (some .ret) hk3
    exact ⟨_,_,hr,false,rfl,(fun h=>by cases h),fun _=>⟨hIx _ _ _ _ hi3 (below_putObj _ (by omega)),hl4,hk4⟩⟩
   | exit id=>exact hp.elim
   | goto t=>exact hp.elim
   | panic ch=>exact hp.elim
   | outgrown=>exact hp.elim
  ·rintro e W2 ⟨⟨v,rfl⟩,(⟨hi,hl,hk⟩ | ⟨q,hq,hi,hl,hk⟩)⟩
   ·exact ⟨none,_,by have:=run_endLoop (P:=Tryz.prog) hl (by rw [hrec];simp);rw [hrec]at this;exact this,hdone _ _ (Nat.le_refl _) (hI _ _ _ hi (below_putObj _ (by omega))) ((World.putObj_heap_other (by omega)).trans hk)⟩
   ·exact ⟨some .ret,_,by have:=run_endLoop (P:=Tryz.prog) hl (by rw [hrec];simp);rw [hrec]at this;exact this,hstop _ q _ (Nat.le_refl _) hq (hIx _ _ _ _ hi (below_putObj _ (by omega))) ((World.putObj_heap_other (by omega)).trans hk)⟩
end Go.Proofs.YtjckhhecnebmmaaGreatDoor.TU
end
