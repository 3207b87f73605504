/- Steps towards the law TopUndoes; words printed by the kit, and printed texts, are cut to what is used, and spaces are left out. No condition. -/
import Derived.Test.YtjckhhecnebmmaaGreatDoorZ19
import Derived.Test.YtjckhhecnebmmaaGreatDoorZ10
import Derived.Deep.RegionLaw
set_option linter.unusedVariables false
set_option linter.unusedSimpArgs false
section
namespace Go.Proofs.YtjckhhecnebmmaaGreatDoor.TU
open Go.RowKit Go.Proofs.YtjckhhecnebmmaaGreatDoorW.PrintWords Go.Proofs.YtjckhhecnebmmaaGreatDoorW.PrintLast Go.Proofs.YtjckhhecnebmmaaGreatDoorW.PrintMore Go.Proofs.YtjckhhecnebmmaaGreatDoor.QAll
attribute [local go_sem] max2_int min2_int max_two min_two max_three min_three max_four min_four
set_option linter.unusedVariables false
theorem UsersRow.snoc {w w1:World} {o o1:Own} {t:Nat} {us:List (List Int)} {v1:Value} {rs:List SL} (hl:rs.length=us.length) (hr:∀ (i:Nat) (r:SL) (u:List Int),rs[i]?=some r→us[i]?=some u→Row (Kd.int .i64) 3 w o (t+1) r.v u) (ha:∀ (i j:Nat) (r r':SL) (q:Nat),rs[i]?=some r→rs[j]?=some r'→r.v.ownBlock=some q→r'.v.ownBlock=some q→i=j)
  (h:Row kSL 26 w1 o1 t v1 (rs++[⟨none,0,0⟩])) (f:Kp (·=t) w o w1 o1):UsersRow w1 o1 t v1 (us++[[]]):=by
 have out:∀ (i:Nat) (r:SL),(rs++[(⟨none,0,0⟩:SL)])[i]?=some r→(i < rs.length∧rs[i]?=some r)∨(i=rs.length∧r=⟨none,0,0⟩):=by
  intro i r h
  rcases Nat.lt_trichotomy i rs.length with h1 | h1 | h1
  ·rw [List.getElem?_append_left h1]at h
   exact .inl ⟨h1,h⟩
  ·subst h1
   rw [List.getElem?_append_right (Nat.le_refl _),Nat.sub_self]at h
   exact .inr ⟨rfl,(Option.some.inj h).symm⟩
  ·rw [List.getElem?_eq_none (by simp;omega)]at h
   cases h
 refine ⟨_,h,by simp [hl],fun i r u hi hu=>?_,fun i j r r' q hi hj h1 h2=>?_⟩
 ·rcases out i r hi with ⟨h1,h2⟩ | ⟨rfl,rfl⟩
  ·rw [List.getElem?_append_left (by omega)]at hu
   exact (hr i r u h2 hu).fr f (by omega)
  ·rw [hl,List.getElem?_append_right (Nat.le_refl _),Nat.sub_self]at hu
   rw [← Option.some.inj hu]
   exact Row.nil _ _ _ _ _
 ·rcases out i r hi with ⟨h3,h4⟩ | ⟨rfl,rfl⟩
  ·rcases out j r' hj with ⟨h5,h6⟩ | ⟨rfl,rfl⟩
   ·exact ha i j r r' q h4 h6 h1 h2
   ·simp [SL.v,Value.ownBlock]at h2
  ·simp [SL.v,Value.ownBlock]at h1
theorem UsersRow.put {w w5:World} {o o5:Own} {t n c bl a:Nat} {us:List (List Int)} (h:UsersRow w o t (.slice (some ⟨bl,0,none⟩) n c) us) (ha:a < us.length) (r s:SL) (u':List Int) (hcell:w.cell? ⟨bl,a,none⟩=some (SL.v r)) (hs:Row (Kd.int .i64) 3 w5 o5 (t+1) s.v u') (f:Kp (·=t+1) w o w5 o5) (hg:w.grownBy w5 r.v.ownBlock)
  (hat:s.v.ownBlock=r.v.ownBlock∨∃ q,s.v.ownBlock=some q∧w.heap.size≤q) :
  UsersRow (w5.setCell ⟨bl,a,none⟩ s.v) o5 t (.slice (some ⟨bl,0,none⟩) n c) (us.set a u')∧o5 bl=t:=by
 obtain ⟨rs,h1,h2,h3,h4⟩:=h
 have har:a < rs.length:=by omega
 have h15:=h1.fr f (by omega)
 have hog5:o5 bl=t:=h15.own bl rfl
 have hn:=(Kd.R_reads' h1).1
 obtain ⟨cs,hcl,hM,hcc,hcf⟩:=Kd.R_elem h15 ⟨none,0,0⟩ (a:Int) (by omega) (by omega)
 have hl1:cs.length=1:=hcl
 obtain ⟨hr,_⟩:=Kd.R_seg h15 (a:Int) (by omega) (by omega) (j:=0) (seg:=[s.v]) hcl hcc (Nat.le_refl _) (okp:=fun _=>False) (x':=s) (show _=_ by rw [List.take_zero,List.drop_eq_nil_of_le (by simp [hl1])];rfl) (fun _ h=>h.elim)
 have e0:(a:Int).toNat * kSL.sz+0=a:=by show (a:Int).toNat * 1+0=a;omega
 rw [e0,Int.toNat_natCast]at hr
 have hr:Row kSL 26 (w5.setCell ⟨bl,a,none⟩ s.v) o5 t (.slice (some ⟨bl,0,none⟩) n c) (rs.set a s):=hr
 have kc:Kp (·=t) w5 o5 (w5.setCell ⟨bl,a,none⟩ s.v) o5:=(Kp.refl _ w5 o5).setCell _ _ (.inl hog5)
 obtain ⟨cs0,hcl0,hM0,hcc0,_⟩:=Kd.R_elem h1 ⟨none,0,0⟩ (a:Int) (by omega) (by omega)
 have hg0:rs.getD (a:Int).toNat ⟨none,0,0⟩=rs[a]:=by rw [Int.toNat_natCast,List.getD_eq_getElem?_getD,List.getElem?_eq_getElem har];rfl
 rw [hg0]at hM0
 obtain rfl:cs0=_:=hM0
 have hca:w.cell? ⟨bl,a,none⟩=some (SL.v rs[a]):=by
  have:=hcc0 0 _ rfl
  rw [e0]at this
  exact this
 have hrr:SL.v r=SL.v rs[a]:=Option.some.inj (hcell.symm.trans hca)
 rw [hrr]at hg hat
 have lt:∀ (i:Nat) (r:SL) (q:Nat),rs[i]?=some r→r.v.ownBlock=some q→q < w.heap.size:=fun i r q hi hq=>by
  have hil:i < us.length:=by
   rcases Nat.lt_or_ge i us.length with h | h
   ·exact h
   ·rw [List.getElem?_eq_none (by omega)]at hi;cases hi
  exact ((Kd.R_bound (h3 i r _ hi (List.getElem?_eq_getElem hil))).1 q hq).2.2.1
 have apart:∀ (i:Nat) (r:SL) (q:Nat),rs[i]?=some r→r.v.ownBlock=some q→s.v.ownBlock=some q→a=i:=fun i r q hi hq hsq=>by
  rcases hat with h5 | ⟨q',h5,h6⟩
  ·exact h4 a i rs[a] r q (List.getElem?_eq_getElem har) hi (h5 ▸ hsq) hq
  ·have:=lt i r q hi hq
   rw [h5]at hsq
   have:=Option.some.inj hsq
   omega
 refine ⟨⟨_,hr,by simp [h2],fun i r u hi hu=>?_,fun i j r r' q hi hj g1 g2=>?_⟩,hog5⟩
 ·rw [List.getElem?_set]at hi hu
  by_cases e:a=i
  ·subst e
   rw [if_pos rfl,if_pos har]at hi
   rw [if_pos rfl,if_pos ha]at hu
   rw [← Option.some.inj hi,← Option.some.inj hu]
   exact hs.fr kc (by omega)
  ·rw [if_neg e]at hi hu
   have hw:=h3 i r u hi hu
   have hw5:Row (Kd.int .i64) 3 w5 o5 (t+1) r.v u:=by
    have hb:=Kd.R_tight2 rfl (Kd.R_bound hw)
    refine Kd.R_mono (Kd.R_move (w1:=w5) hb (fun k hk=>hg.block k hk.2.2.2.1 (fun e2=>e (h4 a i rs[a] r k (List.getElem?_eq_getElem har) hi e2.symm hk.1.symm)))) (fun k hk=>?_)
    exact (f.own k hk.2.2.2.1).trans hk.2.1
   exact hw5.fr kc (by omega)
 ·rw [List.getElem?_set]at hi hj
  by_cases e1:a=i
  ·by_cases e2:a=j
   ·rw [← e1,← e2]
   ·rw [if_pos e1,if_pos (e1 ▸ har)]at hi
    rw [if_neg e2]at hj
    rw [← Option.some.inj hi]at g1
    exact absurd (apart j r' q hj g2 g1) e2
  ·by_cases e2:a=j
   ·rw [if_neg e1]at hi
    rw [if_pos e2,if_pos (e2 ▸ har)]at hj
    rw [← Option.some.inj hj]at g2
    exact absurd (apart i r q hi g1 g2) e1
   ·rw [if_neg e1]at hi
    rw [if_neg e2]at hj
    exact h4 i j r r' q hi hj g1 g2
end Go.Proofs.YtjckhhecnebmmaaGreatDoor.TU
end
section
namespace Go.Proofs.YtjckhhecnebmmaaGreatDoor.TU
open Go.RowKit Go.Proofs.YtjckhhecnebmmaaGreatDoorW.PrintWords Go.Proofs.YtjckhhecnebmmaaGreatDoorW.PrintLast Go.Proofs.YtjckhhecnebmmaaGreatDoorW.PrintMore Go.Proofs.YtjckhhecnebmmaaGreatDoor.QAll
attribute [local go_sem] max2_int min2_int max_two min_two max_three min_three max_four min_four
set_option linter.unusedVariables false
set_option maxHeartbeats 12800000 in
set_option maxRecDepth 100000 in
theorem seg17 {B b g tg:Nat} {w:World} {o:Own} {S:St} {n:Nd} {A:Option Addr} {c:Nat} (E:AddEnv B b g tg w o S n) (next:Seg (addC 12) B b g tg w o S n A c (st4 S n)):Seg (addC 11) B b g tg w o S n A c (st3 S n):=by
 intro cb C wx o1 ob kb s1 s2 s4 s5 s7 s8 s9 s13 s14 s15 s16 s17 s18 s19 s20 s21 s22 s23 s24 s25 s26 s27 s28 s29 s30 s31 s32 s33 s34 s35 s36 s37 s38 s39 s40 s41 s42 s43 s44 s45 s46 s47 s48 s49 s50 s51 s52 s53 s54 s55 s56 s57 s58 s59 s60 s61 s62 s63 s64 s65 s66 s67 s68 s69 s70 s71 s72 s73 s74 s75 s76 s77 s78 s79 s80 s81 s82 s83 s84 s85 s86 s87 s88 s89 s90 s91 s92 s93 s94 s95 s96 s97 s98 s99 s100 s101 s102 s103 s104 s105 s106 s107 s108 s109 s110 s111 s112 s113 s114 s115 s116 s117 s118 s119 s120 s121 s122 s123 s124 s125 s126 s127 s128 s129 s130 s131 s132 s133 s134 s135 s136 s137 s138 s139 s140 s141 s142 s143 s144 s145 s146 s147 s148 s149 s150 s151 s152 s153 s154 s155 s156 s157 s158 s159 s160 s161 s162 s163 s164 s165 s166 s167 s168 s169 s170 s171 s172 s173 s174 s175 s176 s177 s178 s179 s180 s181 s182 s183 s184 hA hob hkb
 conv=>arg 2;whnf
 obtain ⟨Av,cv,hv0⟩:=hA.core.users.slice
 have hv:C.vu=.slice Av S.us.length cv:=hv0
 clear hv0
 have hrow:=hA.core.users
 rw [hv]at hrow
 obtain ⟨rs,hR,hl0,hr,hap⟩:=hrow
 have hgl:=blk_lt hA.core.blk.1
 have g1:=hA.core.at3
 rw [hv]at g1
 have hl:rs.length=S.us.length:=hl0
 clear hl0
 have hul:S.us.length≤600:=by have h1:=E.hS.hu;have h2:=E.few;omega
 have hgf:=blk_frozen hA.core.blk.1 3
 have HO:=Lib.hid hob
 have HK:=Lib.hid hkb
 have HA:=Lib.hid hA
 rw [← hl]at hR
 have HR:=Lib.hid hR
 have HL:=Lib.hid hl
 have HRR:=Lib.hid hr
 have HAP:=Lib.hid hap
 have HNX:=Lib.hid next
 have HE:=Lib.hid E
 rw [← hl]at g1
 clear hob hkb hA hR hl hr hap next E hv
 refine wp_seq_k ?_
 intro K hK
 go_cut [] (fun wy=>Hid (∃ o2 C2,AS B b g cb w.heap.size tg w o n A c wy o2 C2 (st4 S n)∧Box wy o2 ob n∧Box wy o2 kb (newKey S n)))
 case first =>
  go_wp2_with ((with_reducible refine gate_builtin (b:=.append) (xs:=#[.tmp 86,.tmp 87]) rfl ?_);at_builtin;refine row_append kSL (Fr.start (·=b+7) wx o1 0 (.inl rfl)) (b+7) rfl ?h1 (.tmp 86) (.tmp 87) 59 26 (.slice none 0 0) 24 ?h2 Tryz.underlying59 ?h10 ?h3 ?h4 ?h5 (.slice Av rs.length cv) rs ⟨none,0,0⟩ [.slice none 0 0] ?h6 ?h7 ?h8 (HR.out.renew 0) ?h9 ?_;(case h1=>rfl);(case h2=>rfl);(case h10=>exact inf26);(case h3=>rfl);(case h4=>decide);(case h5=>omega);(case h6=>rfl);(case h7=>rfl);(case h8=>rfl);(case h9=>have:=HL.out;omega);intro A9 c9 w3 h3 f3 k3;have H3:=Lib.hid h3;have F3:=Lib.hid f3;have K3:=Lib.hid (((Kp.refl (·=b+7) wx o1).renew 0).trans k3);have hb3:=HA.out.core.blk.fr (((Kp.refl (·=b+7) wx o1).renew 0).trans k3) (by omega);have e3:w3.cell? ⟨cb,3,none⟩=some (.slice Av rs.length cv):=(((Kp.refl (·=b+7) wx o1).renew 0).trans k3).cell g1 (by rw [HA.out.core.blk.2];omega);have fz3:=blk_frozen hb3.1 3;clear h3 f3 k3 hb3)
  go_meet
  have hsn:=UsersRow.snoc HL.out HRR.out HAP.out H3.out K3.out
  have hcore:=HA.out.core.onUsers K3.out hsn
  have hfr:=((F3.out.mono (M':=CoreM b) (fun t h=>by subst h;unfold CoreM;omega))).setCell ⟨cb,3,none⟩ (.slice A9 (rs.length+1) c9) (.inl (by rw [K3.out.own cb hgl,HA.out.core.blk.2];unfold CoreM;omega))
  have hA2:=HA.out.next HE.out.htg HE.out.hb0 hcore hfr
  have hk0:¬ CoreM b 0:=by unfold CoreM;omega
  exact ⟨_,_,hA2,HO.out.fr hfr.kp hk0,HK.out.fr hfr.kp hk0⟩
 case rest =>
  refine hK _ _ ?_
  obtain ⟨o2,C2,h1,h2,h3⟩:=hcut
  exact HNX.out cb C2 wc o2 ob kb _ _ _ _ _ _ _ _ _ _ _ _ _ _ _ _ _ _ _ _ _ _ _ _ _ _ _ _ _ _ _ _ _ _ _ _ _ _ _ _ _ _ _ _ _ _ _ _ _ _ _ _ _ _ _ _ _ _ _ _ _ _ _ _ _ _ _ _ _ _ _ _ _ _ _ _ _ _ _ _ _ _ _ _ _ _ _ _ _ _ _ _ _ _ _ _ _ _ _ _ _ _ _ _ _ _ _ _ _ _ _ _ _ _ _ _ _ _ _ _ _ _ _ _ _ _ _ _ _ _ _ _ _ _ _ _ _ _ _ _ _ _ _ _ _ _ _ _ _ _ _ _ _ _ _ _ _ _ _ _ _ _ _ _ _ _ _ _ _ _ _ _ _ _ _ _ _ _ _ h1 h2 h3
end Go.Proofs.YtjckhhecnebmmaaGreatDoor.TU
end
section
namespace Go.Proofs.YtjckhhecnebmmaaGreatDoor.TU
open Go.RowKit Go.Proofs.YtjckhhecnebmmaaGreatDoorW.PrintWords Go.Proofs.YtjckhhecnebmmaaGreatDoorW.PrintLast Go.Proofs.YtjckhhecnebmmaaGreatDoorW.PrintMore Go.Proofs.YtjckhhecnebmmaaGreatDoor.QAll
attribute [local go_sem] max2_int min2_int max_two min_two max_three min_three max_four min_four
set_option linter.unusedVariables false
theorem useAdd_length (us:List (List Int)) (id a:Int):(useAdd us id a).length=us.length:=by unfold useAdd;split <;> simp
theorem useAll_length (id:Int):∀ (args:List Int) (us:List (List Int)),(useAll us id args).length=us.length:=by
 intro args
 induction args with
 | nil=>intro us;rfl
 | cons a l ih=>intro us;show (useAll (useAdd us id a) id l).length=_;rw [ih,useAdd_length]
theorem useAll_snoc (us:List (List Int)) (id a:Int) (l:List Int):useAll us id (l++[a])=useAdd (useAll us id l) id a:=by unfold useAll;rw [List.foldl_append];rfl
theorem useAdd_bound (id a:Int) (M:Nat) (us:List (List Int)) (h:∀ u∈us,u.length≤M):∀ u∈useAdd us id a,u.length≤M+1:=by
 intro u hu
 unfold useAdd at hu
 split at hu
 ·rcases List.mem_or_eq_of_mem_set hu with h1 | h1
  ·have:=h u h1;omega
  ·rw [h1,List.length_append,List.length_singleton]
   rw [List.getD_eq_getElem?_getD]
   cases he:us[a.toNat]? with
   | none=>simp
   | some v=>have:=h v (List.mem_of_getElem? he);simp;omega
 ·have:=h u hu;omega
theorem useAll_bound (id:Int):∀ (M:Nat) (args:List Int) (us:List (List Int)),(∀ u∈us,u.length≤M)→∀ u∈useAll us id args,u.length≤M+args.length:=by
 intro M args
 induction args generalizing M with
 | nil=>intro us h u hu;exact h u hu
 | cons a l ih =>
  intro us h u hu
  have:=ih (M+1) (useAdd us id a) (useAdd_bound id a M us h) u hu
  simp only [List.length_cons]
  omega
def needU (u:List Int) (id:Int):Bool:=decide (u.length=0) || !decide (u.getLastD 0=id)
def useTo (S:St) (n:Nd) (k:Nat):List (List Int):=useAll (S.us++[[]]) (newId S) (n.args.take k)
def stU (S:St) (n:Nd) (k:Nat):St:={ st4 S n with us:=useTo S n k }
set_option maxHeartbeats 12800000 in
set_option maxRecDepth 100000 in
theorem seg18 {B b g tg:Nat} {w:World} {o:Own} {S:St} {n:Nd} {A:Option Addr} {c:Nat} (E:AddEnv B b g tg w o S n) (next:Seg (addC 13) B b g tg w o S n A c (st5 S n)):Seg (addC 12) B b g tg w o S n A c (st4 S n):=by
 intro cb C wx o1 ob kb s1 s2 s4 s5 s7 s8 s9 s13 s14 s15 s16 s17 s18 s19 s20 s21 s22 s23 s24 s25 s26 s27 s28 s29 s30 s31 s32 s33 s34 s35 s36 s37 s38 s39 s40 s41 s42 s43 s44 s45 s46 s47 s48 s49 s50 s51 s52 s53 s54 s55 s56 s57 s58 s59 s60 s61 s62 s63 s64 s65 s66 s67 s68 s69 s70 s71 s72 s73 s74 s75 s76 s77 s78 s79 s80 s81 s82 s83 s84 s85 s86 s87 s88 s89 s90 s91 s92 s93 s94 s95 s96 s97 s98 s99 s100 s101 s102 s103 s104 s105 s106 s107 s108 s109 s110 s111 s112 s113 s114 s115 s116 s117 s118 s119 s120 s121 s122 s123 s124 s125 s126 s127 s128 s129 s130 s131 s132 s133 s134 s135 s136 s137 s138 s139 s140 s141 s142 s143 s144 s145 s146 s147 s148 s149 s150 s151 s152 s153 s154 s155 s156 s157 s158 s159 s160 s161 s162 s163 s164 s165 s166 s167 s168 s169 s170 s171 s172 s173 s174 s175 s176 s177 s178 s179 s180 s181 s182 s183 s184 hA hob hkb
 conv=>arg 2;whnf
 obtain ⟨Av,cv,hv0⟩:=hA.core.users.slice
 have hv:C.vu=.slice Av (S.us.length+1) cv:=by rw [hv0];show Value.slice Av (S.us++[[]]).length cv=_;simp
 clear hv0
 have x4:wx.cell? ⟨w.heap.size,4,none⟩=some (.slice A n.args.length c):=(blk_cell hA.nb.1.1 4).trans rfl
 have hun:S.us.length=S.ns.length:=E.hS.hu
 have hfew:=E.few
 have hargs:=E.hn.few
 have H0:=Lib.hid (show ∃ o2,AS B b g cb w.heap.size tg w o n A c wx o2 C (stU S n 0)∧Box wx o2 ob n∧Box wx o2 kb (newKey S n)from ⟨o1,hA,hob,hkb⟩)
 have HNX:=Lib.hid next
 have HE:=Lib.hid E
 have HV:=Lib.hid hv
 have HUN:=Lib.hid hun
 clear hob hkb hA next E hv hun
 refine wp_seq_k ?_
 intro K hK
 go_cut [] (fun wy=>Hid (∃ o2 C2,AS B b g cb w.heap.size tg w o n A c wy o2 C2 (st5 S n)∧Box wy o2 ob n∧Box wy o2 kb (newKey S n)))
 case first =>
  go_wp2_with fail
  go_loopw [94] (fun i wr=>∃ k:Nat,k≤n.args.length∧i=.int .i64 k∧Hid (∃ o2,AS B b g cb w.heap.size tg w o n A c wr o2 C (stU S n k)∧Box wr o2 ob n∧Box wr o2 kb (newKey S n))) (fun i _=>n.args.length - (intOf i).toNat)
  case atStart=>exact ⟨0,Nat.zero_le _,rfl,H0⟩
  case round =>
   obtain ⟨k,hk,rfl,⟨o2,hA,hob,hkb⟩⟩:=hrel
   have HA:=Lib.hid hA
   have HO:=Lib.hid hob
   have HK:=Lib.hid hkb
   clear hA hob hkb H0 x4
   by_cases hlt:k < n.args.length
   ·have hmem:n.args.getD k 0∈n.args:=by rw [List.getD_eq_getElem?_getD,List.getElem?_eq_getElem hlt];exact List.getElem_mem hlt
    have hin:=HE.out.hin _ hmem
    have HTK:=Lib.hid (show useTo S n (k+1)=useAdd (useTo S n k) (newId S) (n.args.getD k 0) by
     unfold useTo
     rw [List.take_succ_eq_append_getElem hlt,useAll_snoc]
     simp [List.getD_eq_getElem?_getD,List.getElem?_eq_getElem hlt])
    obtain ⟨bA,cA,he,_,_,_⟩:=Kd.R_form HA.out.nb.2 (by omega)
    injection he with he1 he2 he3
    subst he1
    obtain ⟨hca,_⟩:=Kd.R_celln 0 HA.out.nb.2 (k:Int) (by omega) (by omega)
    have e0:rdOf (0:Int) n.args (k:Int)=n.args.getD k 0:=by unfold rdOf;rw [Int.toNat_natCast]
    rw [e0,Int.toNat_natCast]at hca
    have hur:=HA.out.core.users
    rw [HV.out]at hur
    have hul:(stU S n k).us.length=S.us.length+1:=by show (useTo S n k).length=_;unfold useTo;rw [useAll_length];simp
    obtain ⟨bl,r,u,hAv,hgu,hob7,hcu,hfz,hru⟩:=hur.at (n.args.getD k 0) hin.1 (by rw [hul,HUN.out];omega)
    subst hAv
    obtain ⟨Ar,nr,cr⟩:=r
    have hvr:SL.v ⟨Ar,nr,cr⟩=.slice Ar nr cr:=rfl
    rw [hvr]at hcu hru
    obtain ⟨Ax,cx,hx⟩:=hru.slice
    injection hx with hx1 hx2 hx3
    subst hx2
    have c3:wr.cell? ⟨cb,3,none⟩=some (.slice (some ⟨bl,0,none⟩) (S.us.length+1) cv):=by rw [← HV.out];exact HA.out.core.at3
    have HUS:=Lib.hid (show (useTo S n k).getD (n.args.getD k 0).toNat []=u by
     have h:(useTo S n k)[(n.args.getD k 0).toNat]?=some u:=hgu
     rw [List.getD_eq_getElem?_getD,h];rfl)
    have HUR:=Lib.hid hur
    have HOB7:=Lib.hid hob7
    clear hob7
    have HRU:=Lib.hid hru
    have HUL:=Lib.hid hul
    have i0:=hin.1
    have i1:n.args.getD k 0 < (S.us.length:Int)+1:=by have:=HUN.out;omega
    have hub:u.length≤600+n.args.length:=by
     have h:=useAll_bound (newId S) 600 (n.args.take k) (S.us++[[]]) (fun v hv=>by
      rcases List.mem_append.1 hv with h1 | h1
      ·exact HE.out.hS.ul v h1
      ·rw [List.mem_singleton.1 h1];simp) u (List.mem_of_getElem? hgu)
     rw [List.length_take]at h
     omega
    clear hmem hin e0 he2 he3 hgu hur hru hx1 hx3 hul
    have hid:=HE.out.hS.hp
    have hidd:newId S=(S.ns.length:Int):=by show (S.p.length:Int)=_;rw [hid]
    have HIDD:=Lib.hid hidd
    clear hid hidd
    generalize n.args.getD k 0=a at *
    go_upto_region 22 with fail
    go_cut [117] (fun s wy=>s=.bool (needU u (newId S))∧wy=wr)
    case first =>
     rcases List.eq_nil_or_concat u with hy | ⟨us',y,hy⟩
     ·subst hy
      clear hca c3 hcu hfz
      go_wp2_with fail
      go_meet
      exact ⟨rfl,rfl⟩
     ·rw [List.concat_eq_append]at hy
      have hlu:u.length=us'.length+1:=by rw [hy];simp
      have hne:¬ u.length=0:=by omega
      have hrow:=HRU.out
      obtain ⟨br,cc,hv2,_,_,_⟩:=Kd.R_form hrow (by omega)
      injection hv2 with hv21 hv22 hv23
      subst hv21
      obtain ⟨hcy,_⟩:=Kd.R_celln 0 hrow (us'.length:Int) (by omega) (by omega)
      have e0:rdOf (0:Int) u (us'.length:Int)=y:=by unfold rdOf;rw [hy,Int.toNat_natCast];simp
      rw [e0,Int.toNat_natCast]at hcy
      have hul6:us'.length < 2000:=by omega
      have HLU:=Lib.hid hlu
      have hnu:needU u (newId S)=!decide (y=newId S):=by
       unfold needU
       rw [hy]
       simp [List.getLastD_eq_getLast?]
      have HNU:=Lib.hid hnu
      clear hrow hv22 hv23 e0 hy hne hnu
      rw [hlu]at *
      go_wp2_with fail
      go_meet
      exact ⟨by rw [HNU.out];refine congrArg Value.bool ?_;by_cases h:y=newId S <;> simp [h] <;> omega,rfl⟩
    obtain ⟨rfl,rfl⟩:=hcut
    cases hnd:needU u (newId S)with
    | false =>
     have hst:stU S n (k+1)=stU S n k:=by
      unfold stU
      rw [HTK.out]
      unfold useAdd
      rw [HUS.out,if_neg]
      unfold needU at hnd
      simp only [Bool.or_eq_false_iff,decide_eq_false_iff_not,Bool.not_eq_false',decide_eq_true_eq]at hnd
      rintro (h | h)
      ·exact hnd.1 h
      ·exact h hnd.2
     have HST:=Lib.hid hst
     clear hst hnd
     go_wp2_with fail
     go_roundw
     case rel=>exact ⟨k+1,by omega,by go_num,⟨o2,by rw [HST.out];exact HA.out,HO.out,HK.out⟩⟩
     case measure=>first | (simp [intOf];done) | (simp [intOf];omega)
    | true =>
     have hst:stU S n (k+1)={ stU S n k with us:=(useTo S n k).set a.toNat (u++[newId S]) }:=by
      unfold stU
      rw [HTK.out]
      unfold useAdd
      rw [HUS.out,if_pos]
      unfold needU at hnd
      simp only [Bool.or_eq_true,decide_eq_true_eq,Bool.not_eq_true',decide_eq_false_iff_not]at hnd
      exact hnd
     have HST:=Lib.hid hst
     clear hst hnd
     have hgl:=blk_lt HA.out.core.blk.1
     have HCU:=Lib.hid hcu
     have d3:wc.drew.cell? ⟨cb,3,none⟩=some (.slice (some ⟨bl,0,none⟩) (S.us.length+1) cv):=c3
     have dcu:wc.drew.cell? ⟨bl,a.toNat,none⟩=some (.slice Ar u.length cr):=hcu
     have k3:(wc.drew.alloc (.cells #[.int .i64 (newId S)] 3)).cell? ⟨cb,3,none⟩=some (.slice (some ⟨bl,0,none⟩) (S.us.length+1) cv):=pw_cell_below (below_alloc (Below.refl _ _) _) d3
     have kcu:(wc.drew.alloc (.cells #[.int .i64 (newId S)] 3)).cell? ⟨bl,a.toNat,none⟩=some (.slice Ar u.length cr):=pw_cell_below (below_alloc (Below.refl _ _) _) dcu
     have l3:(wc.alloc (.cells #[.int .i64 (newId S)] 3)).cell? ⟨cb,3,none⟩=some (.slice (some ⟨bl,0,none⟩) (S.us.length+1) cv):=k3
     have lcu:(wc.alloc (.cells #[.int .i64 (newId S)] 3)).cell? ⟨bl,a.toNat,none⟩=some (.slice Ar u.length cr):=kcu
     have hfzb:∃ cells,wc.heap[bl]?=some (.cells cells 26 (0,0)):=Kd.R_typed (show Row kSL 26 wc o2 (b+7) (.slice (some ⟨bl,0,none⟩) _ cv) _ from (Classical.choose_spec HUR.out).1) bl rfl
     have HFZ:=Lib.hid hfzb
     clear hfzb
     go_upto_region 23 with fail
     go_region_law
      ((refine Kd.R_append_step (Kd.int .i64) (w0:=wc.drew) (W:=wc.drew) 0 (by rfl) (.tmp 129) (.tmp 131) 26 3 (.int .i64 0) 8 (by rfl) Tryz.underlying26 inf3 rfl (by decide) (by decide) (.slice Ar u.length cr) u (newId S) [.int .i64 (newId S)] (fun q=>o2.from_ wc.drew.heap.size (b+8) q=b+8) (fun _=>False) (by rfl) (by rfl) rfl (fun _ h=>h.elim) (fun q hq=>Own.from_ge hq) ((show Row (Kd.int .i64) 3 wc.drew o2 (b+8) (.slice Ar u.length cr) u from HRU.out.fr ((Kp.refl (fun _=>False) wc o2).drew) id).renew (b+8)) (Below.refl _ _) (Nat.zero_le _) (by omega) ?_;intro v5 w5 h5 _ hg5 hat5;obtain ⟨A5,c5,hv5⟩:=Kd.R_slice h5;subst hv5;rw [List.length_append,List.length_singleton]at h5 hat5;have HR5:=Lib.hid h5;have HG5:=Lib.hid (show wc.grownBy w5 (Value.slice Ar u.length cr).ownBlock from ⟨hg5.os,hg5.tape,hg5.output,hg5.size,hg5.block⟩);have HAT:=Lib.hid hat5;have kp5:=Lib.hid (show Kp (·=b+8) wc o2 w5 (o2.from_ wc.heap.size (b+8))from ((Kp.refl (·=b+8) wc o2).renew (b+8)).grown HG5.out (fun q e=>.inl (by have hk2:=(Kd.R_bound HRU.out).1 q e;exact (Own.from_lt hk2.2.2.1).trans hk2.1)));have f5:=Lib.hid (show Fr (·=b+8) wc o2 w5 (o2.from_ wc.heap.size (b+8))from (Fr.start (·=b+8) wc o2 (b+8) (.inr rfl)).grown HG5.out (fun q e=>.inl (by have hk2:=(Kd.R_bound HRU.out).1 q e;exact (Own.from_lt hk2.2.2.1).trans hk2.1)));have m3:w5.cell? ⟨cb,3,none⟩=some (.slice (some ⟨bl,0,none⟩) (S.us.length+1) cv):=kp5.out.cell c3 (by rw [HA.out.core.blk.2];omega);have mcu:w5.cell? ⟨bl,a.toNat,none⟩=some (.slice Ar u.length cr):=kp5.out.cell hcu (by rw [HOB7.out];omega);have mfz:w5.frozen? ⟨bl,a.toNat,none⟩=false:=(by obtain ⟨cells,hc⟩:=HFZ.out;exact blk_frozen ((kp5.out.block bl (blk_lt hc) (by rw [HOB7.out];omega)).trans hc) _);clear h5 hg5 hat5))
     all_goals go_wp2_with fail
     all_goals
      obtain ⟨hus,hbl5⟩:=UsersRow.put (us:=useTo S n k) (a:=a.toNat) HUR.out (by have h1:(useTo S n k).length=S.us.length+1:=HUL.out;omega) ⟨Ar,u.length,cr⟩ ⟨A5,u.length+1,c5⟩ (u++[newId S]) HCU.out HR5.out kp5.out HG5.out HAT.out
      have hbl6:o2.from_ wc.heap.size (b+8) bl=b+7:=hbl5
      have kpu:Kp (fun x=>x=b+7∨x=b+8) wc o2 (w5.setCell ⟨bl,a.toNat,none⟩ (.slice A5 (u.length+1) c5)) (o2.from_ wc.heap.size (b+8)):=(kp5.out.mono (fun _ h=>.inr h)).setCell _ _ (.inl (.inl hbl5))
      have hcore:=HA.out.core.inUsers kpu (by rw [HV.out];exact hus)
      have hfr:Fr (CoreM b) wc o2 (w5.setCell ⟨bl,a.toNat,none⟩ (.slice A5 (u.length+1) c5)) (o2.from_ wc.heap.size (b+8)):=(f5.out.mono (M':=CoreM b) (fun t h=>by subst h;unfold CoreM;omega)).setCell _ _ (.inl (by show CoreM b (o2.from_ wc.heap.size (b+8) bl);rw [hbl6];unfold CoreM;omega))
      have hA2:=HA.out.next HE.out.htg HE.out.hb0 hcore hfr
      have hk0:¬ CoreM b 0:=by unfold CoreM;omega
      have HA2:=Lib.hid hA2
      have HFR:=Lib.hid hfr
      clear hus hbl5 hbl6 kpu hcore hfr hA2
      go_roundw
      case rel=>exact ⟨k+1,by omega,by go_num,⟨_,by rw [HST.out];exact HA2.out,HO.out.fr HFR.out.kp hk0,HK.out.fr HFR.out.kp hk0⟩⟩
      case measure=>first | (simp [intOf];done) | (simp [intOf];omega)
   ·have hkl:k=n.args.length:=by omega
    subst hkl
    have hst:stU S n n.args.length=st5 S n:=by unfold stU useTo;rw [List.take_length];rfl
    have HST:=Lib.hid hst
    clear hst
    go_wp2_with fail
    go_meet
    rw [HST.out]at HA
    exact ⟨o2,C,HA.out,HO.out,HK.out⟩
 case rest =>
  refine hK _ _ ?_
  obtain ⟨o2,C2,h1,h2,h3⟩:=hcut
  exact HNX.out cb C2 wc o2 ob kb _ _ _ _ _ _ _ _ _ _ _ _ _ _ _ _ _ _ _ _ _ _ _ _ _ _ _ _ _ _ _ _ _ _ _ _ _ _ _ _ _ _ _ _ _ _ _ _ _ _ _ _ _ _ _ _ _ _ _ _ _ _ _ _ _ _ _ _ _ _ _ _ _ _ _ _ _ _ _ _ _ _ _ _ _ _ _ _ _ _ _ _ _ _ _ _ _ _ _ _ _ _ _ _ _ _ _ _ _ _ _ _ _ _ _ _ _ _ _ _ _ _ _ _ _ _ _ _ _ _ _ _ _ _ _ _ _ _ _ _ _ _ _ _ _ _ _ _ _ _ _ _ _ _ _ _ _ _ _ _ _ _ _ _ _ _ _ _ _ _ _ _ _ _ _ _ _ _ _ h1 h2 h3
end Go.Proofs.YtjckhhecnebmmaaGreatDoor.TU
end
section
namespace Go.Proofs.YtjckhhecnebmmaaGreatDoor.TU
open Go.RowKit Go.Proofs.YtjckhhecnebmmaaGreatDoorW.PrintWords Go.Proofs.YtjckhhecnebmmaaGreatDoorW.PrintLast Go.Proofs.YtjckhhecnebmmaaGreatDoorW.PrintMore Go.Proofs.YtjckhhecnebmmaaGreatDoor.QAll
attribute [local go_sem] max2_int min2_int max_two min_two max_three min_three max_four min_four
set_option linter.unusedVariables false
set_option maxHeartbeats 12800000 in
set_option maxRecDepth 100000 in
theorem seg25 {B b g tg:Nat} {w:World} {o:Own} {S:St} {n:Nd} {A:Option Addr} {c:Nat} (E:AddEnv B b g tg w o S n) (next:Seg (addC 14) B b g tg w o S n A c (st6 S n)):Seg (addC 13) B b g tg w o S n A c (st5 S n):=by
 intro cb C wx o1 ob kb s1 s2 s4 s5 s7 s8 s9 s13 s14 s15 s16 s17 s18 s19 s20 s21 s22 s23 s24 s25 s26 s27 s28 s29 s30 s31 s32 s33 s34 s35 s36 s37 s38 s39 s40 s41 s42 s43 s44 s45 s46 s47 s48 s49 s50 s51 s52 s53 s54 s55 s56 s57 s58 s59 s60 s61 s62 s63 s64 s65 s66 s67 s68 s69 s70 s71 s72 s73 s74 s75 s76 s77 s78 s79 s80 s81 s82 s83 s84 s85 s86 s87 s88 s89 s90 s91 s92 s93 s94 s95 s96 s97 s98 s99 s100 s101 s102 s103 s104 s105 s106 s107 s108 s109 s110 s111 s112 s113 s114 s115 s116 s117 s118 s119 s120 s121 s122 s123 s124 s125 s126 s127 s128 s129 s130 s131 s132 s133 s134 s135 s136 s137 s138 s139 s140 s141 s142 s143 s144 s145 s146 s147 s148 s149 s150 s151 s152 s153 s154 s155 s156 s157 s158 s159 s160 s161 s162 s163 s164 s165 s166 s167 s168 s169 s170 s171 s172 s173 s174 s175 s176 s177 s178 s179 s180 s181 s182 s183 s184 hA hob hkb
 conv=>arg 2;whnf
 obtain ⟨Ao,co,hBo,hIo⟩:=id hob
 have hput:=fun o2 wr (hc:CoreAt b wr o2 cb C (st5 S n)) (hg:Gl B wr o2) (hi:Imm wr o2 (.slice Ao n.args.length co) n.args)=>put_calls (B:=B) (hc.exact) (by have:=E.hN;show S.N≤_;omega) n (.slice Ao n.args.length co) hi.held E.hn (newId S) hg.tab hg.le
 have hid:(st5 S n).ex (keyStr n)=none:=E.hid
 have g4:=hA.core.at4
 have x0:wx.cell? ⟨ob,0,none⟩=some (.int .i64 n.op):=(blk_cell hBo.1 0).trans rfl
 have x1:wx.cell? ⟨ob,1,none⟩=some (.int .i64 n.width):=(blk_cell hBo.1 1).trans rfl
 have x2:wx.cell? ⟨ob,2,none⟩=some (.int .u64 n.val):=(blk_cell hBo.1 2).trans rfl
 have x3:wx.cell? ⟨ob,3,none⟩=some (.string n.name):=(blk_cell hBo.1 3).trans rfl
 have x4:wx.cell? ⟨ob,4,none⟩=some (.slice Ao n.args.length co):=(blk_cell hBo.1 4).trans rfl
 have L1:=Lib.hid (fun wr (hb:Below wx.heap.size wx wr)=>show wr.cell? ⟨cb,4,none⟩=some (.pointer (some ⟨C.eg,0,none⟩))∧wr.cell? ⟨ob,0,none⟩=some (.int .i64 n.op)∧wr.cell? ⟨ob,1,none⟩=some (.int .i64 n.width)∧wr.cell? ⟨ob,2,none⟩=some (.int .u64 n.val)∧wr.cell? ⟨ob,3,none⟩=some (.string n.name)∧wr.cell? ⟨ob,4,none⟩=some (.slice Ao n.args.length co)from ⟨pw_cell_below hb g4,pw_cell_below hb x0,pw_cell_below hb x1,pw_cell_below hb x2,pw_cell_below hb x3,pw_cell_below hb x4⟩)
 have hp:=Lib.hid (hput (o1.from_ wx.heap.size 0) wx.drew (hA.core.below (Below.refl _ _).drew) (hA.gl.on (Below.refl _ _).drew) (hIo.fr (((Kp.refl (fun _=>False) wx o1).renew 0).drew) (fun h=>h)))
 have HA:=Lib.hid (hA.below E.htg E.hb0 (Below.refl _ _).drew)
 have kz:=Lib.hid (show Kp (fun _=>False) wx o1 wx.drew (o1.from_ wx.heap.size 0)from ((Kp.refl _ wx o1).renew 0).drew)
 have HO:=Lib.hid (hob.fr kz.out (fun h=>h))
 have HK:=Lib.hid (hkb.fr kz.out (fun h=>h))
 have HNX:=Lib.hid next
 have HE:=Lib.hid E
 have HID:=Lib.hid hid
 rw [HID.out]at hp
 have HOC:=Lib.hid (show ¬ TabM (b+9) ((o1.from_ wx.heap.size 0) cb) by rw [Own.from_lt (blk_lt hA.core.blk.1),hA.core.blk.2];unfold TabM;omega)
 have HOO:=Lib.hid (show ¬ TabM (b+9) ((o1.from_ wx.heap.size 0) ob) by rw [Own.from_lt (blk_lt hBo.1),hBo.2];unfold TabM;omega)
 obtain ⟨q0,q1,q2,q3,q4,q5⟩:=L1.out wx.drew (Below.refl _ _).drew
 clear hob hkb hA next E hid hput hBo hIo x0 x1 x2 x3 x4 g4
 refine wp_seq_k ?_
 intro K hK
 go_cut [] (fun wy=>Hid (∃ o2 C2,AS B b g cb w.heap.size tg w o n A c wy o2 C2 (st6 S n)∧Box wy o2 ob n∧Box wy o2 kb (newKey S n)))
 case first =>
  go_region_held3 (fun wr=>wr.cell? ⟨cb,4,none⟩=some (.pointer (some ⟨C.eg,0,none⟩))∧wr.cell? ⟨ob,0,none⟩=some (.int .i64 n.op)∧wr.cell? ⟨ob,1,none⟩=some (.int .i64 n.width)∧wr.cell? ⟨ob,2,none⟩=some (.int .u64 n.val)∧wr.cell? ⟨ob,3,none⟩=some (.string n.name)∧wr.cell? ⟨ob,4,none⟩=some (.slice Ao n.args.length co))
   ((first | (refine ⟨?_,?_,?_,?_,?_,?_⟩ <;> assumption) | fail))
   ((go_at_call 46;refine hp.out.mono ?_;rintro e w3 ⟨o3,rfl,hT3,hF3⟩;have k5:=hF3.kp.cell q0 HOC.out;have k0:=hF3.kp.cell q1 HOO.out;have k1:=hF3.kp.cell q2 HOO.out;have k2:=hF3.kp.cell q3 HOO.out;have k3:=hF3.kp.cell q4 HOO.out;have k4:=hF3.kp.cell q5 HOO.out;have HT3:=Lib.hid hT3;have HF3:=Lib.hid hF3;clear hT3 hF3))
  go_wp2_with fail
  go_meet
  have hcore:=HA.out.core.onExact HF3.out.kp (Nat.le_succ _) HT3.out
  have hfr:=HF3.out.mono (fun _ h=>tab9_core h)
  have hA2:=HA.out.next HE.out.htg HE.out.hb0 hcore hfr
  have hk0:¬ CoreM b 0:=by unfold CoreM;omega
  exact ⟨_,_,hA2,HO.out.fr hfr.kp hk0,HK.out.fr hfr.kp hk0⟩
 case rest =>
  refine hK _ _ ?_
  obtain ⟨o2,C2,h1,h2,h3⟩:=hcut
  exact HNX.out cb C2 wc o2 ob kb _ _ _ _ _ _ _ _ _ _ _ _ _ _ _ _ _ _ _ _ _ _ _ _ _ _ _ _ _ _ _ _ _ _ _ _ _ _ _ _ _ _ _ _ _ _ _ _ _ _ _ _ _ _ _ _ _ _ _ _ _ _ _ _ _ _ _ _ _ _ _ _ _ _ _ _ _ _ _ _ _ _ _ _ _ _ _ _ _ _ _ _ _ _ _ _ _ _ _ _ _ _ _ _ _ _ _ _ _ _ _ _ _ _ _ _ _ _ _ _ _ _ _ _ _ _ _ _ _ _ _ _ _ _ _ _ _ _ _ _ _ _ _ _ _ _ _ _ _ _ _ _ _ _ _ _ _ _ _ _ _ _ _ _ _ _ _ _ _ _ _ _ _ _ _ _ _ _ _ h1 h2 h3
end Go.Proofs.YtjckhhecnebmmaaGreatDoor.TU
end
section
namespace Go.Proofs.YtjckhhecnebmmaaGreatDoor.TU
open Go.RowKit Go.Proofs.YtjckhhecnebmmaaGreatDoorW.PrintWords Go.Proofs.YtjckhhecnebmmaaGreatDoorW.PrintLast Go.Proofs.YtjckhhecnebmmaaGreatDoorW.PrintMore Go.Proofs.YtjckhhecnebmmaaGreatDoor.QAll
attribute [local go_sem] max2_int min2_int max_two min_two max_three min_three max_four min_four
set_option linter.unusedVariables false
theorem CoreAt.monoN {b cb:Nat} {w:World} {o:Own} {C:Cl} {S:St} (h:CoreAt b w o cb C S) {N:Nat} (hN:S.N≤N):CoreAt b w o cb C { S with N:=N }:={ h with exact:=h.exact.mono hN,table:=h.table.mono hN,vars:=h.vars.mono hN }
set_option maxHeartbeats 12800000 in
set_option maxRecDepth 100000 in
theorem seg26 {B b g tg:Nat} {w:World} {o:Own} {S:St} {n:Nd} {A:Option Addr} {c:Nat} (E:AddEnv B b g tg w o S n) (next:Seg (addC 15) B b g tg w o S n A c (st7 S n)):Seg (addC 14) B b g tg w o S n A c (st6 S n):=by
 intro cb C wx o1 ob kb s1 s2 s4 s5 s7 s8 s9 s13 s14 s15 s16 s17 s18 s19 s20 s21 s22 s23 s24 s25 s26 s27 s28 s29 s30 s31 s32 s33 s34 s35 s36 s37 s38 s39 s40 s41 s42 s43 s44 s45 s46 s47 s48 s49 s50 s51 s52 s53 s54 s55 s56 s57 s58 s59 s60 s61 s62 s63 s64 s65 s66 s67 s68 s69 s70 s71 s72 s73 s74 s75 s76 s77 s78 s79 s80 s81 s82 s83 s84 s85 s86 s87 s88 s89 s90 s91 s92 s93 s94 s95 s96 s97 s98 s99 s100 s101 s102 s103 s104 s105 s106 s107 s108 s109 s110 s111 s112 s113 s114 s115 s116 s117 s118 s119 s120 s121 s122 s123 s124 s125 s126 s127 s128 s129 s130 s131 s132 s133 s134 s135 s136 s137 s138 s139 s140 s141 s142 s143 s144 s145 s146 s147 s148 s149 s150 s151 s152 s153 s154 s155 s156 s157 s158 s159 s160 s161 s162 s163 s164 s165 s166 s167 s168 s169 s170 s171 s172 s173 s174 s175 s176 s177 s178 s179 s180 s181 s182 s183 s184 hA hob hkb
 conv=>arg 2;whnf
 have x0:wx.cell? ⟨w.heap.size,0,none⟩=some (.int .i64 n.op):=(blk_cell hA.nb.1.1 0).trans rfl
 have HNX:=Lib.hid next
 have HE:=Lib.hid E
 refine wp_seq_k ?_
 intro K hK
 go_cut [] (fun wy=>Hid (∃ o2 C2,AS B b g cb w.heap.size tg w o n A c wy o2 C2 (st7 S n)∧Box wy o2 ob n∧Box wy o2 kb (newKey S n)))
 case first =>
  by_cases hop:n.op=1
  ·have hvs:newVs S n=updF S.vs (lits_ n.name) (some (.int .i64 n.width)):=by unfold newVs;rw [if_pos hop]
   have hA2:=hA.below E.htg E.hb0 (Below.refl _ _).drew
   have kz:Kp (fun _=>False) wx o1 wx.drew (o1.from_ wx.heap.size 0):=((Kp.refl _ wx o1).renew 0).drew
   obtain ⟨w3,hru,hG3,hgr3⟩:=GMap.update (Go.Maps.string_keyed Tryz.underlying9) Tryz.underlying62 (Go.WideMaps.keyOf_string_mk Tryz.underlying9 (by have:=E.hn.name;have:maxLen=9223372036854775807:=rfl;omega:n.name.size≤maxLen)) hA2.core.vars (by have:=E.hN;have:maxLen=9223372036854775807:=rfl;show S.N+1 < maxLen;omega) (v:=.int .i64 n.width) ⟨_,rfl,E.hn.width⟩
   have hgm:some w.heap.size≠some C.mv:=by
    intro e
    have h1:=hA2.nb.1.2
    have h2:=hA2.core.omv
    rw [← Option.some.inj e]at h2
    rw [h1]at h2
    omega
   have hcm:some cb≠some C.mv:=by
    intro e
    have h1:=hA2.core.blk.2
    have h2:=hA2.core.omv
    rw [← Option.some.inj e]at h2
    rw [h1]at h2
    omega
   have q7:wx.drew.cell? ⟨cb,7,none⟩=some (.map (some C.mv)):=hA2.core.at7
   have q1:wx.drew.cell? ⟨w.heap.size,1,none⟩=some (.int .i64 n.width):=(blk_cell hA2.nb.1.1 1).trans rfl
   have q3:wx.drew.cell? ⟨w.heap.size,3,none⟩=some (.string n.name):=(blk_cell hA2.nb.1.1 3).trans rfl
   have k7:=hgr3.cell q7 hcm
   have k1:=hgr3.cell q1 hgm
   have k3:=hgr3.cell q3 hgm
   have HO:=Lib.hid (hob.fr kz (fun h=>h))
   have HK:=Lib.hid (hkb.fr kz (fun h=>h))
   have HA:=Lib.hid hA2
   have HVS:=Lib.hid hvs
   have HG3:=Lib.hid hG3
   have HGR:=Lib.hid hgr3
   have hopb:(n.op == 1)=true:=by simpa using hop
   clear hob hkb hA hA2 hvs hG3 hgr3 hgm hcm kz next E hop
   go_wp2_with fail
   go_region_held3 (fun wr=>wr.cell? ⟨cb,7,none⟩=some (.map (some C.mv))∧wr.cell? ⟨w.heap.size,1,none⟩=some (.int .i64 n.width)∧wr.cell? ⟨w.heap.size,3,none⟩=some (.string n.name))
    ((first | (refine ⟨?_,?_,?_⟩ <;> assumption) | fail))
    (fail)
   go_wp2_with fail
   go_meet
   have hcore:=HA.out.core.onVars HGR.out (Nat.le_succ _) HG3.out
   have hlit:(Lit.string n.name.data.toList)=lits_ n.name:=rfl
   rw [hlit]at hcore
   have hfr:Fr (CoreM b) wx.drew (o1.from_ wx.heap.size 0) w3 (o1.from_ wx.heap.size 0):=by
    refine ⟨HGR.out.os,HGR.out.tape,HGR.out.output,HGR.out.size,fun _ _=>rfl,fun k hk hm=>HGR.out.block k hk (fun e=>hm ?_),fun k hk=>.inl (Own.from_ge hk)⟩
    rw [Option.some.inj e,HA.out.core.omv]
    unfold CoreM
    omega
   have hA3:=HA.out.next HE.out.htg HE.out.hb0 hcore hfr
   have hk0:¬ CoreM b 0:=by unfold CoreM;omega
   have hst:({ st6 S n with vs:=updF (st6 S n).vs (lits_ n.name) (some (.int .i64 n.width)),N:=(st6 S n).N+1 }:St)=st7 S n:=by unfold st7;rw [HVS.out];rfl
   rw [hst]at hA3
   exact ⟨_,_,hA3,HO.out.fr hfr.kp hk0,HK.out.fr hfr.kp hk0⟩
  ·have hvs:newVs S n=S.vs:=by unfold newVs;rw [if_neg hop]
   have hst:({ st6 S n with N:=(st6 S n).N+1 }:St)=st7 S n:=by unfold st7;rw [hvs];rfl
   have HA:=Lib.hid (⟨hA.gr,hA.core.monoN (Nat.le_succ _),hA.fr,hA.gl,hA.nb⟩:AS B b g cb w.heap.size tg w o n A c wx o1 C { st6 S n with N:=(st6 S n).N+1 })
   have HO:=Lib.hid hob
   have HK:=Lib.hid hkb
   have HST:=Lib.hid hst
   have hopb:(n.op == 1)=false:=by simpa using hop
   clear hA hob hkb hvs hst hop next E
   go_wp2_with fail
   go_meet
   rw [HST.out]at HA
   exact ⟨o1,C,HA.out,HO.out,HK.out⟩
 case rest =>
  refine hK _ _ ?_
  obtain ⟨o2,C2,h1,h2,h3⟩:=hcut
  exact HNX.out cb C2 wc o2 ob kb _ _ _ _ _ _ _ _ _ _ _ _ _ _ _ _ _ _ _ _ _ _ _ _ _ _ _ _ _ _ _ _ _ _ _ _ _ _ _ _ _ _ _ _ _ _ _ _ _ _ _ _ _ _ _ _ _ _ _ _ _ _ _ _ _ _ _ _ _ _ _ _ _ _ _ _ _ _ _ _ _ _ _ _ _ _ _ _ _ _ _ _ _ _ _ _ _ _ _ _ _ _ _ _ _ _ _ _ _ _ _ _ _ _ _ _ _ _ _ _ _ _ _ _ _ _ _ _ _ _ _ _ _ _ _ _ _ _ _ _ _ _ _ _ _ _ _ _ _ _ _ _ _ _ _ _ _ _ _ _ _ _ _ _ _ _ _ _ _ _ _ _ _ _ _ _ _ _ _ h1 h2 h3
end Go.Proofs.YtjckhhecnebmmaaGreatDoor.TU
end
