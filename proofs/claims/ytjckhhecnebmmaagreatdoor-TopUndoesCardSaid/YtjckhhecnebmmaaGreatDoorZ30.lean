/- Steps towards the law TopUndoes; words printed by the kit, and printed texts, are cut to what is used, and spaces are left out. No condition. -/
import Derived.Test.YtjckhhecnebmmaaGreatDoorZ26
import Derived.Test.YtjckhhecnebmmaaGreatDoorZ29
import Derived.Test.YtjckhhecnebmmaaGreatDoorZ28
import Derived.Test.YtjckhhecnebmmaaGreatDoorZ9
import Derived.Test.YtjckhhecnebmmaaGreatDoorZ5
import Derived.Test.YtjckhhecnebmmaaGreatDoorZ15
set_option linter.unusedVariables false
set_option linter.unusedSimpArgs false
section
namespace Go.Proofs.YtjckhhecnebmmaaGreatDoor.TU
open Go.RowKit Go.Proofs.YtjckhhecnebmmaaGreatDoorW.PrintWords Go.Proofs.YtjckhhecnebmmaaGreatDoorW.PrintLast Go.Proofs.YtjckhhecnebmmaaGreatDoorW.PrintMore Go.Proofs.YtjckhhecnebmmaaGreatDoor.QAll
attribute [local go_sem] max2_int min2_int max_two min_two max_three min_three max_four min_four
set_option linter.unusedVariables false
def markS (S:St) (n:Nat):St:={ S with ms:=S.ms++[⟨S.ns.length,n,S.t.length,S.ks,S.todo,S.dirty⟩] }
set_option maxHeartbeats 3200000 in
set_option maxRecDepth 20000 in
theorem play_mark {b g s:Nat} {w:World} {o:Own} {S:St} {L:List S117} (H:GraphAt b w o g (withL S L)) (hS:Fine S) (hL:L.length≤800) (hms:S.ms.length≤1000) (e:Ev) (he:e.kind=4) (A:Option Addr) (c:Nat) (hs:w.cell? ⟨s,0,none⟩=some (.pointer (some ⟨g,0,none⟩))) :
  Calls Tryz.prog 14 #[.pointer (some ⟨s,0,none⟩),.agg (evc e A c)] w fun e' w'=>∃ o',e'=.returned (.tuple #[.int .i64 S.ms.length,.int .i64 0])∧GraphAt b w' o' g (withL (markS S L.length) L)∧Fr (GM b 7) w o w' o':=by
 have hb1:=below_alloc (Below.refl w.heap.size w) (.cells (evc e A c) 37)
 have k1:Kp (fun _=>False) w o (w.alloc (.cells (evc e A c) 37)) (o.from_ w.heap.size 0):=((Kp.refl _ w o).renew 0).below hb1
 have hcall:=gmark_calls (H.fr k1 (fun _ _ h=>h) (fun h=>h)) (hS.withL hL) hms
 have hs1:=pw_cell_below hb1 hs
 have F0:=Lib.hid (show Fr (GM b 7) w o (w.alloc (.cells (evc e A c) 37)) (o.from_ w.heap.size 0)from Fr.of_below hb1 0 (.inl rfl))
 have HCALL:=Lib.hid hcall
 clear hcall H hs hb1 k1
 obtain ⟨kind,t,ea,eb⟩:=e
 obtain rfl:kind=4:=he
 simp only [evc]at *
 go_enter Tryz.func14,Tryz.ntmps14
 go_wp2_with fail
 refine HCALL.out.mono ?_
 rintro e w3 ⟨o3,rfl,hg3,f3⟩
 have HG3:=Lib.hid hg3
 have F3:=Lib.hid f3
 clear hg3 f3 HCALL
 have hml:(withL S L).ms.length=S.ms.length:=rfl
 rw [hml]
 go_wp2_with fail
 go_ret2
 exact ⟨o3,rfl,HG3.out,F0.out.trans (F3.out.mono (fun _ h=>graphM_gm h))⟩
set_option maxHeartbeats 3200000 in
set_option maxRecDepth 20000 in
theorem play_undo {B b g s:Nat} (hb0:0 < b) {w:World} {o:Own} {S:St} (G:Gl B w o) (H:GraphAt b w o g S) (K:Mk) (mk:Nat) (D:UndoOk S K mk) (e:Ev) (he:e.kind=5) (hea:e.a=mk) (A:Option Addr) (c:Nat) (hso:o s=b+36) (hs:w.cell? ⟨s,0,none⟩=some (.pointer (some ⟨g,0,none⟩))) :
  Calls Tryz.prog 14 #[.pointer (some ⟨s,0,none⟩),.agg (evc e A c)] w (RPost b g 7 w o (undoS S K mk,1,0) K.links):=by
 have hb1:=Below.drew (below_alloc (Below.refl w.heap.size w) (.cells (evc e A c) 37))
 have k1:Kp (fun _=>False) w o (w.alloc (.cells (evc e A c) 37)).drew (o.from_ w.heap.size 0):=((Kp.refl _ w o).renew 0).below hb1
 have hcall:=undo_calls (G.on hb1) (H.fr k1 (fun _ _ h=>h) (fun h=>h)) hb0 K mk D
 have hbk:(w.alloc (.cells (evc e A c) 37)).drew.heap[w.heap.size]?=some (.cells (evc e A c) 37 (0,0)):=blk_new w _
 have hx:=blk_cell hbk
 have hs1:=pw_cell_below hb1 hs
 have F0:=Lib.hid (show Fr (GM b 7) w o (w.alloc (.cells (evc e A c) 37)).drew (o.from_ w.heap.size 0)from Fr.of_below hb1 0 (.inl rfl))
 have hso1:(o.from_ w.heap.size 0) s=b+36:=by rw [Own.from_lt (World.block_lt_of_cell? w _ hs)];exact hso
 have hbo1:(o.from_ w.heap.size 0) w.heap.size=0:=Own.from_ge (Nat.le_refl _)
 have y0:(w.alloc (.cells (evc e A c) 37)).drew.cell? ⟨w.heap.size,2+4,none⟩=some (.int .i64 e.a):=(hx 6).trans rfl
 rw [hea]at y0
 have HCALL:=Lib.hid hcall
 have HB0:=Lib.hid hb0
 have HSO:=Lib.hid hso1
 have HBO:=Lib.hid hbo1
 clear hcall G H hso hs hbk hx hb1 k1 hb0 hso1 hbo1
 obtain ⟨kind,t,ea,eb⟩:=e
 obtain rfl:kind=5:=he
 obtain rfl:ea=mk:=hea
 simp only [evc]at *
 go_enter Tryz.func14,Tryz.ntmps14
 go_wp2_with fail
 go_region_held3 (fun wr=>wr.cell? ⟨s,0,none⟩=some (.pointer (some ⟨g,0,none⟩))∧wr.cell? ⟨w.heap.size,6,none⟩=some (.int .i64 mk))
  ((first | (refine ⟨?_,?_⟩ <;> assumption) | fail))
  (first
   | (go_at_call 29;refine HCALL.out.mono ?_;rintro e w3 ⟨o3,L3,rfl,hg3,hl3,f3⟩;have k0:=f3.kp.cellT hs1 _ HSO.out (by unfold GraphM;omega);have k1:=f3.kp.cellT y0 _ HBO.out (by have:=HB0.out;unfold GraphM;omega);have HG3:=Lib.hid hg3;have F3:=Lib.hid f3;clear hg3 f3)
   | (go_at_call 27;refine (one_calls _ _).mono ?_;rintro e w4 ⟨rfl,hb4⟩;have k2:=pw_cell_below hb4 k0;have k3:=pw_cell_below hb4 k1;have HB4:=Lib.hid hb4;clear hb4))
 go_wp2_with fail
 go_ret2
 exact ⟨_,L3,rfl,GraphAt.zero HG3.out HB4.out,hl3,F0.out.trans ((F3.out.mono (fun _ h=>graphM_gm h)).trans (Fr.of_below HB4.out 0 (.inl rfl)))⟩
end Go.Proofs.YtjckhhecnebmmaaGreatDoor.TU
end
section
namespace Go.Proofs.YtjckhhecnebmmaaGreatDoor.TU
open Go.RowKit Go.Proofs.YtjckhhecnebmmaaGreatDoorW.PrintWords Go.Proofs.YtjckhhecnebmmaaGreatDoorW.PrintLast Go.Proofs.YtjckhhecnebmmaaGreatDoorW.PrintMore Go.Proofs.YtjckhhecnebmmaaGreatDoor.QAll
attribute [local go_sem] max2_int min2_int max_two min_two max_three min_three max_four min_four
set_option linter.unusedVariables false
structure EvB where
 kind:Int
 f0:Int
 f1:Int
 f2:Int
 f3:ByteArray
 sl:SL
 a:Int
 b:Int
def EvB.cells (r:EvB):List Value:=[.int .i64 r.kind,.int .i64 r.f0,.int .i64 r.f1,.int .u64 r.f2,.string r.f3,r.sl.v,.int .i64 r.a,.int .i64 r.b]
def kEV:Kd EvB:=flat 8 EvB.cells (fun _=>rfl) (fun r u hu=>by
 simp only [EvB.cells,List.mem_cons,List.not_mem_nil,or_false]at hu
 rcases hu with rfl | rfl | rfl | rfl | rfl | rfl | rfl | rfl <;> rfl)
theorem inf37:(Tryz.prog.info? 37).map (fun i=>(i.zero,i.size,i.bytes))=some (some (.agg #[.int .i64 0,.int .i64 0,.int .i64 0,.int .u64 0,.string ⟨#[]⟩,.slice none 0 0,.int .i64 0,.int .i64 0]),8,88):=by kernel_rfl
def SM (b:Nat):Nat→Prop:=fun x=>b≤x∧x < b+40
def SA (b:Nat):Nat→Prop:=fun x=>b≤x∧x < b+38
theorem gm_sm {b x:Nat} (h:GM b 7 x):SM b x:=by unfold GM at h;unfold SM;omega
structure SAt (b:Nat) (w:World) (o:Own) (s g:Nat) (vE:Value) (xs:List EvB) (S:St) (L:List S117):Prop where
 blk:Blk w o (b+36) s #[.pointer (some ⟨g,0,none⟩),vE] 45
 gr:GraphAt b w o g (withL S L)
 row:Row kEV 37 w o (b+37) vE xs
def SessAt (b:Nat) (w:World) (o:Own) (s:Nat) (S:St) (m n:Nat):Prop:=∃ g vE xs L,SAt b w o s g vE xs S L∧L.length≤m∧xs.length≤n
theorem SAt.fr {M:Nat→Prop} {b:Nat} {w w':World} {o o':Own} {s g:Nat} {vE:Value} {xs:List EvB} {S:St} {L:List S117} (h:SAt b w o s g vE xs S L) (f:Kp M w o w' o') (hM:∀ x,SA b x→¬ M x) (h0:¬ M 0):SAt b w' o' s g vE xs S L :=
 ⟨h.blk.fr f (hM _ ⟨by omega,by omega⟩),h.gr.fr f (fun x hx=>hM x (by unfold GraphM at hx;unfold SA;omega)) h0,h.row.fr f (hM _ ⟨by omega,by omega⟩)⟩
theorem SessAt.fr {M:Nat→Prop} {b:Nat} {w w':World} {o o':Own} {s:Nat} {S:St} {m n:Nat} (h:SessAt b w o s S m n) (f:Kp M w o w' o') (hM:∀ x,SA b x→¬ M x) (h0:¬ M 0):SessAt b w' o' s S m n:=by
 obtain ⟨g,vE,xs,L,h1,h2,h3⟩:=h
 exact ⟨g,vE,xs,L,h1.fr f hM h0,h2,h3⟩
theorem SAt.graph {b:Nat} {w w':World} {o o':Own} {s g:Nat} {vE:Value} {xs:List EvB} {S S':St} {L L':List S117} (h:SAt b w o s g vE xs S L) (f:Fr (GM b 7) w o w' o') (hg:GraphAt b w' o' g (withL S' L')):SAt b w' o' s g vE xs S' L' :=
 ⟨h.blk.fr f.kp (by unfold GM;omega),hg,h.row.fr f.kp (by unfold GM;omega)⟩
def PM (b τ:Nat):Nat→Prop:=fun x=>SM b x∨x=τ
def PlPost (b τ s:Nat) (w:World) (o:Own) (Rr:St × Int × Int→Prop) (m n:Nat) (e:Ending) (w':World):Prop :=
 ∃ r v o',Rr r∧e=.returned (.tuple #[v,.int .i64 r.2.2])∧SessAt b w' o' s r.1 m n∧Fr (PM b τ) w o w' o'∧(r.2.2=0→Row (Kd.int .i64) 3 w' o' τ v [r.2.1])
set_option maxHeartbeats 6400000 in
set_option maxRecDepth 20000 in
theorem Play_calls {b s τ:Nat} (hb0:0 < b) (hτ:τ≠0∧(τ < b∨b+38≤τ)∧τ≠b+39) {w:World} {o:Own} {S:St} {m n cost B:Nat} (G:Gl B w o) (D:SessAt b w o s S m n) (hn:n≤1000) (e:Ev) (A:Option Addr) (c:Nat) (hT:TIn w o 6 A e.t.f4) (hc:e.t.f4.length≤c) (hct:countT 7 e.t≤700) (q:Nat) (hq:Blk w o 0 q (evc e A c) 37) (Rr:St × Int × Int→Prop)
  (hplay:∀ w2 o2 g L,Gl B w2 o2→GraphAt b w2 o2 g (withL S L)→L.length≤m→TIn w2 o2 6 A e.t.f4→o2 s=b+36→w2.cell? ⟨s,0,none⟩=some (.pointer (some ⟨g,0,none⟩)) →
   Calls Tryz.prog 14 #[.pointer (some ⟨s,0,none⟩),.agg (evc e A c)] w2 (fun e' w'=>∃ r,Rr r∧RPost b g 7 w2 o2 r (m+cost) e' w')) :
  Calls Tryz.prog 7 #[.pointer (some ⟨s,0,none⟩),.slice (some ⟨q,0,none⟩) 1 1] w (PlPost b τ s w o Rr (m+cost) (n+1)):=by
 obtain ⟨g,vE,xs,L,D,hL,hxs⟩:=D
 have s0:w.cell? ⟨s,0,none⟩=some (.pointer (some ⟨g,0,none⟩)):=(blk_cell D.blk.1 0).trans rfl
 have hqc:=blk_cell hq.1
 have HD:=Lib.hid D
 have HG:=Lib.hid G
 have HT:=Lib.hid hT
 have HQ:=Lib.hid hq
 have HP:=Lib.hid hplay
 have HWF:=Lib.hid (TIn.wf' hT)
 have HCT:=Lib.hid hct
 have HC:=Lib.hid hc
 have HL:=Lib.hid hL
 have HN:=Lib.hid (show xs.length≤n∧n≤1000 from ⟨hxs,hn⟩)
 clear D G hT hq hplay hct hc hL hxs hn
 obtain ⟨kind,t,ea,eb⟩:=e
 simp only [evc]at *
 go_enter Tryz.func7,Tryz.ntmps7
 go_upto_region 4 with fail
 go_wp2_with fail
 go_loopw [6,22] (fun s6 s22 wr=>(s6=.slice none 0 0∧s22=.int .i64 0∧wr=w)∨(s22=.int .i64 1∧∃ A6 c6,s6=.slice A6 1 c6∧Hid (∃ r o',Rr r∧r.2.2=0∧SessAt b wr o' s r.1 (m+cost) (n+1)∧Fr (PM b τ) w o wr o'∧Row (Kd.int .i64) 3 wr o' τ (.slice A6 1 c6) [r.2.1]))) (fun _ i _=>1 - (intOf i).toNat)
 case atStart=>exact .inl ⟨rfl,rfl,rfl⟩
 case round =>
  rcases hrel with ⟨rfl,rfl,rfl⟩ | ⟨rfl,A6,c6,rfl,h6⟩
  ·go_upto_region 6 with fail
   go_cut [8] (fun s8 wy=>∃ ub,s8=.pointer (some ⟨ub,0,none⟩)∧Hid (wr.heap.size≤ub∧Below wr.heap.size wr wy∧wy.heap[ub]?=some (.cells #[.int .i64 kind,.int .i64 t.f0,.int .i64 t.f1,.int .u64 t.f2,.string t.f3,.slice A t.f4.length c,.int .i64 ea,.int .i64 eb] 37 (0,0))))
   case first =>
    have y0:wr.cell? ⟨q,0,none⟩=some (.int .i64 kind):=(hqc 0).trans rfl
    have y1:wr.cell? ⟨q,1,none⟩=some (.int .i64 t.f0):=(hqc 1).trans rfl
    have y2:wr.cell? ⟨q,2,none⟩=some (.int .i64 t.f1):=(hqc 2).trans rfl
    have y3:wr.cell? ⟨q,3,none⟩=some (.int .u64 t.f2):=(hqc 3).trans rfl
    have y4:wr.cell? ⟨q,4,none⟩=some (.string t.f3):=(hqc 4).trans rfl
    have y5:wr.cell? ⟨q,5,none⟩=some (.slice A t.f4.length c):=(hqc 5).trans rfl
    have y6:wr.cell? ⟨q,6,none⟩=some (.int .i64 ea):=(hqc 6).trans rfl
    have y7:wr.cell? ⟨q,7,none⟩=some (.int .i64 eb):=(hqc 7).trans rfl
    clear hqc
    go_wp2_with fail
    go_meet
    exact ⟨_,rfl,Nat.le_refl _,below_alloc (Below.refl _ _) _,blk_new _ _⟩
   case rest =>
   obtain ⟨ub,rfl,hub,hb1,hbk⟩:=hcut
   obtain ⟨o1,D1,G1,T1,f1,hou,hos⟩:∃ o1,SAt b wc o1 s g vE xs S L∧Gl B wc o1∧TIn wc o1 6 A t.f4∧Fr (PM b τ) wr o wc o1∧o1 ub=b+39∧o1 s=b+36 :=
    ⟨o.from_ wr.heap.size (b+39),HD.out.fr (((Kp.refl (fun _=>False) wr o).renew (b+39)).below hb1) (fun _ _ h=>h) (fun h=>h),HG.out.fr ((Fr.start (PM b τ) wr o (b+39) (.inr (by unfold PM SM;omega))).below hb1) (by unfold PM SM;omega),TIn.fr (((Kp.refl (fun _=>False) wr o).renew (b+39)).below hb1) (fun h=>h) _ _ _ HT.out,(Fr.start (PM b τ) wr o (b+39) (.inr (by unfold PM SM;omega))).below hb1,Own.from_ge hub,by rw [Own.from_lt (blk_lt HD.out.blk.1)];exact HD.out.blk.2⟩
   have s1:wc.cell? ⟨s,0,none⟩=some (.pointer (some ⟨g,0,none⟩)):=(blk_cell D1.blk.1 0).trans rfl
   have hcall:=HP.out wc o1 g L G1 D1.gr HL.out T1 hos s1
   have hx:=blk_cell hbk
   have y0:wc.cell? ⟨ub,0,none⟩=some (.int .i64 kind):=(hx 0).trans rfl
   have y1:wc.cell? ⟨ub,1,none⟩=some (.int .i64 t.f0):=(hx 1).trans rfl
   have y2:wc.cell? ⟨ub,2,none⟩=some (.int .i64 t.f1):=(hx 2).trans rfl
   have y3:wc.cell? ⟨ub,3,none⟩=some (.int .u64 t.f2):=(hx 3).trans rfl
   have y4:wc.cell? ⟨ub,4,none⟩=some (.string t.f3):=(hx 4).trans rfl
   have y5:wc.cell? ⟨ub,5,none⟩=some (.slice A t.f4.length c):=(hx 5).trans rfl
   have y6:wc.cell? ⟨ub,6,none⟩=some (.int .i64 ea):=(hx 6).trans rfl
   have y7:wc.cell? ⟨ub,7,none⟩=some (.int .i64 eb):=(hx 7).trans rfl
   have HCALL:=Lib.hid hcall
   have HD1:=Lib.hid D1
   have HT1:=Lib.hid T1
   have F1:=Lib.hid f1
   have HBK:=Lib.hid (show Blk wc o1 (b+39) ub _ 37 from ⟨hbk,hou⟩)
   have HG1:=Lib.hid G1
   clear hcall D1 T1 f1 hbk hou hos G1 hx hub hb1 s0 hqc s1 HP HQ HD HG HT
   go_wp2_with fail
   refine HCALL.out.mono ?_
   rintro e w2 ⟨r,hr,o2,L2,rfl,hg2,hl2,f2⟩
   have D2:=HD1.out.graph f2 hg2
   have HD2:=Lib.hid D2
   have F2:=Lib.hid (F1.out.trans (f2.mono (fun _ h=>.inl (gm_sm h))))
   have HR:=Lib.hid hr
   have HL2:=Lib.hid hl2
   have h0:¬ GM b 7 0:=by unfold GM;omega
   have HT2:=Lib.hid (TIn.fr f2.kp h0 _ _ _ HT1.out)
   have HBK2:=Lib.hid (HBK.out.fr f2.kp (by unfold GM;omega))
   clear D2 hg2 hl2 f2 hr h0 HCALL y0 y1 y2 y3 y4 y5 y6 y7 HD1 HT1 HBK HG1 F1
   by_cases he:r.2.2=0
   ·have heb:(r.2.2 != 0)=false:=by simpa using he
    have HE:=Lib.hid he
    obtain ⟨r1,r2,r3⟩:=r
    simp only at HD2 HE heb ⊢
    clear he
    go_upto_region 10 with fail
    go_cut [6] (fun s6 wy=>∃ A6 c6,s6=.slice A6 1 c6∧Hid (∃ o3,SAt b wy o3 s g vE xs r1 L2∧Fr (PM b τ) wr o wy o3∧Row (Kd.int .i64) 3 wy o3 τ (.slice A6 1 c6) [r2]∧TIn wy o3 6 A t.f4∧Blk wy o3 (b+39) ub #[.int .i64 kind,.int .i64 t.f0,.int .i64 t.f1,.int .u64 t.f2,.string t.f3,.slice A t.f4.length c,.int .i64 ea,.int .i64 eb] 37))
    case first =>
     go_wp2_with ((with_reducible refine gate_builtin (b:=.append) (xs:=#[.tmp 36,.tmp 38]) rfl ?_);at_builtin;refine row_append (Kd.int .i64) (Fr.start (·=τ) w2 o2 0 (.inl rfl)) τ rfl rfl (.tmp 36) (.tmp 38) 26 3 (.int .i64 0) 8 rfl Tryz.underlying26 inf3 rfl (by decide) (by omega) (.slice none 0 0) [] r2 [.int .i64 r2] rfl rfl ?aP (Row.nil _ _ _ _ _) ?aL ?_;(case aP=>exact rfl);(case aL=>simp);intro A7 c7 w7 h7 f7 k7;have H7:=Lib.hid h7;have F7:=Lib.hid f7;clear h7 f7 k7)
     go_meet
     exact ⟨A7,c7,rfl,_,HD2.out.fr F7.out.kp (fun x hx e=>by unfold SA at hx;omega) (by omega),F2.out.trans (F7.out.mono (fun x hx=>by subst hx;unfold PM SM;omega)),H7.out,TIn.fr F7.out.kp (by omega) _ _ _ HT2.out,HBK2.out.fr F7.out.kp (by omega)⟩
    case rest =>
    obtain ⟨A6,c6,rfl,o3,D3,f3,r3',T3,B3⟩:=hcut
    obtain ⟨K4,hcp⟩:=copy_f 7 t HWF.out (by have:=HCT.out;omega)
    have hcopy:=term_Copy.calls K4 t.f0 t.f1 t.f2 t.f3 A c t.f4 _ _ _ _ _ wc (TIn.C _ _ _ T3) HC.out hcp
    have hx:=blk_cell B3.1
    have y1:wc.cell? ⟨ub,1,none⟩=some (.int .i64 t.f0):=(hx 1).trans rfl
    have y2:wc.cell? ⟨ub,2,none⟩=some (.int .i64 t.f1):=(hx 2).trans rfl
    have y3:wc.cell? ⟨ub,3,none⟩=some (.int .u64 t.f2):=(hx 3).trans rfl
    have y4:wc.cell? ⟨ub,4,none⟩=some (.string t.f3):=(hx 4).trans rfl
    have y5:wc.cell? ⟨ub,5,none⟩=some (.slice A t.f4.length c):=(hx 5).trans rfl
    have HCP:=Lib.hid hcopy
    have HD3:=Lib.hid D3
    have F3:=Lib.hid f3
    have HR3:=Lib.hid r3'
    have HT3:=Lib.hid T3
    have HB3:=Lib.hid B3
    clear D3 f3 r3' T3 B3 hcopy hcp hx HD2 HT2 HBK2 F2
    refine (‹∀ (a:Act) (w:World),Code.wp _ _ _ a w→_›) _ _ ?_
    go_upto_region 11 with fail
    go_cut [] (fun wy=>Hid (∃ o4 A4 c4,SAt b wy o4 s g vE xs r1 L2∧Fr (PM b τ) wr o wy o4∧Row (Kd.int .i64) 3 wy o4 τ (.slice A6 1 c6) [r2]∧Blk wy o4 (b+39) ub #[.int .i64 kind,.int .i64 t.f0,.int .i64 t.f1,.int .u64 t.f2,.string t.f3,.slice A4 t.f4.length c4,.int .i64 ea,.int .i64 eb] 37))
    case first =>
     go_wp2_with fail
     refine HCP.out.mono ?_
     rintro e w4 ⟨v4,rfl,hr4,hb4⟩
     obtain ⟨A4,c4,rfl⟩:=Kd.R_slice hr4
     have HB4:=Lib.hid hb4
     have hx4:=blk_frozen (blk_below HB3.out.1 hb4)
     have z1:=hx4 1
     have z2:=hx4 2
     have z3:=hx4 3
     have z4:=hx4 4
     have z5:=hx4 5
     have hy:=blk_cell (blk_below HB3.out.1 hb4)
     have u1:w4.cell? ⟨ub,1,none⟩=some (.int .i64 t.f0):=(hy 1).trans rfl
     have u2:w4.cell? ⟨ub,2,none⟩=some (.int .i64 t.f1):=(hy 2).trans rfl
     have u3:w4.cell? ⟨ub,3,none⟩=some (.int .u64 t.f2):=(hy 3).trans rfl
     have u4:w4.cell? ⟨ub,4,none⟩=some (.string t.f3):=(hy 4).trans rfl
     have u5:w4.cell? ⟨ub,5,none⟩=some (.slice A t.f4.length c):=(hy 5).trans rfl
     clear hr4 hb4 hx4 hy HCP y1 y2 y3 y4 y5
     go_wp2_with fail
     go_meet
     have k4:Kp (fun _=>False) wc o3 w4 (o3.from_ wc.heap.size 0):=((Kp.refl _ wc o3).renew 0).below HB4.out
     have f4:Fr (PM b τ) wc o3 w4 (o3.from_ wc.heap.size 0):=Fr.of_below HB4.out 0 (.inl rfl)
     have B4:=HB3.out.fr k4 (fun h=>h)
     have hkk:∀ (W:World) (i:Nat) (u:Value),Kp (·=b+39) W (o3.from_ wc.heap.size 0) (W.setCell ⟨ub,i,none⟩ u) (o3.from_ wc.heap.size 0):=fun W i u=>(Kp.refl _ W _).setCell _ _ (.inl B4.2)
     have hff:∀ (W:World) (i:Nat) (u:Value),W.heap.size=w4.heap.size→Fr (PM b τ) wc o3 W (o3.from_ wc.heap.size 0)→Fr (PM b τ) wc o3 (W.setCell ⟨ub,i,none⟩ u) (o3.from_ wc.heap.size 0):=fun W i u _ h=>h.setCell _ _ (.inl (by show PM b τ (Own.from_ _ _ _ ub);rw [B4.2];unfold PM SM;omega))
     have kk:=((((k4.mono (M':=(·=b+39)) (fun _ h=>h.elim)).trans (hkk w4 1 (.int .i64 t.f0))).trans (hkk _ 2 (.int .i64 t.f1))).trans (hkk _ 3 (.int .u64 t.f2))).trans (hkk _ 4 (.string t.f3)) |>.trans (hkk _ 5 (.slice A4 t.f4.length c4))
     refine ⟨_,A4,c4,HD3.out.fr kk (fun x hx e=>by unfold SA at hx;omega) (by omega),F3.out.trans ?_,HR3.out.fr kk (by omega),((((B4.set 1 (.int .i64 t.f0)).set 2 (.int .i64 t.f1)).set 3 (.int .u64 t.f2)).set 4 (.string t.f3)).set 5 (.slice A4 t.f4.length c4)⟩
     have hs39:PM b τ ((o3.from_ wc.heap.size 0) ub):=by rw [B4.2];unfold PM SM;omega
     exact ((((f4.setCell ⟨ub,1,none⟩ _ (.inl hs39)).setCell ⟨ub,2,none⟩ _ (.inl hs39)).setCell ⟨ub,3,none⟩ _ (.inl hs39)).setCell ⟨ub,4,none⟩ _ (.inl hs39)).setCell ⟨ub,5,none⟩ _ (.inl hs39)
    case rest =>
    obtain ⟨o4,A4,c4,D4,f4,r4,B4⟩:=hcut
    clear HCP HD3 F3 HR3 HT3 HB3 y1 y2 y3 y4 y5
    obtain ⟨Av,cv,hv⟩:=D4.row.slice
    subst hv
    have ga:wc.drew.cell? ⟨s,1,none⟩=some (.slice Av xs.length cv):=(blk_cell D4.blk.1 1).trans rfl
    have gb0:wc.drew.cell? ⟨ub,0,none⟩=some (.int .i64 kind):=(blk_cell B4.1 0).trans rfl
    have gb1:wc.drew.cell? ⟨ub,1,none⟩=some (.int .i64 t.f0):=(blk_cell B4.1 1).trans rfl
    have gb2:wc.drew.cell? ⟨ub,2,none⟩=some (.int .i64 t.f1):=(blk_cell B4.1 2).trans rfl
    have gb3:wc.drew.cell? ⟨ub,3,none⟩=some (.int .u64 t.f2):=(blk_cell B4.1 3).trans rfl
    have gb4:wc.drew.cell? ⟨ub,4,none⟩=some (.string t.f3):=(blk_cell B4.1 4).trans rfl
    have gb5:wc.drew.cell? ⟨ub,5,none⟩=some (.slice A4 t.f4.length c4):=(blk_cell B4.1 5).trans rfl
    have gb6:wc.drew.cell? ⟨ub,6,none⟩=some (.int .i64 ea):=(blk_cell B4.1 6).trans rfl
    have gb7:wc.drew.cell? ⟨ub,7,none⟩=some (.int .i64 eb):=(blk_cell B4.1 7).trans rfl
    have gfz:=blk_frozen D4.blk.1 1
    have ka:(wc.drew.alloc (.cells #[.int .i64 kind,.int .i64 t.f0,.int .i64 t.f1,.int .u64 t.f2,.string t.f3,.slice A4 t.f4.length c4,.int .i64 ea,.int .i64 eb] 37)).cell? ⟨s,1,none⟩=some (.slice Av xs.length cv):=(blk_cell (blk_alloc D4.blk.1 _) 1).trans rfl
    have kb0:(wc.drew.alloc (.cells #[.int .i64 kind,.int .i64 t.f0,.int .i64 t.f1,.int .u64 t.f2,.string t.f3,.slice A4 t.f4.length c4,.int .i64 ea,.int .i64 eb] 37)).cell? ⟨ub,0,none⟩=some (.int .i64 kind):=(blk_cell (blk_alloc B4.1 _) 0).trans rfl
    have kb1:(wc.drew.alloc (.cells #[.int .i64 kind,.int .i64 t.f0,.int .i64 t.f1,.int .u64 t.f2,.string t.f3,.slice A4 t.f4.length c4,.int .i64 ea,.int .i64 eb] 37)).cell? ⟨ub,1,none⟩=some (.int .i64 t.f0):=(blk_cell (blk_alloc B4.1 _) 1).trans rfl
    have kb2:(wc.drew.alloc (.cells #[.int .i64 kind,.int .i64 t.f0,.int .i64 t.f1,.int .u64 t.f2,.string t.f3,.slice A4 t.f4.length c4,.int .i64 ea,.int .i64 eb] 37)).cell? ⟨ub,2,none⟩=some (.int .i64 t.f1):=(blk_cell (blk_alloc B4.1 _) 2).trans rfl
    have kb3:(wc.drew.alloc (.cells #[.int .i64 kind,.int .i64 t.f0,.int .i64 t.f1,.int .u64 t.f2,.string t.f3,.slice A4 t.f4.length c4,.int .i64 ea,.int .i64 eb] 37)).cell? ⟨ub,3,none⟩=some (.int .u64 t.f2):=(blk_cell (blk_alloc B4.1 _) 3).trans rfl
    have kb4:(wc.drew.alloc (.cells #[.int .i64 kind,.int .i64 t.f0,.int .i64 t.f1,.int .u64 t.f2,.string t.f3,.slice A4 t.f4.length c4,.int .i64 ea,.int .i64 eb] 37)).cell? ⟨ub,4,none⟩=some (.string t.f3):=(blk_cell (blk_alloc B4.1 _) 4).trans rfl
    have kb5:(wc.drew.alloc (.cells #[.int .i64 kind,.int .i64 t.f0,.int .i64 t.f1,.int .u64 t.f2,.string t.f3,.slice A4 t.f4.length c4,.int .i64 ea,.int .i64 eb] 37)).cell? ⟨ub,5,none⟩=some (.slice A4 t.f4.length c4):=(blk_cell (blk_alloc B4.1 _) 5).trans rfl
    have kb6:(wc.drew.alloc (.cells #[.int .i64 kind,.int .i64 t.f0,.int .i64 t.f1,.int .u64 t.f2,.string t.f3,.slice A4 t.f4.length c4,.int .i64 ea,.int .i64 eb] 37)).cell? ⟨ub,6,none⟩=some (.int .i64 ea):=(blk_cell (blk_alloc B4.1 _) 6).trans rfl
    have kb7:(wc.drew.alloc (.cells #[.int .i64 kind,.int .i64 t.f0,.int .i64 t.f1,.int .u64 t.f2,.string t.f3,.slice A4 t.f4.length c4,.int .i64 ea,.int .i64 eb] 37)).cell? ⟨ub,7,none⟩=some (.int .i64 eb):=(blk_cell (blk_alloc B4.1 _) 7).trans rfl
    have la:(wc.alloc (.cells #[.int .i64 kind,.int .i64 t.f0,.int .i64 t.f1,.int .u64 t.f2,.string t.f3,.slice A4 t.f4.length c4,.int .i64 ea,.int .i64 eb] 37)).cell? ⟨s,1,none⟩=some (.slice Av xs.length cv):=ka
    have HD4:=Lib.hid D4
    have F4:=Lib.hid f4
    have HR4:=Lib.hid r4
    have hlx:xs.length≤1000:=by have:=HN.out;omega
    have FIN:=Lib.hid (fun (w5:World) (A5:Option Addr) (c5:Nat) (h5:Row kEV 37 w5 (o4.from_ wc.drew.heap.size (b+37)) (b+37) (.slice A5 (xs.length+1) c5) (xs++[(⟨kind,t.f0,t.f1,t.f2,t.f3,⟨A4,t.f4.length,c4⟩,ea,eb⟩:EvB)])) (kp5:Kp (·=b+37) wc o4 w5 (o4.from_ wc.drew.heap.size (b+37))) (f5:Fr (·=b+37) wc o4 w5 (o4.from_ wc.drew.heap.size (b+37))) =>
     show (Value.slice A6 1 c6=Value.slice none 0 0∧Value.int .i64 1=Value.int .i64 0∧w5.setCell ⟨s,1,none⟩ (.slice A5 (xs.length+1) c5)=wr)∨(Value.int .i64 1=Value.int .i64 1∧∃ A6' c6',Value.slice A6 1 c6=Value.slice A6' 1 c6'∧Hid (∃ r o',Rr r∧r.2.2=0∧SessAt b (w5.setCell ⟨s,1,none⟩ (.slice A5 (xs.length+1) c5)) o' s r.1 (m+cost) (n+1)∧Fr (PM b τ) wr o (w5.setCell ⟨s,1,none⟩ (.slice A5 (xs.length+1) c5)) o'∧Row (Kd.int .i64) 3 (w5.setCell ⟨s,1,none⟩ (.slice A5 (xs.length+1) c5)) o' τ (.slice A6' 1 c6') [r.2.1]))from by
     have hb5:=D4.blk.fr kp5 (by omega)
     have ks:Kp (·=b+36) w5 (o4.from_ wc.drew.heap.size (b+37)) (w5.setCell ⟨s,1,none⟩ (.slice A5 (xs.length+1) c5)) (o4.from_ wc.drew.heap.size (b+37)):=(Kp.refl _ w5 _).setCell _ _ (.inl hb5.2)
     have kk:Kp (fun x=>x=b+37∨x=b+36) wc o4 (w5.setCell ⟨s,1,none⟩ (.slice A5 (xs.length+1) c5)) (o4.from_ wc.drew.heap.size (b+37)):=(kp5.mono (fun _ h=>.inl h)).trans (ks.mono (fun _ h=>.inr h))
     have ff:Fr (PM b τ) wc o4 (w5.setCell ⟨s,1,none⟩ (.slice A5 (xs.length+1) c5)) (o4.from_ wc.drew.heap.size (b+37)):=(f5.mono (M':=PM b τ) (fun x h=>by subst h;unfold PM SM;omega)).setCell ⟨s,1,none⟩ _ (.inl (by show PM b τ ((o4.from_ wc.drew.heap.size (b+37)) s);rw [hb5.2];unfold PM SM;omega))
     exact .inr ⟨rfl,A6,c6,rfl,(r1,r2,r3),_,HR.out,HE.out,⟨g,_,_,L2,⟨hb5.set 1 (.slice A5 (xs.length+1) c5),D4.gr.fr kk (fun x hx=>by unfold GraphM at hx;omega) (by omega),h5.fr ks (by omega)⟩,HL2.out,by have:=HN.out;simp;omega⟩,f4.trans ff,r4.fr kk (by omega)⟩)
    clear D4 f4 r4 B4
    refine (‹∀ (a:Act) (w:World),Code.wp _ _ _ a w→_›) _ _ ?_
    go_upto_region 12 with fail
    go_region_law
     ((refine Kd.R_append_step kEV (w0:=wc.drew) (W:=wc.drew) 0 (by rfl) (.tmp 48) (.tmp 50) 22 37 (.agg #[.int .i64 0,.int .i64 0,.int .i64 0,.int .u64 0,.string ⟨#[]⟩,.slice none 0 0,.int .i64 0,.int .i64 0]) 88 (by rfl) Tryz.underlying22 inf37 rfl (by decide) (by decide) (.slice Av xs.length cv) xs (⟨kind,t.f0,t.f1,t.f2,t.f3,⟨A4,t.f4.length,c4⟩,ea,eb⟩:EvB) [.int .i64 kind,.int .i64 t.f0,.int .i64 t.f1,.int .u64 t.f2,.string t.f3,.slice A4 t.f4.length c4,.int .i64 ea,.int .i64 eb] (fun k=>o4.from_ wc.drew.heap.size (b+37) k=b+37) (fun _=>False) (by rfl) (by rfl) rfl (fun _ h=>h.elim) (fun k hk=>Own.from_ge hk) ((show Row kEV 37 wc.drew o4 (b+37) (.slice Av xs.length cv) xs from HD4.out.row.fr ((Kp.refl (fun _=>False) wc o4).drew) id).renew (b+37)) (Below.refl _ _) (Nat.zero_le _) (by omega) ?_;intro v5 w5 h5 _ hg5 _;obtain ⟨A5,c5,hv5⟩:=Kd.R_slice h5;subst hv5;rw [List.length_append,List.length_singleton]at h5;have HR5:=Lib.hid h5;have kp5:=Lib.hid ((((Kp.refl (·=b+37) wc o4).drew).renew (b+37)).grown hg5 (fun q e=>.inl (by have hk2:=(Kd.R_bound HD4.out.row).1 q e;exact (Own.from_lt hk2.2.2.1).trans hk2.1)));have f5:=Lib.hid ((((Fr.start (·=b+37) wc o4 (b+37) (.inr rfl)).drew)).grown hg5 (fun q e=>.inl (by have hk2:=(Kd.R_bound HD4.out.row).1 q e;exact (Own.from_lt hk2.2.2.1).trans hk2.1)));have hb5:=HD4.out.blk.fr kp5.out (by omega);have ma:w5.cell? ⟨s,1,none⟩=some (.slice Av xs.length cv):=(blk_cell hb5.1 1).trans rfl;have mfz:=blk_frozen hb5.1 1;clear h5 hg5 hb5))
    all_goals go_wp2_with fail
    all_goals go_roundw
    all_goals first
     | exact FIN.out _ _ _ HR5.out kp5.out f5.out
     | (simp [intOf];done)
   ·have heb:(r.2.2 != 0)=true:=by simpa using he
    have HE:=Lib.hid he
    obtain ⟨r1,r2,r3⟩:=r
    simp only at HD2 HE heb ⊢
    clear he
    go_wp2_with fail
    go_ret2
    exact ⟨_,_,o2,HR.out,rfl,⟨g,vE,xs,L2,HD2.out,HL2.out,by have:=HN.out.1;omega⟩,F2.out,fun h=>absurd h HE.out⟩
  ·go_wp2_with fail
   obtain ⟨r,o',h1,h2,h3,h4,h5⟩:=h6.out
   go_ret2
   exact ⟨r,_,o',h1,by rw [h2];rfl,h3,h4,fun _=>h5⟩
end Go.Proofs.YtjckhhecnebmmaaGreatDoor.TU
end
section
namespace Go.Proofs.YtjckhhecnebmmaaGreatDoor.TU
open Go.RowKit Go.Proofs.YtjckhhecnebmmaaGreatDoorW.PrintWords Go.Proofs.YtjckhhecnebmmaaGreatDoorW.PrintLast Go.Proofs.YtjckhhecnebmmaaGreatDoorW.PrintMore Go.Proofs.YtjckhhecnebmmaaGreatDoor.QAll
attribute [local go_sem] max2_int min2_int max_two min_two max_three min_three max_four min_four
set_option linter.unusedVariables false
def st0:St:=⟨[],[],[],[],[],fun _=>none,fun _=>none,fun _=>none,[],[],false,[],0⟩
def ownNew (o:Own) (n b:Nat):Own:=fun k=>if k < n then o k else if k=n then b+18 else if k=n+1 then b+1 else b
set_option maxHeartbeats 3200000 in
set_option maxRecDepth 20000 in
theorem graph_new (b:Nat) (w:World) (o:Own) (hb0:0 < b):Calls Tryz.prog 13 #[] w fun e w'=>∃ g o',e=.returned (.pointer (some ⟨g,0,none⟩))∧GraphAt b w' o' g st0∧Fr (GraphM b) w o w' o':=by
 have hmm:∀ w:World,(Instr.makeMap 62 none).run Tryz.prog w=.ok (.map (some w.heap.size)) (w.alloc (.map #[] 0)):=fun _=>rfl
 go_enter Tryz.func13,Tryz.ntmps13
 go_wp2_with fail
 refine (sets_new (b+2) w o).mono ?_
 rintro e w1 ⟨g1,rfl,h1,f1⟩
 generalize o.from_ w.heap.size (b+2)=o1 at *
 have H1:=Lib.hid h1
 have F1:=Lib.hid f1
 clear h1 f1
 go_wp2_with fail
 refine (tab_new (b+9) w1 o1).mono ?_
 rintro e w2 ⟨g2,o2,rfl,h2,f2⟩
 have H2:=Lib.hid h2
 have F2:=Lib.hid f2
 clear h2 f2
 go_wp2_with fail
 refine (tab_new (b+11) w2 o2).mono ?_
 rintro e w3 ⟨g3,o3,rfl,h3,f3⟩
 have H3:=Lib.hid h3
 have F3:=Lib.hid f3
 clear h3 f3
 go_wp2_with fail
 refine (forest_new (b+13) w3 o3).mono ?_
 rintro e w4 ⟨g4,o4,rfl,h4,f4⟩
 have H4:=Lib.hid h4
 have F4:=Lib.hid f4
 clear h4 f4
 go_wp2
 go_ret
 have k:Kp (fun _=>False) w4 o4 (((w4.alloc (.map #[] 0)).alloc (.cells #[.pointer (some ⟨g1,0,none⟩),.slice none 0 0,.slice none 0 0,.slice none 0 0,.pointer (some ⟨g2,0,none⟩),.pointer (some ⟨g3,0,none⟩),.pointer (some ⟨g4,0,none⟩),.map (some w4.heap.size),.slice none 0 0,.bool false,.slice none 0 0] 65)).alloc (.cells #[.pointer (some ⟨w4.heap.size+1,0,none⟩)] 68)) (ownNew o4 w4.heap.size b):=by
  have h:=(((Kp.refl (fun _=>False) w4 o4).alloc (.map #[] 0)).alloc (.cells #[.pointer (some ⟨g1,0,none⟩),.slice none 0 0,.slice none 0 0,.slice none 0 0,.pointer (some ⟨g2,0,none⟩),.pointer (some ⟨g3,0,none⟩),.pointer (some ⟨g4,0,none⟩),.map (some w4.heap.size),.slice none 0 0,.bool false,.slice none 0 0] 65)).alloc (.cells #[.pointer (some ⟨w4.heap.size+1,0,none⟩)] 68)
  exact ⟨h.size,fun k hk=>if_pos hk,h.block⟩
 generalize hcs:(#[.pointer (some ⟨g1,0,none⟩),.slice none 0 0,.slice none 0 0,.slice none 0 0,.pointer (some ⟨g2,0,none⟩),.pointer (some ⟨g3,0,none⟩),.pointer (some ⟨g4,0,none⟩),.map (some w4.heap.size),.slice none 0 0,.bool false,.slice none 0 0]:Array Value)=cs at *
 have hs1:(w4.alloc (.map #[] 0)).heap.size=w4.heap.size+1:=by simp
 have hs2:((w4.alloc (.map #[] 0)).alloc (.cells cs 65)).heap.size=w4.heap.size+2:=by simp
 have hcb:(((w4.alloc (.map #[] 0)).alloc (.cells cs 65)).alloc (.cells #[.pointer (some ⟨w4.heap.size+1,0,none⟩)] 68)).heap[w4.heap.size+1]?=some (.cells cs 65 (0,0)):=blk_alloc (by have h:=blk_new (w4.alloc (.map #[] 0)) (.cells cs 65);rwa [hs1]at h) _
 have hgb:(((w4.alloc (.map #[] 0)).alloc (.cells cs 65)).alloc (.cells #[.pointer (some ⟨w4.heap.size+1,0,none⟩)] 68)).heap[w4.heap.size+2]?=some (.cells #[.pointer (some ⟨w4.heap.size+1,0,none⟩)] 68 (0,0)):=by have h:=blk_new ((w4.alloc (.map #[] 0)).alloc (.cells cs 65)) (.cells #[.pointer (some ⟨w4.heap.size+1,0,none⟩)] 68);rwa [hs2]at h
 have n0:ownNew o4 w4.heap.size b w4.heap.size=b+18:=by unfold ownNew;rw [if_neg (by omega),if_pos rfl]
 have n1:ownNew o4 w4.heap.size b (w4.heap.size+1)=b+1:=by unfold ownNew;rw [if_neg (by omega),if_neg (by omega),if_pos rfl]
 have n2:ownNew o4 w4.heap.size b (w4.heap.size+2)=b:=by unfold ownNew;rw [if_neg (by omega),if_neg (by omega),if_neg (by omega)]
 have gm:=GMap.made 9 SInt (.int .i64 0) w4
 have gv:=(gm.at (w':=((w4.alloc (.map #[] 0)).alloc (.cells cs 65)).alloc (.cells #[.pointer (some ⟨w4.heap.size+1,0,none⟩)] 68)) ((Below.heap_alloc _ _ _ (by rw [hs2];omega)).trans (Below.heap_alloc _ _ _ (by rw [hs1];omega))))
 have fz:∀ {x:Nat},False→¬ False:=fun h=>h.elim
 have core:CoreAt b (((w4.alloc (.map #[] 0)).alloc (.cells cs 65)).alloc (.cells #[.pointer (some ⟨w4.heap.size+1,0,none⟩)] 68)) (ownNew o4 w4.heap.size b) (w4.heap.size+1) ⟨g1,.slice none 0 0,.slice none 0 0,.slice none 0 0,g2,g3,g4,w4.heap.size,.slice none 0 0,.slice none 0 0⟩ st0:={
  blk:=⟨by rw [hcb,← hcs];rfl,n1⟩
  sets:=(((H1.out.fr F2.out.kp (fun x hx=>by unfold SetsM at hx;unfold TabM;omega)).fr F3.out.kp (fun x hx=>by unfold SetsM at hx;unfold TabM;omega)).fr F4.out.kp (fun x hx=>by unfold SetsM at hx;unfold ForM;omega)).fr k (fun _ _ h=>h)
  nodes:=NodesRow.nil _ _ _
  keys:=NodesRow.nil _ _ _
  users:=UsersRow.nil _ _ _
  exact:=((H2.out.fr F3.out.kp (fun x hx=>by unfold TabM at hx ⊢;omega)).fr F4.out.kp (fun x hx=>by unfold TabM at hx;unfold ForM;omega)).fr k (fun _ _ h=>h)
  table:=(H3.out.fr F4.out.kp (fun x hx=>by unfold TabM at hx;unfold ForM;omega)).fr k (fun _ _ h=>h)
  forest:=H4.out.fr k (fun _ _ h=>h)
  omv:=n0
  vars:=gv
  todo:=Row.nil _ _ _ _ _
  marks:=MarksRow.nil _ _ _ }
 refine ⟨_,_,rfl,⟨_,_,⟨hgb,n2⟩,core⟩,?_⟩
 have ft:Fr (GraphM b) w4 o4 (((w4.alloc (.map #[] 0)).alloc (.cells cs 65)).alloc (.cells #[.pointer (some ⟨w4.heap.size+1,0,none⟩)] 68)) (ownNew o4 w4.heap.size b):=⟨rfl,rfl,rfl,k.size,k.own,fun i hi _=>k.block i hi (fun h=>h),fun i hi=>.inr (by
  unfold ownNew
  rw [if_neg (by omega)]
  unfold GraphM
  split
  ·omega
  ·split <;> omega)⟩
 exact ((((F1.out.mono (fun _ h=>coreM_graph (setsM_core h))).trans (F2.out.mono (fun _ h=>coreM_graph (tab9_core h)))).trans (F3.out.mono (fun _ h=>coreM_graph (tab11_core h)))).trans (F4.out.mono (fun _ h=>coreM_graph (forM_core h)))).trans ft
end Go.Proofs.YtjckhhecnebmmaaGreatDoor.TU
end
section
namespace Go.Proofs.YtjckhhecnebmmaaGreatDoor.TU
open Go.RowKit Go.Proofs.YtjckhhecnebmmaaGreatDoorW.PrintWords Go.Proofs.YtjckhhecnebmmaaGreatDoorW.PrintLast Go.Proofs.YtjckhhecnebmmaaGreatDoorW.PrintMore Go.Proofs.YtjckhhecnebmmaaGreatDoor.QAll
attribute [local go_sem] max2_int min2_int max_two min_two max_three min_three max_four min_four
set_option linter.unusedVariables false
set_option maxHeartbeats 1600000 in
set_option maxRecDepth 20000 in
theorem jnew_calls (b:Nat) (hb0:0 < b) (w:World) (o:Own):Calls Tryz.prog 5 #[] w fun e w'=>∃ s o',e=.returned (.pointer (some ⟨s,0,none⟩))∧SessAt b w' o' s st0 0 0∧Fr (SM b) w o w' o':=by
 have HN:=Lib.hid (graph_new b w o hb0)
 go_enter Tryz.func5,Tryz.ntmps5
 go_wp2_with fail
 refine HN.out.mono ?_
 rintro e w1 ⟨g,o1,rfl,h1,f1⟩
 have H1:=Lib.hid h1
 have F1:=Lib.hid f1
 clear h1 f1 HN
 go_wp2_with fail
 go_ret
 have k:Kp (fun _=>False) w1 o1 (w1.alloc (.cells #[.pointer (some ⟨g,0,none⟩),.slice none 0 0] 45)) (o1.from_ w1.heap.size (b+36)):=((Kp.refl _ w1 o1).renew (b+36)).alloc _
 exact ⟨w1.heap.size,o1.from_ w1.heap.size (b+36),rfl,⟨g,_,[],[],⟨⟨blk_new w1 _,Own.from_ge (Nat.le_refl _)⟩,H1.out.fr k (fun _ _ h=>h) (fun h=>h),Row.nil _ _ _ _ _⟩,Nat.le_refl _,Nat.le_refl _⟩,(F1.out.mono (fun x h=>by unfold GraphM at h;unfold SM;omega)).trans ((Fr.start (SM b) w1 o1 (b+36) (.inr (by unfold SM;omega))).alloc _)⟩
theorem jgraph_calls {w:World} {s g:Nat} (hs:w.cell? ⟨s,0,none⟩=some (.pointer (some ⟨g,0,none⟩))):Calls Tryz.prog 8 #[.pointer (some ⟨s,0,none⟩)] w fun e w'=>e=.returned (.pointer (some ⟨g,0,none⟩))∧w=w':=by
 go_enter Tryz.func8,Tryz.ntmps8
 go_wp2
 go_ret
 exact ⟨rfl,rfl⟩
end Go.Proofs.YtjckhhecnebmmaaGreatDoor.TU
end
