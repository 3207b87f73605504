/- Steps towards the law TopUndoes; words printed by the kit, and printed texts, are cut to what is used, and spaces are left out. No condition. -/
import Derived.Test.YtjckhhecnebmmaaGreatDoorZ35
import Derived.Test.YtjckhhecnebmmaaGreatDoorZ30
import Derived.Test.YtjckhhecnebmmaaGreatDoorZ32
import Derived.ChangeArms
import Derived.DataReads
set_option linter.unusedVariables false
set_option linter.unusedSimpArgs false
section
namespace Go.Proofs.YtjckhhecnebmmaaGreatDoor.TU
open Go.RowKit Go.Proofs.YtjckhhecnebmmaaGreatDoorW.PrintWords Go.Proofs.YtjckhhecnebmmaaGreatDoorW.PrintLast Go.Proofs.YtjckhhecnebmmaaGreatDoorW.PrintMore Go.Proofs.YtjckhhecnebmmaaGreatDoor.QAll
attribute [local go_sem] max2_int min2_int max_two min_two max_three min_three max_four min_four
set_option linter.unusedVariables false
theorem small_ok {w:World} {o:Own} {v:Value} {l:List Ev} (h:EvRow w o 0 v (smallL l)) (hv:∀ e∈l,∀ k,Vals k e.t):(∀ e∈smallL l,EvGood e)∧(smallL l).length≤14:=by
 obtain ⟨rs,h1,h2,h3⟩:=h
 have hl:(smallL l).length≤14:=by unfold smallL;rw [List.length_take];omega
 refine ⟨fun e he=>?_,hl⟩
 have hf:e∈l.filter good:=List.mem_of_mem_take he
 rw [List.mem_filter]at hf
 obtain ⟨i,hi,rfl⟩:=List.getElem_of_mem he
 have hrel:=h3 i rs[i] _ (List.getElem?_eq_getElem (by omega)) (List.getElem?_eq_getElem hi)
 have hg:=hf.2
 unfold good at hg
 split at hg
 ·rename_i hgg
  exact ⟨hgg.1,hgg.2.1,TIn.wf' hrel.tin,hrel.few,hv _ hf.1 7⟩
 ·cases hg
structure SmallS (A:St) (m:Nat):Prop where
 inv:Inv A
 len:A.ns.length≤98
 m:m+roots A.p≤196
 N:A.N≤3528000294
theorem SmallS.room {A:St} {m c:Nat} (h:SmallS A m) (hc:c≤14):Room A m c:=⟨by have:=h.len;omega,by have:=h.m;omega,by have:=h.N;omega⟩
theorem plan1 {L1:List Ev} (hg:∀ e∈L1,EvGood e) (hl:L1.length≤14):PlOk st0 0 L1∧SmallS (plAt st0 0 L1 L1.length).1 (plAt st0 0 L1 L1.length).2.2∧(plAt st0 0 L1 L1.length).1.ms=[]:=by
 have e1:st0.ns.length=0:=rfl
 have e2:st0.N=0:=rfl
 have e3:=roots0
 obtain ⟨h1,h2⟩:=play_ok (S:=st0) (m:=0) inv0 hg ⟨by omega,by omega,by omega⟩
 exact ⟨h1,⟨h2.inv,by have:=h2.len;omega,by have:=h2.m;omega,by have:=h2.N;omega⟩,h2.ms⟩
theorem plan2 {A:St} {m:Nat} (hA:SmallS A m) (N:Nat) {L2:List Ev} (hg:∀ e∈L2,EvGood e) (hl:L2.length≤14):PlOk (markS A N) m L2∧Ste (markS A N) (plAt (markS A N) m L2 L2.length).1 m (plAt (markS A N) m L2 L2.length).2.2 L2.length∧(plAt (markS A N) m L2 L2.length).2.2+roots A.p≤588∧(plAt (markS A N) m L2 L2.length).1.N≤7056000588:=by
 have h1:=hA.room hl
 have e1:roots (markS A N).p=roots A.p:=rfl
 have e2:(markS A N).N=A.N:=rfl
 obtain ⟨h2,h3⟩:=play_ok (S:=markS A N) (m:=m) (hA.inv.mark N) hg ⟨h1.len,h1.m,h1.N⟩
 have:=hA.m
 have:=h3.m
 have:=h3.N
 have:=hA.N
 exact ⟨h2,h3,by omega,by omega⟩
theorem plan3 {A B:St} {m:Nat} (hA:SmallS A m) (hms:A.ms=[]) {N:Nat} (hN:N≤m) {mB c:Nat} (s:Ste (markS A N) B m mB c) (hmB:mB+roots A.p≤588) (hNB:B.N≤7056000588) {L:List S117} (hL:L.length≤mB) {L3:List Ev} (hg:∀ e∈L3,EvGood e) (hl:L3.length≤14) :
  UndoOk (withL B L) (mkOf A N) 0∧∀ U,U=undoS (withL B L) (mkOf A N) 0→Inv U∧U.N≤7056000700∧Sim A U∧PlOk U mB L3∧PlOk A m L3 ∧
   Sim (plAt A m L3 L3.length).1 (plAt U mB L3 L3.length).1∧(plAt A m L3 L3.length).2.1=(plAt U mB L3 L3.length).2.1∧Inv (plAt A m L3 L3.length).1∧Inv (plAt U mB L3 L3.length).1∧(plAt A m L3 L3.length).2.2≤790∧(plAt U mB L3 L3.length).2.2≤790∧(plAt A m L3 L3.length).1.N≤1152921504606800000∧(plAt U mB L3 L3.length).1.N≤1152921504606800000:=by
 have hAm:=hA.m
 have hAl:=hA.len
 have hAN:=hA.N
 obtain ⟨h1,h2,h3,h4⟩:=undo_ok hA.inv hms (by omega:N≤800) s (by omega) (by omega:L.length≤800)
 refine ⟨h1,fun U hU=>?_⟩
 subst hU
 have hk:=hA.inv.ic.hk
 have rA:=hA.room hl
 have ens:(undoS (withL B L) (mkOf A N) 0).ns=A.ns:=h2.ns.symm
 have ep:(undoS (withL B L) (mkOf A N) 0).p=A.p:=h2.p.symm
 have rU:Room (undoS (withL B L) (mkOf A N) 0) mB L3.length:=⟨by rw [ens];omega,by rw [ep];omega,by omega⟩
 obtain ⟨p1,p2⟩:=play_ok hA.inv hg rA
 obtain ⟨q1,q2⟩:=play_ok h3 hg rU
 obtain ⟨r1,r2⟩:=plAt_sim h2 hA.inv h3 hg rA rU L3.length (Nat.le_refl _)
 have a1:=p2.m
 have a2:=q2.m
 have a3:=p2.N
 have a4:=q2.N
 rw [ep]at a2
 exact ⟨h3,by omega,h2,q1,p1,r1,r2,p2.inv,q2.inv,by omega,by omega,by omega,by omega⟩
section
variable (B:Nat) (w:World) (o:Own) (s t:Nat) (v2 v3:Value) (l2 l3:List Ev)
structure TopI (S T:St) (m n m' n':Nat) (wk:World) (ok:Own):Prop where
 gl:Gl B wk ok
 s:SessAt 1 wk ok s S m n
 t:SessAt 101 wk ok t T m' n'
 e2:EvRow wk ok 0 v2 l2
 e3:EvRow wk ok 0 v3 l3
 fr:Fr (·≠0) w o wk ok
end
section
variable {B:Nat} {w:World} {o:Own} {s t:Nat} {v2 v3:Value} {l2 l3:List Ev} {S T S' T':St} {m n m' n' m1 n1:Nat} {wk w1:World} {ok o1:Own}
theorem TopI.onS (h:TopI B w o s t v2 v3 l2 l3 S T m n m' n' wk ok) {τ:Nat} (hτ:200≤τ) (f:Fr (PM 1 τ) wk ok w1 o1) (hs:SessAt 1 w1 o1 s S' m1 n1):TopI B w o s t v2 v3 l2 l3 S' T m1 n1 m' n' w1 o1:=by
 have h0:¬ PM 1 τ 0:=by unfold PM SM;omega
 exact ⟨h.gl.fr f h0,hs,h.t.fr f.kp (fun x hx=>by unfold SA at hx;unfold PM SM;omega) h0,h.e2.fr f.kp h0 h0,h.e3.fr f.kp h0 h0,h.fr.trans (f.mono (fun x hx=>by unfold PM SM at hx;omega))⟩
theorem TopI.onT (h:TopI B w o s t v2 v3 l2 l3 S T m n m' n' wk ok) {τ:Nat} (hτ:200≤τ) (f:Fr (PM 101 τ) wk ok w1 o1) (ht:SessAt 101 w1 o1 t T' m1 n1):TopI B w o s t v2 v3 l2 l3 S T' m n m1 n1 w1 o1:=by
 have h0:¬ PM 101 τ 0:=by unfold PM SM;omega
 exact ⟨h.gl.fr f h0,h.s.fr f.kp (fun x hx=>by unfold SA at hx;unfold PM SM;omega) h0,ht,h.e2.fr f.kp h0 h0,h.e3.fr f.kp h0 h0,h.fr.trans (f.mono (fun x hx=>by unfold PM SM at hx;omega))⟩
theorem TopI.below (h:TopI B w o s t v2 v3 l2 l3 S T m n m' n' wk ok) (hb:Below wk.heap.size wk w1):TopI B w o s t v2 v3 l2 l3 S T m n m' n' w1 (ok.from_ wk.heap.size 0):=by
 have k:Kp (fun _=>False) wk ok w1 (ok.from_ wk.heap.size 0):=((Kp.refl _ wk ok).renew 0).below hb
 exact ⟨h.gl.on hb,h.s.fr k (fun _ _ h=>h) (fun h=>h),h.t.fr k (fun _ _ h=>h) (fun h=>h),h.e2.fr k (fun h=>h) (fun h=>h),h.e3.fr k (fun h=>h) (fun h=>h),h.fr.trans (Fr.of_below hb 0 (.inl rfl))⟩
def zT:S35:=⟨0,0,0,⟨#[]⟩,[]⟩
def zE (k:Int):Ev:=⟨k,zT,0,0⟩
def zc (k:Int):Array Value:=#[.int .i64 k,.int .i64 0,.int .i64 0,.int .u64 0,.string ⟨#[]⟩,.slice none 0 0,.int .i64 0,.int .i64 0]
theorem mark_step {A:St} (h:TopI B w o s t v2 v3 l2 l3 A T m n m' n' wk ok) (hA:SmallS A m) (hms:A.ms=[]) (hn:n≤999) :
  Calls Tryz.prog 7 #[.pointer (some ⟨s,0,none⟩),.slice (some ⟨wk.heap.size,0,none⟩) 1 1] (wk.alloc (.cells (zc 4) 37)) fun e w1=>∃ N A1 c1 o1,N≤m∧e=.returned (.tuple #[.slice A1 1 c1,.int .i64 0])∧TopI B w o s t v2 v3 l2 l3 (markS A N) T m (n+1) m' n' w1 o1∧Row (Kd.int .i64) 3 w1 o1 201 (.slice A1 1 c1) [0]:=by
 have hb:=below_alloc (Below.refl wk.heap.size wk) (.cells (zc 4) 37)
 have h1:=h.below hb
 have hm:=hA.m
 have hf:=hA.inv.fine (by have:=hA.N;omega)
 have hp:=Play_calls (b:=1) (s:=s) (τ:=201) (cost:=0) (by omega) (by omega) h1.gl h1.s (by omega) (zE 4) none 0 (tin_nil _ _ _ _) (Nat.le_refl _) (by show 1+0≤700;omega) wk.heap.size ⟨blk_new wk _,Own.from_ge (Nat.le_refl _)⟩ (fun r=>∃ N,N≤m∧r=(markS A N,0,0))
  (fun w2 o2 g L G2 H2 hL2 hT2 hs2 hc2=>(play_mark H2 hf (by omega) (by rw [hms];exact Nat.zero_le _) (zE 4) rfl none 0 hc2).mono (fun e' w' h=>by
   obtain ⟨o3,x1,x2,x3⟩:=h
   exact ⟨_,⟨L.length,hL2,rfl⟩,o3,L,by rw [x1,hms];rfl,x2,by omega,x3⟩))
 refine hp.mono ?_
 rintro e w2 ⟨r,v,o2,⟨N,hN,rfl⟩,rfl,hd,hf2,hr⟩
 have hr:=hr rfl
 obtain ⟨A1,c1,rfl⟩:=hr.slice
 exact ⟨N,A1,c1,o2,hN,rfl,h1.onS (by omega) hf2 hd,hr⟩
theorem undo_step {B2:St} {K:Mk} (h:TopI B w o s t v2 v3 l2 l3 B2 T m n m' n' wk ok) (hm:m≤790) (hu:∀ L:List S117,L.length≤m→UndoOk (withL B2 L) K 0) (hK:K.links≤m) (hn:n≤999) :
  Calls Tryz.prog 7 #[.pointer (some ⟨s,0,none⟩),.slice (some ⟨wk.heap.size,0,none⟩) 1 1] (wk.alloc (.cells (zc 5) 37)) fun e w1=>∃ L A1 c1 o1,L.length≤m∧e=.returned (.tuple #[.slice A1 1 c1,.int .i64 0])∧TopI B w o s t v2 v3 l2 l3 (undoS (withL B2 L) K 0) T m (n+1) m' n' w1 o1∧Row (Kd.int .i64) 3 w1 o1 202 (.slice A1 1 c1) [1]:=by
 have hb:=below_alloc (Below.refl wk.heap.size wk) (.cells (zc 5) 37)
 have h1:=h.below hb
 have hp:=Play_calls (b:=1) (s:=s) (τ:=202) (cost:=0) (by omega) (by omega) h1.gl h1.s (by omega) (zE 5) none 0 (tin_nil _ _ _ _) (Nat.le_refl _) (by show 1+0≤700;omega) wk.heap.size ⟨blk_new wk _,Own.from_ge (Nat.le_refl _)⟩ (fun r=>∃ L:List S117,L.length≤m∧r=(undoS (withL B2 L) K 0,1,0))
  (fun w2 o2 g L G2 H2 hL2 hT2 hs2 hc2=>(play_undo (by omega) G2 H2 K 0 (hu L hL2) (zE 5) rfl rfl none 0 hs2 hc2).mono (fun e' w' h=>by
   obtain ⟨o3,L3,x1,x2,x3,x4⟩:=h
   exact ⟨_,⟨L,hL2,rfl⟩,o3,L3,x1,x2,by omega,x4⟩))
 refine hp.mono ?_
 rintro e w2 ⟨r,v,o2,⟨L,hL,rfl⟩,rfl,hd,hf2,hr⟩
 have hr:=hr rfl
 obtain ⟨A1,c1,rfl⟩:=hr.slice
 exact ⟨L,A1,c1,o2,hL,rfl,h1.onS (by omega) hf2 hd,hr⟩
theorem TopI.graphs (h:TopI B w o s t v2 v3 l2 l3 S T m n m' n' wk ok):∃ g g' L L',wk.cell? ⟨s,0,none⟩=some (.pointer (some ⟨g,0,none⟩))∧wk.cell? ⟨t,0,none⟩=some (.pointer (some ⟨g',0,none⟩))∧GraphAt 1 wk ok g (withL S L)∧GraphAt 101 wk ok g' (withL T L')∧L.length≤m∧L'.length≤m':=by
 obtain ⟨g,vE,xs,L,D,hL,_⟩:=h.s
 obtain ⟨g',vE',xs',L',D',hL',_⟩:=h.t
 exact ⟨g,g',L,L',(blk_cell D.blk.1 0).trans rfl,(blk_cell D'.blk.1 0).trans rfl,D.gr,D'.gr,hL,hL'⟩
theorem same_step {g g':Nat} {L L':List S117} (h1:GraphAt 1 wk ok g (withL S L)) (h2:GraphAt 101 wk ok g' (withL T L')) (hs:Sim T S) (iS:Inv S) (iT:Inv T) (nS:S.N≤1152921504606800000) (nT:T.N≤1152921504606800000) (l1:L.length≤790) (l2:L'.length≤790) :
  Calls Tryz.prog 9 #[.pointer (some ⟨g,0,none⟩),.pointer (some ⟨g',0,none⟩)] wk fun e w'=>e=.returned (.bool true)∧Below wk.heap.size wk w':=by
 refine same_world h1 h2 ((iS.fine (by omega)).withL (by omega)) ((iT.fine (by omega)).withL (by omega)) hs.ns ?_
 show rootsTo (withL T L') T.ns.length=rootsTo (withL S L) S.ns.length
 unfold rootsTo
 show List.map (fun j=>fnd T.p _) _=List.map (fun j=>fnd S.p _) _
 rw [hs.p,hs.ns]
end
end Go.Proofs.YtjckhhecnebmmaaGreatDoor.TU
end
section
namespace Go.Proofs.YtjckhhecnebmmaaGreatDoor.TU
open Go.RowKit Go.Proofs.YtjckhhecnebmmaaGreatDoorW.PrintWords Go.Proofs.YtjckhhecnebmmaaGreatDoorW.PrintLast Go.Proofs.YtjckhhecnebmmaaGreatDoorW.PrintMore Go.Proofs.YtjckhhecnebmmaaGreatDoor.QAll
attribute [local go_sem] max2_int min2_int max_two min_two max_three min_three max_four min_four
set_option linter.unusedVariables false
theorem row_one {w:World} {o:Own} {t:Nat} {A:Option Addr} {c:Nat} {x:Int} (h:Row (Kd.int .i64) 3 w o t (.slice A 1 c) [x]):∃ bl,A=some ⟨bl,0,none⟩∧w.cell? ⟨bl,0,none⟩=some (.int .i64 x):=by
 obtain ⟨bl,cap,he,_,_,_⟩:=Kd.R_form h (by simp)
 injection he with he1 he2 he3
 subst he1
 obtain ⟨ad,e,hc⟩:=C_int_at (Kd.R_reads' h).2.2 0 (by simp)
 injection e with e
 subst e
 exact ⟨bl,rfl,hc⟩
theorem plAt_mono (S:St) (m:Nat) (l:List Ev):∀ i,i≤l.length→m≤(plAt S m l i).2.2:=by
 intro i
 induction i with
 | zero=>intro _;exact Nat.le_refl _
 | succ i ih =>
  intro h
  have:=ih (by omega)
  rw [plAt_succ S m l i (by omega)]
  exact Nat.le_trans this (Nat.le_add_right _ _)
def JoinsOk (B:Nat):Prop:=∀ (w:World) (o:Own),Gl B w o→Calls Tryz.prog 11 #[] w fun e w'=>e=.returned (.bool true)∧∃ o',Fr (·≠0) w o w' o'
set_option maxHeartbeats 12800000 in
set_option maxRecDepth 20000 in
theorem top_calls {B:Nat} {w:World} {o:Own} (G:Gl B w o) {n1 n2 n3:Nat} {A1 A2 A3:Option Addr} {c1 c2 c3:Nat} {l1 l2 l3:List Ev} (h1:EvIn w o n1 A1 l1) (h2:EvIn w o n2 A2 l2) (h3:EvIn w o n3 A3 l3) (hc1:l1.length≤c1) (hc2:l2.length≤c2) (hc3:l3.length≤c3)
  (hv1:∀ e∈l1,∀ k,Vals k e.t) (hv2:∀ e∈l2,∀ k,Vals k e.t) (hv3:∀ e∈l3,∀ k,Vals k e.t) (hj:JoinsOk B) :
  Calls Tryz.prog 3 #[.slice A1 l1.length c1,.slice A2 l2.length c2,.slice A3 l3.length c3] w fun e w'=>e=.returned (.bool true)∧∃ o',Fr (·≠0) w o w' o':=by
 have HG:=Lib.hid G
 have HS1:=Lib.hid (small_calls h1 hc1)
 have H2:=Lib.hid h2
 have H3:=Lib.hid h3
 have HC:=Lib.hid (show l2.length≤c2∧l3.length≤c3 from ⟨hc2,hc3⟩)
 have HV1:=Lib.hid hv1
 have HV2:=Lib.hid hv2
 have HV3:=Lib.hid hv3
 have HJ:=Lib.hid hj
 clear G h1 h2 h3 hc1 hc2 hc3 hv1 hv2 hv3 hj
 go_enter Tryz.func3,Tryz.ntmps3
 go_wp2_with fail
 refine HS1.out.mono ?_
 rintro e w1 ⟨o1,B1,d1,rfl,e1,f1⟩
 have HS2:=Lib.hid (small_calls (H2.out.fr f1.kp (fun h=>h)) HC.out.1)
 have HE1:=Lib.hid e1
 have F1:=Lib.hid f1
 clear e1 f1 HS1
 go_wp2_with fail
 refine HS2.out.mono ?_
 rintro e w2 ⟨o2,B2,d2,rfl,e2,f2⟩
 have HS3:=Lib.hid (small_calls ((H3.out.fr F1.out.kp (fun h=>h)).fr f2.kp (fun h=>h)) HC.out.2)
 have HE2:=Lib.hid e2
 have HE1b:=Lib.hid (HE1.out.fr f2.kp (fun h=>h) (fun h=>h))
 have F2:=Lib.hid (F1.out.trans f2)
 clear e2 f2 HS2 HE1 F1
 go_wp2_with fail
 refine HS3.out.mono ?_
 rintro e w3 ⟨o3,B3,d3,rfl,e3,f3⟩
 obtain ⟨g1,y1⟩:=small_ok (HE1b.out.fr f3.kp (fun h=>h) (fun h=>h)) HV1.out
 obtain ⟨g2,y2⟩:=small_ok (HE2.out.fr f3.kp (fun h=>h) (fun h=>h)) HV2.out
 obtain ⟨g3,y3⟩:=small_ok e3 HV3.out
 have K1:=Lib.hid (And.intro g1 y1)
 have K2:=Lib.hid (And.intro g2 y2)
 have K3:=Lib.hid (And.intro g3 y3)
 have E1:=Lib.hid (HE1b.out.fr f3.kp (fun h=>h) (fun h=>h))
 have E2:=Lib.hid (HE2.out.fr f3.kp (fun h=>h) (fun h=>h))
 have E3:=Lib.hid e3
 have F3:=Lib.hid (F2.out.trans f3)
 have HJN:=Lib.hid (jnew_calls 1 (by omega) w3 o3)
 clear g1 y1 g2 y2 g3 y3 e3 f3 F2 HE1b HE2 HS3 HV1 HV2 HV3 H2 H3 HC
 generalize smallL l1=q1 at *
 generalize smallL l2=q2 at *
 generalize smallL l3=q3 at *
 go_wp2_with fail
 refine HJN.out.mono ?_
 rintro e w4 ⟨s,o4,rfl,hs4,f4⟩
 have HJN2:=Lib.hid (jnew_calls 101 (by omega) w4 o4)
 have HS4:=Lib.hid hs4
 have F4:=Lib.hid f4
 clear hs4 f4 HJN
 go_wp2_with fail
 refine HJN2.out.mono ?_
 rintro e w5 ⟨t,o5,rfl,ht5,f5⟩
 have h01:¬ SM 1 0:=by unfold SM;omega
 have h02:¬ SM 101 0:=by unfold SM;omega
 have TI:=Lib.hid (show TopI B w o s t (.slice B2 q2.length d2) (.slice B3 q3.length d3) q2 q3 st0 st0 0 0 0 0 w5 o5 from ⟨((HG.out.fr F3.out (fun h=>h)).fr F4.out h01).fr f5 h02,HS4.out.fr f5.kp (fun x hx=>by unfold SA at hx;unfold SM;omega) h02,ht5,(E2.out.fr F4.out.kp h01 h01).fr f5.kp h02 h02,(E3.out.fr F4.out.kp h01 h01).fr f5.kp h02 h02,((F3.out.mono (fun x h=>h.elim)).trans (F4.out.mono (fun x hx=>by unfold SM at hx;omega))).trans (f5.mono (fun x hx=>by unfold SM at hx;omega))⟩)
 have E1':=Lib.hid ((E1.out.fr F4.out.kp h01 h01).fr f5.kp h02 h02)
 obtain ⟨pk1,pS,pms⟩:=plan1 K1.out.1 K1.out.2
 have HP1:=Lib.hid (tplay_calls (τ:=301) (by omega) (by omega) (by unfold SM;omega) TI.out.gl TI.out.s q1 B1 d1 E1'.out (by have:=K1.out.2;omega) pk1)
 have PK1:=Lib.hid pk1
 have PS:=Lib.hid pS
 have PMS:=Lib.hid pms
 clear pk1 pS pms ht5 f5 HJN2 HS4 F4 F3 E1 E2 E3 HG h01 h02
 go_wp2_with fail
 refine HP1.out.mono ?_
 rintro e w6 ⟨o6,B6,d6,rfl,hs6,f6,_⟩
 have TI6:=Lib.hid (TI.out.onS (by omega) f6 hs6)
 have E16:=Lib.hid (E1'.out.fr f6.kp (by unfold PM SM;omega) (by unfold PM SM;omega))
 have HP2:=Lib.hid (tplay_calls (τ:=302) (by omega) (by omega) (by unfold SM;omega) TI6.out.gl TI6.out.t q1 B1 d1 E16.out (by have:=K1.out.2;omega) PK1.out)
 clear hs6 f6 HP1 TI E1'
 generalize (plAt st0 0 q1 q1.length).2.1.length=u6 at *
 go_wp2_with fail
 refine HP2.out.mono ?_
 rintro e w7 ⟨o7,B7,d7,rfl,ht7,f7,_⟩
 have TI7:=Lib.hid (TI6.out.onT (by omega) f7 ht7)
 clear ht7 f7 HP2 TI6 E16 PK1
 generalize (plAt st0 0 q1 q1.length).1=A at *
 generalize (plAt st0 0 q1 q1.length).2.2=mA at *
 have HM:=Lib.hid (mark_step TI7.out PS.out PMS.out (by have:=K1.out.2;omega))
 simp only [zc]at HM
 go_wp2_with fail
 refine HM.out.mono ?_
 rintro e w8 ⟨N,A8,c8,o8,hN,rfl,hi8,hr8⟩
 have TI8:=Lib.hid hi8
 have HR8:=Lib.hid hr8
 have HN:=Lib.hid hN
 obtain ⟨pk2,pste,pm2,pn2⟩:=plan2 PS.out N K2.out.1 K2.out.2
 have HP3:=Lib.hid (tplay_calls (τ:=303) (by omega) (by omega) (by unfold SM;omega) hi8.gl hi8.s q2 B2 d2 hi8.e2 (by have:=K1.out.2;have:=K2.out.2;omega) pk2)
 have PSTE:=Lib.hid (And.intro pste (And.intro pm2 pn2))
 have PMM:=Lib.hid (plAt_mono (markS A N) mA q2 q2.length (Nat.le_refl _))
 clear pk2 pste pm2 pn2 hi8 hr8 hN HM TI7
 go_wp2_with fail
 refine HP3.out.mono ?_
 rintro e w9 ⟨o9,B9,d9,rfl,hs9,f9,_⟩
 have TI9:=Lib.hid (TI8.out.onS (by omega) f9 hs9)
 have hr9:=HR8.out.fr f9.kp (by unfold PM SM;omega)
 generalize (plAt (markS A N) mA q2 q2.length).1=S2 at *
 generalize (plAt (markS A N) mA q2 q2.length).2.2=mB at *
 generalize (plAt (markS A N) mA q2 q2.length).2.1.length=u9 at *
 obtain ⟨b8,rfl,k8⟩:=row_one hr9
 have P3:=Lib.hid (fun (L:List S117) (hL:L.length≤mB)=>plan3 PS.out PMS.out HN.out PSTE.out.1 PSTE.out.2.1 PSTE.out.2.2 hL K3.out.1 K3.out.2)
 have HU:=Lib.hid (undo_step (K:=mkOf A N) TI9.out (by have:=PSTE.out.2.1;omega) (fun L hL=>(P3.out L hL).1) (by have:=HN.out;have:=PMM.out;show N≤mB;omega) (by have:=K1.out.2;have:=K2.out.2;omega))
 simp only [zc]at HU
 clear hs9 f9 HP3 TI8 HR8 hr9
 go_wp2_with fail
 refine HU.out.mono ?_
 rintro e w10 ⟨LU,AU,cU,o10,hLU,rfl,hi10,hr10⟩
 obtain ⟨bU,rfl,k10⟩:=row_one hr10
 obtain ⟨iU,nU,sU,pkU,pkA,sim3,out3,iA3,iU3,mA3,mU3,nA3,nU3⟩:=(P3.out LU hLU).2 _ rfl
 have TI10:=Lib.hid hi10
 obtain ⟨gs,gt,Ls,Lt,ks,kt,hgs,hgt,hls,hlt⟩:=hi10.graphs
 have HSAME:=Lib.hid (same_step hgs hgt sU iU PS.out.inv (by omega) (by have:=PS.out.N;omega) (by have:=PSTE.out.2.1;omega) (by have:=PS.out.m;omega))
 have SIMU:=Lib.hid sU
 have PKU:=Lib.hid pkU
 have PKA:=Lib.hid pkA
 have SIM3:=Lib.hid sim3
 have OUT3:=Lib.hid out3
 have FIN3:=Lib.hid (show Inv _∧Inv _∧_≤_∧_≤_∧_≤_∧_≤_ from ⟨iA3,iU3,mA3,mU3,nA3,nU3⟩)
 clear hi10 hr10 hLU iU nU sU pkU pkA sim3 out3 iA3 iU3 mA3 mU3 nA3 nU3 hgs hgt hls hlt HU P3 k8 TI9 PSTE PMM HN PMS
 generalize undoS (withL S2 LU) (mkOf A N) 0=U at *
 go_wp2_with fail
 refine (jgraph_calls ks).mono ?_
 rintro e w' ⟨rfl,rfl⟩
 go_wp2_with fail
 refine (jgraph_calls kt).mono ?_
 rintro e w' ⟨rfl,rfl⟩
 go_wp2_with fail
 refine (jgraph_calls ks).mono ?_
 rintro e w' ⟨rfl,rfl⟩
 go_wp2_with fail
 refine (jgraph_calls kt).mono ?_
 rintro e w' ⟨rfl,rfl⟩
 go_wp2_with fail
 refine HSAME.out.mono ?_
 rintro e w11 ⟨rfl,hb11⟩
 have TI11:=Lib.hid (TI10.out.below hb11)
 have HP4:=Lib.hid (tplay_calls (τ:=304) (by omega) (by omega) (by unfold SM;omega) TI11.out.gl TI11.out.s q3 B3 d3 TI11.out.e3 (by have:=K1.out.2;have:=K2.out.2;have:=K3.out.2;omega) PKU.out)
 clear ks kt hb11 HSAME TI10 SIMU k10
 go_wp2_with fail
 refine HP4.out.mono ?_
 rintro e w12 ⟨o12,B12,d12,rfl,hs12,f12,hr12⟩
 have TI12:=Lib.hid (TI11.out.onS (by omega) f12 hs12)
 have HR12:=Lib.hid hr12
 have HP5:=Lib.hid (tplay_calls (τ:=305) (by omega) (by omega) (by unfold SM;omega) TI12.out.gl TI12.out.t q3 B3 d3 TI12.out.e3 (by have:=K1.out.2;have:=K3.out.2;omega) PKA.out)
 clear hs12 f12 hr12 HP4 TI11 PKU
 go_wp2_with fail
 refine HP5.out.mono ?_
 rintro e w13 ⟨o13,B13,d13,rfl,ht13,f13,hr13⟩
 have TI13:=Lib.hid (TI12.out.onT (by omega) f13 ht13)
 have hr12:=HR12.out.fr f13.kp (by unfold PM SM;omega)
 rw [OUT3.out]at hr13 ⊢
 have HX:=Lib.hid hr12
 have HY:=Lib.hid hr13
 have hol:=plAt_out U mB q3 q3.length (Nat.le_refl _)
 have hq3:=K3.out.2
 clear hr12 hr13 ht13 f13 HP5 TI12 PKA HR12 OUT3
 generalize (plAt U mB q3 q3.length).2.1=out at *
 generalize (plAt U mB q3 q3.length).1=Uf at *
 generalize (plAt U mB q3 q3.length).2.2=mUf at *
 generalize (plAt A mA q3 q3.length).1=Af at *
 generalize (plAt A mA q3 q3.length).2.2=mAf at *
 go_wp2_with fail
 go_loopw [17,109] (fun s17 s109 wr=>∃ i:Nat,i≤out.length∧s109=.int .i64 i∧Hid (Below w13.heap.size w13 wr)) (fun _ s _=>out.length - (intOf s).toNat)
 case atStart=>exact ⟨0,Nat.zero_le _,rfl,Below.refl _ _⟩
 case round =>
  obtain ⟨i,hi,rfl,hb⟩:=hrel
  have HB:=Lib.hid hb.out
  clear hb
  by_cases hlt:i < out.length
  ·have r1:=HX.out.fr (((Kp.refl (fun _=>False) w13 _).renew 0).below HB.out) (fun h=>h)
   have r2:=HY.out.fr (((Kp.refl (fun _=>False) w13 _).renew 0).below HB.out) (fun h=>h)
   obtain ⟨ar1,rfl,r1c⟩:=C_int_at (Kd.R_reads' r1).2.2 i hlt
   obtain ⟨ar2,rfl,r2c⟩:=C_int_at (Kd.R_reads' r2).2.2 i hlt
   generalize out.getD i 0=rv at *
   clear r1 r2
   go_upto_region 20 with fail
   go_quiet (fail)
   go_wp2_with fail
   go_roundw
   case rel=>exact ⟨i+1,by omega,by go_num,pw_below_drewN HB.out _⟩
   case measure=>first | (simp [intOf];done) | (simp [intOf];omega)
  ·have hil:i=out.length:=by omega
   subst hil
   have TF:=Lib.hid (TI13.out.below HB.out)
   obtain ⟨gs,gt,Ls,Lt,ks,kt,hgs,hgt,hls,hlt'⟩:=TF.out.graphs
   obtain ⟨iAf,iUf,mAf',mUf',nAf,nUf⟩:=FIN3.out
   have HSAME:=Lib.hid (same_step hgs hgt SIM3.out iUf iAf nUf nAf (by omega) (by omega))
   have HGS:=Lib.hid hgs
   have HGT:=Lib.hid hgt
   clear hgs hgt hls hlt' iAf iUf mAf' mUf' nAf nUf FIN3 HX HY TI13
   go_wp2_with fail
   refine (jgraph_calls ks).mono ?_
   rintro e w' ⟨rfl,rfl⟩
   go_wp2_with fail
   refine (jgraph_calls kt).mono ?_
   rintro e w' ⟨rfl,rfl⟩
   go_wp2_with fail
   refine HSAME.out.mono ?_
   rintro e w14 ⟨rfl,hb14⟩
   have hks:=pw_cell_below hb14 ks
   have hkt:=pw_cell_below hb14 kt
   have HDS:=Lib.hid (dirty_calls (HGS.out.zero hb14))
   have HDT:=Lib.hid (dirty_calls (HGT.out.zero hb14))
   have TG:=Lib.hid (TF.out.below hb14)
   have HJJ:=Lib.hid (HJ.out _ _ TG.out.gl)
   have hdd:Af.dirty=Uf.dirty:=SIM3.out.dirty
   clear hb14 HSAME ks kt HGS HGT TF HJ SIM3
   have e1:(withL Uf Ls).dirty=Uf.dirty:=rfl
   have e2:(withL Af Lt).dirty=Uf.dirty:=hdd
   rw [e1]at HDS
   rw [e2]at HDT
   clear e1 e2 hdd
   go_wp2_with fail
   refine (jgraph_calls hks).mono ?_
   rintro e w' ⟨rfl,rfl⟩
   go_wp2_with fail
   refine HDS.out.mono ?_
   rintro e w' ⟨rfl,rfl⟩
   go_wp2_with fail
   refine (jgraph_calls hkt).mono ?_
   rintro e w' ⟨rfl,rfl⟩
   go_wp2_with fail
   refine HDT.out.mono ?_
   rintro e w' ⟨rfl,rfl⟩
   go_wp2_with fail
   refine HJJ.out.mono ?_
   rintro e w15 ⟨rfl,o15,f15⟩
   have F15:=Lib.hid f15
   clear f15
   go_wp2_with fail
   go_ret
   exact ⟨rfl,o15,TG.out.fr.trans F15.out⟩
end Go.Proofs.YtjckhhecnebmmaaGreatDoor.TU
end
section
namespace Go.Proofs.YtjckhhecnebmmaaGreatDoor.TU
open Go.RowKit Go.Proofs.YtjckhhecnebmmaaGreatDoorW.PrintWords Go.Proofs.YtjckhhecnebmmaaGreatDoorW.PrintLast Go.Proofs.YtjckhhecnebmmaaGreatDoorW.PrintMore Go.Proofs.YtjckhhecnebmmaaGreatDoor.QAll
attribute [local go_sem] max2_int min2_int max_two min_two max_three min_three max_four min_four
set_option linter.unusedVariables false
open Go.ChangeShapes
theorem tin_up {w:World} {o:Own}:∀ (n:Nat) (A:Option Addr) (l:List S35),TIn w o n A l→TIn w o (n+1) A l:=by
 intro n
 induction n with
 | zero=>intro A l h;rw [show l=[]from h];exact tin_nil _ _ _ _
 | succ n ih =>
  intro A l h
  refine ⟨h.1,fun i x hx=>?_⟩
  obtain ⟨ad,Ai,ci,e,hl,ho,a0,a1,a2,a3,a4,hc,hn⟩:=h.2 i x hx
  exact ⟨ad,Ai,ci,e,hl,ho,a0,a1,a2,a3,a4,hc,ih _ _ hn⟩
theorem postL_back {f:S35→List S35}:∀ {l:List S35} {v:S35},v∈postL f l→∃ u∈l,v∈f u:=by
 intro l
 induction l with
 | nil=>intro v h;cases h
 | cons a l ih =>
  intro v h
  rcases List.mem_append.1 (show v∈f a++postL f l from h)with h | h
  ·exact ⟨a,List.mem_cons_self ..,h⟩
  ·obtain ⟨u,hu,hv⟩:=ih h
   exact ⟨u,List.mem_cons_of_mem _ hu,hv⟩
theorem vals_mk {t:S35} (h0:0≤t.f2∧t.f2 < 18446744073709551616) (h:∀ u∈t.f4,∀ k,Vals k u):∀ k,Vals k t:=by
 intro k
 cases k with
 | zero=>intro u hu;cases hu
 | succ k =>
  intro u hu
  rcases List.mem_append.1 (show u∈postL (postT k) t.f4++[t]from hu)with h1 | h1
  ·obtain ⟨v,hv,hw⟩:=postL_back h1
   exact h v hv k u hw
  ·rw [List.mem_singleton.1 h1];exact h0
theorem c35:Tryz.prog.cellsOf 35=5:=by kernel_rfl
theorem c37:Tryz.prog.cellsOf 37=8:=by kernel_rfl
theorem c3:Tryz.prog.cellsOf 3=1:=by kernel_rfl
theorem c31:Tryz.prog.cellsOf 31=1:=by kernel_rfl
theorem c32:Tryz.prog.cellsOf 32=1:=by kernel_rfl
theorem c9:Tryz.prog.cellsOf 9=1:=by kernel_rfl
theorem c33:Tryz.prog.cellsOf 33=1:=by kernel_rfl
theorem choose_list {α:Type} {p:Nat→α→Prop}:∀ n:Nat,(∀ i,i < n→∃ a,p i a)→∃ l:List α,l.length=n∧∀ i a,l[i]?=some a→p i a:=by
 intro n
 induction n with
 | zero=>intro _;exact ⟨[],rfl,by simp⟩
 | succ n ih =>
  intro h
  obtain ⟨l,hl,hp⟩:=ih (fun i hi=>h i (by omega))
  obtain ⟨a,ha⟩:=h n (by omega)
  refine ⟨l++[a],by simp [hl],fun i b hb=>?_⟩
  by_cases hi:i < n
  ·rw [List.getElem?_append_left (by omega)]at hb;exact hp i b hb
  ·rw [List.getElem?_append_right (by omega)]at hb
   have:i - l.length=0:=by
    by_cases e:i - l.length=0
    ·exact e
    ·rw [List.getElem?_eq_none (by simp;omega)]at hb;cases hb
   rw [this]at hb
   simp at hb
   have e:i=n:=by omega
   rw [e,← hb];exact ha
section
variable {H:Type} {enc:TypeId × Value→H} {W:World} {base:Nat} {spare:Nat→Bool} {held:Bool}
theorem rd_sl {e:TypeId} {T:TypeId} {fuel:Nat} {cs:List Value} {x:DataW H × List MemPlace} (ht:Tryz.prog.underlying T=some (.slice e)) (h:DataW.trod enc Tryz.prog W base spare held fuel T cs=some x) :
  ∃ A len c n,cs=[.slice A len c]∧len≤c∧len≤9223372036854775807∧(0 < len→fuel=n+1)∧∀ i,i < len→∃ ad,A=some ad∧∃ cs' y,W.cells? base (ad.add (i * Tryz.prog.cellsOf e)) (Tryz.prog.cellsOf e)=some cs'∧DataW.trod enc Tryz.prog W base spare held n e cs'=some y:=by
 rcases DataW.trod_slice ht h with ⟨rfl,_⟩ | ⟨a,len,cap,elems,rest,n,hf,rfl,_,hb,hl,hm,hlen,hel,_,_⟩
 ·exact ⟨none,0,0,0,rfl,Nat.le_refl _,by omega,fun h=>by omega,fun i hi=>by omega⟩
 ·refine ⟨some a,len,cap,n,rfl,hl,by simp only [maxLen]at hm;omega,fun _=>hf,fun i hi=>⟨a,rfl,?_⟩⟩
  have he:=hel i hi
  rw [List.getElem?_eq_getElem (by omega)]at he
  obtain ⟨cs',h1,h2⟩:=Option.bind_eq_some_iff.1 he
  exact ⟨cs',_,h1,h2⟩
def TRd (W:World) (F:Nat) (cs:List Value):Prop:=∃ t A c,cs=(tcells t A c).toList∧t.f4.length≤c∧TIn W (fun _=>0) F A t.f4∧∀ k,Vals k t
theorem list5 {α:Type} {l:List α} (h:l.length=5):∃ a b c d e,l=[a,b,c,d,e]:=by
 match l,h with
 | [a,b,c,d,e],_=>exact ⟨a,b,c,d,e,rfl⟩
theorem cells_lt {W:World} {base:Nat} {a:Addr} {n:Nat} {cs:List Value} (h:W.cells? base a n=some cs) (hn:0 < n):a.block < W.heap.size:=by
 obtain ⟨_,hl,hc⟩:=World.cells?_some h
 have:=hc 0 hn
 rw [List.getElem?_eq_getElem (by omega)]at this
 exact World.block_lt_of_cell? W (a.add 0) this
theorem rd35:∀ (F fuel:Nat),fuel≤F→∀ cs x,DataW.trod enc Tryz.prog W base spare held fuel 35 cs=some x→TRd W F cs:=by
 intro F
 induction F with
 | zero =>
  intro fuel hf cs x h
  obtain rfl:fuel=0:=by omega
  simp [DataW.trod]at h
 | succ F ih =>
  intro fuel hf cs x h
  obtain ⟨xs,n,rfl,_,hl,hlen,hfd⟩:=DataW.trod_struct Tryz.underlying35 h
  rw [c35]at hl
  obtain ⟨a,b,c,d,e,rfl⟩:=list5 hl
  have hlen:xs.length=5:=hlen
  have f0:DataW.trod enc Tryz.prog W base spare held n 31 ((([a,b,c,d,e]:List Value).drop 0).take (Tryz.prog.cellsOf 31))=xs[0]?:=hfd 0 _ rfl
  have f1:DataW.trod enc Tryz.prog W base spare held n 3 ((([a,b,c,d,e]:List Value).drop 1).take (Tryz.prog.cellsOf 3))=xs[1]?:=hfd 1 _ rfl
  have f2:DataW.trod enc Tryz.prog W base spare held n 32 ((([a,b,c,d,e]:List Value).drop 2).take (Tryz.prog.cellsOf 32))=xs[2]?:=hfd 2 _ rfl
  have f3:DataW.trod enc Tryz.prog W base spare held n 9 ((([a,b,c,d,e]:List Value).drop 3).take (Tryz.prog.cellsOf 9))=xs[3]?:=hfd 3 _ rfl
  have f4:DataW.trod enc Tryz.prog W base spare held n 33 ((([a,b,c,d,e]:List Value).drop 4).take (Tryz.prog.cellsOf 33))=xs[4]?:=hfd 4 _ rfl
  simp only [c31,c3,c32,c9,c33,List.drop_zero,List.drop_succ_cons,List.take_succ_cons,List.take_zero]at f0 f1 f2 f3 f4
  rw [List.getElem?_eq_getElem (by omega)]at f0 f1 f2 f3 f4
  obtain ⟨n0,e0,_⟩:=DataW.trod_int Tryz.underlying31 f0
  obtain ⟨n1,e1,_⟩:=DataW.trod_int Tryz.underlying3 f1
  obtain ⟨n2,e2,_,hw2⟩:=DataW.trod_int Tryz.underlying32 f2
  obtain ⟨s3,e3,_⟩:=DataW.trod_string Tryz.underlying9 f3
  obtain ⟨A,len,cp,n',e4,hc,hmax,hfu,hel⟩:=rd_sl Tryz.underlying33 f4
  injection e0 with e0;injection e1 with e1;injection e2 with e2;injection e3 with e3;injection e4 with e4
  subst e0 e1 e2 e3 e4
  obtain ⟨l,hll,hp⟩:=choose_list (p:=fun i (u:S35)=>∃ ad,A=some ad∧∃ cs' A' c',W.cells? base (ad.add (i * 5)) 5=some cs'∧cs'=(tcells u A' c').toList∧u.f4.length≤c'∧TIn W (fun _=>0) F A' u.f4∧∀ k,Vals k u) len (fun i hi=>by
   obtain ⟨ad,hA,cs',y,h1,h2⟩:=hel i hi
   rw [c35]at h1
   have:=hfu (by omega)
   obtain ⟨u,A',c',h3,h4,h5,h6⟩:=ih n' (by omega) cs' y h2
   exact ⟨u,ad,hA,cs',A',c',h1,h3,h4,h5,h6⟩)
  refine ⟨⟨n0,n1,n2,s3,l⟩,A,cp,by unfold tcells;rw [hll],by show l.length≤cp;omega,⟨by show l.length≤_;omega,fun i u hu=>?_⟩,vals_mk ?_ (fun u hu=>?_)⟩
  ·obtain ⟨ad,hA,cs',A',c',h1,rfl,h4,h5,_⟩:=hp i u hu
   obtain ⟨_,_,hcell⟩:=World.cells?_some h1
   have hlt:=cells_lt h1 (by omega)
   rw [add_block]at hlt
   have g:∀ j v,j < 5→(tcells u A' c').toList[j]?=some v→W.cell? (ad.add (i * 5+j))=some v:=fun j v hj hv=>by
    have:=hcell j hj
    rw [Addr.add_add]at this
    rw [this,hv]
   exact ⟨ad,A',c',hA,hlt,rfl,g 0 _ (by omega) rfl,g 1 _ (by omega) rfl,g 2 _ (by omega) rfl,g 3 _ (by omega) rfl,g 4 _ (by omega) rfl,h4,h5⟩
  ·show 0≤n2∧n2 < 18446744073709551616
   have k0:IntKind.u64.min=0:=rfl
   have k1:IntKind.u64.max=18446744073709551615:=rfl
   simp [Lit.wf]at hw2
   omega
  ·obtain ⟨i,hi⟩:=List.mem_iff_getElem?.1 hu
   obtain ⟨_,_,_,_,_,_,_,_,_,h6⟩:=hp i u hi
   exact h6
end
end Go.Proofs.YtjckhhecnebmmaaGreatDoor.TU
end
section
namespace Go.Proofs.YtjckhhecnebmmaaGreatDoor.TU
open Go.RowKit Go.Proofs.YtjckhhecnebmmaaGreatDoorW.PrintWords Go.Proofs.YtjckhhecnebmmaaGreatDoorW.PrintLast Go.Proofs.YtjckhhecnebmmaaGreatDoorW.PrintMore Go.Proofs.YtjckhhecnebmmaaGreatDoor.QAll
attribute [local go_sem] max2_int min2_int max_two min_two max_three min_three max_four min_four
set_option linter.unusedVariables false
def lfX:S35:=leafT 1 4 0 ⟨#[120]⟩
def lfY:S35:=leafT 1 4 0 ⟨#[121]⟩
def ntX:S35:=⟨3,4,0,⟨#[]⟩,[lfX]⟩
def ntY:S35:=⟨3,4,0,⟨#[]⟩,[lfY]⟩
def dX:Nd:=⟨1,4,0,⟨#[120]⟩,[]⟩
def dY:Nd:=⟨1,4,0,⟨#[121]⟩,[]⟩
def dNX:Nd:=⟨3,4,0,⟨#[]⟩,[0]⟩
def dNY:Nd:=⟨3,4,0,⟨#[]⟩,[2]⟩
theorem name1 {s:ByteArray} {c:Int} (hs:(s.size:Int)=1) (hb:bt s 0=c) (h0:97≤c) (h1:c≤122):nameB s=true:=by
 unfold nameB
 refine if_pos ⟨3,?_⟩
 unfold term_Name.f
 rw [hs,hb,if_neg (by decide),if_neg (by decide),if_pos (by decide),if_neg (by omega),term_Name.j0,if_neg (by simpa using h1),hs,term_Name.l0,if_pos (by decide),if_pos (by decide),hs,if_pos (by decide),hb,if_neg (by omega),if_neg (by omega)]
 rw [show wrap64 (0+1)=1 from IntWalk.wrap64_in _ (by omega),term_Name.l0,if_neg (by decide)]
theorem nameX:nameB ⟨#[120]⟩=true:=name1 rfl (c:=120) rfl (by decide) (by decide)
theorem nameY:nameB ⟨#[121]⟩=true:=name1 rfl (c:=121) rfl (by decide) (by decide)
theorem node_leaf {s:ByteArray} (h:nameB s=true):nodeF (leafT 1 4 0 s)=0:=by
 unfold nodeF leafT
 rw [if_neg (by show ¬ (arity 1 < 0∨(24≤(1:Int)∧(1:Int)≤26)∨((0:Nat):Int)≠arity 1);decide),if_neg (by unfold badT2;simp),if_neg (by unfold badT3;simp),if_neg (by unfold badT4;simp [h]),if_neg (by show ¬ (4:Int) < 1;decide),if_neg (by unfold badT5;show ¬ (!decide ((opWidth 1 4 0 []).2=0) || !decide ((opWidth 1 4 0 []).1=4))=true;decide)]
theorem node_not {u:S35} (h:u.f1=4):nodeF ⟨3,4,0,⟨#[]⟩,[u]⟩=0:=by
 unfold nodeF
 rw [if_neg (by simp only [List.length_cons,List.length_nil];decide),if_neg (by unfold badT2;simp),if_neg (by unfold badT3;simp),if_neg (by unfold badT4;simp),if_neg (by show ¬ (4:Int) < 1;decide),if_neg ?_]
 obtain ⟨a,b,c,d,e⟩:=u
 simp only at h
 subst h
 unfold badT5
 show ¬ (!decide ((opWidth 3 4 0 [4]).2=0) || !decide ((opWidth 3 4 0 [4]).1=4))=true
 decide
noncomputable def nxt (S:St) (n:Nd):St:={ grown S n with tab:=putT S.tab (keyStr (newKey S n)) (newId S) }
noncomputable def J1:St:=nxt st0 dX
noncomputable def J2:St:=nxt J1 dNX
noncomputable def J3:St:=nxt J2 dY
noncomputable def J4:St:=nxt J3 dNY
theorem putT_ne {T:ByteArray→Option Int} {n m:Nd} {i:Int} (h:n≠m):putT T (keyStr m) i (keyStr n)=T (keyStr n):=if_neg (fun e=>h (keyStr_inj e))
theorem putT_eq {T:ByteArray→Option Int} {n:Nd} {i:Int}:putT T (keyStr n) i (keyStr n)=some i:=if_pos rfl
theorem k1:newKey st0 dX=dX:=rfl
theorem k2:newKey J1 dNX=dNX:=rfl
theorem k3:newKey J2 dY=dY:=rfl
theorem k4:newKey J3 dNY=dNY:=rfl
theorem p4:J4.p=[0,1,2,3]:=rfl
theorem ns4:J4.ns=[dX,dNX,dY,dNY]:=rfl
theorem ne1:dNX≠dX:=by unfold dNX dX;simp
theorem ne2:dY≠dX:=by unfold dY dX;simp
theorem ne3:dY≠dNX:=by unfold dY dNX;simp
theorem ne4:dNY≠dX:=by unfold dNY dX;simp
theorem ne5:dNY≠dNX:=by unfold dNY dNX;simp
theorem ne6:dNY≠dY:=by unfold dNY dY;simp
theorem t1:J1.tab=putT (fun _=>none) (keyStr dX) 0:=rfl
theorem t2:J2.tab=putT J1.tab (keyStr dNX) 1:=rfl
theorem t3:J3.tab=putT J2.tab (keyStr dY) 2:=rfl
theorem t4:J4.tab=putT J3.tab (keyStr dNY) 3:=rfl
theorem x1:J1.ex=putT (fun _=>none) (keyStr dX) 0:=rfl
theorem x2:J2.ex=putT J1.ex (keyStr dNX) 1:=rfl
theorem x3:J3.ex=putT J2.ex (keyStr dY) 2:=rfl
theorem fl1:flawF st0 dX=0:=by
 unfold flawF
 rw [if_neg (by decide),if_neg (by unfold bad2 dX;simp),if_neg (by unfold bad3 dX;simp [nameX]),if_neg (by decide),if_neg (by decide),if_neg (by decide)]
theorem fl2:flawF J1 dNX=0:=by
 unfold flawF
 rw [if_neg (by decide),if_neg (by unfold bad2 dNX;simp),if_neg (by unfold bad3 dNX;simp),if_neg (by decide),if_neg (by decide),if_neg (by decide)]
theorem vs2:J2.vs (lits_ ⟨#[121]⟩)=none:=by
 have e:J2.vs=updF st0.vs (lits_ ⟨#[120]⟩) (some (.int .i64 4)):=by
  show newVs J1 dNX=_
  unfold newVs
  rw [if_neg (by decide)]
  show newVs st0 dX=_
  unfold newVs
  rw [if_pos (by decide)]
  rfl
 rw [e]
 unfold updF
 rw [if_neg (fun h=>by have:=lits_inj h;simp at this)]
 rfl
theorem fl3:flawF J2 dY=0:=by
 unfold flawF
 rw [if_neg (by decide),if_neg (by unfold bad2 dY;simp),if_neg (by unfold bad3 dY;simp [nameY]),if_neg (by decide),if_neg (by decide),if_neg (by unfold bad6 clash dY;rw [vs2];simp)]
theorem fl4:flawF J3 dNY=0:=by
 unfold flawF
 rw [if_neg (by decide),if_neg (by unfold bad2 dNY;simp),if_neg (by unfold bad3 dNY;simp),if_neg (by decide),if_neg (by decide),if_neg (by decide)]
theorem adds_nxt {S:St} {n:Nd} (hf:flawF S n=0) (hx:S.ex (keyStr n)=none) (ht:S.tab (keyStr (newKey S n))=none):addS S n=(nxt S n,newId S,0):=by
 rw [addS_eq,if_neg (by simpa using hf),hx]
 show (addNew S n,newId S,0)=_
 rw [addNew_none ht]
 rfl
theorem a1:addS st0 dX=(J1,0,0):=adds_nxt fl1 rfl rfl
theorem a2:addS J1 dNX=(J2,1,0):=adds_nxt fl2 (by rw [x1,putT_ne ne1]) (by rw [k2,t1,putT_ne ne1])
theorem a3:addS J2 dY=(J3,2,0):=adds_nxt fl3 (by rw [x2,putT_ne ne3,x1,putT_ne ne2]) (by rw [k3,t2,putT_ne ne3,t1,putT_ne ne2])
theorem a4:addS J3 dNY=(J4,3,0):=adds_nxt fl4 (by rw [x3,putT_ne ne6,x2,putT_ne ne5,x1,putT_ne ne4]) (by rw [k4,t3,putT_ne ne6,t2,putT_ne ne5,t1,putT_ne ne4])
theorem addT_leaf (k:Nat) (S:St) (op w:Int) (v:Nat) (s:ByteArray):addT (k+1) S (leafT op w v s)=addS S ⟨op,w,v,s,[]⟩:=by
 rw [addT_eq]
 show (if (0:Int)=0 then addS S (ndOf (leafT op w v s) [])else _)=_
 rw [if_pos rfl]
 rfl
theorem addT_un (k:Nat) (S S':St) (op w:Int) (u:S35) (id:Int) (h:addT k S u=(S',id,0)):addT (k+1) S ⟨op,w,0,⟨#[]⟩,[u]⟩=addS S' ⟨op,w,0,⟨#[]⟩,[id]⟩:=by
 have e:addL (addT k) S [u]=(S',[id],0):=by rw [addL_step (by rw [h]),h];rfl
 rw [addT_eq]
 show (if (addL (addT k) S [u]).2.2=0 then _ else _)=_
 rw [e,if_pos rfl]
 rfl
theorem ad1:addT 7 st0 ntX=(J2,1,0):=by
 unfold ntX
 rw [addT_un 6 st0 J1 3 4 lfX 0 (by unfold lfX;rw [addT_leaf];exact a1)]
 exact a2
theorem ad2:addT 7 J2 ntY=(J4,3,0):=by
 unfold ntY
 rw [addT_un 6 J2 J3 3 4 lfY 2 (by unfold lfY;rw [addT_leaf];exact a3)]
 exact a4
end Go.Proofs.YtjckhhecnebmmaaGreatDoor.TU
end
section
namespace Go.Proofs.YtjckhhecnebmmaaGreatDoor.TU
open Go.RowKit Go.Proofs.YtjckhhecnebmmaaGreatDoorW.PrintWords Go.Proofs.YtjckhhecnebmmaaGreatDoorW.PrintLast Go.Proofs.YtjckhhecnebmmaaGreatDoorW.PrintMore Go.Proofs.YtjckhhecnebmmaaGreatDoor.QAll
attribute [local go_sem] max2_int min2_int max_two min_two max_three min_three max_four min_four
set_option linter.unusedVariables false
theorem ck_leaf {s:ByteArray} (h:nameB s=true):ckAll [leafT 1 4 0 s]=⟨updF (fun _=>none) (lits_ s) (some (.int .i64 4)),false,0⟩:=by
 show ckStep ⟨fun _=>none,false,0⟩ (leafT 1 4 0 s)=_
 unfold ckStep
 rw [if_neg (by decide),if_neg (by rw [node_leaf h];decide),if_pos (show (leafT 1 4 0 s).f0=1 from rfl)]
 rfl
theorem check_leaf {s:ByteArray} (h:nameB s=true):checkF 7 (leafT 1 4 0 s)=0:=by
 have e:postT 7 (leafT 1 4 0 s)=[leafT 1 4 0 s]:=rfl
 unfold checkF
 rw [e,ck_leaf h]
 rfl
theorem check_not {s:ByteArray} (h:nameB s=true):checkF 7 ⟨3,4,0,⟨#[]⟩,[leafT 1 4 0 s]⟩=0:=by
 have e:postT 7 ⟨3,4,0,⟨#[]⟩,[leafT 1 4 0 s]⟩=[leafT 1 4 0 s]++[⟨3,4,0,⟨#[]⟩,[leafT 1 4 0 s]⟩]:=rfl
 have e2:ckAll ([leafT 1 4 0 s]++[⟨3,4,0,⟨#[]⟩,[leafT 1 4 0 s]⟩])=⟨updF (fun _=>none) (lits_ s) (some (.int .i64 4)),false,0⟩:=by
  rw [ckAll_snoc,ck_leaf h]
  unfold ckStep
  rw [if_neg (by show ¬ (0:Int)≠0;decide),if_neg (by rw [node_not rfl];decide),if_neg (by show ¬ (3:Int)=1;decide)]
 unfold checkF
 rw [e,e2]
 rfl
theorem vals_not (s:ByteArray):Vals 7 ⟨3,4,0,⟨#[]⟩,[leafT 1 4 0 s]⟩:=by
 intro u hu
 have e:postT 7 ⟨3,4,0,⟨#[]⟩,[leafT 1 4 0 s]⟩=[leafT 1 4 0 s,⟨3,4,0,⟨#[]⟩,[leafT 1 4 0 s]⟩]:=rfl
 rw [e]at hu
 simp only [List.mem_cons,List.not_mem_nil,or_false]at hu
 rcases hu with rfl | rfl
 ·show (0:Int)≤((0:Nat):Int)∧((0:Nat):Int) < _;omega
 ·show (0:Int)≤0∧(0:Int) < _;omega
theorem wf_not (s:ByteArray):WF 7 ⟨3,4,0,⟨#[]⟩,[leafT 1 4 0 s]⟩:=by
 refine ⟨by show 1≤_;omega,fun u hu=>?_⟩
 rw [List.mem_singleton.1 hu]
 exact ⟨by show 0≤_;omega,fun v hv=>by cases hv⟩
theorem count_not (s:ByteArray):countT 7 ⟨3,4,0,⟨#[]⟩,[leafT 1 4 0 s]⟩=2:=rfl
theorem gr1:AOk 7 st0 ntX∧Grow st0 J2 2:=by
 obtain ⟨h1,h2,_⟩:=addT_ok 7 st0 ntX ⟨wf_not _,check_ok (check_not nameX) (vals_not _)⟩ inv0 (by show 0+2≤400;decide) (by show 0+3 * 2≤1152921504606800000;decide)
 rw [ad1]at h2
 exact ⟨h1,h2⟩
theorem inv2:Inv J2:=gr1.2.inv
theorem n2:J2.N≤6:=gr1.2.N
theorem gr2:AOk 7 J2 ntY∧Grow J2 J4 2:=by
 have h0:=n2
 obtain ⟨h1,h2,_⟩:=addT_ok 7 J2 ntY ⟨wf_not _,check_ok (check_not nameY) (vals_not _)⟩ inv2 (by show 2+2≤400;decide) (by show J2.N+3 * 2≤1152921504606800000;omega)
 rw [ad2]at h2
 exact ⟨h1,h2⟩
theorem inv4:Inv J4:=gr2.2.inv
theorem n4:J4.N≤12:=by have h:=gr2.2.N;have:=n2;omega
theorem term1:addTermS st0 ntX=(J2,1,0):=by
 unfold addTermS
 rw [if_neg (by show ¬ checkF 7 ntX≠0;rw [show checkF 7 ntX=0 from check_not nameX];decide),ad1]
 rfl
theorem term2:addTermS J2 ntY=(J4,3,0):=by
 unfold addTermS
 rw [if_neg (by show ¬ checkF 7 ntY≠0;rw [show checkF 7 ntY=0 from check_not nameY];decide),ad2]
 rfl
theorem tabX:J4.tab (keyStr dX)=some 0:=by
 rw [t4,putT_ne ne4.symm,t3,putT_ne ne2.symm,t2,putT_ne ne1.symm,t1,putT_eq]
theorem tabY:J4.tab (keyStr dY)=some 2:=by
 rw [t4,putT_ne ne6.symm,t3,putT_eq]
theorem tabNX:J4.tab (keyStr dNX)=some 1:=by
 rw [t4,putT_ne ne5.symm,t3,putT_ne ne3.symm,t2,putT_eq]
noncomputable def J5:St:={ joinS J4 0 2 with dirty:=true }
theorem un5:unionS J4 0 2 (-3)=(J5,0,true):=by
 unfold unionS
 rw [if_neg (by decide),if_neg (by rw [p4];decide),if_neg (by rw [ns4];decide),if_neg (by rw [p4];decide)]
 rfl
theorem inv5:Inv J5:=by
 have h:=(union_ste inv4 0 2 0).inv
 rw [un5]at h
 exact h
theorem n5:J5.N≤12:=n4
theorem p5:J5.p=[0,1,0,3]:=rfl
theorem todo5:J5.todo=[0]:=rfl
theorem par5:par (popS J5) (lastS J5)=[1,3]:=by decide +kernel
theorem tab5:(popS J5).tab=J4.tab:=rfl
theorem inv5p:Inv (popS J5):=pop_inv inv5
theorem re1:repairS (popS J5) 1=(popS J5,0):=repair_same inv5p (by decide) (n:=dNX) rfl rfl
noncomputable def J6:St:=joinS { popS J5 with tab:=delT J4.tab (keyStr dNY),ks:=[dX,dNX,dY,dNX] } 1 3
theorem re3:repairS (popS J5) 3=(J6,1):=by
 have hc:canonN (popS J5).p dNY=dNX:=rfl
 rw [repair_diff (n:=dNY) (k0:=dNY) rfl rfl (by rw [hc];exact ne5.symm),hc,tab5,tabNX]
 show (if fnd (popS J5).p 1=fnd (popS J5).p 3 then _ else _)=_
 rw [if_neg (by show ¬ fnd [0,1,0,3] 1=fnd [0,1,0,3] 3;decide)]
 rfl
theorem p6:J6.p=[0,1,0,1]:=rfl
theorem todo6:J6.todo=[1]:=rfl
theorem par6:par (popS J6) (lastS J6)=[]:=by decide +kernel
theorem reb5:rebN 700 J5=(popS J6,1):=by
 rw [rebN_eq (by rw [todo5];simp),par5]
 have e:reps (popS J5) [1,3]=(J6,1):=by
  show ((reps (repairS (popS J5) 1).1 [3]).1,(repairS (popS J5) 1).2+(reps (repairS (popS J5) 1).1 [3]).2)=_
  rw [re1]
  show ((repairS (popS J5) 3).1,0+((repairS (popS J5) 3).2+0))=_
  rw [re3]
  rfl
 rw [e]
 have e2:rebN 699 J6=(popS J6,0):=by
  rw [rebN_eq (by rw [todo6];simp),par6]
  show ((rebN 698 (popS J6)).1,0+(rebN 698 (popS J6)).2)=_
  rw [rebN_done (show (popS J6).todo=[]from rfl)]
  rfl
 show ((rebN 699 J6).1,1+(rebN 699 J6).2)=_
 rw [e2]
 rfl
end Go.Proofs.YtjckhhecnebmmaaGreatDoor.TU
end
