/- Steps towards the law TopUndoes; words printed by the kit, and printed texts, are cut to what is used, and spaces are left out. No condition. -/
import Derived.Test.YtjckhhecnebmmaaGreatDoorZ36
import Derived.Carry
set_option linter.unusedVariables false
set_option linter.unusedSimpArgs false
section
namespace Go.Proofs.YtjckhhecnebmmaaGreatDoor.TU
open Go.RowKit Go.Proofs.YtjckhhecnebmmaaGreatDoorW.PrintWords Go.Proofs.YtjckhhecnebmmaaGreatDoorW.PrintLast Go.Proofs.YtjckhhecnebmmaaGreatDoorW.PrintMore Go.Proofs.YtjckhhecnebmmaaGreatDoor.QAll
attribute [local go_sem] max2_int min2_int max_two min_two max_three min_three max_four min_four
set_option linter.unusedVariables false
def lc (s:ByteArray):Array Value:=#[.int .i64 1,.int .i64 4,.int .u64 0,.string s,.slice none 0 0]
structure JI (B g bx bb:Nat) (w:World) (o:Own) (S:St) (m:Nat) (wk:World) (ok:Own):Prop where
 gl:Gl B wk ok
 gr:∃ L,GraphAt 201 wk ok g (withL S L)∧L.length≤m
 x:Blk wk ok 0 bx (lc ⟨#[120]⟩) 35
 y:Blk wk ok 0 bb (lc ⟨#[121]⟩) 35
 fr:Fr (·≠0) w o wk ok
section
variable {B g bx bb:Nat} {w:World} {o:Own} {S S':St} {m m':Nat} {wk w1:World} {ok o1:Own}
theorem JI.next (h:JI B g bx bb w o S m wk ok) (f:Fr (GM 201 7) wk ok w1 o1) {L:List S117} (hg:GraphAt 201 w1 o1 g (withL S' L)) (hL:L.length≤m'):JI B g bx bb w o S' m' w1 o1:=by
 have h0:¬ GM 201 7 0:=by unfold GM;omega
 exact ⟨h.gl.fr f h0,⟨L,hg,hL⟩,h.x.fr f.kp h0,h.y.fr f.kp h0,h.fr.trans (f.mono (fun x hx=>by unfold GM at hx;omega))⟩
theorem JI.below (h:JI B g bx bb w o S m wk ok) (hb:Below wk.heap.size wk w1):JI B g bx bb w o S m w1 (ok.from_ wk.heap.size 0):=by
 have k:Kp (fun _=>False) wk ok w1 (ok.from_ wk.heap.size 0):=((Kp.refl _ wk ok).renew 0).below hb
 obtain ⟨L,hg,hL⟩:=h.gr
 exact ⟨h.gl.on hb,⟨L,hg.zero hb,hL⟩,h.x.fr k (fun h=>h),h.y.fr k (fun h=>h),h.fr.trans (Fr.of_below hb 0 (.inl rfl))⟩
theorem tin_one {w:World} {o:Own} {n:Nat} {s:ByteArray} (h:Blk w o 0 n (lc s) 35) (k:Nat):TIn w o (k+1) (some ⟨n,0,none⟩) [leafT 1 4 0 s]:=by
 refine ⟨by show 1≤_;omega,fun i x hx=>?_⟩
 cases i with
 | succ i=>simp at hx
 | zero =>
  simp only [List.getElem?_cons_zero,Option.some.injEq]at hx
  subst hx
  have hc:=blk_cell h.1
  exact ⟨⟨n,0,none⟩,none,0,rfl,blk_lt h.1,h.2,(hc 0).trans rfl,(hc 1).trans rfl,(hc 2).trans rfl,(hc 3).trans rfl,(hc 4).trans rfl,Nat.le_refl _,tin_nil _ _ _ _⟩
theorem not_step (h:JI B g bx bb w o S m wk ok) (s:ByteArray) (iS:Inv S) (hN:S.N≤1152921504606000000) (hA:AOk 7 S ⟨3,4,0,⟨#[]⟩,[leafT 1 4 0 s]⟩) {id:Int} (e:addTermS S ⟨3,4,0,⟨#[]⟩,[leafT 1 4 0 s]⟩=(S',id,0)) (hm:m≤700) :
  Calls Tryz.prog 19 #[.pointer (some ⟨g,0,none⟩),.agg #[.int .i64 3,.int .i64 4,.int .u64 0,.string ⟨#[]⟩,.slice (some ⟨wk.heap.size,0,none⟩) 1 1]] (wk.alloc (.cells (lc s) 35)) fun e w1=>e=.returned (.tuple #[.int .i64 id,.int .i64 0])∧∃ o1,JI B g bx bb w o S' (m+2) w1 o1:=by
 have h1:=h.below (below_alloc (Below.refl wk.heap.size wk) (.cells (lc s) 35))
 obtain ⟨L,hg,hL⟩:=h1.gr
 have hT:=tin_one (w:=wk.alloc (.cells (lc s) 35)) (o:=ok.from_ wk.heap.size 0) ⟨blk_new wk (.cells (lc s) 35),Own.from_ge (Nat.le_refl _)⟩ 5
 refine (addterm_calls (b:=201) (by omega) h1.gl hg (iS.fine (by omega)) ⟨3,4,0,⟨#[]⟩,[leafT 1 4 0 s]⟩ (some ⟨wk.heap.size,0,none⟩) 1 hT (Nat.le_refl _) (by rw [count_not];omega) (fun _=>hA) (by rw [count_not];omega)).mono ?_
 rintro e' w2 ⟨o2,L2,rfl,hg2,hl2,f2⟩
 rw [e]at hg2 ⊢
 exact ⟨rfl,o2,h1.next f2 hg2 (by rw [count_not]at hl2;omega)⟩
theorem leaf_step (h:JI B g bx bb w o J4 m wk ok) (hm:m≤700) (s:ByteArray) (hs:nameB s=true) (hz:s.size≤16) {id:Int} (hid:J4.tab (keyStr ⟨1,4,0,s,[]⟩)=some id) :
  Calls Tryz.prog 20 #[.pointer (some ⟨g,0,none⟩),.agg #[.int .i64 1,.int .i64 4,.int .u64 0,.string s,.slice none 0 0]] wk fun e w1=>e=.returned (.tuple #[.int .i64 (fnd J4.p id),.bool true])∧∃ o1,JI B g bx bb w o J4 m w1 o1:=by
 obtain ⟨L,hg,hL⟩:=h.gr
 refine (find_leaf h.gl hg ((inv4.fine (by have:=n4;omega)).withL (by omega)) 1 4 0 s ⟨by show _≤(1:Int)∧(1:Int)≤_;omega,by show _≤(4:Int)∧(4:Int)≤_;omega,by show 0 < _;omega,by show s.size≤_;omega,fun a ha=>(by cases ha),Nat.zero_le _⟩ (check_leaf hs) none 0 id hid).mono ?_
 rintro e w1 ⟨rfl,hb⟩
 exact ⟨rfl,_,h.below hb⟩
theorem union_step (h:JI B g bx bb w o J4 m wk ok) (hm:m≤700) :
  Calls Tryz.prog 22 #[.pointer (some ⟨g,0,none⟩),.int .i64 0,.int .i64 2,.int .i64 (-3)] wk fun e w1=>e=.returned (.tuple #[.bool true,.int .i64 0])∧∃ o1,JI B g bx bb w o J5 (m+1) w1 o1:=by
 obtain ⟨L,hg,hL⟩:=h.gr
 have hc:=gunion_calls hg ((inv4.fine (by have:=n4;omega)).withL (L:=L) (by omega)) 0 2 (-3) (by omega)
 rw [unionS_withL,un5]at hc
 refine hc.mono ?_
 rintro e w1 ⟨o1,L1,rfl,hg1,hl1,f1⟩
 exact ⟨rfl,o1,h.next (f1.mono (fun _ h=>graphM_gm h)) hg1 (by have:(withL J4 L).L.length=L.length:=rfl;omega)⟩
theorem n5b:J5.N+252000000≤1152921504606846000:=Nat.le_trans (Nat.add_le_add_right n5 _) (by decide)
theorem reb_step (h:JI B g bx bb w o J5 m wk ok) (hm:m≤700) :
  Calls Tryz.prog 23 #[.pointer (some ⟨g,0,none⟩)] wk fun e w1=>e=.returned (.int .i64 1)∧∃ o1,JI B g bx bb w o (rebS 700 J5).1 (m+1) w1 o1:=by
 obtain ⟨L,hg,hL⟩:=h.gr
 have hr:=(reb_ste inv5 n5b 0).1
 have hj:(rebN 700 J5).2=1:=by rw [reb5]
 have hc:=rebuild_calls h.gl hg (by omega) 700 (hr.withL (L:=L) (by omega)) (by rw [rebN_withL];show (L.length:Int)+(rebN 700 J5).2≤800;omega)
 have er:rebS 700 (withL J5 L)=(withL (rebS 700 J5).1 L,(rebS 700 J5).2):=by unfold rebS;rw [rebN_withL];rfl
 rw [er,rebN_withL]at hc
 refine hc.mono ?_
 rintro e w1 ⟨o1,L1,rfl,hg1,hl1,f1⟩
 refine ⟨by show Ending.returned (.int .i64 (rebN 700 J5).2)=_;rw [hj],o1,h.next (f1.mono (fun _ h=>graphM_gm h)) hg1 ?_⟩
 have e1:(withL J5 L).L.length=L.length:=rfl
 have e2:(withL (rebN 700 J5).1 L,(rebN 700 J5).2).2=1:=hj
 rw [e1,e2]at hl1
 show L1.length≤m+1
 have:(1:Int).toNat=1:=rfl
 omega
theorem same4 (h:JI B g bx bb w o J4 m wk ok) (hm:m≤700):Calls Tryz.prog 21 #[.pointer (some ⟨g,0,none⟩),.int .i64 1,.int .i64 3] wk fun e w'=>e=.returned (.bool false)∧wk=w':=by
 obtain ⟨L,hg,hL⟩:=h.gr
 have e:(inB (withL J4 L).p 1 && (fnd (withL J4 L).p 1 == fnd (withL J4 L).p 3))=false:=by show (inB J4.p 1 && (fnd J4.p 1 == fnd J4.p 3))=false;rw [p4];decide
 have hc:=gsame_calls hg ((inv4.fine (by have:=n4;omega)).withL (by omega)) 1 3
 rw [e]at hc
 exact hc
theorem same6 (h:JI B g bx bb w o (rebS 700 J5).1 m wk ok) (hm:m≤700):Calls Tryz.prog 21 #[.pointer (some ⟨g,0,none⟩),.int .i64 1,.int .i64 3] wk fun e w'=>e=.returned (.bool true)∧wk=w':=by
 obtain ⟨L,hg,hL⟩:=h.gr
 have hs:=(reb_ste inv5 n5b 0).2.1
 have hN:=hs.N
 have hp:(rebS 700 J5).1.p=[0,1,0,1]:=by show (rebN 700 J5).1.p=_;rw [reb5];exact p6
 have e:(inB (withL (rebS 700 J5).1 L).p 1 && (fnd (withL (rebS 700 J5).1 L).p 1 == fnd (withL (rebS 700 J5).1 L).p 3))=true:=by show (inB (rebS 700 J5).1.p 1 && (fnd (rebS 700 J5).1.p 1 == fnd (rebS 700 J5).1.p 3))=true;rw [hp];decide
 have hc:=gsame_calls hg ((hs.inv.fine (Nat.le_trans hN (Nat.le_trans (Nat.add_le_add_right n5 _) (by decide)))).withL (by omega)) 1 3
 rw [e]at hc
 exact hc
end
end Go.Proofs.YtjckhhecnebmmaaGreatDoor.TU
end
section
namespace Go.Proofs.YtjckhhecnebmmaaGreatDoor.TU
open Go.RowKit Go.Proofs.YtjckhhecnebmmaaGreatDoorW.PrintWords Go.Proofs.YtjckhhecnebmmaaGreatDoorW.PrintLast Go.Proofs.YtjckhhecnebmmaaGreatDoorW.PrintMore Go.Proofs.YtjckhhecnebmmaaGreatDoor.QAll
attribute [local go_sem] max2_int min2_int max_two min_two max_three min_three max_four min_four
set_option linter.unusedVariables false
set_option maxHeartbeats 6400000 in
set_option maxRecDepth 20000 in
theorem joins_calls {B:Nat}:JoinsOk B:=by
 intro w o G
 have HN:=Lib.hid (graph_new 201 w o (by omega))
 have HG:=Lib.hid G
 clear G
 go_enter Tryz.func11,Tryz.ntmps11
 go_wp2_with fail
 refine HN.out.mono ?_
 rintro e w1 ⟨g,o1,rfl,hg1,f1⟩
 have h0:¬ GraphM 201 0:=by unfold GraphM;omega
 have hba:=below_alloc (Below.refl w1.heap.size w1) (.cells (lc ⟨#[120]⟩) 35)
 have hbb:=below_alloc hba (.cells (lc ⟨#[121]⟩) 35)
 have hx:=blk_alloc (blk_new w1 (.cells (lc ⟨#[120]⟩) 35)) (.cells (lc ⟨#[121]⟩) 35)
 have hy:=blk_new (w1.alloc (.cells (lc ⟨#[120]⟩) 35)) (.cells (lc ⟨#[121]⟩) 35)
 simp only [World.size_alloc]at hy
 have K2:=Lib.hid (show JI B g w1.heap.size (w1.heap.size+1) w o st0 0 ((w1.alloc (.cells (lc ⟨#[120]⟩) 35)).alloc (.cells (lc ⟨#[121]⟩) 35)) (o1.from_ w1.heap.size 0)from ⟨(HG.out.fr f1 h0).on hbb,⟨[],hg1.zero hbb,Nat.le_refl _⟩,⟨hx,Own.from_ge (Nat.le_refl _)⟩,⟨hy,Own.from_ge (Nat.le_succ _)⟩,(f1.mono (fun x hx=>by unfold GraphM at hx;omega)).trans (Fr.of_below hbb 0 (.inl rfl))⟩)
 have HC1:=Lib.hid (not_step K2.out ⟨#[120]⟩ inv0 (by decide) gr1.1 (S':=J2) (id:=1) term1 (by decide))
 simp only [World.size_alloc,lc]at HC1
 clear h0 hba hbb hx hy hg1 f1 HN HG
 go_wp2_with fail
 refine HC1.out.mono ?_
 rintro e w3 ⟨rfl,o3,h3⟩
 have HY:=Lib.hid (blk_cell h3.y.1)
 have y0:w3.cell? ⟨w1.heap.size+1,0,none⟩=some (.int .i64 1):=(HY.out 0).trans rfl
 have y1:w3.cell? ⟨w1.heap.size+1,1,none⟩=some (.int .i64 4):=(HY.out 1).trans rfl
 have y2:w3.cell? ⟨w1.heap.size+1,2,none⟩=some (.int .u64 0):=(HY.out 2).trans rfl
 have y3:w3.cell? ⟨w1.heap.size+1,3,none⟩=some (.string ⟨#[121]⟩):=(HY.out 3).trans rfl
 have y4:w3.cell? ⟨w1.heap.size+1,4,none⟩=some (.slice none 0 0):=(HY.out 4).trans rfl
 have HC2:=Lib.hid (not_step h3 ⟨#[121]⟩ inv2 (Nat.le_trans n2 (by decide)) gr2.1 (S':=J4) (id:=3) term2 (by decide))
 simp only [lc]at HC2
 clear h3 HC1 K2 HY
 go_wp2_with fail
 refine HC2.out.mono ?_
 rintro e w4 ⟨rfl,o4,h4⟩
 clear y0 y1 y2 y3 y4
 have HX:=Lib.hid (blk_cell h4.x.1)
 have x0:w4.cell? ⟨w1.heap.size,0,none⟩=some (.int .i64 1):=(HX.out 0).trans rfl
 have x1:w4.cell? ⟨w1.heap.size,1,none⟩=some (.int .i64 4):=(HX.out 1).trans rfl
 have x2:w4.cell? ⟨w1.heap.size,2,none⟩=some (.int .u64 0):=(HX.out 2).trans rfl
 have x3:w4.cell? ⟨w1.heap.size,3,none⟩=some (.string ⟨#[120]⟩):=(HX.out 3).trans rfl
 have x4:w4.cell? ⟨w1.heap.size,4,none⟩=some (.slice none 0 0):=(HX.out 4).trans rfl
 have hf0:fnd J4.p 0=0:=by rw [p4];decide
 have hf2:fnd J4.p 2=2:=by rw [p4];decide
 have HL1:=leaf_step h4 (by decide) ⟨#[120]⟩ nameX (by decide) tabX
 rw [hf0]at HL1
 replace HL1:=Lib.hid HL1
 have HF2:=Lib.hid hf2
 clear h4 HC2 HX hf0 hf2
 go_wp2_with fail
 refine HL1.out.mono ?_
 rintro e w5 ⟨rfl,o5,h5⟩
 clear x0 x1 x2 x3 x4
 have HY:=Lib.hid (blk_cell h5.y.1)
 have y0:w5.cell? ⟨w1.heap.size+1,0,none⟩=some (.int .i64 1):=(HY.out 0).trans rfl
 have y1:w5.cell? ⟨w1.heap.size+1,1,none⟩=some (.int .i64 4):=(HY.out 1).trans rfl
 have y2:w5.cell? ⟨w1.heap.size+1,2,none⟩=some (.int .u64 0):=(HY.out 2).trans rfl
 have y3:w5.cell? ⟨w1.heap.size+1,3,none⟩=some (.string ⟨#[121]⟩):=(HY.out 3).trans rfl
 have y4:w5.cell? ⟨w1.heap.size+1,4,none⟩=some (.slice none 0 0):=(HY.out 4).trans rfl
 have HL2:=leaf_step h5 (by decide) ⟨#[121]⟩ nameY (by decide) tabY
 rw [HF2.out]at HL2
 replace HL2:=Lib.hid HL2
 clear h5 HL1 HY HF2
 go_wp2_with fail
 refine HL2.out.mono ?_
 rintro e w6 ⟨rfl,o6,h6⟩
 clear y0 y1 y2 y3 y4
 have HS4:=Lib.hid (same4 h6 (by decide))
 have HU:=Lib.hid (union_step h6 (by decide))
 clear h6 HL2
 go_wp2_with fail
 refine HS4.out.mono ?_
 rintro e w' ⟨rfl,rfl⟩
 go_wp2_with fail
 refine HU.out.mono ?_
 rintro e w7 ⟨rfl,o7,h7⟩
 have HR:=Lib.hid (reb_step h7 (by decide))
 clear h7 HU HS4
 go_wp2_with fail
 refine HR.out.mono ?_
 rintro e w8 ⟨rfl,o8,h8⟩
 have HS6:=Lib.hid (same6 h8 (by decide))
 have F8:=Lib.hid h8.fr
 clear h8 HR
 go_wp2_with fail
 refine HS6.out.mono ?_
 rintro e w' ⟨rfl,rfl⟩
 go_wp2_with fail
 go_ret
 exact ⟨rfl,o8,F8.out⟩
end Go.Proofs.YtjckhhecnebmmaaGreatDoor.TU
end
section
namespace Go.Proofs.YtjckhhecnebmmaaGreatDoor.TU
open Go.RowKit Go.Proofs.YtjckhhecnebmmaaGreatDoorW.PrintWords Go.Proofs.YtjckhhecnebmmaaGreatDoorW.PrintLast Go.Proofs.YtjckhhecnebmmaaGreatDoorW.PrintMore Go.Proofs.YtjckhhecnebmmaaGreatDoor.QAll
attribute [local go_sem] max2_int min2_int max_two min_two max_three min_three max_four min_four
set_option linter.unusedVariables false
open Go.ChangeShapes Go.WideShapes
theorem list8 {α:Type} {l:List α} (h:l.length=8):∃ a b c d e f g k,l=[a,b,c,d,e,f,g,k]:=by
 match l,h with
 | [a,b,c,d,e,f,g,k],_=>exact ⟨a,b,c,d,e,f,g,k,rfl⟩
section
variable {H:Type} {enc:TypeId × Value→H} {W:World} {base:Nat} {spare:Nat→Bool} {held:Bool}
theorem rd37 {fuel:Nat} {cs:List Value} {x:DataW H × List MemPlace} (h:DataW.trod enc Tryz.prog W base spare held fuel 37 cs=some x) :
  ∃ (e:Ev) (A:Option Addr) (c:Nat),cs=(evc e A c).toList∧e.t.f4.length≤c∧TIn W (fun _=>0) fuel A e.t.f4∧∀ k,Vals k e.t:=by
 obtain ⟨xs,n,rfl,_,hl,hlen,hfd⟩:=DataW.trod_struct Tryz.underlying37 h
 rw [c37]at hl
 obtain ⟨a,b,c,d,e,f,g,k,rfl⟩:=list8 hl
 have hlen:xs.length=4:=hlen
 have f0:DataW.trod enc Tryz.prog W base spare held n 3 ((([a,b,c,d,e,f,g,k]:List Value).drop 0).take (Tryz.prog.cellsOf 3))=xs[0]?:=hfd 0 _ rfl
 have f1:DataW.trod enc Tryz.prog W base spare held n 35 ((([a,b,c,d,e,f,g,k]:List Value).drop 1).take (Tryz.prog.cellsOf 35))=xs[1]?:=hfd 1 _ rfl
 have f2:DataW.trod enc Tryz.prog W base spare held n 3 ((([a,b,c,d,e,f,g,k]:List Value).drop 6).take (Tryz.prog.cellsOf 3))=xs[2]?:=hfd 2 _ rfl
 have f3:DataW.trod enc Tryz.prog W base spare held n 3 ((([a,b,c,d,e,f,g,k]:List Value).drop 7).take (Tryz.prog.cellsOf 3))=xs[3]?:=hfd 3 _ rfl
 simp only [c3,c35,List.drop_zero,List.drop_succ_cons,List.take_succ_cons,List.take_zero]at f0 f1 f2 f3
 rw [List.getElem?_eq_getElem (by omega)]at f0 f1 f2 f3
 obtain ⟨n0,e0,_⟩:=DataW.trod_int Tryz.underlying3 f0
 obtain ⟨n2,e2,_⟩:=DataW.trod_int Tryz.underlying3 f2
 obtain ⟨n3,e3,_⟩:=DataW.trod_int Tryz.underlying3 f3
 obtain ⟨t,A,cp,ht,hc,hT,hv⟩:=rd35 n n (Nat.le_refl _) _ _ f1
 injection e0 with e0;injection e2 with e2;injection e3 with e3
 unfold tcells at ht
 injection ht with g0 ht;injection ht with g1 ht;injection ht with g2 ht;injection ht with g3 ht;injection ht with g4 ht
 subst e0 e2 e3 g0 g1 g2 g3 g4
 exact ⟨⟨n0,t,n2,n3⟩,A,cp,rfl,hc,tin_up _ _ _ hT,hv⟩
theorem rd22 {fuel:Nat} {cs:List Value} {x:DataW H × List MemPlace} (h:DataW.trod enc Tryz.prog W base spare held fuel 22 cs=some x) :
  ∃ (A:Option Addr) (l:List Ev) (c n:Nat),cs=[.slice A l.length c]∧l.length≤c∧EvIn W (fun _=>0) n A l∧∀ e∈l,∀ k,Vals k e.t:=by
 obtain ⟨A,len,c,n,rfl,hc,hmax,_,hel⟩:=rd_sl Tryz.underlying22 h
 obtain ⟨l,hll,hp⟩:=choose_list (p:=fun i (e:Ev)=>∃ ad,A=some ad∧∃ cs' A' c',W.cells? base (ad.add (i * 8)) 8=some cs'∧cs'=(evc e A' c').toList∧e.t.f4.length≤c'∧TIn W (fun _=>0) n A' e.t.f4∧∀ k,Vals k e.t) len (fun i hi=>by
  obtain ⟨ad,hA,cs',y,h1,h2⟩:=hel i hi
  rw [c37]at h1
  obtain ⟨e,A',c',h3,h4,h5,h6⟩:=rd37 h2
  exact ⟨e,ad,hA,cs',A',c',h1,h3,h4,h5,h6⟩)
 subst hll
 refine ⟨A,l,c,n,rfl,hc,⟨hmax,fun i e he=>?_⟩,fun e he=>?_⟩
 ·obtain ⟨ad,hA,cs',A',c',h1,rfl,h4,h5,_⟩:=hp i e he
  obtain ⟨_,_,hcell⟩:=World.cells?_some h1
  have hlt:=cells_lt h1 (by omega)
  rw [add_block]at hlt
  have g:∀ j v,j < 8→(evc e A' c').toList[j]?=some v→W.cell? (ad.add (i * 8+j))=some v:=fun j v hj hv=>by
   have:=hcell j hj
   rw [Addr.add_add]at this
   rw [this,hv]
  refine ⟨ad,A',c',hA,hlt,rfl,⟨?_,?_,?_,?_,?_,?_,?_,?_⟩,h4,h5⟩
  ·exact g 0 _ (by omega) rfl
  ·rw [← add_field _ _ 1 (by omega)];exact g 1 _ (by omega) rfl
  ·rw [← add_field _ _ 2 (by omega)];exact g 2 _ (by omega) rfl
  ·rw [← add_field _ _ 3 (by omega)];exact g 3 _ (by omega) rfl
  ·rw [← add_field _ _ 4 (by omega)];exact g 4 _ (by omega) rfl
  ·rw [← add_field _ _ 5 (by omega)];exact g 5 _ (by omega) rfl
  ·rw [← add_field _ _ 6 (by omega)];exact g 6 _ (by omega) rfl
  ·rw [← add_field _ _ 7 (by omega)];exact g 7 _ (by omega) rfl
 ·obtain ⟨i,hi⟩:=List.mem_iff_getElem?.1 he
  obtain ⟨_,_,_,_,_,_,_,_,_,h6⟩:=hp i e hi
  exact h6
theorem okw {P:Program} {W:World} {T e:TypeId} {v:Value} {r:Reach} {b0:Nat} (ht:P.underlying T=some (.slice e)) (hv:Value.okWide P W r b0 T v):∃ a len cap,v=.slice a len cap:=by
 obtain ⟨a,len,cap,rfl⟩:=okWide_slice ht hv
 exact ⟨a,len,cap,rfl⟩
set_option maxRecDepth 100000 in
theorem arg_events {v:Value} {y:DataW H} {ps:List MemPlace} {r:Reach} {b0:Nat} (hv:Value.okWide Tryz.prog W r b0 22 v) (h:DataW.Trod enc Tryz.prog W base spare held 22 v y ps) :
  ∃ (A:Option Addr) (l:List Ev) (c n:Nat),v=.slice A l.length c∧l.length≤c∧EvIn W (fun _=>0) n A l∧∀ e∈l,∀ k,Vals k e.t:=by
 obtain ⟨a,len,cap,rfl⟩:=okw (T:=22) (e:=37) Tryz.underlying22 hv
 obtain ⟨fuel,hf⟩:=h
 obtain ⟨A,l,c,n,hcs,h1,h2,h3⟩:=rd22 hf
 simp [Value.cells]at hcs
 obtain ⟨rfl,rfl,rfl⟩:=hcs
 exact ⟨_,l,_,n,rfl,h1,h2,h3⟩
end
theorem top_all {B:Nat} {w:World} (G:Gl B w (fun _=>0)) {n1 n2 n3:Nat} {A1 A2 A3:Option Addr} {c1 c2 c3:Nat} {l1 l2 l3:List Ev} (h1:EvIn w (fun _=>0) n1 A1 l1) (h2:EvIn w (fun _=>0) n2 A2 l2) (h3:EvIn w (fun _=>0) n3 A3 l3) (hc1:l1.length≤c1) (hc2:l2.length≤c2) (hc3:l3.length≤c3)
  (hv1:∀ e∈l1,∀ k,Vals k e.t) (hv2:∀ e∈l2,∀ k,Vals k e.t) (hv3:∀ e∈l3,∀ k,Vals k e.t) :
  Calls Tryz.prog 3 #[.slice A1 l1.length c1,.slice A2 l2.length c2,.slice A3 l3.length c3] w fun e w'=>e=.returned (.bool true)∧Below w.heap.size w w':=by
 refine (top_calls G h1 h2 h3 hc1 hc2 hc3 hv1 hv2 hv3 joins_calls).mono ?_
 rintro e w' ⟨rfl,o',f⟩
 have hz:∀ x:Nat,(fun _:Nat=>0) x≠0→False:=fun x h=>h rfl
 exact ⟨rfl,f.toBelow (Nat.le_refl _) (fun k _ h=>hz k h)⟩
end Go.Proofs.YtjckhhecnebmmaaGreatDoor.TU
end
