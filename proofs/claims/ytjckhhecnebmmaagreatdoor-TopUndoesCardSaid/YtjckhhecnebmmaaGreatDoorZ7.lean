/- Steps towards the law TopUndoes; words printed by the kit, and printed texts, are cut to what is used, and spaces are left out. No condition. -/
import Derived.Test.YtjckhhecnebmmaaGreatDoorZ6
import Derived.Lib.SliceRun
set_option linter.unusedVariables false
set_option linter.unusedSimpArgs false
section
namespace Go.Proofs.YtjckhhecnebmmaaGreatDoor.TU
open Go.RowKit Go.Proofs.YtjckhhecnebmmaaGreatDoorW.PrintWords Go.Proofs.YtjckhhecnebmmaaGreatDoorW.PrintLast Go.Proofs.YtjckhhecnebmmaaGreatDoorW.PrintMore Go.Proofs.YtjckhhecnebmmaaGreatDoor.QAll
attribute [local go_sem] max2_int min2_int max_two min_two max_three min_three max_four min_four
set_option linter.unusedVariables false
structure InFind (w wr:World) (g mu n:Nat) (d:Int→Nat) (R:Int→Int) (F:Lit→Option Value):Prop where
 map:GMap 3 SInt (.int .i64 0) wr mu n F
 up:UpOk d (upM F) R
 grown:w.grownBy wr (some mu)
theorem InFind.drew {w wr:World} {g mu n:Nat} {d:Int→Nat} {R:Int→Int} {F:Lit→Option Value} (h:InFind w wr g mu n d R F):InFind w wr.drew g mu n d R F:=⟨h.map,h.up,⟨h.grown.os,h.grown.tape,h.grown.output,h.grown.size,h.grown.block⟩⟩
set_option maxRecDepth 20000 in
set_option maxHeartbeats 3200000 in
theorem find_walk {w:World} {g mu n:Nat} {d:Int→Nat} {R:Int→Int} {F:Lit→Option Value} (hn:n < maxLen) (hg:w.cell? ⟨g,3,none⟩=some (.map (some mu))) (hgm:g≠mu) (H:InFind w w g mu n d R F) (x:Int) (hx:I64 x) :
  Calls Tryz.prog 80 #[.pointer (some ⟨g,0,none⟩),.int .i64 x] w fun e w'=>e=.returned (.int .i64 (R x))∧I64 (R x)∧∃ F',InFind w w' g mu n d R F':=by
 have hlook:∀ (wr:World) (F':Lit→Option Value),InFind w wr g mu n d R F'→∀ y,I64 y→(Instr.lookup 94 (.map (some mu)) (.int .i64 y) true).run Tryz.prog wr=.ok (.tuple #[.int .i64 ((upM F' y).getD 0),.bool (upM F' y).isSome]) wr∧(Instr.lookup 94 (.map (some mu)) (.int .i64 y) false).run Tryz.prog wr=.ok (.int .i64 ((upM F' y).getD 0)) wr∧I64 ((upM F' y).getD 0):=fun wr F' hI y hy=>by
  obtain ⟨⟨u,hu,hi⟩,hl⟩:=GMap.look keyedI Tryz.underlying94 zero3 ⟨0,rfl,by unfold I64;omega⟩ (keyI hy) hI.map
  have hl:=hl wr rfl
  have e1:(F' (li y)).isSome=(upM F' y).isSome:=by unfold upM;cases F' (li y) <;> rfl
  have e2:(upM F' y).getD 0=u:=by
   unfold upM
   cases h:F' (li y)with
   | none=>rw [h]at hu;simpa using hu
   | some v=>rw [h]at hu;simp only [Option.getD_some]at hu;simp [hu,intOf]
  rw [hu,e1,← e2]at hl
  rw [← e2]at hi
  exact ⟨hl.1,hl.2,hi⟩
 have HN:=Lib.hid hn
 have HG:=Lib.hid (And.intro hg (show some g≠some mu from fun e=>hgm (Option.some.inj e)))
 have HL:=Lib.hid hlook
 have HH:=Lib.hid H
 have HX:=Lib.hid hx
 clear hlook H hx hn
 go_enter Tryz.func80,Tryz.ntmps80
 go_wp2
 go_loop [5] (fun r=>∃ y:Int,r=.int .i64 y∧Hid (I64 y)∧Hid (R y=R x)) (fun r=>d (intOf r))
 case atStart=>exact ⟨x,rfl,HX.out,rfl⟩
 case round =>
  obtain ⟨y,rfl,hy,hR⟩:=hrel
  obtain ⟨l1,l2,l3⟩:=HL.out _ _ HH.out y hy.out
  cases hm:upM F y with
  | some u =>
   rw [hm]at l1 l3
   simp only [Option.getD_some,Option.isSome_some]at l1 l3
   have hst:=HH.out.up.step y u hm
   have L3:=Lib.hid l3
   have HST:=Lib.hid hst
   clear l2 l3 hst hm
   go_wp2
   go_round
   case rel=>exact ⟨u,rfl,L3.out,HST.out.1.trans hR.out⟩
   case measure=>simp only [intOf];exact HST.out.2
  | none =>
   rw [hm]at l1
   simp only [Option.getD_none,Option.isSome_none]at l1
   have hroot:=HH.out.up.root y hm
   rw [hR.out]at hroot
   have HY:=hy
   have HRT:=Lib.hid hroot
   have hII:Hid (I64 (R x)):=by
    have:=hroot
    show I64 (R x)
    rw [this];exact HY.out
   rw [← hroot]at l1 ⊢
   clear l2 l3 hroot hy HY hR HRT hm
   generalize hr:R x=r at *
   have HR:=Lib.hid hr
   clear hr
   go_wp2
   go_loopw [1] (fun v wr=>∃ (y:Int) (F':Lit→Option Value),v=.int .i64 y∧Hid (I64 y)∧Hid (R y=r)∧Hid (InFind w wr g mu n d R F')) (fun v _=>d (intOf v))
   case atStart=>exact ⟨x,F,rfl,HX.out,HR.out,HH.out⟩
   case round =>
    obtain ⟨y,F',rfl,hy,hR,hI⟩:=hrel
    by_cases e:y=r
    ·have e1:(y == r)=true:=by simpa using e
     have e2:(y != r)=false:=by simpa using e
     clear e
     go_wp2
     go_ret
     exact ⟨by rw [HR.out];rfl,by rw [HR.out];exact hII.out,F',hI.out⟩
    ·have e1:(y == r)=false:=by simpa using e
     have e2:(y != r)=true:=by simpa using e
     have hne:upM F' y≠none:=fun h=>e ((hI.out.up.root y h).symm.trans hR.out)
     obtain ⟨u,hu⟩:=Option.ne_none_iff_exists'.1 hne
     obtain ⟨l1,l2,l3⟩:=HL.out _ _ hI.out.drew y hy.out
     rw [hu]at l2 l3
     simp only [Option.getD_some]at l2 l3
     have hst:=hI.out.up.step y u hu
     have hFk:F' (li y)≠none:=fun h=>hne (by unfold upM;rw [h];rfl)
     obtain ⟨v0,st,hme,hes⟩:=GMap.entry keyedI Tryz.underlying94 zero3 (keyI hy.out) hI.out.drew.map HN.out hFk
     obtain ⟨w4,hes,hG4,hgr⟩:=hes wr.drew (.int .i64 r) rfl ⟨r,rfl,hII.out⟩
     have hc:wr.cell? ⟨g,3,none⟩=some (.map (some mu)):=hI.out.grown.cell HG.out.1 HG.out.2
     have hcd:wr.drew.cell? ⟨g,3,none⟩=some (.map (some mu)):=hc
     have hc4:w4.cell? ⟨g,3,none⟩=some (.map (some mu)):=hgr.cell hcd HG.out.2
     have L3:=Lib.hid l3
     have hU:=Lib.hid hu
     have HC4:=Lib.hid hc4
     have HST:=Lib.hid hst
     have HG4:=Lib.hid hG4
     have HGR:=Lib.hid hgr
     clear l1 l3 hst hG4 hgr e hne hu hFk hcd
     go_wp2
     go_region_held3 (fun w'=>w'.cell? ⟨g,3,none⟩=some (.map (some mu)))
      (first | assumption | fail)
      (fail)
     go_wp2
     go_roundw
     case rel =>
      refine ⟨u,_,rfl,L3.out,HST.out.1.trans hR.out,HG4.out,?_,hI.out.drew.grown.trans HGR.out⟩
      refine hI.out.up.short (x:=y) (by rw [hU.out];simp) (fun z=>?_)
      rw [upM_upd,hR.out]
     case measure=>simp only [intOf];exact HST.out.2
theorem InFind.i64 {w wr:World} {g mu n:Nat} {d:Int→Nat} {R:Int→Int} {F:Lit→Option Value} (h:InFind w wr g mu n d R F):∀ (k:Nat) (x:Int),d x≤k→I64 x→I64 (R x):=by
 have hs:∀ x u,I64 x→upM F x=some u→I64 u:=fun x u hx hu=>by
  obtain ⟨⟨v,hv,hi⟩,_⟩:=GMap.look keyedI Tryz.underlying94 zero3 ⟨0,rfl,by unfold I64;omega⟩ (keyI hx) h.map
  unfold upM at hu
  cases hF:F (li x)with
  | none=>rw [hF]at hu;cases hu
  | some q =>
   rw [hF]at hu hv
   simp only [Option.getD_some]at hv
   subst hv
   have:=Option.some.inj hu
   rw [← this]
   exact hi
 intro k
 induction k with
 | zero =>
  intro x hk hx
  cases hm:upM F x with
  | none=>rw [h.up.root x hm];exact hx
  | some u=>have:=(h.up.step x u hm).2;omega
 | succ k ih =>
  intro x hk hx
  cases hm:upM F x with
  | none=>rw [h.up.root x hm];exact hx
  | some u =>
   have h1:=h.up.step x u hm
   rw [← h1.1]
   exact ih u (by omega) (hs x u hx hm)
theorem InFind.of {b g mn mu Nn Nu Nr:Nat} {w:World} {o:Own} {vl:Value} {L:List S117} {Fn Fu:Lit→Option Value} {d:Int→Nat} {R:Int→Int} (h:ForBase b w o g mn mu vl L Fn Fu d R Nn Nu Nr):InFind w w g mu Nu d R Fu:=⟨h.umap,h.up,⟨rfl,rfl,rfl,Nat.le_refl _,fun _ _ _=>rfl⟩⟩
theorem find_step {W w:World} {g mu n:Nat} {d:Int→Nat} {R:Int→Int} (hn:n < maxLen) (hg:w.cell? ⟨g,3,none⟩=some (.map (some mu))) (hgm:g≠mu) (H:Hid (∃ F,InFind W w g mu n d R F)) (x:Int) (hx:I64 x) :
  Calls Tryz.prog 80 #[.pointer (some ⟨g,0,none⟩),.int .i64 x] w fun e w'=>e=.returned (.int .i64 (R x))∧Hid (∃ F,InFind W w' g mu n d R F)∧∀ p v,p.block≠mu→w.cell? p=some v→w'.cell? p=some v:=by
 obtain ⟨F,hF⟩:=H.out
 refine (find_walk hn hg hgm ⟨hF.map,hF.up,⟨rfl,rfl,rfl,Nat.le_refl _,fun _ _ _=>rfl⟩⟩ x hx).mono ?_
 rintro e w' ⟨rfl,_,F',h'⟩
 exact ⟨rfl,⟨F',h'.map,h'.up,hF.grown.trans h'.grown⟩,fun p v hp hc=>h'.grown.cell hc (fun e=>hp (Option.some.inj e))⟩
theorem ForBase.up_join {b g mn mu Nn Nu Nr:Nat} {w w7 w8:World} {o:Own} {vl:Value} {L:List S117} {Fn Fu F':Lit→Option Value} {d:Int→Nat} {R:Int→Int} (h:ForBase b w o g mn mu vl L Fn Fu d R Nn Nu Nr) (hI:InFind w w7 g mu Nu d R F') (x y:Int) (hne:R x≠R y)
  (hG:GMap 3 SInt (.int .i64 0) w8 mu (Nu+1) (updF F' (li (R x)) (some (.int .i64 (R y))))) (hgr:w7.grownBy w8 (some mu)) :
  ∃ Fu' d',ForBase b w8 o g mn mu vl L Fn Fu' d' (fun v=>if R v=R x then R y else R v) Nn (Nu+1) Nr∧w.grownBy w8 (some mu):=by
 have hg:=hI.grown.trans hgr
 have kp:Kp (·=b+3) w o w8 o:=(Kp.refl _ w o).grown hg (fun q e=>.inl (by rw [← Option.some.inj e];exact h.omu))
 refine ⟨_,_,⟨h.blk.fr kp (by omega),h.lnk.fr kp (by omega),h.omn,h.omu,h.nmap.at (kp.block mn h.nmap.lt (by rw [h.omn];omega)),hG,hI.up.join (hI.up.top x) (hI.up.top y) hne (fun z=>upM_upd z),h.near.fr kp (by omega)⟩,hg⟩
end Go.Proofs.YtjckhhecnebmmaaGreatDoor.TU
end
section
namespace Go.Proofs.YtjckhhecnebmmaaGreatDoor.TU
open Go.RowKit Go.Proofs.YtjckhhecnebmmaaGreatDoorW.PrintWords Go.Proofs.YtjckhhecnebmmaaGreatDoorW.PrintLast Go.Proofs.YtjckhhecnebmmaaGreatDoorW.PrintMore Go.Proofs.YtjckhhecnebmmaaGreatDoor.QAll
attribute [local go_sem] max2_int min2_int max_two min_two max_three min_three max_four min_four
set_option linter.unusedVariables false
theorem inf117:(Tryz.prog.info? 117).map (fun i=>(i.zero,i.size,i.bytes))=some (some (.agg #[.int .i64 0,.int .i64 0,.int .i64 0]),3,24):=by kernel_rfl
theorem ForBase.drew {b g mn mu Nn Nu Nr:Nat} {w:World} {o:Own} {vl:Value} {L:List S117} {Fn Fu:Lit→Option Value} {d:Int→Nat} {R:Int→Int} (h:ForBase b w o g mn mu vl L Fn Fu d R Nn Nu Nr):ForBase b w.drew o g mn mu vl L Fn Fu d R Nn Nu Nr:=h.fr ((Kp.refl (fun _=>False) _ _).drew) (fun _ _ h=>h)
theorem near_look {b g mn mu Nn Nu Nr:Nat} {w:World} {o:Own} {vl:Value} {L:List S117} {Fn Fu:Lit→Option Value} {d:Int→Nat} {R:Int→Int} (h:ForBase b w o g mn mu vl L Fn Fu d R Nn Nu Nr) (k:Int) (hk:I64 k):(Instr.lookup 93 (.map (some mn)) (.int .i64 k) false).run Tryz.prog w=.ok ((Fn (li k)).getD (.slice none 0 0)) w :=
 ((GMap.look keyedI Tryz.underlying93 zero26 ⟨none,0,0,rfl⟩ (keyI hk) h.nmap).2 w rfl).2
theorem near_look' {b g mn mu Nn Nu Nr:Nat} {w:World} {o:Own} {vl:Value} {L:List S117} {Fn Fu:Lit→Option Value} {d:Int→Nat} {R:Int→Int} (h:ForBase b w o g mn mu vl L Fn Fu d R Nn Nu Nr) (k:Int) (hk:I64 k) (w':World) (hb:w'.heap[mn]?=w.heap[mn]?):(Instr.lookup 93 (.map (some mn)) (.int .i64 k) false).run Tryz.prog w'=.ok ((Fn (li k)).getD (.slice none 0 0)) w' :=
 ((GMap.look keyedI Tryz.underlying93 zero26 ⟨none,0,0,rfl⟩ (keyI hk) h.nmap).2 w' hb).2
set_option maxRecDepth 20000 in
set_option maxHeartbeats 12800000 in
theorem add_calls {b g:Nat} {w:World} {o:Own} {L:List S117} (hb0:0 < b) (H:ForAt b w o g L) (hL:L.length≤1000) (l:S117) (h0:I64 l.f0) (h1:I64 l.f1) (hne:rootsOf L l.f0≠rootsOf L l.f1) :
  Calls Tryz.prog 65 #[.pointer (some ⟨g,0,none⟩),.agg #[.int .i64 l.f0,.int .i64 l.f1,.int .i64 l.f2]] w fun e w'=>e=.returned (.tuple #[])∧∃ o',ForAt b w' o' g (l :: L)∧Fr (ForM b) w o w' o':=by
 obtain ⟨vl,mn,mu,Fn,Fu,d,HB,HI,HA⟩:=H
 obtain ⟨A,c,hvl⟩:=HB.lnk.slice
 rw [List.length_reverse]at hvl
 subst hvl
 obtain ⟨x,y,z⟩:=l
 simp only at h0 h1 hne ⊢
 have kp0:Kp (fun _=>False) w o ((w.alloc (.cells #[.int .i64 x,.int .i64 y,.int .i64 z] 117)).drew) (o.from_ w.heap.size 0):=(((Kp.refl _ w o).renew 0).alloc _).drew
 have HB0:=Lib.hid (HB.fr kp0 (fun _ _ h=>h))
 have HF0:=Lib.hid (((Fr.start (ForM b) w o 0 (.inl rfl)).alloc (.cells #[.int .i64 x,.int .i64 y,.int .i64 z] 117)).drew)
 have HBX0:Hid (Blk ((w.alloc (.cells #[.int .i64 x,.int .i64 y,.int .i64 z] 117)).drew) (o.from_ w.heap.size 0) 0 w.heap.size #[.int .i64 x,.int .i64 y,.int .i64 z] 117):=⟨blk_new _ _,Own.from_ge (Nat.le_refl _)⟩
 have HI':=Lib.hid HI
 have HA':=Lib.hid HA
 have HNE:=Lib.hid hne
 have H0:=Lib.hid h0
 have H1:=Lib.hid h1
 clear HB HI HA kp0 hne h0 h1
 generalize o.from_ w.heap.size 0=o0 at *
 go_enter Tryz.func65,Tryz.ntmps65
 go_wp2
 obtain ⟨A0,n0,c0,hv0,xs0,hxl0,ho0,hn0,hq0,hnd0⟩:=HB0.out.near_app x H0.out (L.length:Int) (by have:maxLen=9223372036854775807:=rfl;omega)
 have hlk0:=near_look HB0.out x H0.out
 rw [hv0]at hlk0
 have hlm0:=(near_look' HB0.out x H0.out ((w.alloc (.cells #[.int .i64 x,.int .i64 y,.int .i64 z] 117)).alloc (.cells #[.int .i64 L.length] 3)).drew (Below.heap_alloc _ _ _ HB0.out.nmap.lt))
 rw [hv0]at hlm0
 have ca0:((w.alloc (.cells #[.int .i64 x,.int .i64 y,.int .i64 z] 117)).drew).cell? ⟨g,1,none⟩=some (.slice A L.length c):=(blk_cell HB0.out.blk.1 1).trans rfl
 have cb0:((w.alloc (.cells #[.int .i64 x,.int .i64 y,.int .i64 z] 117)).drew).cell? ⟨g,2,none⟩=some (.map (some mn)):=(blk_cell HB0.out.blk.1 2).trans rfl
 have cc0:((w.alloc (.cells #[.int .i64 x,.int .i64 y,.int .i64 z] 117)).drew).cell? ⟨w.heap.size,0,none⟩=some (.int .i64 x):=(blk_cell HBX0.out.1 0).trans rfl
 have da0:(((w.alloc (.cells #[.int .i64 x,.int .i64 y,.int .i64 z] 117)).drew).alloc (.cells #[.int .i64 L.length] 3)).cell? ⟨g,1,none⟩=some (.slice A L.length c):=(blk_cell (blk_alloc HB0.out.blk.1 _) 1).trans rfl
 have db0:(((w.alloc (.cells #[.int .i64 x,.int .i64 y,.int .i64 z] 117)).drew).alloc (.cells #[.int .i64 L.length] 3)).cell? ⟨g,2,none⟩=some (.map (some mn)):=(blk_cell (blk_alloc HB0.out.blk.1 _) 2).trans rfl
 have dc0:(((w.alloc (.cells #[.int .i64 x,.int .i64 y,.int .i64 z] 117)).drew).alloc (.cells #[.int .i64 L.length] 3)).cell? ⟨w.heap.size,0,none⟩=some (.int .i64 x):=(blk_cell (blk_alloc HBX0.out.1 _) 0).trans rfl
 have HND0:=Lib.hid hnd0
 have HO0:=Lib.hid ho0
 have HQ0:=Lib.hid hq0
 have HXL0:=Lib.hid hxl0
 have HGL0:=Lib.hid (And.intro (blk_lt HB0.out.blk.1) (blk_lt HBX0.out.1))
 clear hnd0 ho0 hq0 hv0 hxl0
 go_region_held3 (fun w'=>w'.cell? ⟨g,1,none⟩=some (.slice A L.length c)∧w'.cell? ⟨g,2,none⟩=some (.map (some mn))∧w'.cell? ⟨w.heap.size,0,none⟩=some (.int .i64 x))
  (first | (refine ⟨?_,?_,?_⟩ <;> assumption) | fail)
  ((refine step_append_cells (w0:=((w.alloc (.cells #[.int .i64 x,.int .i64 y,.int .i64 z] 117)).drew)) (W:=((w.alloc (.cells #[.int .i64 x,.int .i64 y,.int .i64 z] 117)).drew)) 0 (by rfl) (.tmp 16) (.tmp 22) 26 3 (.int .i64 0) 1 8 (by rfl) Tryz.underlying26 inf3 rfl (by decide) (by decide) (.slice A0 n0 c0) n0 (xs0.map (Value.int .i64)) [.int .i64 L.length] (by rfl) (by first | rfl | (show Value.slice (some ⟨w.heap.size+1,0,none⟩) 1 1=_;simp)) rfl (by simp [Value.oneCell']) HO0.out (Below.refl _ _) (Nat.zero_le _) (by omega) ?_;intro v0 w0b ho0b _ hg0 hat0;obtain ⟨W1,hru0,hgr0,hb1,hk1⟩:=HND0.out v0 w0b ho0b hg0 hat0;have hbg0:=(hg0.block g HGL0.out.1 (fun e=>by have h1:=HQ0.out g e.symm;have h2:=HB0.out.blk.2;omega)).trans HB0.out.blk.1;have hbx0:=(hg0.block w.heap.size HGL0.out.2 (fun e=>by have h1:=HQ0.out _ e.symm;have h2:=HBX0.out.2;omega)).trans HBX0.out.1;have HBX1:=Lib.hid (HBX0.out.fr hk1 (by omega));have HB1:=Lib.hid hb1;have HK1:=Lib.hid hk1;have HF1:=Lib.hid (((HF0.out.renew (b+4) (.inr (.inr (.inr (.inr (.inr rfl)))))).grown hg0 (fun q e=>.inl (by rw [Own.from_lt (own_lt HO0.out q e),HQ0.out q e];exact .inr (.inr (.inr (.inr rfl)))))).grown hgr0 (fun q e=>.inl (by rw [← Option.some.inj e,hb1.omn];exact .inr (.inr (.inl rfl)))));have ea0:w0b.cell? ⟨g,1,none⟩=some (.slice A L.length c):=(blk_cell hbg0 1).trans rfl;have eb0:w0b.cell? ⟨g,2,none⟩=some (.map (some mn)):=(blk_cell hbg0 2).trans rfl;have ec0:w0b.cell? ⟨w.heap.size,0,none⟩=some (.int .i64 x):=(blk_cell hbx0 0).trans rfl;have fa0:W1.cell? ⟨g,1,none⟩=some (.slice A L.length c):=(blk_cell hb1.blk.1 1).trans rfl;have fb0:W1.cell? ⟨g,2,none⟩=some (.map (some mn)):=(blk_cell hb1.blk.1 2).trans rfl;have fc0:W1.cell? ⟨w.heap.size,0,none⟩=some (.int .i64 x):=(blk_cell HBX1.out.1 0).trans rfl;clear hb1 hk1 hg0 hgr0 hat0 ho0b hbg0 hbx0))
 all_goals clear hlk0 hlm0 ca0 cb0 cc0 da0 db0 dc0 ea0 eb0 ec0 fa0 fb0 fc0 hru0
 all_goals go_wp2
 all_goals
  have HB1':=Lib.hid HB1.out.drew
  have HF1':=Lib.hid HF1.out.drew
  have HBX1':=Lib.hid (show Blk W1.drew _ 0 w.heap.size #[.int .i64 x,.int .i64 y,.int .i64 z] 117 from HBX1.out)
  obtain ⟨A1,n1,c1,hv1,xs1,hxl1,ho1,hn1,hq1,hnd1⟩:=HB1'.out.near_app y H1.out (L.length:Int) (by have:maxLen=9223372036854775807:=rfl;omega)
  have hlk1:=near_look HB1'.out y H1.out
  rw [hv1]at hlk1
  have hlm1:=(near_look' HB1'.out y H1.out (W1.alloc (.cells #[.int .i64 L.length] 3)).drew (Below.heap_alloc _ _ _ HB1'.out.nmap.lt))
  rw [hv1]at hlm1
  have ca1:W1.drew.cell? ⟨g,1,none⟩=some (.slice A L.length c):=(blk_cell HB1'.out.blk.1 1).trans rfl
  have cb1:W1.drew.cell? ⟨g,2,none⟩=some (.map (some mn)):=(blk_cell HB1'.out.blk.1 2).trans rfl
  have cc1:W1.drew.cell? ⟨w.heap.size,1,none⟩=some (.int .i64 y):=(blk_cell HBX1'.out.1 1).trans rfl
  have da1:(W1.drew.alloc (.cells #[.int .i64 L.length] 3)).cell? ⟨g,1,none⟩=some (.slice A L.length c):=(blk_cell (blk_alloc HB1'.out.blk.1 _) 1).trans rfl
  have db1:(W1.drew.alloc (.cells #[.int .i64 L.length] 3)).cell? ⟨g,2,none⟩=some (.map (some mn)):=(blk_cell (blk_alloc HB1'.out.blk.1 _) 2).trans rfl
  have dc1:(W1.drew.alloc (.cells #[.int .i64 L.length] 3)).cell? ⟨w.heap.size,1,none⟩=some (.int .i64 y):=(blk_cell (blk_alloc HBX1'.out.1 _) 1).trans rfl
  have HND1:=Lib.hid hnd1
  have HO1:=Lib.hid ho1
  have HQ1:=Lib.hid hq1
  have HXL1:=Lib.hid hxl1
  have HGL1:=Lib.hid (And.intro (blk_lt HB1'.out.blk.1) (blk_lt HBX1'.out.1))
  clear hnd1 ho1 hq1 hv1 hxl1
  go_region_held3 (fun w'=>w'.cell? ⟨g,1,none⟩=some (.slice A L.length c)∧w'.cell? ⟨g,2,none⟩=some (.map (some mn))∧w'.cell? ⟨w.heap.size,1,none⟩=some (.int .i64 y))
   (first | (refine ⟨?_,?_,?_⟩ <;> assumption) | fail)
   ((refine step_append_cells (w0:=W1.drew) (W:=W1.drew) 0 (by rfl) (.tmp 36) (.tmp 42) 26 3 (.int .i64 0) 1 8 (by rfl) Tryz.underlying26 inf3 rfl (by decide) (by decide) (.slice A1 n1 c1) n1 (xs1.map (Value.int .i64)) [.int .i64 L.length] (by rfl) (by first | rfl | (show Value.slice (some ⟨w.heap.size+1,0,none⟩) 1 1=_;simp)) rfl (by simp [Value.oneCell']) HO1.out (Below.refl _ _) (Nat.zero_le _) (by omega) ?_;intro v1 w1b ho1b _ hg1 hat1;obtain ⟨W2,hru1,hgr1,hb2,hk2⟩:=HND1.out v1 w1b ho1b hg1 hat1;have hbg1:=(hg1.block g HGL1.out.1 (fun e=>by have h1:=HQ1.out g e.symm;have h2:=HB1'.out.blk.2;omega)).trans HB1'.out.blk.1;have hbx1:=(hg1.block w.heap.size HGL1.out.2 (fun e=>by have h1:=HQ1.out _ e.symm;have h2:=HBX1'.out.2;omega)).trans HBX1'.out.1;have HBX2:=Lib.hid (HBX1'.out.fr hk2 (by omega));have HB2:=Lib.hid hb2;have HK2:=Lib.hid hk2;have HF2:=Lib.hid (((HF1'.out.renew (b+4) (.inr (.inr (.inr (.inr (.inr rfl)))))).grown hg1 (fun q e=>.inl (by rw [Own.from_lt (own_lt HO1.out q e),HQ1.out q e];exact .inr (.inr (.inr (.inr rfl)))))).grown hgr1 (fun q e=>.inl (by rw [← Option.some.inj e,hb2.omn];exact .inr (.inr (.inl rfl)))));have ea1:w1b.cell? ⟨g,1,none⟩=some (.slice A L.length c):=(blk_cell hbg1 1).trans rfl;have eb1:w1b.cell? ⟨g,2,none⟩=some (.map (some mn)):=(blk_cell hbg1 2).trans rfl;have ec1:w1b.cell? ⟨w.heap.size,1,none⟩=some (.int .i64 y):=(blk_cell hbx1 1).trans rfl;have fa1:W2.cell? ⟨g,1,none⟩=some (.slice A L.length c):=(blk_cell hb2.blk.1 1).trans rfl;have fb1:W2.cell? ⟨g,2,none⟩=some (.map (some mn)):=(blk_cell hb2.blk.1 2).trans rfl;have fc1:W2.cell? ⟨w.heap.size,1,none⟩=some (.int .i64 y):=(blk_cell HBX2.out.1 1).trans rfl;clear hb2 hk2 hg1 hgr1 hat1 ho1b hbg1 hbx1))
  all_goals clear hlk1 hlm1 ca1 cb1 cc1 da1 db1 dc1 ea1 eb1 ec1 fa1 fb1 fc1 hru1
  all_goals go_wp2
 all_goals
  obtain ⟨o2,Fn2,HF2',HB2',HBX2'⟩:∃ o2 Fn2,Hid (Fr (ForM b) w o W2.drew o2)∧Hid (ForBase b W2.drew o2 g mn mu (.slice A L.length c) L.reverse Fn2 Fu d (rootsOf L) (2 * L.length+1+1) L.length (2 * L.length+1+1))∧Hid (Blk W2.drew o2 0 w.heap.size #[.int .i64 x,.int .i64 y,.int .i64 z] 117):=⟨_,_,HF2.out.drew,HB2.out.drew,HBX2.out⟩
  clear HF2 HB2 HBX2 HF0 HB0 HBX0 HF1 HB1 HBX1 HK1 HK2
  have ga:W2.drew.cell? ⟨g,1,none⟩=some (.slice A L.length c):=(blk_cell HB2'.out.blk.1 1).trans rfl
  have gb:W2.drew.cell? ⟨w.heap.size,0,none⟩=some (.int .i64 x):=(blk_cell HBX2'.out.1 0).trans rfl
  have gc:W2.drew.cell? ⟨w.heap.size,1,none⟩=some (.int .i64 y):=(blk_cell HBX2'.out.1 1).trans rfl
  have gd:W2.drew.cell? ⟨w.heap.size,2,none⟩=some (.int .i64 z):=(blk_cell HBX2'.out.1 2).trans rfl
  have gfz:=blk_frozen HB2'.out.blk.1 1
  have ka:(W2.drew.alloc (.cells #[.int .i64 x,.int .i64 y,.int .i64 z] 117)).cell? ⟨g,1,none⟩=some (.slice A L.length c):=(blk_cell (blk_alloc HB2'.out.blk.1 _) 1).trans rfl
  have kb:(W2.drew.alloc (.cells #[.int .i64 x,.int .i64 y,.int .i64 z] 117)).cell? ⟨w.heap.size,0,none⟩=some (.int .i64 x):=(blk_cell (blk_alloc HBX2'.out.1 _) 0).trans rfl
  have kc:(W2.drew.alloc (.cells #[.int .i64 x,.int .i64 y,.int .i64 z] 117)).cell? ⟨w.heap.size,1,none⟩=some (.int .i64 y):=(blk_cell (blk_alloc HBX2'.out.1 _) 1).trans rfl
  have kd:(W2.drew.alloc (.cells #[.int .i64 x,.int .i64 y,.int .i64 z] 117)).cell? ⟨w.heap.size,2,none⟩=some (.int .i64 z):=(blk_cell (blk_alloc HBX2'.out.1 _) 2).trans rfl
  have la:(W2.alloc (.cells #[.int .i64 x,.int .i64 y,.int .i64 z] 117)).cell? ⟨g,1,none⟩=some (.slice A L.length c):=ka
  go_region_law
   ((refine Kd.R_append_step k117 (w0:=W2.drew) (W:=W2.drew) 0 (by rfl) (.tmp 48) (.tmp 50) 50 117 (.agg #[.int .i64 0,.int .i64 0,.int .i64 0]) 24 (by rfl) Tryz.underlying50 inf117 rfl (by decide) (by decide) (.slice A L.length c) L.reverse (⟨x,y,z⟩:S117) [.int .i64 x,.int .i64 y,.int .i64 z] (fun k=>o2.from_ W2.drew.heap.size (b+1) k=b+1) (fun _=>False) (by rfl) (by rfl) (k117_mkM _ _ _ _) (fun _ h=>h.elim) (fun k hk=>Own.from_ge hk) (HB2'.out.lnk.renew (b+1)) (Below.refl _ _) (Nat.zero_le _) (by rw [List.length_reverse];omega) ?_;intro v5 w5 h5 _ hg5 _;obtain ⟨A5,c5,hv5⟩:=Kd.R_slice h5;subst hv5;rw [show (L.reverse++[(⟨x,y,z⟩:S117)]).length=L.length+1 by simp]at h5;obtain ⟨hb6,hk6,hk5⟩:=HB2'.out.link_app ⟨x,y,z⟩ h5 hg5;have hbg5:=HB2'.out.blk.fr hk5 (by omega);have hbx5:=HBX2'.out.fr hk5 (by omega);have HB6:=Lib.hid hb6;have HK6:=Lib.hid hk6;have HBX6:=Lib.hid (HBX2'.out.fr hk6 (by omega));have HF6:=Lib.hid ((((HF2'.out.renew (b+1) (.inr (.inr (.inl rfl)))).grown hg5 (fun q e=>.inl (by have hk2:=(Kd.R_bound HB2'.out.lnk).1 q e;rw [Own.from_lt hk2.2.2.1,hk2.1];exact .inr (.inl rfl)))).setCell ⟨g,1,none⟩ (.slice A5 (L.length+1) c5) (.inl (by rw [hb6.blk.2];exact .inl rfl))).drew);have ma:w5.cell? ⟨g,1,none⟩=some (.slice A L.length c):=(blk_cell hbg5.1 1).trans rfl;have mb:w5.cell? ⟨w.heap.size,0,none⟩=some (.int .i64 x):=(blk_cell hbx5.1 0).trans rfl;have mc:w5.cell? ⟨w.heap.size,1,none⟩=some (.int .i64 y):=(blk_cell hbx5.1 1).trans rfl;have md:w5.cell? ⟨w.heap.size,2,none⟩=some (.int .i64 z):=(blk_cell hbx5.1 2).trans rfl;have mfz:=blk_frozen hbg5.1 1;clear h5 hg5 hb6 hk6 hk5 hbg5 hbx5))
  all_goals go_wp2
 all_goals
  obtain ⟨o6,HF7,HB7,HBX7⟩:∃ o6,Hid (Fr (ForM b) w o (w5.setCell ⟨g,1,none⟩ (.slice A5 (L.length+1) c5)).drew o6)∧Hid (ForBase b (w5.setCell ⟨g,1,none⟩ (.slice A5 (L.length+1) c5)).drew o6 g mn mu (.slice A5 (L.length+1) c5) (L.reverse++[(⟨x,y,z⟩:S117)]) Fn2 Fu d (rootsOf L) (2 * L.length+1+1) L.length (2 * L.length+1+1))∧Hid (Blk (w5.setCell ⟨g,1,none⟩ (.slice A5 (L.length+1) c5)).drew o6 0 w.heap.size #[.int .i64 x,.int .i64 y,.int .i64 z] 117):=⟨_,HF6.out,HB6.out.drew,HBX6.out⟩
  clear HF6 HB6 HBX6 HF2' HB2' HBX2' HK6 ga gb gc gd gfz ka kb kc kd la ma mb mc md mfz
  have hgm:g≠mu:=fun e=>by have h1:=HB7.out.blk.2;have h2:=HB7.out.omu;rw [e]at h1;omega
  have hbm:w.heap.size≠mu:=fun e=>by have h1:=HBX7.out.2;have h2:=HB7.out.omu;rw [e]at h1;omega
  have hIF:Hid (∃ F,InFind (w5.setCell ⟨g,1,none⟩ (.slice A5 (L.length+1) c5)).drew (w5.setCell ⟨g,1,none⟩ (.slice A5 (L.length+1) c5)).drew g mu L.length d (rootsOf L) F):=⟨Fu,InFind.of HB7.out⟩
  have HRX:=Lib.hid ((InFind.of HB7.out).i64 (d x) x (Nat.le_refl _) H0.out)
  have HRY:=Lib.hid ((InFind.of HB7.out).i64 (d y) y (Nat.le_refl _) H1.out)
  have pa:(w5.setCell ⟨g,1,none⟩ (.slice A5 (L.length+1) c5)).drew.cell? ⟨g,3,none⟩=some (.map (some mu)):=(blk_cell HB7.out.blk.1 3).trans rfl
  have pb:(w5.setCell ⟨g,1,none⟩ (.slice A5 (L.length+1) c5)).drew.cell? ⟨w.heap.size,0,none⟩=some (.int .i64 x):=(blk_cell HBX7.out.1 0).trans rfl
  have pc:(w5.setCell ⟨g,1,none⟩ (.slice A5 (L.length+1) c5)).drew.cell? ⟨w.heap.size,1,none⟩=some (.int .i64 y):=(blk_cell HBX7.out.1 1).trans rfl
  have HNL:=Lib.hid (show L.length < maxLen by have:maxLen=9223372036854775807:=rfl;omega)
  have HGM:=Lib.hid (And.intro hgm hbm)
  clear hgm hbm
  go_region_held3 (fun w'=>w'.cell? ⟨g,3,none⟩=some (.map (some mu))∧w'.cell? ⟨w.heap.size,0,none⟩=some (.int .i64 x)∧w'.cell? ⟨w.heap.size,1,none⟩=some (.int .i64 y))
   (first | (refine ⟨?_,?_,?_⟩ <;> assumption) | fail)
   ((go_at_call 80;refine (find_step HNL.out (by assumption) HGM.out.1 (by assumption) _ (by first | exact H0.out | exact H1.out)).mono ?_;rintro e w7 ⟨rfl,hIF7,hc7⟩;have pa7:=hc7 ⟨g,3,none⟩ _ HGM.out.1 (by assumption);have pb7:=hc7 ⟨w.heap.size,0,none⟩ _ HGM.out.2 (by assumption);have pc7:=hc7 ⟨w.heap.size,1,none⟩ _ HGM.out.2 (by assumption);obtain ⟨F7,hF7⟩:=hIF7.out;obtain ⟨w8,hru8,hG8,hgr8⟩:=GMap.update keyedI Tryz.underlying94 (keyI HRX.out) hF7.map HNL.out (v:=.int .i64 (rootsOf L y)) ⟨_,rfl,HRY.out⟩;have pa8:=hgr8.cell pa7 (fun e=>HGM.out.1 (Option.some.inj e));have pb8:=hgr8.cell pb7 (fun e=>HGM.out.2 (Option.some.inj e));have pc8:=hgr8.cell pc7 (fun e=>HGM.out.2 (Option.some.inj e));clear hc7))
  all_goals go_wp2
  all_goals go_end0
  all_goals
   obtain ⟨Fu8,d8,HB8,hgr9⟩:=HB7.out.up_join hF7 x y HNE.out hG8 hgr8
   refine ⟨rfl,o6,⟨.slice A5 (L.length+1) c5,mn,mu,Fn2,Fu8,d8,?_,?_,HNE.out,HA'.out⟩,HF7.out.grown hgr9 (fun q e=>.inl (by rw [← Option.some.inj e,HB7.out.omu];exact .inr (.inr (.inr (.inl rfl)))))⟩
   ·rw [show ((⟨x,y,z⟩:S117) :: L).reverse=L.reverse++[⟨x,y,z⟩] by simp,show 2 * ((⟨x,y,z⟩:S117) :: L).length=2 * L.length+1+1 by rw [List.length_cons];omega]
    exact HB8
   ·exact List.forall_mem_cons.2 ⟨⟨H0.out,H1.out⟩,HI'.out⟩
end Go.Proofs.YtjckhhecnebmmaaGreatDoor.TU
end
section
namespace Go.Proofs.YtjckhhecnebmmaaGreatDoor.TU
open Go.RowKit Go.Proofs.YtjckhhecnebmmaaGreatDoorW.PrintWords Go.Proofs.YtjckhhecnebmmaaGreatDoorW.PrintLast Go.Proofs.YtjckhhecnebmmaaGreatDoorW.PrintMore Go.Proofs.YtjckhhecnebmmaaGreatDoor.QAll
attribute [local go_sem] max2_int min2_int max_two min_two max_three min_three max_four min_four
set_option linter.unusedVariables false
theorem upOk_id:UpOk (fun _=>0) (upM (fun _=>none)) (rootsOf []):=⟨fun x _=>rfl,fun x u h=>by simp [upM]at h⟩
theorem ForBase.made (b:Nat) (w:World) (o:Own) (g mn mu:Nat) (vl:Value) (hg:Blk w o b g #[.bool true,vl,.map (some mn),.map (some mu)] 96) (hl:Row k117 117 w o (b+1) vl []) (h1:o mn=b+2) (h2:o mu=b+3) (h3:GMap 3 SRow (.slice none 0 0) w mn 0 (fun _=>none)) (h4:GMap 3 SInt (.int .i64 0) w mu 0 (fun _=>none)) :
  ForAt b w o g [] :=
 ⟨vl,mn,mu,_,_,_,⟨hg,hl,h1,h2,h3,h4,upOk_id,⟨fun k v h=>by simp at h,fun k k' v v' q h=>by simp at h⟩⟩,fun l h=>by simp at h,trivial⟩
set_option maxHeartbeats 400000 in
theorem forest_new (b:Nat) (w:World) (o:Own):Calls Tryz.prog 26 #[] w fun e w'=>∃ g o',e=.returned (.pointer (some ⟨g,0,none⟩))∧ForAt b w' o' g []∧Fr (ForM b) w o w' o':=by
 have hmm:∀ w:World,(Instr.makeMap 93 none).run Tryz.prog w=.ok (.map (some w.heap.size)) (w.alloc (.map #[] 0)):=fun _=>rfl
 have hmn:∀ w:World,(Instr.makeMap 94 none).run Tryz.prog w=.ok (.map (some w.heap.size)) (w.alloc (.map #[] 0)):=fun _=>rfl
 go_enter Tryz.func26,Tryz.ntmps26
 go_wp2
 go_ret
 have f1:=((Fr.start (ForM b) w o (b+2) (.inr (.inr (.inr (.inl rfl))))).alloc (.map #[] 0)).renew (b+3) (.inr (.inr (.inr (.inr (.inl rfl)))))
 have f2:=(f1.alloc (.map #[] 0)).renew b (.inr (.inl rfl))
 have f3:=f2.alloc (.cells #[.bool true,.slice none 0 0,.map (some w.heap.size),.map (some (w.heap.size+1))] 96)
 refine ⟨_,_,rfl,ForBase.made b _ _ _ w.heap.size (w.heap.size+1) _ ⟨by have:=blk_new ((w.alloc (.map #[] 0)).alloc (.map #[] 0)) (.cells #[.bool true,.slice none 0 0,.map (some w.heap.size),.map (some (w.heap.size+1))] 96);simpa using this,?_⟩ (Row.nil _ _ _ _ _) ?_ ?_ ?_ ?_,f3⟩
 ·rw [Own.from_ge (by simp)]
 ·rw [Own.from_lt (by simp only [World.size_alloc];omega),Own.from_lt (by simp),Own.from_ge (by simp)]
 ·rw [Own.from_lt (by simp),Own.from_ge (by simp)]
 ·exact (GMap.made 3 SRow (.slice none 0 0) w).at ((Below.heap_alloc _ _ _ (by simp only [World.size_alloc];omega)).trans (Below.heap_alloc _ _ _ (by simp)))
 ·have:=(GMap.made 3 SInt (.int .i64 0) (w.alloc (.map #[] 0)))
  rw [World.size_alloc]at this
  exact this.at (Below.heap_alloc _ _ _ (by simp))
theorem ForAt.cells {b g:Nat} {w:World} {o:Own} {L:List S117} (H:ForAt b w o g L):∃ A c mn mu,w.heap[g]?=some (.cells #[.bool true,.slice A L.length c,.map (some mn),.map (some mu)] 96 (0,0))∧o g=b:=by
 obtain ⟨vl,mn,mu,Fn,Fu,d,HB,HI,HA⟩:=H
 obtain ⟨A,c,hvl⟩:=HB.lnk.slice
 rw [List.length_reverse]at hvl
 subst hvl
 exact ⟨A,c,mn,mu,HB.blk.1,HB.blk.2⟩
set_option maxHeartbeats 400000 in
theorem forest_len {b g:Nat} {w:World} {o:Own} {L:List S117} (H:ForAt b w o g L) (hL:L.length≤1000):Calls Tryz.prog 41 #[.pointer (some ⟨g,0,none⟩)] w fun e w'=>e=.returned (.int .i64 L.length)∧w=w':=by
 obtain ⟨A,c,mn,mu,hb,_⟩:=H.cells
 have h1:w.cell? ⟨g,1,none⟩=some (.slice A L.length c):=(blk_cell hb 1).trans rfl
 clear hb
 go_enter Tryz.func41,Tryz.ntmps41
 go_wp2
 go_ret
 exact ⟨rfl,rfl⟩
theorem ForBase.found {b g mn mu Nn Nu Nr:Nat} {w w':World} {o:Own} {vl:Value} {L:List S117} {Fn Fu F':Lit→Option Value} {d:Int→Nat} {R:Int→Int} (h:ForBase b w o g mn mu vl L Fn Fu d R Nn Nu Nr) (hI:InFind w w' g mu Nu d R F') :
  ForBase b w' o g mn mu vl L Fn F' d R Nn Nu Nr∧w.grownBy w' (some mu):=by
 have kp:Kp (·=b+3) w o w' o:=(Kp.refl _ w o).grown hI.grown (fun q e=>.inl (by rw [← Option.some.inj e];exact h.omu))
 exact ⟨⟨h.blk.fr kp (by omega),h.lnk.fr kp (by omega),h.omn,h.omu,h.nmap.at (kp.block mn h.nmap.lt (by rw [h.omn];omega)),hI.map,hI.up,h.near.fr kp (by omega)⟩,hI.grown⟩
theorem forest_find {b g:Nat} {w:World} {o:Own} {L:List S117} (H:ForAt b w o g L) (hL:L.length≤1000) (x:Int) (hx:I64 x) :
  Calls Tryz.prog 80 #[.pointer (some ⟨g,0,none⟩),.int .i64 x] w fun e w'=>e=.returned (.int .i64 (rootsOf L x))∧ForAt b w' (o.from_ w.heap.size 0) g L∧Fr (ForM b) w o w' (o.from_ w.heap.size 0):=by
 have f0:=Fr.start (ForM b) w o 0 (.inl rfl)
 have H:=H.fr ((Kp.refl (fun _=>False) w o).renew 0) (fun _ _ h=>h)
 generalize o.from_ w.heap.size 0=oz at *
 obtain ⟨vl,mn,mu,Fn,Fu,d,HB,HI,HA⟩:=H
 have hgm:g≠mu:=fun e=>by have h1:=HB.blk.2;have h2:=HB.omu;rw [e]at h1;omega
 refine (find_walk (by have:maxLen=9223372036854775807:=rfl;omega) ((blk_cell HB.blk.1 3).trans rfl) hgm (InFind.of HB) x hx).mono ?_
 rintro e w' ⟨rfl,_,F',hI⟩
 obtain ⟨h1,h2⟩:=HB.found hI
 exact ⟨rfl,⟨vl,mn,mu,Fn,F',d,h1,HI,HA⟩,f0.grown h2 (fun q e=>.inl (by rw [← Option.some.inj e,HB.omu];exact .inr (.inr (.inr (.inl rfl)))))⟩
def LinkPost (b g:Nat) (w:World) (o:Own) (L:List S117) (e:Ending) (w':World):Prop:=∃ o' L' r,e=.returned (.bool r)∧ForAt b w' o' g L'∧L'.length≤L.length+1∧Fr (ForM b) w o w' o'
set_option maxHeartbeats 1600000 in
theorem forest_link {b g:Nat} {w:World} {o:Own} {L:List S117} (hb0:0 < b) (H:ForAt b w o g L) (hL:L.length≤900) (x y z:Int) (hx:I64 x) (hy:I64 y) (hx0:0≤x) (hy0:0≤y) :
  Calls Tryz.prog 58 #[.pointer (some ⟨g,0,none⟩),.int .i64 x,.int .i64 y,.int .i64 z] w (LinkPost b g w o L):=by
 obtain ⟨A,c,mn,mu,hb,hog⟩:=H.cells
 have h0:w.cell? ⟨g,0,none⟩=some (.bool true):=(blk_cell hb 0).trans rfl
 have HH:=Lib.hid H
 have HL:=Lib.hid hL
 have HX:=Lib.hid hx
 have HY:=Lib.hid hy
 have hx1:¬ x < 0:=by omega
 have hy1:¬ y < 0:=by omega
 have HB0:=Lib.hid hb0
 clear hb hog H hL hx hy hb0
 by_cases hne:rootsOf L x=rootsOf L y
 ·have he:(rootsOf L x == rootsOf L y)=true:=by simpa using hne
  have HE:=Lib.hid hne
  clear hne
  go_enter Tryz.func58,Tryz.ntmps58
  go_wp2_with fail
  refine (forest_find HH.out (by have:=HL.out;omega) x HX.out).mono ?_
  rintro e w1 ⟨rfl,h1,f1⟩
  have H1:=Lib.hid h1
  have F1:=Lib.hid f1
  clear h1 f1
  go_wp2_with fail
  refine (forest_find H1.out (by have:=HL.out;omega) y HY.out).mono ?_
  rintro e w2 ⟨rfl,h2,f2⟩
  have H2:=Lib.hid h2
  have F2:=Lib.hid f2
  clear h2 f2
  go_wp2
  go_ret
  exact ⟨_,L,false,rfl,H2.out,by omega,F1.out.trans F2.out⟩
 ·have he:(rootsOf L x == rootsOf L y)=false:=by simpa using hne
  have HE:=Lib.hid hne
  clear hne
  go_enter Tryz.func58,Tryz.ntmps58
  go_wp2_with fail
  refine (forest_find HH.out (by have:=HL.out;omega) x HX.out).mono ?_
  rintro e w1 ⟨rfl,h1,f1⟩
  have H1:=Lib.hid h1
  have F1:=Lib.hid f1
  clear h1 f1
  go_wp2_with fail
  refine (forest_find H1.out (by have:=HL.out;omega) y HY.out).mono ?_
  rintro e w2 ⟨rfl,h2,f2⟩
  have H2:=Lib.hid h2
  have F2:=Lib.hid f2
  clear h2 f2
  go_wp2_with fail
  refine (add_calls HB0.out H2.out (by have:=HL.out;omega) ⟨x,y,z⟩ HX.out HY.out HE.out).mono ?_
  rintro e w3 ⟨rfl,o3,h3,f3⟩
  have H3:=Lib.hid h3
  have F3:=Lib.hid f3
  clear h3 f3
  go_wp2
  go_ret
  exact ⟨_,_,true,rfl,H3.out,by simp,(F1.out.trans F2.out).trans F3.out⟩
end Go.Proofs.YtjckhhecnebmmaaGreatDoor.TU
end
section
namespace Go.Proofs.YtjckhhecnebmmaaGreatDoor.TU
open Go.RowKit Go.Proofs.YtjckhhecnebmmaaGreatDoorW.PrintWords Go.Proofs.YtjckhhecnebmmaaGreatDoorW.PrintLast Go.Proofs.YtjckhhecnebmmaaGreatDoorW.PrintMore Go.Proofs.YtjckhhecnebmmaaGreatDoor.QAll
attribute [local go_sem] max2_int min2_int max_two min_two max_three min_three max_four min_four
set_option linter.unusedVariables false
theorem ob_eq {g n c k:Nat} (h:(Value.slice (some ⟨g,0,none⟩) n c).ownBlock=some k):g=k:=by simpa [Value.ownBlock]using h
theorem Row.empty {α:Type} (d:Kd α) (e:Nat) (w:World) (o:Own) (t:Nat):Row d e (w.alloc (.cells #[] e)) (o.from_ w.heap.size t) t (.slice (some ⟨w.heap.size,0,none⟩) 0 0) []:=by
 refine ⟨fun k hk=>?_,[],?_,⟨by simp,fun j p h=>by simp at h⟩⟩
 ·have:w.heap.size=k:=by simpa [Value.ownBlock]using hk
  subst this
  exact Own.from_ge (Nat.le_refl _)
 ·have h2:=World.ownsRow_lit (base:=0) (e:=e) (size:=d.sz) w #[] 0 (Nat.zero_le _) (by simp [maxLen]) (by simp)
  simpa using h2
section
variable {P:Program} {ops:Array Oper} {rest:List Oper} {op:Oper} {a:Act} {Q:Exit→Act→World→Prop} {α:Type}
theorem row_rows (d:Kd α) {M:Nat→Prop} {w0 W:World} {o0 o:Own} (f:Fr M w0 o0 W o) (t:Nat) (hM:t=0∨M t) (hgd:op.guard=none) (s x:Operand) (ts e:TypeId) (z:Value) (bytes:Nat)
  (ho:op.op=.call { callee:=.builtin .append,args:=#[s,x],argTypes:=#[ts,ts] })
  (ht:P.underlying ts=some (.slice e)) (hinfo:(P.info? e).map (fun i=>(i.zero,i.size,i.bytes))=some (some z,d.sz,bytes)) (hz:z.cells.size=d.sz) (hs0:0 < d.sz) (hb0:0 < bytes)
  (v:Value) (xs ys:List α) (A:Option Addr) (m c:Nat) (hs:a.eval s=v) (hx:a.eval x=.slice A m c)
  (HO:Row d e W o t v xs) (HR:d.C W A m ys) (hKM:∀ x cs,d.K W x cs→d.M W 0 (fun _=>False) x cs) (hrow:∀ k,v.ownBlock=some k→M (o k)∨w0.heap.size≤k) (hl:(xs.length+m) * bytes≤140737488355328)
  (h:∀ A1 c1 w1,Row d e w1 (o.from_ W.heap.size t) t (.slice A1 (xs.length+m) c1) (xs++ys)→Fr M w0 o0 w1 (o.from_ W.heap.size t)→Kp (·=t) W o w1 (o.from_ W.heap.size t)→W.grownBy w1 v.ownBlock→wpList P ops Q rest (a.put op.dst (.slice A1 (xs.length+m) c1)) w1) :
  wpList P ops Q (op :: rest) a W:=by
 refine Kd.R_append_rows d (w0:=W) 0 hgd s x ts e z bytes ho ht hinfo hz hs0 hb0 v xs ys A m c (fun k=>o.from_ W.heap.size t k=t) (fun _=>False) hs hx (HO.renew t) HR hKM (fun _ h=>h.elim) (fun k hk=>Own.from_ge hk) (Below.refl _ _) (Nat.zero_le _) hl ?_
 intro v1 w1 h1 _ hg _
 obtain ⟨A1,c1,rfl⟩:=Kd.R_slice h1
 rw [List.length_append,HR.1]at h1 ⊢
 refine h A1 c1 w1 h1 ((f.renew t hM).grown hg (fun k hk=>?_)) (((Kp.refl _ W o).renew t).grown hg (fun k hk=>?_)) hg
 ·have hk2:=(Kd.R_bound HO).1 k hk
  rw [Own.from_lt hk2.2.2.1];exact hrow k hk
 ·have hk2:=(Kd.R_bound HO).1 k hk
  left;rw [Own.from_lt hk2.2.2.1,hk2.1]
end
def SomeRow (w:World) (e:Ending) (w':World):Prop:=∃ A n c,e=.returned (.slice A n c)∧Below w.heap.size w w'
theorem eql50 (w:World) (A:Option Addr) (n c:Nat):(binOp .eql 50 (.slice A n c) (.slice none 0 0)).run Tryz.prog w=.ok (.bool A.isNone) w:=Lib.run_eql_slice_nil w 50 117 A n c 0 0 Tryz.underlying50
set_option maxHeartbeats 1600000 in
set_option maxRecDepth 20000 in
theorem links_clone {w:World} {A:Option Addr} {c n:Nat} {L:List S117} (h:k117.C w A n L) (hl:n≤1000):Calls Tryz.prog 68 #[.slice A n c] w (SomeRow w):=by
 have HC:=Lib.hid h
 clear h
 cases A with
 | none =>
  have q50:=fun w=>eql50 w none n c
  go_enter Tryz.func68,Tryz.ntmps68
  go_wp2
  go_ret
  exact ⟨_,_,_,rfl,Below.refl _ _⟩
 | some ad =>
  have q50:=fun w=>eql50 w (some ad) n c
  go_enter Tryz.func68,Tryz.ntmps68
  go_wp2_with ((with_reducible refine gate_builtin (b:=.append) (xs:=#[.tmp 5,.tmp 6]) rfl ?_);at_builtin;refine row_rows k117 (M:=fun _=>False) (((Fr.start _ w (fun _=>0) 0 (.inl rfl)).alloc (.cells #[] 117))) 0 (.inl rfl) rfl (.tmp 5) (.tmp 6) 50 117 (.agg #[.int .i64 0,.int .i64 0,.int .i64 0]) 24 rfl Tryz.underlying50 inf117 rfl (by decide) (by omega) (.slice (some ⟨w.heap.size,0,none⟩) 0 0) [] L (some ad) n c rfl rfl (Row.empty k117 117 w _ 0) (Kd.C_alloc HC.out _) (fun x cs hk=>by obtain rfl:=k117_open hk;exact k117_mkM _ _ _ _) (fun k hk=>.inr (Nat.le_of_eq (ob_eq hk))) (by simp;omega) ?_;intro A1 c1 w1 _ hf1 _ _)
  go_ret
  exact ⟨_,_,_,rfl,hf1.toBelow0⟩
theorem ForAt.links {b g:Nat} {w:World} {o:Own} {L:List S117} (H:ForAt b w o g L):∃ A c,w.cell? ⟨g,1,none⟩=some (.slice A L.length c)∧k117.C w A L.length L.reverse:=by
 obtain ⟨vl,mn,mu,Fn,Fu,d,HB,HI,HA⟩:=H
 obtain ⟨A,c,hvl,_,hC⟩:=Kd.R_reads HB.lnk
 rw [List.length_reverse]at hvl hC
 subst hvl
 exact ⟨A,c,(blk_cell HB.blk.1 1).trans rfl,hC⟩
set_option maxHeartbeats 400000 in
theorem forest_links {b g:Nat} {w:World} {o:Own} {L:List S117} (H:ForAt b w o g L) (hL:L.length≤1000):Calls Tryz.prog 47 #[.pointer (some ⟨g,0,none⟩)] w (SomeRow w):=by
 obtain ⟨A,c,h1,hC⟩:=H.links
 have hcl:=links_clone (c:=c) hC hL
 clear hC H
 go_enter Tryz.func47,Tryz.ntmps47
 go_wp2_with fail
 refine hcl.mono ?_
 rintro e w1 ⟨A1,n1,c1,rfl,hb⟩
 have HB:=Lib.hid hb
 clear hb
 go_wp2
 go_ret
 exact ⟨_,_,_,rfl,HB.out⟩
end Go.Proofs.YtjckhhecnebmmaaGreatDoor.TU
end
