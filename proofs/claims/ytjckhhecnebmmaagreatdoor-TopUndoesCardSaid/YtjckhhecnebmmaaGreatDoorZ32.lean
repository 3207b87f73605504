/- Steps towards the law TopUndoes; words printed by the kit, and printed texts, are cut to what is used, and spaces are left out. No condition. -/
import Derived.Test.YtjckhhecnebmmaaGreatDoorZ21
import Derived.Deep.RegionLaw
import Derived.Test.YtjckhhecnebmmaaGreatDoorZ31
set_option linter.unusedVariables false
set_option linter.unusedSimpArgs false
section
namespace Go.Proofs.YtjckhhecnebmmaaGreatDoor.TU
open Go.RowKit Go.Proofs.YtjckhhecnebmmaaGreatDoorW.PrintWords Go.Proofs.YtjckhhecnebmmaaGreatDoorW.PrintLast Go.Proofs.YtjckhhecnebmmaaGreatDoorW.PrintMore Go.Proofs.YtjckhhecnebmmaaGreatDoor.QAll
attribute [local go_sem] max2_int min2_int max_two min_two max_three min_three max_four min_four
set_option linter.unusedVariables false
theorem Fresh.opened {w0 w:World} {v:Value} {xs:List Int} (h:Fresh w0 w v xs):∃ A c,v=.slice A xs.length c:=by obtain ⟨A,c,e,_⟩:=h;exact ⟨A,c,e⟩
def rootsTo (S:St) (i:Nat):List Int:=(List.range i).map (fun j=>fnd S.p ((j:Nat):Int))
theorem rootsTo_succ (S:St) (i:Nat):rootsTo S (i+1)=rootsTo S i++[fnd S.p (i:Int)]:=by unfold rootsTo;rw [List.range_succ,List.map_append];rfl
theorem rootsTo_length (S:St) (i:Nat):(rootsTo S i).length=i:=by simp [rootsTo]
def DPos:Nat→Prop:=fun x=>0 < x
structure InDump (w wr:World) (od:Own) (S:St) (db:Nat) (vn vl vr:Value) (i j:Nat):Prop where
 fr:Fr DPos w (fun _=>0) wr od
 nr:NodesRow wr od 1 vn (S.ns.take i)
 rr:Row (Kd.int .i64) 3 wr od 2 vr (rootsTo S j)
 box:Blk wr od 3 db #[vn,vl,vr] 52
 res:Blk wr od 4 w.heap.size #[.slice none 0 0,.slice none 0 0,.slice none 0 0] 52
section
variable {w wr w2:World} {od o2:Own} {S:St} {db:Nat} {vn vl vr:Value} {i j:Nat}
theorem InDump.quiet (h:InDump w wr od S db vn vl vr i j) (f:Fr (fun _=>False) wr od w2 o2):InDump w w2 o2 S db vn vl vr i j :=
 ⟨h.fr.trans (f.mono (fun _ h=>h.elim)),h.nr.fr f.kp (fun h=>h) (fun h=>h),h.rr.fr f.kp (fun h=>h),h.box.fr f.kp (fun h=>h),h.res.fr f.kp (fun h=>h)⟩
theorem InDump.below (h:InDump w wr od S db vn vl vr i j) (hb:Below wr.heap.size wr w2):InDump w w2 (od.from_ wr.heap.size 0) S db vn vl vr i j:=h.quiet (Fr.of_below hb 0 (.inl rfl))
theorem InDump.nodes {w5:World} {o6:Own} {v:Value} {i':Nat} (h:InDump w wr od S db vn vl vr i j) (f:Fr (·=1) wr od w5 o6) (hn:NodesRow w5 o6 1 v (S.ns.take i')):InDump w (w5.setCell ⟨db,0,none⟩ v) o6 S db v vl vr i' j:=by
 have hb:=h.box.fr f.kp (by omega)
 have k:Kp (·=3) w5 o6 (w5.setCell ⟨db,0,none⟩ v) o6:=(Kp.refl _ w5 o6).setCell _ _ (.inl hb.2)
 refine ⟨h.fr.trans ((f.mono (M':=DPos) (fun t h=>by subst h;unfold DPos;omega)).setCell ⟨db,0,none⟩ v (.inl (by show DPos (o6 db);rw [hb.2];unfold DPos;omega))),hn.fr k (by omega) (by omega),(h.rr.fr f.kp (by omega)).fr k (by omega),hb.set 0 v,(h.res.fr f.kp (by omega)).fr k (by omega)⟩
theorem InDump.roots {w5:World} {o6:Own} {v:Value} {j':Nat} (h:InDump w wr od S db vn vl vr i j) (f:Fr (·=2) wr od w5 o6) (hn:Row (Kd.int .i64) 3 w5 o6 2 v (rootsTo S j')):InDump w (w5.setCell ⟨db,2,none⟩ v) o6 S db vn vl v i j':=by
 have hb:=h.box.fr f.kp (by omega)
 have k:Kp (·=3) w5 o6 (w5.setCell ⟨db,2,none⟩ v) o6:=(Kp.refl _ w5 o6).setCell _ _ (.inl hb.2)
 refine ⟨h.fr.trans ((f.mono (M':=DPos) (fun t h=>by subst h;unfold DPos;omega)).setCell ⟨db,2,none⟩ v (.inl (by show DPos (o6 db);rw [hb.2];unfold DPos;omega))),(h.nr.fr f.kp (by omega) (by omega)).fr k (by omega) (by omega),hn.fr k (by omega),hb.set 2 v,(h.res.fr f.kp (by omega)).fr k (by omega)⟩
theorem InDump.bel (h:InDump w wr od S db vn vl vr i j):Below w.heap.size w wr:=h.fr.toBelow (Nat.le_refl _) (fun _ _ h=>Nat.lt_irrefl 0 h)
end
def DumpPost (w:World) (S:St) (e:Ending) (w':World):Prop:=∃ vn vl vr od,e=.returned (.agg #[vn,vl,vr])∧(∃ A n c,vl=.slice A n c)∧NodesRow w' od 1 vn S.ns∧Row (Kd.int .i64) 3 w' od 2 vr (rootsTo S S.ns.length)∧Fr DPos w (fun _=>0) w' od
set_option maxHeartbeats 12800000 in
set_option maxRecDepth 20000 in
theorem dump_calls {b g:Nat} {w:World} {o:Own} {S:St} (H:GraphAt b w o g S) (hS:Fine S) :
    Calls Tryz.prog 16 #[.pointer (some ⟨g,0,none⟩)] w (DumpPost w S):=by
  obtain ⟨cb,C,h1,h2⟩:=id H
  have c0:w.cell? ⟨g,0,none⟩=some (.pointer (some ⟨cb,0,none⟩)):=(blk_cell h1.1 0).trans rfl
  obtain ⟨An,cn,hvn⟩:=h2.nodes.slice
  have c1:w.cell? ⟨cb,1,none⟩=some (.slice An S.ns.length cn):=by rw [← hvn];exact h2.at1
  have hnr:=h2.nodes
  rw [hvn]at hnr
  have few:=hS.few
  have hb0:=below_alloc (Below.refl w.heap.size w) (.cells #[.slice none 0 0,.slice none 0 0,.slice none 0 0] 52)
  have d0:=pw_cell_below hb0 c0
  have HH:=Lib.hid H
  have HS:=Lib.hid hS
  have HNR:=Lib.hid hnr
  have HB0:=Lib.hid hb0
  have C0:=Lib.hid c0
  have C1:=Lib.hid c1
  clear H hS h1 h2 hvn hnr hb0 c0 c1
  go_enter Tryz.func16,Tryz.ntmps16
  go_wp2_with fail
  refine (gmade_calls d0).mono ?_
  rintro e w' ⟨rfl,rfl⟩
  have hlk:=glinks_calls (HH.out.zero HB0.out) HS.out
  go_upto_region 3 with fail
  go_cut [3] (fun s3 wy=>∃ db,s3=.pointer (some ⟨db,0,none⟩)∧Hid (∃ od Al nl cl,InDump w wy od S db (.slice none 0 0) (.slice Al nl cl) (.slice none 0 0) 0 0))
  case first =>
    go_wp2_with fail
    refine hlk.mono ?_
    rintro e w2 ⟨A2,n2,c2,rfl,hb2⟩
    have HB2:=Lib.hid hb2
    clear hb2
    go_wp2_with fail
    go_meet
    have hz:(w.alloc (.cells #[.slice none 0 0,.slice none 0 0,.slice none 0 0] 52)).heap.size=w.heap.size+1:=by simp
    have f0:Fr DPos w (fun _=>0) (w.alloc (.cells #[.slice none 0 0,.slice none 0 0,.slice none 0 0] 52)) (Own.from_ (fun _=>0) w.heap.size 4):=(Fr.start DPos w (fun _=>0) 4 (.inr (by unfold DPos;omega))).alloc _
    have f1:=f0.trans ((Fr.start DPos _ _ 3 (.inr (by unfold DPos;omega))).below HB2.out)
    have f2:=f1.alloc (.cells #[.slice none 0 0,.slice A2 n2 c2,.slice none 0 0] 52)
    have hle:=HB2.out.size
    exact ⟨_,rfl,_,_,_,_,f2,NodesRow.nil _ _ _,Row.nil _ _ _ _ _,⟨blk_new _ _,by rw [Own.from_ge hle]⟩,⟨blk_alloc (blk_below (blk_new _ _) HB2.out) _,by rw [Own.from_lt (by omega),Own.from_ge (Nat.le_refl _)]⟩⟩
  case rest =>
    obtain ⟨db,rfl,od,Al,nl,cl,D⟩:=hcut
    obtain ⟨vl,hvl⟩:∃ v,v=Value.slice Al nl cl:=⟨_,rfl⟩
    rw [← hvl]at D
    have HVL:=Lib.hid hvl
    clear hvl
    clear hlk d0
    have HA:=Lib.hid D
    have d0:=pw_cell_below D.bel C0.out
    have d1:=pw_cell_below D.bel C1.out
    clear D
    refine (‹∀ (a:Act) (w:World),Code.wp _ _ _ a w→_›) _ _ ?_
    refine wp_seq_k ?_
    intro K2 hK2
    go_cut [] (fun wy=>Hid (∃ o2 vn vr,InDump w wy o2 S db vn vl vr S.ns.length S.ns.length))
    case first =>
      go_wp2_with fail
      go_loopw [21] (fun s wr=>∃ i:Nat,i≤S.ns.length∧s=.int .i64 i∧Hid (∃ o2 vn vr,InDump w wr o2 S db vn vl vr i i)) (fun s _=>S.ns.length - (intOf s).toNat)
      case atStart=>exact ⟨0,Nat.zero_le _,rfl,⟨_,_,_,HA.out⟩⟩
      case round =>
        obtain ⟨i,hi,rfl,⟨o2,vn,vr,D⟩⟩:=hrel
        have HD:=Lib.hid D
        clear D HA d0 d1
        by_cases hlt:i < S.ns.length
        · obtain ⟨bn,va,nd,hAn,hgn,_,_,a0,a1,a2,a3,a4,hIm,_⟩:=HNR.out.at (i:Int) (by omega) (by omega)
          rw [Int.toNat_natCast]at a0 a1 a2 a3 a4 hgn
          subst hAn
          obtain ⟨A3,c3,rfl,_⟩:=id hIm
          have hb:=HD.out.bel
          replace a0:=pw_cell_below hb a0
          replace a1:=pw_cell_below hb a1
          replace a2:=pw_cell_below hb a2
          replace a3:=pw_cell_below hb a3
          replace a4:=pw_cell_below hb a4
          have HE:=Lib.hid (hIm.held.below hb)
          have HOK:=Lib.hid (HS.out.no nd (List.mem_of_getElem? hgn))
          have HTK:=Lib.hid (show S.ns.take (i+1)=S.ns.take i++[nd] by rw [List.take_add_one,hgn];rfl)
          clear hgn hIm hb
          go_upto_region 6 with fail
          go_cut [4,5] (fun s4 s5 wy=>s4=.int .i64 i∧s5=.pointer (some ⟨wr.heap.size,0,none⟩)∧Hid (∃ o3,InDump w wy o3 S db vn vl vr i i∧wy.heap[wr.heap.size]?=some (.cells (nd.cells (.slice A3 nd.args.length c3)) 56 (0,0))∧Held wy (.slice A3 nd.args.length c3) nd.args))
          case first =>
            go_wp2_with fail
            go_meet
            have hb:=below_alloc (Below.refl wr.heap.size wr) (.cells (nd.cells (.slice A3 nd.args.length c3)) 56)
            exact ⟨rfl,rfl,_,HD.out.below hb,blk_new _ _,HE.out.below hb⟩
          case rest =>
            obtain ⟨rfl,rfl,o3,D3,B3,E3⟩:=hcut
            generalize wr.heap.size=nb at *
            clear HD HE a0 a1 a2 a3 a4
            obtain ⟨Av,cv,hv0⟩:=D3.nr.slice
            have hti:(S.ns.take i).length=i:=by rw [List.length_take];omega
            rw [hti]at hv0
            subst hv0
            have hcp:=copy_calls (w:=wc.drew) nd (.slice A3 nd.args.length c3) (E3.below (Below.refl _ _).drew) HOK.out.few
            have ga:wc.drew.cell? ⟨db,0,none⟩=some (.slice Av i cv):=(blk_cell D3.box.1 0).trans rfl
            have gb0:wc.drew.cell? ⟨nb,0,none⟩=some (.int .i64 nd.op):=(blk_cell B3 0).trans rfl
            have gb1:wc.drew.cell? ⟨nb,1,none⟩=some (.int .i64 nd.width):=(blk_cell B3 1).trans rfl
            have gb2:wc.drew.cell? ⟨nb,2,none⟩=some (.int .u64 nd.val):=(blk_cell B3 2).trans rfl
            have gb3:wc.drew.cell? ⟨nb,3,none⟩=some (.string nd.name):=(blk_cell B3 3).trans rfl
            have gb4:wc.drew.cell? ⟨nb,4,none⟩=some (.slice A3 nd.args.length c3):=(blk_cell B3 4).trans rfl
            have HD3:=Lib.hid (D3.below (Below.refl wc.heap.size wc).drew)
            simp only [Nd.cells]at hcp
            have HCP:=Lib.hid hcp
            clear D3 B3 E3 hti hcp
            generalize o3.from_ wc.heap.size 0=o4 at *
            go_upto_region 7 with fail
            go_cut [] (fun wy=>Hid (∃ o5 vn5,InDump w wy o5 S db vn5 vl vr (i+1) i))
            case first =>
              go_region_law
                (first
                 | (refine goes_ Tryz.func31 (by kernel_rfl) rfl #[.agg #[.int .i64 nd.op,.int .i64 nd.width,.int .u64 nd.val,.string nd.name,.slice A3 nd.args.length c3]] (by rfl) rfl rfl (by simp only [List.map_toArray,List.map_cons,List.map_nil];rfl) ?_;(with_reducible refine HCP.out.mono ?_);rintro e w2 ⟨v2,rfl,hf2,hb2⟩;refine ⟨_,rfl,?_⟩;obtain ⟨A2,c2,hv2⟩:=hf2.opened;subst hv2;obtain ⟨o5,HD2,HI2⟩:∃ o5,Hid (InDump w w2 o5 S db (.slice Av i cv) vl vr i i)∧Hid (Imm w2 o5 (.slice A2 nd.args.length c2) nd.args):=⟨_,HD3.out.below hb2,hf2.imm (fun k h=>Own.from_ge h)⟩;have g2a:=pw_cell_below hb2 ga;have k2a:(w2.alloc (.cells #[.int .i64 nd.op,.int .i64 nd.width,.int .u64 nd.val,.string nd.name,.slice A2 nd.args.length c2] 56)).cell? ⟨db,0,none⟩=some (.slice Av i cv):=pw_cell_below (below_alloc (Below.refl _ _) _) g2a;obtain ⟨rs,HR,HMAP,HIMM,hrl⟩:∃ rs,Hid (Row kNV 56 w2 o5 1 (.slice Av i cv) rs)∧Hid (rs.map NV.nd=S.ns.take i)∧Hid (∀ r∈rs,Imm w2 o5 r.va.v r.nd.args)∧rs.length=i:=(by obtain ⟨rs,q1,q2,q3⟩:=HD2.out.nr;exact ⟨rs,q1,q2,q3,(Kd.R_reads' q1).1.symm⟩);clear hf2 hb2)
                 | (refine Kd.R_append_step kNV (w0:=w2) (W:=w2) 0 (by rfl) (.tmp 27) (.tmp 30) 49 56 (.agg #[.int .i64 0,.int .i64 0,.int .u64 0,.string ⟨#[]⟩,.slice none 0 0]) 64 (by rfl) Tryz.underlying49 inf56 rfl (by decide) (by decide) (.slice Av i cv) rs (⟨nd,⟨A2,nd.args.length,c2⟩⟩:NV) [.int .i64 nd.op,.int .i64 nd.width,.int .u64 nd.val,.string nd.name,.slice A2 nd.args.length c2] (fun k=>o5.from_ w2.heap.size 1 k=1) (fun _=>False) (by rfl) (by rfl) rfl (fun _ h=>h.elim) (fun k hk=>Own.from_ge hk) (HR.out.renew 1) (Below.refl _ _) (Nat.zero_le _) (by omega) ?_;intro v5 w5 h5 _ hg5 _;obtain ⟨A5,c5,hv5⟩:=Kd.R_slice h5;subst hv5;rw [List.length_append,List.length_singleton]at h5;have HR5:=Lib.hid h5;have kp5:=Lib.hid (((Kp.refl (·=1) w2 o5).renew 1).grown hg5 (fun q e=>.inl (by have hk2:=(Kd.R_bound HR.out).1 q e;exact (Own.from_lt hk2.2.2.1).trans hk2.1)));have f5:=Lib.hid (((Fr.start (·=1) w2 o5 1 (.inr rfl))).grown hg5 (fun q e=>.inl (by have hk2:=(Kd.R_bound HR.out).1 q e;exact (Own.from_lt hk2.2.2.1).trans hk2.1)));have hb5:=HD2.out.box.fr kp5.out (by omega);have ma:w5.cell? ⟨db,0,none⟩=some (.slice Av i cv):=(blk_cell hb5.1 0).trans rfl;have mfz:=blk_frozen hb5.1 0;clear h5 hg5 hb5))
              all_goals go_wp2_with fail
              all_goals
                go_meet
                have hsn:=NodesRow.snoc HIMM.out HR5.out kp5.out (by omega) HI2.out
                rw [HMAP.out,← HTK.out,hrl]at hsn
                exact ⟨_,_,HD2.out.nodes f5.out hsn⟩
            case rest =>
              obtain ⟨o5,vn5,D5⟩:=hcut
              clear HD3 HCP ga gb0 gb1 gb2 gb3 gb4
              have hf:=gfind_calls (HH.out.zero (D5.bel.trans ((Below.refl wc.heap.size wc).drew.mono D5.bel.size))) HS.out (i:Int)
              obtain ⟨Ar,cr,hr0⟩:=D5.rr.slice
              rw [rootsTo_length]at hr0
              subst hr0
              have ga:wc.drew.cell? ⟨db,2,none⟩=some (.slice Ar i cr):=(blk_cell D5.box.1 2).trans rfl
              have ka:(wc.drew.alloc (.cells #[.int .i64 (fnd S.p (i:Int))] 3)).cell? ⟨db,2,none⟩=some (.slice Ar i cr):=pw_cell_below (below_alloc (Below.refl _ _) _) ga
              have la:(wc.alloc (.cells #[.int .i64 (fnd S.p (i:Int))] 3)).cell? ⟨db,2,none⟩=some (.slice Ar i cr):=ka
              have HD5:=Lib.hid (D5.below (Below.refl wc.heap.size wc).drew)
              have HF:=Lib.hid hf
              have HRT:=Lib.hid (rootsTo_succ S i)
              clear D5 hf
              generalize o5.from_ wc.heap.size 0=o6 at *
              have hrl:(rootsTo S i).length=i:=rootsTo_length S i
              generalize fnd S.p (i:Int)=x at *
              go_upto_region 8 with fail
              go_region_law
                (first
                 | (refine goes_ Tryz.func32 (by kernel_rfl) rfl #[.pointer (some ⟨g,0,none⟩),.int .i64 i] (by rfl) rfl rfl (by simp only [List.map_toArray,List.map_cons,List.map_nil];rfl) ?_;(with_reducible refine HF.out.mono ?_);rintro e w2 ⟨rfl,rfl⟩;refine ⟨_,rfl,?_⟩)
                 | (refine Kd.R_append_step (Kd.int .i64) (w0:=wc.drew) (W:=wc.drew) 0 (by rfl) (.tmp 34) (.tmp 38) 26 3 (.int .i64 0) 8 (by rfl) Tryz.underlying26 inf3 rfl (by decide) (by decide) (.slice Ar i cr) (rootsTo S i) x [.int .i64 x] (fun k=>o6.from_ wc.drew.heap.size 2 k=2) (fun _=>False) (by rfl) (by rfl) rfl (fun _ h=>h.elim) (fun k hk=>Own.from_ge hk) (HD5.out.rr.renew 2) (Below.refl _ _) (Nat.zero_le _) (by omega) ?_;intro v5 w5 h5 _ hg5 _;obtain ⟨A5,c5,hv5⟩:=Kd.R_slice h5;subst hv5;rw [List.length_append,List.length_singleton]at h5;have HR5:=Lib.hid h5;have kp5:=Lib.hid (((Kp.refl (·=2) wc.drew o6).renew 2).grown hg5 (fun q e=>.inl (by have hk2:=(Kd.R_bound HD5.out.rr).1 q e;exact (Own.from_lt hk2.2.2.1).trans hk2.1)));have f5:=Lib.hid (((Fr.start (·=2) wc.drew o6 2 (.inr rfl))).grown hg5 (fun q e=>.inl (by have hk2:=(Kd.R_bound HD5.out.rr).1 q e;exact (Own.from_lt hk2.2.2.1).trans hk2.1)));have hb5:=HD5.out.box.fr kp5.out (by omega);have ma:w5.cell? ⟨db,2,none⟩=some (.slice Ar i cr):=(blk_cell hb5.1 2).trans rfl;have mfz:=blk_frozen hb5.1 2;clear h5 hg5 hb5))
              all_goals go_wp2_with fail
              all_goals
                have hrow:=HR5.out
                rw [← HRT.out,hrl]at hrow
                have HN:=Lib.hid (HD5.out.roots f5.out hrow)
                clear hrow
                go_roundw
                case rel=>exact ⟨i+1,by omega,by go_num,⟨_,_,_,HN.out⟩⟩
                case measure=>first | (simp [intOf];done) | (simp [intOf];omega)
        · have hil:i=S.ns.length:=by omega
          subst hil
          go_wp2_with fail
          go_meet
          exact ⟨_,_,_,HD.out⟩
    case rest =>
      obtain ⟨o2,vn,vr,D⟩:=hcut
      refine hK2 _ _ ?_
      have hnr0:NodesRow wc o2 1 vn S.ns:=by have h:=D.nr;rwa [List.take_length]at h
      obtain ⟨An1,cn1,hvn1⟩:=hnr0.slice
      obtain ⟨Ar1,cr1,hvr1⟩:=D.rr.slice
      have hvl:=HVL.out
      have HNR0:=Lib.hid hnr0
      clear hnr0
      subst hvn1 hvr1 hvl
      have x0:wc.cell? ⟨db,0,none⟩=some (.slice An1 S.ns.length cn1):=(blk_cell D.box.1 0).trans rfl
      have x1:wc.cell? ⟨db,1,none⟩=some (.slice Al nl cl):=(blk_cell D.box.1 1).trans rfl
      have x2:wc.cell? ⟨db,2,none⟩=some (.slice Ar1 (rootsTo S S.ns.length).length cr1):=(blk_cell D.box.1 2).trans rfl
      have z0:=blk_frozen D.res.1 0
      have z1:=blk_frozen D.res.1 1
      have z2:=blk_frozen D.res.1 2
      have y0:wc.cell? ⟨w.heap.size,0,none⟩=some (.slice none 0 0):=(blk_cell D.res.1 0).trans rfl
      have y1:wc.cell? ⟨w.heap.size,1,none⟩=some (.slice none 0 0):=(blk_cell D.res.1 1).trans rfl
      have y2:wc.cell? ⟨w.heap.size,2,none⟩=some (.slice none 0 0):=(blk_cell D.res.1 2).trans rfl
      have HD:=Lib.hid D
      clear D HA d0 d1
      go_wp2_with fail
      have hs1:=(((HD.out.res.set 0 (.slice An1 S.ns.length cn1)).set 1 (.slice Al nl cl)).set 2 (.slice Ar1 (rootsTo S S.ns.length).length cr1))
      have hs2:(((wc.setCell ⟨w.heap.size,0,none⟩ (.slice An1 S.ns.length cn1)).setCell ⟨w.heap.size,1,none⟩ (.slice Al nl cl)).setCell ⟨w.heap.size,2,none⟩ (.slice Ar1 (rootsTo S S.ns.length).length cr1)).heap[w.heap.size]?=some (.cells #[(.slice An1 S.ns.length cn1),(.slice Al nl cl),(.slice Ar1 (rootsTo S S.ns.length).length cr1)] 52 (0,0)):=hs1.1
      refine bodyPost_ret (results_cell_row rfl _ _ w.heap.size 52 #[(.slice An1 S.ns.length cn1),(.slice Al nl cl),(.slice Ar1 (rootsTo S S.ns.length).length cr1)] (0,0) _ rfl hs2 Tryz.underlying52 rfl (by kernel_rfl)) rfl ?_
      have k:Kp (·=4) wc o2 (((wc.setCell ⟨w.heap.size,0,none⟩ (.slice An1 S.ns.length cn1)).setCell ⟨w.heap.size,1,none⟩ (.slice Al nl cl)).setCell ⟨w.heap.size,2,none⟩ (.slice Ar1 (rootsTo S S.ns.length).length cr1)) o2:=(((Kp.refl _ wc o2).setCell _ _ (.inl HD.out.res.2)).setCell _ _ (.inl HD.out.res.2)).setCell _ _ (.inl HD.out.res.2)
      have h4:DPos (o2 w.heap.size):=by rw [HD.out.res.2];unfold DPos;omega
      exact ⟨(.slice An1 S.ns.length cn1),(.slice Al nl cl),(.slice Ar1 (rootsTo S S.ns.length).length cr1),o2,rfl,⟨Al,nl,cl,rfl⟩,HNR0.out.fr k (by omega) (by omega),HD.out.rr.fr k (by omega),((HD.out.fr.setCell ⟨w.heap.size,0,none⟩ (.slice An1 S.ns.length cn1) (.inl h4)).setCell ⟨w.heap.size,1,none⟩ (.slice Al nl cl) (.inl h4)).setCell ⟨w.heap.size,2,none⟩ (.slice Ar1 (rootsTo S S.ns.length).length cr1) (.inl h4)⟩
end Go.Proofs.YtjckhhecnebmmaaGreatDoor.TU
end
section
namespace Go.Proofs.YtjckhhecnebmmaaGreatDoor.TU
open Go.RowKit Go.Proofs.YtjckhhecnebmmaaGreatDoorW.PrintWords Go.Proofs.YtjckhhecnebmmaaGreatDoorW.PrintLast Go.Proofs.YtjckhhecnebmmaaGreatDoorW.PrintMore Go.Proofs.YtjckhhecnebmmaaGreatDoor.QAll
attribute [local go_sem] max2_int min2_int max_two min_two max_three min_three max_four min_four
set_option linter.unusedVariables false
theorem nsame_f (n:Nd) (hn:n.args.length≤1000):∃ k,saturatetop_sameNode.f k n.op n.width n.val n.name n.args n.op n.width n.val n.name n.args=some true:=by
 have loop:∀ (m j:Nat),j+m=n.args.length→saturatetop_sameNode.l0 (m+1) (n.args.length:Int) (j:Int) n.op n.width n.val n.name n.args n.op n.width n.val n.name n.args=some true:=by
  intro m
  induction m with
  | zero=>intro j hj;rw [saturatetop_sameNode.l0,if_neg (by omega)]
  | succ m ih =>
   intro j hj
   rw [saturatetop_sameNode.l0,if_pos (by omega),if_pos (by omega),if_pos (by omega),if_pos (by omega),if_pos rfl,w64n (by omega)]
   exact ih (j+1) (by omega)
 refine ⟨n.args.length+2,?_⟩
 unfold saturatetop_sameNode.f
 rw [if_pos rfl,if_pos rfl,if_pos rfl,if_pos rfl,saturatetop_sameNode.j0,if_neg (by simp)]
 exact loop n.args.length 0 (by omega)
theorem nsame_calls (n:Nd) (hn:n.args.length≤1000) (A A':Option Addr) (c c':Nat) (w:World) (hA:Held w (.slice A n.args.length c) n.args) (hA':Held w (.slice A' n.args.length c') n.args) :
  Calls Tryz.prog 17 #[.agg (n.cells (.slice A n.args.length c)),.agg (n.cells (.slice A' n.args.length c'))] w fun e w'=>e=.returned (.bool true)∧Below w.heap.size w w':=by
 obtain ⟨k,h⟩:=nsame_f n hn
 obtain ⟨B,d,e,h1,h2⟩:=hA
 obtain ⟨B',d',e',h1',h2'⟩:=hA'
 injection e with e1 e2 e3
 injection e' with e1' e2' e3'
 subst e1 e3 e1' e3'
 exact saturatetop_sameNode.calls k n.op n.width n.val n.name A c n.args n.op n.width n.val n.name A' c' n.args true w h2 h1 h2' h1' h
theorem fr_dpos {w w':World} {od:Own} (f:Fr DPos w (fun _=>0) w' od):Below w.heap.size w w':=f.toBelow (Nat.le_refl _) (fun _ _ h=>Nat.lt_irrefl 0 h)
set_option maxHeartbeats 6400000 in
set_option maxRecDepth 20000 in
theorem same_world {b1 b2 g h:Nat} {w:World} {o:Own} {S T:St} (H1:GraphAt b1 w o g S) (H2:GraphAt b2 w o h T) (F1:Fine S) (F2:Fine T) (hns:T.ns=S.ns) (hrt:rootsTo T T.ns.length=rootsTo S S.ns.length) :
  Calls Tryz.prog 9 #[.pointer (some ⟨g,0,none⟩),.pointer (some ⟨h,0,none⟩)] w fun e w'=>e=.returned (.bool true)∧Below w.heap.size w w':=by
 have HD1:=Lib.hid (dump_calls H1 F1)
 have HD2:=Lib.hid (fun w2 (hb:Below w.heap.size w w2)=>dump_calls (H2.zero hb) F2)
 have hno:=F1.no
 have hfew:=F1.few
 have HNO:=Lib.hid hno
 have HNS:=Lib.hid hns
 have HRT:=Lib.hid hrt
 clear H1 H2 F1 F2 hno hns hrt
 go_enter Tryz.func9,Tryz.ntmps9
 go_wp2_with fail
 refine HD1.out.mono ?_
 rintro e w1 ⟨vn1,vl1,vr1,od1,rfl,⟨Al1,nl1,cl1,rfl⟩,n1,r1,f1⟩
 have hb1:=fr_dpos f1
 have HDD:=Lib.hid (HD2.out w1 hb1)
 have HN1:=Lib.hid n1
 have HR1:=Lib.hid r1
 have HB1:=Lib.hid hb1
 clear HD1 HD2 n1 r1 f1 hb1
 go_wp2_with fail
 refine HDD.out.mono ?_
 rintro e w2 ⟨vn2,vl2,vr2,od2,rfl,⟨Al2,nl2,cl2,rfl⟩,n2,r2,f2⟩
 have hb2:=fr_dpos f2
 have n1':=HN1.out.fr (((Kp.refl (fun _=>False) w1 od1).renew 0).below hb2) (fun h=>h) (fun h=>h)
 have r1':=HR1.out.fr (((Kp.refl (fun _=>False) w1 od1).renew 0).below hb2) (fun h=>h)
 rw [HNS.out]at n2
 rw [HRT.out]at r2
 obtain ⟨An1,cn1,rfl⟩:=n1'.slice
 obtain ⟨An2,cn2,rfl⟩:=n2.slice
 obtain ⟨Ar1,cr1,rfl⟩:=r1'.slice
 obtain ⟨Ar2,cr2,rfl⟩:=r2.slice
 rw [rootsTo_length]at r1' r2 HR1
 have HN1':=Lib.hid n1'
 have HN2:=Lib.hid n2
 have HR1':=Lib.hid r1'
 have HR2:=Lib.hid r2
 have HB2:=Lib.hid (HB1.out.trans (hb2.mono HB1.out.size))
 clear HN1 HR1 n1' r1' n2 r2 f2 hb2 HDD HB1
 simp only [rootsTo_length]
 go_upto_region 4 with fail
 have hb3:Below w2.heap.size w2 ((w2.alloc (.cells #[.slice An1 S.ns.length cn1,.slice Al1 nl1 cl1,.slice Ar1 S.ns.length cr1] 52)).alloc (.cells #[.slice An2 S.ns.length cn2,.slice Al2 nl2 cl2,.slice Ar2 S.ns.length cr2] 52)):=below_alloc (below_alloc (Below.refl _ _) _) _
 have hx1:=blk_alloc (blk_new w2 (.cells #[.slice An1 S.ns.length cn1,.slice Al1 nl1 cl1,.slice Ar1 S.ns.length cr1] 52)) (.cells #[.slice An2 S.ns.length cn2,.slice Al2 nl2 cl2,.slice Ar2 S.ns.length cr2] 52)
 have hx2:=blk_new (w2.alloc (.cells #[.slice An1 S.ns.length cn1,.slice Al1 nl1 cl1,.slice Ar1 S.ns.length cr1] 52)) (.cells #[.slice An2 S.ns.length cn2,.slice Al2 nl2 cl2,.slice Ar2 S.ns.length cr2] 52)
 simp only [World.size_alloc]at hx2
 have HX1:=Lib.hid hx1
 have HX2:=Lib.hid hx2
 have HN1:=Lib.hid (HN1'.out.fr (((Kp.refl (fun _=>False) w2 _).renew 0).below hb3) (fun h=>h) (fun h=>h))
 have HN2':=Lib.hid (HN2.out.fr (((Kp.refl (fun _=>False) w2 _).renew 0).below hb3) (fun h=>h) (fun h=>h))
 have HR1:=Lib.hid (HR1'.out.fr (((Kp.refl (fun _=>False) w2 _).renew 0).below hb3) (fun h=>h))
 have HR2':=Lib.hid (HR2.out.fr (((Kp.refl (fun _=>False) w2 _).renew 0).below hb3) (fun h=>h))
 have HB3:=Lib.hid (HB2.out.trans (hb3.mono HB2.out.size))
 clear hx1 hx2 hb3 HN1' HN2 HR1' HR2 HB2
 generalize ((w2.alloc (.cells #[.slice An1 S.ns.length cn1,.slice Al1 nl1 cl1,.slice Ar1 S.ns.length cr1] 52)).alloc (.cells #[.slice An2 S.ns.length cn2,.slice Al2 nl2 cl2,.slice Ar2 S.ns.length cr2] 52))=w3 at *
 generalize w2.heap.size+1=bb at *
 generalize w2.heap.size=ab at *
 have x00:w3.cell? ⟨ab,0,none⟩=some (.slice An1 S.ns.length cn1):=(blk_cell HX1.out 0).trans rfl
 go_wp2_with fail
 go_loopw [40] (fun s wr=>∃ i:Nat,i≤S.ns.length∧s=.int .i64 i∧Hid (Below w3.heap.size w3 wr)) (fun s _=>S.ns.length - (intOf s).toNat)
 case atStart=>exact ⟨0,Nat.zero_le _,rfl,Below.refl _ _⟩
 case round =>
  obtain ⟨i,hi,rfl,hb⟩:=hrel
  have HB:=Lib.hid hb.out
  clear hb x00
  by_cases hlt:i < S.ns.length
  ·have n1:=HN1.out.fr (((Kp.refl (fun _=>False) w3 _).renew 0).below HB.out) (fun h=>h) (fun h=>h)
   have n2:=HN2'.out.fr (((Kp.refl (fun _=>False) w3 _).renew 0).below HB.out) (fun h=>h) (fun h=>h)
   have r1:=HR1.out.fr (((Kp.refl (fun _=>False) w3 _).renew 0).below HB.out) (fun h=>h)
   have r2:=HR2'.out.fr (((Kp.refl (fun _=>False) w3 _).renew 0).below HB.out) (fun h=>h)
   obtain ⟨bl1,va1,nd,rfl,hg1,_,_,a0,a1,a2,a3,a4,hI1,_⟩:=NodesRow.at n1 (i:Int) (by omega) (by omega)
   obtain ⟨bl2,va2,nd',rfl,hg2,_,_,b0,b1,b2,b3,b4,hI2,_⟩:=NodesRow.at n2 (i:Int) (by omega) (by omega)
   rw [Int.toNat_natCast]at a0 a1 a2 a3 a4 hg1 b0 b1 b2 b3 b4 hg2
   obtain rfl:nd=nd':=Option.some.inj (hg1.symm.trans hg2)
   obtain ⟨A1,c1,rfl,_⟩:=id hI1
   obtain ⟨A2,c2,rfl,_⟩:=id hI2
   have hC1:=(Kd.R_reads' r1).2.2
   have hC2:=(Kd.R_reads' r2).2.2
   obtain ⟨ar1,rfl,r1c⟩:=C_int_at hC1 i (by rw [rootsTo_length];exact hlt)
   obtain ⟨ar2,rfl,r2c⟩:=C_int_at hC2 i (by rw [rootsTo_length];exact hlt)
   have x0:wr.cell? ⟨ab,0,none⟩=some (.slice (some ⟨bl1,0,none⟩) S.ns.length cn1):=(blk_cell (blk_below HX1.out HB.out) 0).trans rfl
   have x2:wr.cell? ⟨ab,2,none⟩=some (.slice (some ar1) S.ns.length cr1):=(blk_cell (blk_below HX1.out HB.out) 2).trans rfl
   have y0:wr.cell? ⟨bb,0,none⟩=some (.slice (some ⟨bl2,0,none⟩) S.ns.length cn2):=(blk_cell (blk_below HX2.out HB.out) 0).trans rfl
   have y2:wr.cell? ⟨bb,2,none⟩=some (.slice (some ar2) S.ns.length cr2):=(blk_cell (blk_below HX2.out HB.out) 2).trans rfl
   have hko:=(HNO.out nd (List.mem_of_getElem? hg1)).few
   have hcall:=fun w4 (hb:Below wr.heap.size wr w4)=>nsame_calls nd hko A1 A2 c1 c2 w4 (hI1.held.below hb) (hI2.held.below hb)
   generalize (rootsTo S S.ns.length).getD i 0=rv at *
   have HCALL:=Lib.hid hcall
   have L1:=Lib.hid (fun wr' (hb:Below wr.heap.size wr wr')=>show wr'.cell? ⟨ab,0,none⟩=some (.slice (some ⟨bl1,0,none⟩) S.ns.length cn1)∧wr'.cell? ⟨bb,0,none⟩=some (.slice (some ⟨bl2,0,none⟩) S.ns.length cn2)∧wr'.cell? ⟨ab,2,none⟩=some (.slice (some ar1) S.ns.length cr1)∧wr'.cell? ⟨bb,2,none⟩=some (.slice (some ar2) S.ns.length cr2)∧wr'.cell? ⟨bl1,i * 5,none⟩=some (.int .i64 nd.op)∧wr'.cell? ⟨bl1,i * 5+1,none⟩=some (.int .i64 nd.width)∧wr'.cell? ⟨bl1,i * 5+2,none⟩=some (.int .u64 nd.val)∧wr'.cell? ⟨bl1,i * 5+3,none⟩=some (.string nd.name)∧wr'.cell? ⟨bl1,i * 5+4,none⟩=some (.slice A1 nd.args.length c1)∧wr'.cell? ⟨bl2,i * 5,none⟩=some (.int .i64 nd.op)∧wr'.cell? ⟨bl2,i * 5+1,none⟩=some (.int .i64 nd.width)∧wr'.cell? ⟨bl2,i * 5+2,none⟩=some (.int .u64 nd.val)∧wr'.cell? ⟨bl2,i * 5+3,none⟩=some (.string nd.name)∧wr'.cell? ⟨bl2,i * 5+4,none⟩=some (.slice A2 nd.args.length c2)∧wr'.cell? (ar1.add i)=some (.int .i64 rv)∧wr'.cell? (ar2.add i)=some (.int .i64 rv)from ⟨pw_cell_below hb x0,pw_cell_below hb y0,pw_cell_below hb x2,pw_cell_below hb y2,pw_cell_below hb a0,pw_cell_below hb a1,pw_cell_below hb a2,pw_cell_below hb a3,pw_cell_below hb a4,pw_cell_below hb b0,pw_cell_below hb b1,pw_cell_below hb b2,pw_cell_below hb b3,pw_cell_below hb b4,pw_cell_below hb r1c,pw_cell_below hb r2c⟩)
   obtain ⟨q0,q1,q2,q3,q4,q5,q6,q7,q8,q9,q10,q11,q12,q13,q14,q15⟩:=L1.out wr.drew (Below.refl _ _).drew
   clear hcall n1 n2 r1 r2 hI1 hI2 hg1 hg2 hC1 hC2 x0 y0 x2 y2 a0 a1 a2 a3 a4 b0 b1 b2 b3 b4 r1c r2c
   simp only [Nd.cells]at HCALL
   go_upto_region 7 with fail
   go_region_held3 (fun wr=>wr.cell? ⟨ab,0,none⟩=some (.slice (some ⟨bl1,0,none⟩) S.ns.length cn1)∧wr.cell? ⟨bb,0,none⟩=some (.slice (some ⟨bl2,0,none⟩) S.ns.length cn2)∧wr.cell? ⟨ab,2,none⟩=some (.slice (some ar1) S.ns.length cr1)∧wr.cell? ⟨bb,2,none⟩=some (.slice (some ar2) S.ns.length cr2)∧wr.cell? ⟨bl1,i * 5,none⟩=some (.int .i64 nd.op)∧wr.cell? ⟨bl1,i * 5+1,none⟩=some (.int .i64 nd.width)∧wr.cell? ⟨bl1,i * 5+2,none⟩=some (.int .u64 nd.val)∧wr.cell? ⟨bl1,i * 5+3,none⟩=some (.string nd.name)∧wr.cell? ⟨bl1,i * 5+4,none⟩=some (.slice A1 nd.args.length c1)∧wr.cell? ⟨bl2,i * 5,none⟩=some (.int .i64 nd.op)∧wr.cell? ⟨bl2,i * 5+1,none⟩=some (.int .i64 nd.width)∧wr.cell? ⟨bl2,i * 5+2,none⟩=some (.int .u64 nd.val)∧wr.cell? ⟨bl2,i * 5+3,none⟩=some (.string nd.name)∧wr.cell? ⟨bl2,i * 5+4,none⟩=some (.slice A2 nd.args.length c2)∧wr.cell? (ar1.add i)=some (.int .i64 rv)∧wr.cell? (ar2.add i)=some (.int .i64 rv))
    ((refine L1.out _ ?_;first | exact (Below.refl _ _).drew | exact (Below.refl _ _).drew.trans HB5.out))
    ((go_at_call 17;refine (HCALL.out _ ?_).mono ?_;(exact (Below.refl _ _).drew);rintro e w5 ⟨rfl,hb5⟩;have HB5:=Lib.hid hb5;clear hb5))
   go_wp2_with fail
   go_roundw
   case rel=>exact ⟨i+1,by omega,by go_num,HB.out.trans (((Below.refl wr.heap.size wr).drew.trans HB5.out).mono HB.out.size)⟩
   case measure=>first | (simp [intOf];done) | (simp [intOf];omega)
  ·have hil:i=S.ns.length:=by omega
   subst hil
   go_wp2_with fail
   go_ret
   exact ⟨rfl,HB3.out.trans (HB.out.mono HB3.out.size)⟩
end Go.Proofs.YtjckhhecnebmmaaGreatDoor.TU
end
section
namespace Go.Proofs.YtjckhhecnebmmaaGreatDoor.TU
open Go.RowKit Go.Proofs.YtjckhhecnebmmaaGreatDoorW.PrintWords Go.Proofs.YtjckhhecnebmmaaGreatDoorW.PrintLast Go.Proofs.YtjckhhecnebmmaaGreatDoorW.PrintMore Go.Proofs.YtjckhhecnebmmaaGreatDoor.QAll
attribute [local go_sem] max2_int min2_int max_two min_two max_three min_three max_four min_four
set_option linter.unusedVariables false
set_option maxHeartbeats 6400000 in
set_option maxRecDepth 20000 in
theorem lookup_leaf {B b g:Nat} {w:World} {o:Own} {S:St} (G:Gl B w o) (H:GraphAt b w o g S) (hS:Fine S) (op width:Int) (val:Nat) (name:ByteArray) (hn:Nd.Ok ⟨op,width,val,name,[]⟩) (A:Option Addr) (c:Nat) (id:Int) (hid:S.tab (keyStr ⟨op,width,val,name,[]⟩)=some id) :
  Calls Tryz.prog 55 #[.pointer (some ⟨g,0,none⟩),.agg #[.int .i64 op,.int .i64 width,.int .u64 val,.string name,.slice A 0 c]] w fun e w'=>e=.returned (.tuple #[.int .i64 (fnd S.p id),.bool true])∧Below w.heap.size w w':=by
 obtain ⟨cb,C,h1,h2⟩:=H
 have hb1:=below_alloc (Below.refl w.heap.size w) (.cells #[.int .i64 op,.int .i64 width,.int .u64 val,.string name,.slice A 0 c] 56)
 have hbk:=blk_new w (.cells #[.int .i64 op,.int .i64 width,.int .u64 val,.string name,.slice A 0 c] 56)
 have c0:w.cell? ⟨g,0,none⟩=some (.pointer (some ⟨cb,0,none⟩)):=(blk_cell h1.1 0).trans rfl
 have d0:=pw_cell_below hb1 c0
 have hcan:∀ wr,Below w.heap.size w wr→Calls Tryz.prog 48 #[.agg #[.int .i64 op,.int .i64 width,.int .u64 val,.string name,.slice A 0 c],.func (.func 49) #[.pointer (some ⟨C.sg,0,none⟩)] #[]] wr fun e w'=>∃ va',e=.returned (.agg #[.int .i64 op,.int .i64 width,.int .u64 val,.string name,va'])∧Fresh wr w' va' []∧Below wr.heap.size wr w':=fun wr hb =>
  canon_find (h2.below hb).sets.uf hS.pl hS.well ⟨op,width,val,name,[]⟩ (.slice A 0 c) ⟨A,c,rfl,Nat.zero_le _,⟨rfl,by simp,fun h=>by simp at h⟩⟩ (by simp)
 have hget:∀ wr,Below w.heap.size w wr→∀ A2 c2,Calls Tryz.prog 63 #[.pointer (some ⟨C.tg,0,none⟩),.agg #[.int .i64 op,.int .i64 width,.int .u64 val,.string name,.slice A2 0 c2]] wr fun e w'=>e=.returned (.tuple #[.int .i64 id,.bool true])∧Below wr.heap.size wr w':=fun wr hb A2 c2=>by
  have h:=get_calls (B:=B) (h2.below hb).table ⟨op,width,val,name,[]⟩ (.slice A2 0 c2) A2 c2 rfl ⟨rfl,by simp,fun h=>by simp at h⟩ hn (G.on hb).tab (G.on hb).le
  rw [hid]at h
  exact h
 have hfind:∀ wr,Below w.heap.size w wr→Calls Tryz.prog 49 #[.pointer (some ⟨C.sg,0,none⟩),.int .i64 id] wr fun e w'=>e=.returned (.int .i64 (fnd S.p id))∧wr=w':=fun wr hb=>find_calls (h2.below hb).sets.uf hS.pl hS.well id
 have hx:=blk_cell hbk
 have HCAN:=Lib.hid hcan
 have HGET:=Lib.hid hget
 have HFIND:=Lib.hid hfind
 have L0:=Lib.hid (fun wr (hb:Below w.heap.size w wr)=>show wr.cell? ⟨cb,5,none⟩=some (.pointer (some ⟨C.tg,0,none⟩))∧wr.cell? ⟨cb,0,none⟩=some (.pointer (some ⟨C.sg,0,none⟩))from ⟨(h2.below hb).at5,(h2.below hb).at0⟩)
 have HB1:=Lib.hid hb1
 have HX:=Lib.hid hbk
 clear hcan hget hfind h1 h2 G hS hid c0 hn
 have x4:(w.alloc (.cells #[.int .i64 op,.int .i64 width,.int .u64 val,.string name,.slice A 0 c] 56)).cell? ⟨w.heap.size,4,none⟩=some (.slice A 0 c):=(hx 4).trans rfl
 clear hx hb1 hbk
 go_enter Tryz.func55,Tryz.ntmps55
 go_wp2_with fail
 refine (gmade_calls d0).mono ?_
 rintro e w' ⟨rfl,rfl⟩
 generalize w.alloc (.cells #[.int .i64 op,.int .i64 width,.int .u64 val,.string name,.slice A 0 c] 56)=w1 at *
 go_upto_region 5 with fail
 go_loopw [21] (fun s wr=>s=.int .i64 0∧wr=w1) (fun _ _=>0)
 case atStart=>exact ⟨rfl,rfl⟩
 case round =>
  obtain ⟨rfl,rfl⟩:=hrel
  clear x4 d0
  go_wp2_with fail
  have hcells:=L0.out wr HB1.out
  have hx:=blk_cell HX.out
  have x0:wr.cell? ⟨w.heap.size,0,none⟩=some (.int .i64 op):=(hx 0).trans rfl
  have x1:wr.cell? ⟨w.heap.size,1,none⟩=some (.int .i64 width):=(hx 1).trans rfl
  have x2:wr.cell? ⟨w.heap.size,2,none⟩=some (.int .u64 val):=(hx 2).trans rfl
  have x3:wr.cell? ⟨w.heap.size,3,none⟩=some (.string name):=(hx 3).trans rfl
  have x4:wr.cell? ⟨w.heap.size,4,none⟩=some (.slice A 0 c):=(hx 4).trans rfl
  obtain ⟨y5,y0⟩:=hcells
  have L1:=Lib.hid (fun wr' (hb:Below wr.heap.size wr wr')=>show wr'.cell? ⟨cb,5,none⟩=some (.pointer (some ⟨C.tg,0,none⟩))∧wr'.cell? ⟨cb,0,none⟩=some (.pointer (some ⟨C.sg,0,none⟩))∧wr'.cell? ⟨w.heap.size,0,none⟩=some (.int .i64 op)∧wr'.cell? ⟨w.heap.size,1,none⟩=some (.int .i64 width)∧wr'.cell? ⟨w.heap.size,2,none⟩=some (.int .u64 val)∧wr'.cell? ⟨w.heap.size,3,none⟩=some (.string name)∧wr'.cell? ⟨w.heap.size,4,none⟩=some (.slice A 0 c)from ⟨pw_cell_below hb y5,pw_cell_below hb y0,pw_cell_below hb x0,pw_cell_below hb x1,pw_cell_below hb x2,pw_cell_below hb x3,pw_cell_below hb x4⟩)
  obtain ⟨q0,q1,q2,q3,q4,q5,q6⟩:=L1.out wr.drew (Below.refl _ _).drew
  have hsz:w.heap.size≤wr.heap.size:=HB1.out.size
  have HSZ:=Lib.hid hsz
  clear hx x0 x1 x2 x3 x4 y5 y0 hsz
  go_region_held3 (fun wr=>wr.cell? ⟨cb,5,none⟩=some (.pointer (some ⟨C.tg,0,none⟩))∧wr.cell? ⟨cb,0,none⟩=some (.pointer (some ⟨C.sg,0,none⟩))∧wr.cell? ⟨w.heap.size,0,none⟩=some (.int .i64 op)∧wr.cell? ⟨w.heap.size,1,none⟩=some (.int .i64 width)∧wr.cell? ⟨w.heap.size,2,none⟩=some (.int .u64 val)∧wr.cell? ⟨w.heap.size,3,none⟩=some (.string name)∧wr.cell? ⟨w.heap.size,4,none⟩=some (.slice A 0 c))
   ((refine L1.out _ ?_;first | exact (Below.refl _ _).drew | exact HB3.out | exact HB4.out))
   (first
    | (go_at_call 48;refine (HCAN.out _ (HB1.out.trans ((Below.refl wr.heap.size wr).drew.mono HSZ.out))).mono ?_;rintro e w3 ⟨va3,rfl,hf3,hb3⟩;obtain ⟨A3,c3,hv3⟩:=Fresh.opened hf3;subst hv3;have HB3:=Lib.hid ((Below.refl wr.heap.size wr).drew.trans hb3);clear hb3 hf3)
    | (go_at_call 63;refine (HGET.out _ (HB1.out.trans (HB3.out.mono HSZ.out)) A3 c3).mono ?_;rintro e w4 ⟨rfl,hb4⟩;have HB4:=Lib.hid (HB3.out.trans (hb4.mono HB3.out.size));clear hb4))
  have HB5:=Lib.hid (HB1.out.trans (HB4.out.mono HSZ.out))
  obtain ⟨z5,z0,_⟩:=L1.out w4 HB4.out
  clear q0 q1 q2 q3 q4 q5 q6 z5
  go_wp2_with fail
  refine (HFIND.out w4 HB5.out).mono ?_
  rintro e w5 ⟨rfl,rfl⟩
  go_wp2_with fail
  go_ret2
  exact ⟨rfl,HB5.out⟩
end Go.Proofs.YtjckhhecnebmmaaGreatDoor.TU
end
section
namespace Go.Proofs.YtjckhhecnebmmaaGreatDoor.TU
open Go.RowKit Go.Proofs.YtjckhhecnebmmaaGreatDoorW.PrintWords Go.Proofs.YtjckhhecnebmmaaGreatDoorW.PrintLast Go.Proofs.YtjckhhecnebmmaaGreatDoorW.PrintMore Go.Proofs.YtjckhhecnebmmaaGreatDoor.QAll
attribute [local go_sem] max2_int min2_int max_two min_two max_three min_three max_four min_four
set_option linter.unusedVariables false
set_option maxHeartbeats 6400000 in
set_option maxRecDepth 20000 in
theorem look_leaf {B b g:Nat} {w:World} {o:Own} {S:St} (G:Gl B w o) (H:GraphAt b w o g S) (hS:Fine S) (op width:Int) (val:Nat) (name:ByteArray) (hn:Nd.Ok ⟨op,width,val,name,[]⟩) (A:Option Addr) (c:Nat) (id:Int) (hid:S.tab (keyStr ⟨op,width,val,name,[]⟩)=some id) :
  Calls Tryz.prog 36 #[.pointer (some ⟨g,0,none⟩),.agg #[.int .i64 op,.int .i64 width,.int .u64 val,.string name,.slice A 0 c]] w fun e w'=>e=.returned (.tuple #[.int .i64 (fnd S.p id),.bool true])∧Below w.heap.size w w':=by
 have HL:=Lib.hid (fun wr (hb:Below w.heap.size w wr) A2 c2=>lookup_leaf (G.on hb) (H.zero hb) hS op width val name hn A2 c2 id hid)
 have hb1:=below_alloc (Below.refl w.heap.size w) (.cells #[.int .i64 op,.int .i64 width,.int .u64 val,.string name,.slice A 0 c] 35)
 have hsh:=represent_shell.calls op width val name A c [] op width val name [] (w.alloc (.cells #[.int .i64 op,.int .i64 width,.int .u64 val,.string name,.slice A 0 c] 35)) ⟨rfl,by simp,fun h=>by simp at h⟩ (Nat.zero_le _) rfl
 have HX:=Lib.hid (blk_new w (.cells #[.int .i64 op,.int .i64 width,.int .u64 val,.string name,.slice A 0 c] 35))
 have HB1:=Lib.hid hb1
 have HSH:=Lib.hid hsh
 clear G H hS hn hid hb1 hsh
 simp only [List.length_nil]at HSH
 go_enter Tryz.func36,Tryz.ntmps36
 go_wp2_with fail
 refine HSH.out.mono ?_
 rintro e w2 ⟨v4,rfl,hr2,hb2⟩
 obtain ⟨A2,c2,rfl⟩:=Kd.R_slice hr2
 have HB2:=Lib.hid (HB1.out.trans (hb2.mono HB1.out.size))
 have x4:(w2.alloc (.cells #[.int .i64 op,.int .i64 width,.int .u64 val,.string name,.slice A2 0 c2] 56)).cell? ⟨w.heap.size,4,none⟩=some (.slice A 0 c):=pw_cell_below (below_alloc (Below.refl _ _) _) ((blk_cell (blk_below HX.out hb2) 4).trans rfl)
 clear hr2 hb2 HSH HX HB1
 simp only [List.length_nil]
 go_upto_region 3 with fail
 have HBX:=Lib.hid (blk_new w2 (.cells #[.int .i64 op,.int .i64 width,.int .u64 val,.string name,.slice A2 0 c2] 56))
 have HB3:=Lib.hid (below_alloc HB2.out (.cells #[.int .i64 op,.int .i64 width,.int .u64 val,.string name,.slice A2 0 c2] 56))
 clear x4
 generalize w2.alloc (.cells #[.int .i64 op,.int .i64 width,.int .u64 val,.string name,.slice A2 0 c2] 56)=w3 at *
 go_loopw [16] (fun s wr=>s=.int .i64 0∧wr=w3) (fun _ _=>0)
 case atStart=>exact ⟨rfl,rfl⟩
 case round =>
  obtain ⟨rfl,rfl⟩:=hrel
  have hx:=blk_cell HBX.out
  have x0:wr.cell? ⟨w2.heap.size,0,none⟩=some (.int .i64 op):=(hx 0).trans rfl
  have x1:wr.cell? ⟨w2.heap.size,1,none⟩=some (.int .i64 width):=(hx 1).trans rfl
  have x2:wr.cell? ⟨w2.heap.size,2,none⟩=some (.int .u64 val):=(hx 2).trans rfl
  have x3:wr.cell? ⟨w2.heap.size,3,none⟩=some (.string name):=(hx 3).trans rfl
  have x4:wr.cell? ⟨w2.heap.size,4,none⟩=some (.slice A2 0 c2):=(hx 4).trans rfl
  clear hx
  go_wp2_with fail
  refine (HL.out wr HB3.out A2 c2).mono ?_
  rintro e w5 ⟨rfl,hb5⟩
  have HB5:=Lib.hid (HB3.out.trans (hb5.mono HB3.out.size))
  clear hb5
  go_wp2_with fail
  go_ret2
  exact ⟨rfl,HB5.out⟩
def leafT (op width:Int) (val:Nat) (name:ByteArray):S35:=⟨op,width,val,name,[]⟩
theorem tin_nil (w:World) (o:Own) (k:Nat) (A:Option Addr):TIn w o k A []:=by
 cases k with
 | zero=>rfl
 | succ k=>exact ⟨by simp,fun i x hx=>by simp at hx⟩
set_option maxHeartbeats 6400000 in
set_option maxRecDepth 20000 in
theorem find_leaf {B b g:Nat} {w:World} {o:Own} {S:St} (G:Gl B w o) (H:GraphAt b w o g S) (hS:Fine S) (op width:Int) (val:Nat) (name:ByteArray) (hn:Nd.Ok ⟨op,width,val,name,[]⟩) (hck:checkF 7 (leafT op width val name)=0) (A:Option Addr) (c:Nat) (id:Int) (hid:S.tab (keyStr ⟨op,width,val,name,[]⟩)=some id) :
  Calls Tryz.prog 20 #[.pointer (some ⟨g,0,none⟩),.agg #[.int .i64 op,.int .i64 width,.int .u64 val,.string name,.slice A 0 c]] w fun e w'=>e=.returned (.tuple #[.int .i64 (fnd S.p id),.bool true])∧Below w.heap.size w w':=by
 have HL:=Lib.hid (fun wr (hb:Below w.heap.size w wr)=>look_leaf (G.on hb) (H.zero hb) hS op width val name hn A c id hid)
 have hb1:=below_alloc (Below.refl w.heap.size w) (.cells #[.int .i64 op,.int .i64 width,.int .u64 val,.string name,.slice A 0 c] 35)
 have hcc:=check_calls (o:=o) 6 (leafT op width val name) A c (w.alloc (.cells #[.int .i64 op,.int .i64 width,.int .u64 val,.string name,.slice A 0 c] 35)) (tin_nil _ _ _ _) (by omega) (Nat.zero_le _) (by show 1+0≤1000;omega)
 rw [hck]at hcc
 have HCC:=Lib.hid hcc
 have HX:=Lib.hid (blk_new w (.cells #[.int .i64 op,.int .i64 width,.int .u64 val,.string name,.slice A 0 c] 35))
 have HB1:=Lib.hid hb1
 clear G H hS hn hid hb1 hck hcc
 simp only [tcells,leafT,List.length_nil]at HCC
 go_enter Tryz.func20,Tryz.ntmps20
 go_wp2_with fail
 refine HCC.out.mono ?_
 rintro e w2 ⟨rfl,hb2⟩
 have HB2:=Lib.hid (HB1.out.trans (hb2.mono HB1.out.size))
 have hx:=blk_cell (blk_below HX.out hb2)
 have x0:w2.cell? ⟨w.heap.size,0,none⟩=some (.int .i64 op):=(hx 0).trans rfl
 have x1:w2.cell? ⟨w.heap.size,1,none⟩=some (.int .i64 width):=(hx 1).trans rfl
 have x2:w2.cell? ⟨w.heap.size,2,none⟩=some (.int .u64 val):=(hx 2).trans rfl
 have x3:w2.cell? ⟨w.heap.size,3,none⟩=some (.string name):=(hx 3).trans rfl
 have x4:w2.cell? ⟨w.heap.size,4,none⟩=some (.slice A 0 c):=(hx 4).trans rfl
 clear hx hb2 HCC
 go_wp2_with fail
 refine (HL.out w2 HB2.out).mono ?_
 rintro e w5 ⟨rfl,hb5⟩
 have HB5:=Lib.hid (HB2.out.trans (hb5.mono HB2.out.size))
 clear hb5
 go_wp2_with fail
 go_ret2
 exact ⟨rfl,HB5.out⟩
end Go.Proofs.YtjckhhecnebmmaaGreatDoor.TU
end
