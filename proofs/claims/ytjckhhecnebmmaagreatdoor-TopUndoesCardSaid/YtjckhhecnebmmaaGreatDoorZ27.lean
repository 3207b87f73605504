/- Steps towards the law TopUndoes; words printed by the kit, and printed texts, are cut to what is used, and spaces are left out. No condition. -/
import Derived.Test.YtjckhhecnebmmaaGreatDoorZ21
import Derived.StillTailTactics
set_option linter.unusedVariables false
set_option linter.unusedSimpArgs false
section
namespace Go.Proofs.YtjckhhecnebmmaaGreatDoor.TU
open Go.RowKit Go.Proofs.YtjckhhecnebmmaaGreatDoorW.PrintWords Go.Proofs.YtjckhhecnebmmaaGreatDoorW.PrintLast Go.Proofs.YtjckhhecnebmmaaGreatDoorW.PrintMore Go.Proofs.YtjckhhecnebmmaaGreatDoor.QAll
attribute [local go_sem] max2_int min2_int max_two min_two max_three min_three max_four min_four
set_option linter.unusedVariables false
def useCut (us:List (List Int)) (id:Int) (a:Int):List (List Int):=if (us.getD a.toNat []).length≠0∧(us.getD a.toNat []).getLastD 0=id then us.set a.toNat (us.getD a.toNat []).dropLast else us
def cutAll (us:List (List Int)) (id:Int) (args:List Int):List (List Int):=args.foldl (fun us a=>useCut us id a) us
theorem useCut_length (us:List (List Int)) (id a:Int):(useCut us id a).length=us.length:=by unfold useCut;split <;> simp
theorem cutAll_length (id:Int):∀ (args:List Int) (us:List (List Int)),(cutAll us id args).length=us.length:=by
 intro args
 induction args with
 | nil=>intro us;rfl
 | cons a l ih=>intro us;show (cutAll (useCut us id a) id l).length=_;rw [ih,useCut_length]
theorem cutAll_snoc (us:List (List Int)) (id a:Int) (l:List Int):cutAll us id (l++[a])=useCut (cutAll us id l) id a:=by unfold cutAll;rw [List.foldl_append];rfl
theorem useCut_bound (id a:Int) (M:Nat) (us:List (List Int)) (h:∀ u∈us,u.length≤M):∀ u∈useCut us id a,u.length≤M:=by
 intro u hu
 unfold useCut at hu
 split at hu
 ·rcases List.mem_or_eq_of_mem_set hu with h1 | h1
  ·exact h u h1
  ·rw [h1,List.length_dropLast,List.getD_eq_getElem?_getD]
   cases he:us[a.toNat]? with
   | none=>simp
   | some v=>have:=h v (List.mem_of_getElem? he);simp;omega
 ·exact h u hu
theorem cutAll_bound (id:Int) (M:Nat):∀ (args:List Int) (us:List (List Int)),(∀ u∈us,u.length≤M)→∀ u∈cutAll us id args,u.length≤M:=by
 intro args
 induction args with
 | nil=>intro us h u hu;exact h u hu
 | cons a l ih=>intro us h u hu;exact ih (useCut us id a) (useCut_bound id a M us h) u hu
open Classical in
noncomputable def dropVs (F:Lit→Option Value) (n:Nd):Lit→Option Value:=if n.op=1 then updF F (lits_ n.name) none else F
def dr1 (S:St) (n:Nd):St:={ S with ex:=delT S.ex (keyStr n) }
noncomputable def dr2 (S:St) (n:Nd):St:={ dr1 S n with vs:=dropVs S.vs n }
noncomputable def dr3 (S:St) (n:Nd) (m:Nat):St:={ dr2 S n with us:=cutAll S.us m n.args }
noncomputable def dr4 (S:St) (n:Nd) (m:Nat):St:={ dr3 S n m with ns:=S.ns.take m }
noncomputable def dr5 (S:St) (n:Nd) (m:Nat):St:={ dr4 S n m with ks:=S.ks.take m }
noncomputable def dropS (S:St) (m:Nat):St:={ dr5 S (S.ns.getD m zNd) m with us:=(cutAll S.us m (S.ns.getD m zNd).args).take m }
theorem NodesRow.take {w:World} {o:Own} {t n c m:Nat} {A:Option Addr} {ns:List Nd} (h:NodesRow w o t (.slice A n c) ns) (hm:m≤ns.length):NodesRow w o t (.slice A m c) (ns.take m):=by
 obtain ⟨rs,h1,rfl,h3⟩:=h
 rw [List.length_map]at hm
 exact ⟨rs.take m,h1.take hm,by rw [List.map_take],fun r hr=>h3 r (List.mem_of_mem_take hr)⟩
theorem UsersRow.take {w:World} {o:Own} {t n c m:Nat} {A:Option Addr} {us:List (List Int)} (h:UsersRow w o t (.slice A n c) us) (hm:m≤us.length):UsersRow w o t (.slice A m c) (us.take m):=by
 obtain ⟨rs,h1,h2,h3,h4⟩:=h
 have up:∀ {α:Type} {l:List α} {i:Nat} {x:α},(l.take m)[i]?=some x→l[i]?=some x:=by
  intro α l i x h
  rw [List.getElem?_take]at h
  split at h
  ·exact h
  ·cases h
 exact ⟨rs.take m,h1.take (by omega),by rw [List.length_take,List.length_take,h2],fun i r u hi hu=>h3 i r u (up hi) (up hu),fun i j r r' q hi hj=>h4 i j r r' q (up hi) (up hj)⟩
structure DAt (B b cb nb:Nat) (w:World) (o:Own) (n:Nd) (va:Value) (wx:World) (o1:Own) (C:Cl) (T:St):Prop where
 core:CoreAt b wx o1 cb C T
 fr:Fr (CoreM b) w o wx o1
 box:Blk wx o1 0 nb (n.cells va) 56
 imm:Imm wx o1 va n.args
 gl:Gl B wx o1
theorem DAt.next {B b cb nb:Nat} {w wx w2:World} {o o1 o2:Own} {n:Nd} {va:Value} {C C2:Cl} {T T2:St} (h:DAt B b cb nb w o n va wx o1 C T) (hc:CoreAt b w2 o2 cb C2 T2) (f:Fr (CoreM b) wx o1 w2 o2):DAt B b cb nb w o n va w2 o2 C2 T2 :=
 ⟨hc,h.fr.trans f,h.box.fr f.kp (by unfold CoreM;omega),h.imm.fr f.kp (by unfold CoreM;omega),h.gl.fr f (by unfold CoreM;omega)⟩
theorem DAt.below {B b cb nb:Nat} {w wx w2:World} {o o1:Own} {n:Nd} {va:Value} {C:Cl} {T:St} (h:DAt B b cb nb w o n va wx o1 C T) (hb:Below wx.heap.size wx w2):DAt B b cb nb w o n va w2 (o1.from_ wx.heap.size 0) C T :=
 h.next (h.core.below hb) (Fr.of_below hb 0 (.inl rfl))
theorem DAt.store {B b cb nb:Nat} {w wx:World} {o o1:Own} {n:Nd} {va:Value} {C C2:Cl} {T T2:St} {a:Addr} {u:Value} (h:DAt B b cb nb w o n va wx o1 C T) (hM:CoreM b (o1 a.block)) (hl:a.block < wx.heap.size) (hc:CoreAt b (wx.setCell a u) o1 cb C2 T2):DAt B b cb nb w o n va (wx.setCell a u) (o1.from_ wx.heap.size 0) C2 T2:=by
 have hz:(wx.setCell a u).heap.size=wx.heap.size:=by simp [World.setCell]
 exact h.next (hc.fr (M:=fun _=>False) ⟨Nat.le_refl _,fun k hk=>Own.from_lt (hz ▸ hk),fun _ _ _=>rfl⟩ (fun _ _ h=>h) (fun h=>h)) ((Fr.start (CoreM b) wx o1 0 (.inl rfl)).setCell _ _ (.inl (by rw [Own.from_lt hl];exact hM)))
structure DropOk (S:St) (m:Nat) (n:Nd):Prop where
 len:S.ns.length=m+1
 hk:S.ks.length=m+1
 hu:S.us.length=m+1
 few:m≤600
 at_:S.ns.getD m zNd=n
 ok:n.Ok
 hin:∀ a∈n.args,0≤a∧a < m+1
 ul:∀ u∈S.us,u.length≤600
def DropPost (b cb:Nat) (w:World) (o:Own) (S':St) (e:Ending) (w':World):Prop:=∃ o' C',e=.returned (.tuple #[])∧CoreAt b w' o' cb C' S'∧Fr (CoreM b) w o w' o'
noncomputable def drU (S:St) (n:Nd) (m k:Nat):St:={ dr2 S n with us:=cutAll S.us m (n.args.take k) }
set_option maxHeartbeats 6400000 in
set_option maxRecDepth 20000 in
theorem drop_calls {B b cb m:Nat} {w:World} {o:Own} {C:Cl} {S:St} (G:Gl B w o) (H:CoreAt b w o cb C S) (n:Nd) (D:DropOk S m n) :
  Calls Tryz.prog 43 #[.pointer (some ⟨cb,0,none⟩),.int .i64 m] w (DropPost b cb w o (dropS S m)):=by
 obtain ⟨An,cn,hvn⟩:=H.nodes.slice
 obtain ⟨bn,va,nd,hAn,hgn,hgd,_,a0,a1,a2,a3,a4,hIm,_⟩:=NodesRow.at (show NodesRow w o (b+5) (.slice An S.ns.length cn) S.ns from hvn ▸ H.nodes) (m:Int) (by omega) (by have:=D.len;omega)
 subst hAn
 obtain rfl:nd=n:=by rw [← hgd,← D.at_,Int.toNat_natCast];rfl
 obtain ⟨A,c,rfl,_⟩:=id hIm
 have c1:=H.at1
 rw [hvn,D.len]at c1
 have few:=D.few
 rw [Int.toNat_natCast]at a0 a1 a2 a3 a4
 have HH:=Lib.hid H
 have HG:=Lib.hid G
 have HD:=Lib.hid D
 have HI:=Lib.hid hIm
 clear H G D hIm hvn hgn hgd
 go_enter Tryz.func43,Tryz.ntmps43
 go_upto_region 0 with fail
 go_cut [4] (fun s4 wx=>s4=.pointer (some ⟨w.heap.size,0,none⟩)∧Hid (∃ o1,DAt B b cb w.heap.size w o nd (.slice A nd.args.length c) wx o1 C S))
 case first =>
  go_wp2_with fail
  go_meet
  have hb:=below_alloc (Below.refl w.heap.size w) (.cells (nd.cells (.slice A nd.args.length c)) 56)
  exact ⟨rfl,o.from_ w.heap.size 0,HH.out.below hb,Fr.of_below hb 0 (.inl rfl),⟨blk_new _ _,Own.from_ge (Nat.le_refl _)⟩,HI.out.fr (((Kp.refl (fun _=>False) w o).renew 0).below hb) (fun h=>h),HG.out.on hb⟩
 case rest =>
  obtain ⟨rfl,o1,D0⟩:=hcut
  have hdel:=del_calls (B:=B) (D0.below (Below.refl _ _).drew).core.exact nd (.slice A nd.args.length c) (D0.below (Below.refl _ _).drew).imm.held HD.out.ok (D0.below (Below.refl _ _).drew).gl.tab (D0.below (Below.refl _ _).drew).gl.le
  have g4:=D0.core.at4
  have x0:wc.cell? ⟨w.heap.size,0,none⟩=some (.int .i64 nd.op):=(blk_cell D0.box.1 0).trans rfl
  have x1:wc.cell? ⟨w.heap.size,1,none⟩=some (.int .i64 nd.width):=(blk_cell D0.box.1 1).trans rfl
  have x2:wc.cell? ⟨w.heap.size,2,none⟩=some (.int .u64 nd.val):=(blk_cell D0.box.1 2).trans rfl
  have x3:wc.cell? ⟨w.heap.size,3,none⟩=some (.string nd.name):=(blk_cell D0.box.1 3).trans rfl
  have x4:wc.cell? ⟨w.heap.size,4,none⟩=some (.slice A nd.args.length c):=(blk_cell D0.box.1 4).trans rfl
  have LIMB:=Lib.hid (fun wr (hb:Below wc.heap.size wc wr)=>show wr.cell? ⟨cb,4,none⟩=some (.pointer (some ⟨C.eg,0,none⟩))∧wr.cell? ⟨w.heap.size,0,none⟩=some (.int .i64 nd.op)∧wr.cell? ⟨w.heap.size,1,none⟩=some (.int .i64 nd.width)∧wr.cell? ⟨w.heap.size,2,none⟩=some (.int .u64 nd.val)∧wr.cell? ⟨w.heap.size,3,none⟩=some (.string nd.name)∧wr.cell? ⟨w.heap.size,4,none⟩=some (.slice A nd.args.length c)from ⟨pw_cell_below hb g4,pw_cell_below hb x0,pw_cell_below hb x1,pw_cell_below hb x2,pw_cell_below hb x3,pw_cell_below hb x4⟩)
  have HA:=Lib.hid (D0.below (Below.refl _ _).drew)
  have HDEL:=Lib.hid hdel
  have HOC:=Lib.hid (show ¬ TabM (b+9) ((o1.from_ wc.heap.size 0) cb) by rw [Own.from_lt (blk_lt D0.core.blk.1),D0.core.blk.2];unfold TabM;omega)
  have HOO:=Lib.hid (show ¬ TabM (b+9) ((o1.from_ wc.heap.size 0) w.heap.size) by rw [Own.from_lt (blk_lt D0.box.1),D0.box.2];unfold TabM;omega)
  obtain ⟨q0,q1,q2,q3,q4,q5⟩:=LIMB.out wc.drew (Below.refl _ _).drew
  clear D0 hdel x0 x1 x2 x3 x4 g4
  simp only [Nd.cells]at HDEL
  go_upto_region 1 with fail
  go_cut [] (fun wy=>Hid (∃ o2 C2,DAt B b cb w.heap.size w o nd (.slice A nd.args.length c) wy o2 C2 (dr1 S nd)))
  case first =>
   go_region_held3 (fun wr=>wr.cell? ⟨cb,4,none⟩=some (.pointer (some ⟨C.eg,0,none⟩))∧wr.cell? ⟨w.heap.size,0,none⟩=some (.int .i64 nd.op)∧wr.cell? ⟨w.heap.size,1,none⟩=some (.int .i64 nd.width)∧wr.cell? ⟨w.heap.size,2,none⟩=some (.int .u64 nd.val)∧wr.cell? ⟨w.heap.size,3,none⟩=some (.string nd.name)∧wr.cell? ⟨w.heap.size,4,none⟩=some (.slice A nd.args.length c))
    ((first | (refine ⟨?_,?_,?_,?_,?_,?_⟩ <;> assumption) | fail))
    ((go_at_call 62;refine HDEL.out.mono ?_;rintro e w3 ⟨o3,rfl,hT3,hF3⟩;have k5:=hF3.kp.cell q0 HOC.out;have k0:=hF3.kp.cell q1 HOO.out;have k1:=hF3.kp.cell q2 HOO.out;have k2:=hF3.kp.cell q3 HOO.out;have k3:=hF3.kp.cell q4 HOO.out;have k4:=hF3.kp.cell q5 HOO.out;have HT3:=Lib.hid hT3;have HF3:=Lib.hid hF3;clear hT3 hF3))
   go_wp2_with fail
   go_meet
   exact ⟨_,_,HA.out.next (HA.out.core.onExact HF3.out.kp (Nat.le_refl _) HT3.out) (HF3.out.mono (fun _ h=>tab9_core h))⟩
  case rest =>
   clear q0 q1 q2 q3 q4 q5 LIMB HDEL HOC HOO HA c1 HH HG a0 a1 a2 a3 a4
   obtain ⟨o2,C2,D2⟩:=hcut
   refine (‹∀ (a:Act) (w:World),Code.wp _ _ _ a w→_›) _ _ ?_
   refine wp_seq_k ?_
   intro K2 hK2
   go_cut [] (fun wy=>Hid (∃ o2 C2,DAt B b cb w.heap.size w o nd (.slice A nd.args.length c) wy o2 C2 (dr2 S nd)))
   case first =>
    have x0:wc.cell? ⟨w.heap.size,0,none⟩=some (.int .i64 nd.op):=(blk_cell D2.box.1 0).trans rfl
    by_cases hop:nd.op=1
    ·have hvs:dr2 S nd={ dr1 S nd with vs:=updF S.vs (lits_ nd.name) none }:=by unfold dr2 dropVs;rw [if_pos hop]
     have hD:=D2.below (Below.refl _ _).drew
     obtain ⟨w3,hru,hG3,hgr3⟩:=GMap.drop (Go.Maps.string_keyed Tryz.underlying9) Tryz.underlying62 (Go.WideMaps.keyOf_string_mk Tryz.underlying9 (by have:=HD.out.ok.name;have:maxLen=9223372036854775807:=rfl;omega:nd.name.size≤maxLen)) hD.core.vars 0
     have hgm:some w.heap.size≠some C2.mv:=by
      intro e
      have h1:=hD.box.2
      have h2:=hD.core.omv
      rw [← Option.some.inj e]at h2
      rw [h1]at h2
      omega
     have hcm:some cb≠some C2.mv:=by
      intro e
      have h1:=hD.core.blk.2
      have h2:=hD.core.omv
      rw [← Option.some.inj e]at h2
      rw [h1]at h2
      omega
     have q7:wc.drew.cell? ⟨cb,7,none⟩=some (.map (some C2.mv)):=hD.core.at7
     have q3:wc.drew.cell? ⟨w.heap.size,3,none⟩=some (.string nd.name):=(blk_cell hD.box.1 3).trans rfl
     have k7:=hgr3.cell q7 hcm
     have k3:=hgr3.cell q3 hgm
     have HA:=Lib.hid hD
     have HVS:=Lib.hid hvs
     have HG3:=Lib.hid hG3
     have HGR:=Lib.hid hgr3
     have hopb:(nd.op == 1)=true:=by simpa using hop
     clear D2 hD hvs hG3 hgr3 hgm hcm hop
     go_wp2_with fail
     go_region_held3 (fun wr=>wr.cell? ⟨cb,7,none⟩=some (.map (some C2.mv))∧wr.cell? ⟨w.heap.size,3,none⟩=some (.string nd.name))
      ((first | (refine ⟨?_,?_⟩ <;> assumption) | fail))
      (fail)
     go_wp2_with fail
     go_meet
     have hcore:=HA.out.core.onVars HGR.out (Nat.le_refl _) HG3.out
     have hlit:(Lit.string nd.name.data.toList)=lits_ nd.name:=rfl
     rw [hlit]at hcore
     have hfr:Fr (CoreM b) wc.drew (o2.from_ wc.heap.size 0) w3 (o2.from_ wc.heap.size 0):=by
      refine ⟨HGR.out.os,HGR.out.tape,HGR.out.output,HGR.out.size,fun _ _=>rfl,fun k hk hm=>HGR.out.block k hk (fun e=>hm ?_),fun k hk=>.inl (Own.from_ge hk)⟩
      rw [Option.some.inj e,HA.out.core.omv]
      unfold CoreM
      omega
     have hA3:=HA.out.next hcore hfr
     rw [HVS.out]
     exact ⟨_,_,hA3⟩
    ·have hvs:dr2 S nd=dr1 S nd:=by unfold dr2 dropVs;rw [if_neg hop];rfl
     have HA:=Lib.hid D2
     have HVS:=Lib.hid hvs
     have hopb:(nd.op == 1)=false:=by simpa using hop
     clear D2 hvs hop
     go_wp2_with fail
     go_meet
     rw [HVS.out]
     exact ⟨_,_,HA.out⟩
   case rest =>
    obtain ⟨o3,C3,D3⟩:=hcut
    refine hK2 _ _ ?_
    clear hK2 HI
    refine wp_seq_k ?_
    intro K3 hK3
    have hb0:(m:Int) < 601:=by have:=HD.out.few;omega
    obtain ⟨Av,cv,hv⟩:=D3.core.users.slice
    have HV:=Lib.hid (show C3.vu=.slice Av (m+1) cv by rw [hv];show Value.slice Av S.us.length cv=_;rw [HD.out.hu])
    have x4:wc.cell? ⟨w.heap.size,4,none⟩=some (.slice A nd.args.length c):=(blk_cell D3.box.1 4).trans rfl
    have hargs:=HD.out.ok.few
    have H0:=Lib.hid (show ∃ o2,DAt B b cb w.heap.size w o nd (.slice A nd.args.length c) wc o2 C3 (drU S nd m 0)from ⟨o3,D3⟩)
    clear D3 hv
    go_cut [] (fun wy=>Hid (∃ o2 C2,DAt B b cb w.heap.size w o nd (.slice A nd.args.length c) wy o2 C2 (dr3 S nd m)))
    case first =>
     go_wp2_with fail
     go_loopw [33] (fun i wr=>∃ k:Nat,k≤nd.args.length∧i=.int .i64 k∧Hid (∃ o2,DAt B b cb w.heap.size w o nd (.slice A nd.args.length c) wr o2 C3 (drU S nd m k))) (fun i _=>nd.args.length - (intOf i).toNat)
     case atStart=>exact ⟨0,Nat.zero_le _,rfl,H0⟩
     case round =>
      obtain ⟨k,hk,rfl,⟨o4,hA⟩⟩:=hrel
      have HA:=Lib.hid hA
      clear hA H0 x4
      by_cases hlt:k < nd.args.length
      ·have hmem:nd.args.getD k 0∈nd.args:=by rw [List.getD_eq_getElem?_getD,List.getElem?_eq_getElem hlt];exact List.getElem_mem hlt
       have hin:=HD.out.hin _ hmem
       have HTK:=Lib.hid (show cutAll S.us m (nd.args.take (k+1))=useCut (cutAll S.us m (nd.args.take k)) m (nd.args.getD k 0) by
        rw [List.take_succ_eq_append_getElem hlt,cutAll_snoc]
        simp [List.getD_eq_getElem?_getD,List.getElem?_eq_getElem hlt])
       obtain ⟨Aq,cq,hq1,_,hC,_⟩:=HA.out.imm
       injection hq1 with hq2 hq3 hq4
       subst hq2
       obtain ⟨ad,rfl,hca⟩:=C_int_at hC k hlt
       have hur:=HA.out.core.users
       rw [HV.out]at hur
       have hul:(drU S nd m k).us.length=m+1:=by show (cutAll S.us m (nd.args.take k)).length=_;rw [cutAll_length];exact HD.out.hu
       obtain ⟨bl,r,u,hAv,hgu,hob7,hcu,hfz,hru⟩:=hur.at (nd.args.getD k 0) hin.1 (by rw [hul];omega)
       subst hAv
       obtain ⟨Ar,nr,cr⟩:=r
       have hvr:SL.v ⟨Ar,nr,cr⟩=.slice Ar nr cr:=rfl
       rw [hvr]at hcu hru
       obtain ⟨Ax,cx,hx⟩:=hru.slice
       injection hx with hx1 hx2 hx3
       subst hx2
       have c3:wr.cell? ⟨cb,3,none⟩=some (.slice (some ⟨bl,0,none⟩) (m+1) cv):=by rw [← HV.out];exact HA.out.core.at3
       have HUS:=Lib.hid (show (cutAll S.us m (nd.args.take k)).getD (nd.args.getD k 0).toNat []=u by
        have h:(cutAll S.us m (nd.args.take k))[(nd.args.getD k 0).toNat]?=some u:=hgu
        rw [List.getD_eq_getElem?_getD,h];rfl)
       have HUR:=Lib.hid hur
       have HOB7:=Lib.hid hob7
       have HRU:=Lib.hid hru
       have HUL:=Lib.hid hul
       have i0:=hin.1
       have i1:nd.args.getD k 0 < (m:Int)+1:=hin.2
       have hub:u.length≤600:=cutAll_bound m 600 (nd.args.take k) S.us HD.out.ul u (List.mem_of_getElem? hgu)
       clear hmem hin hgu hur hru hx1 hx3 hul hob7 hC hq3 hq4
       generalize nd.args.getD k 0=a at *
       have hcap:=(Kd.R_reads' HRU.out).2.1
       rcases List.eq_nil_or_concat u with hy | ⟨us',y,hy⟩
       ·subst hy
        have hst:drU S nd m (k+1)=drU S nd m k:=by
         unfold drU
         rw [HTK.out]
         unfold useCut
         rw [HUS.out,if_neg (by simp)]
        have HST:=Lib.hid hst
        clear hst
        go_wp2_with fail
        go_roundw
        case rel=>exact ⟨k+1,by omega,by go_num,⟨o4,by rw [HST.out];exact HA.out⟩⟩
        case measure=>first | (simp [intOf];done) | (simp [intOf];omega)
       ·rw [List.concat_eq_append]at hy
        have hlu:u.length=us'.length+1:=by rw [hy];simp
        have hrow:=HRU.out
        obtain ⟨br,cc,hv2,_,_,_⟩:=Kd.R_form hrow (by omega)
        injection hv2 with hv21 hv22 hv23
        subst hv21
        obtain ⟨hcy,_⟩:=Kd.R_celln 0 hrow (us'.length:Int) (by omega) (by omega)
        have e0:rdOf (0:Int) u (us'.length:Int)=y:=by unfold rdOf;rw [hy,Int.toNat_natCast];simp
        rw [e0,Int.toNat_natCast]at hcy
        have hul6:us'.length < 2000:=by omega
        have HROW:=Lib.hid (show Row (Kd.int .i64) 3 wr o4 (b+8) (.slice (some ⟨br,0,none⟩) us'.length cr) us' by
         have h:=Row.take hrow (m:=us'.length) (by omega)
         rw [hy,List.take_left' rfl]at h
         exact h)
        have HLAST:=Lib.hid (show u.getLastD 0=y by rw [hy];simp [List.getLastD_eq_getLast?])
        have HDL:=Lib.hid (show u.dropLast=us' by rw [hy];simp)
        have HLU:=Lib.hid hlu
        clear hrow hv22 hv23 e0 hy
        rw [hlu]at hcu hcap
        have hg1:((us'.length:Int)+1 > 0):=by omega
        have hw64:IntKind.i64.wrap (us'.length:Int)=us'.length:=IntWalk.i64_in _ (by omega)
        have hw0:(0:Int)≤us'.length:=by omega
        have hw1:(us'.length:Int) < us'.length+1:=by omega
        have hw2:(us'.length:Int)≤cr:=by omega
        by_cases hym:y=m
        ·have hst:drU S nd m (k+1)={ drU S nd m k with us:=(cutAll S.us m (nd.args.take k)).set a.toNat us' }:=by
          unfold drU
          rw [HTK.out]
          unfold useCut
          rw [HUS.out,if_pos ⟨by have:=HLU.out;omega,by rw [HLAST.out,hym]⟩,HDL.out]
         have HST:=Lib.hid hst
         have hyb:(y == (m:Int))=true:=by simpa using hym
         clear hst hym hlu
         go_upto_region 9 with fail
         go_still_tail 11,(by kernel_rfl)
         change wpList _ _ _ _ _ wr.drew
         obtain ⟨hus,hbl5⟩:=UsersRow.put (w5:=wr) (o5:=o4) (us:=cutAll S.us m (nd.args.take k)) (a:=a.toNat) HUR.out (by have h1:(cutAll S.us m (nd.args.take k)).length=m+1:=HUL.out;omega) ⟨_,us'.length+1,cr⟩ ⟨some ⟨br,0,none⟩,us'.length,cr⟩ us' hcu HROW.out (Kp.refl _ _ _) (World.grownBy.refl wr _) (.inl rfl)
         have kpu:Kp (fun x=>x=b+7∨x=b+8) wr o4 (wr.setCell ⟨bl,a.toNat,none⟩ (.slice (some ⟨br,0,none⟩) us'.length cr)) o4:=(Kp.refl _ wr o4).setCell _ _ (.inl (.inl hbl5))
         have hcore:=HA.out.core.inUsers kpu (by rw [HV.out];exact hus)
         have hA2:=HA.out.store (a:=⟨bl,a.toNat,none⟩) (by show CoreM b (o4 bl);rw [hbl5];unfold CoreM;omega) (cell_lt hcu) hcore
         have HA2:=Lib.hid (hA2.below (Below.refl _ _).drew)
         clear hus hbl5 kpu hcore hA2
         go_wp2_with fail
         go_roundw
         case rel=>exact ⟨k+1,by omega,by go_num,⟨_,by rw [HST.out];exact HA2.out⟩⟩
         case measure=>first | (simp [intOf];done) | (simp [intOf];omega)
        ·have hst:drU S nd m (k+1)=drU S nd m k:=by
          unfold drU
          rw [HTK.out]
          unfold useCut
          rw [HUS.out,if_neg (fun h=>hym (by rw [← HLAST.out];exact h.2))]
         have HST:=Lib.hid hst
         have hyb:(y == (m:Int))=false:=by simpa using hym
         clear hst hym hlu
         go_wp2_with fail
         go_roundw
         case rel=>exact ⟨k+1,by omega,by go_num,⟨o4,by rw [HST.out];exact HA.out⟩⟩
         case measure=>first | (simp [intOf];done) | (simp [intOf];omega)
      ·have hkl:k=nd.args.length:=by omega
       subst hkl
       have hst:drU S nd m nd.args.length=dr3 S nd m:=by unfold drU;rw [List.take_length];rfl
       have HST:=Lib.hid hst
       clear hst
       go_wp2_with fail
       go_meet
       rw [HST.out]at HA
       exact ⟨o4,C3,HA.out⟩
    case rest =>
     obtain ⟨o4,C4,D4⟩:=hcut
     refine hK3 _ _ ?_
     clear hK3 H0 x4
     obtain ⟨A1,k1,e1⟩:=D4.core.nodes.slice
     have hln:S.ns.length=m+1:=HD.out.len
     have e2:C4.vn=.slice A1 (m+1) k1:=by rw [e1];show Value.slice A1 S.ns.length k1=_;rw [hln]
     have d1:=D4.core.at1
     rw [e2]at d1
     have hrow:=D4.core.nodes
     rw [e2]at hrow
     have hcap:m+1≤k1:=by obtain ⟨rs,h1,_⟩:=hrow;exact (Kd.R_reads' h1).2.1
     have htk:=hrow.take (m:=m) (by show m≤S.ns.length;rw [hln];omega)
     have hcore:=D4.core.onNodes ((Kp.refl (·=b+5) wc o4)) htk
     have hob:=D4.core.blk.2
     have hgl:=blk_lt D4.core.blk.1
     have hA2:=D4.store (a:=⟨cb,1,none⟩) (by show CoreM b (o4 cb);rw [hob];unfold CoreM;omega) hgl hcore
     have hfz:=blk_frozen D4.core.blk.1 1
     have HA2:=Lib.hid hA2
     have hw0:(0:Int)≤m:=by omega
     have hw2:(m:Int)≤k1:=by omega
     clear D4 e1 e2 hrow htk hcore hob hgl hA2 hln hcap
     go_upto_region 11 with fail
     go_cut [] (fun wy=>Hid (∃ o2 C2,DAt B b cb w.heap.size w o nd (.slice A nd.args.length c) wy o2 C2 (dr4 S nd m)))
     case first =>
      go_wp2_with fail
      go_meet
      exact ⟨_,_,HA2.out⟩
     case rest =>
      clear HA2 d1 hw0 hw2 hfz
      obtain ⟨o4,C4,D4⟩:=hcut
      obtain ⟨A1,k1,e1⟩:=D4.core.keys.slice
      have hln:S.ks.length=m+1:=HD.out.hk
      have e2:C4.vk=.slice A1 (m+1) k1:=by rw [e1];show Value.slice A1 S.ks.length k1=_;rw [hln]
      have d1:=D4.core.at2
      rw [e2]at d1
      have hrow:=D4.core.keys
      rw [e2]at hrow
      have hcap:m+1≤k1:=by obtain ⟨rs,h1,_⟩:=hrow;exact (Kd.R_reads' h1).2.1
      have htk:=hrow.take (m:=m) (by show m≤S.ks.length;rw [hln];omega)
      have hcore:=D4.core.onKeys ((Kp.refl (·=b+6) wc o4)) htk
      have hob:=D4.core.blk.2
      have hgl:=blk_lt D4.core.blk.1
      have hA2:=D4.store (a:=⟨cb,2,none⟩) (by show CoreM b (o4 cb);rw [hob];unfold CoreM;omega) hgl hcore
      have hfz:=blk_frozen D4.core.blk.1 2
      have HA2:=Lib.hid hA2
      have hw0:(0:Int)≤m:=by omega
      have hw2:(m:Int)≤k1:=by omega
      clear D4 e1 e2 hrow htk hcore hob hgl hA2 hln hcap
      go_upto_region 12 with fail
      go_cut [] (fun wy=>Hid (∃ o2 C2,DAt B b cb w.heap.size w o nd (.slice A nd.args.length c) wy o2 C2 (dr5 S nd m)))
      case first =>
       go_wp2_with fail
       go_meet
       exact ⟨_,_,HA2.out⟩
      case rest =>
       clear HA2 d1 hw0 hw2 hfz
       obtain ⟨o4,C4,D4⟩:=hcut
       obtain ⟨A1,k1,e1⟩:=D4.core.users.slice
       have hln:S.us.length=m+1:=HD.out.hu
       have e2:C4.vu=.slice A1 (m+1) k1:=by rw [e1];show Value.slice A1 (cutAll S.us m nd.args).length k1=_;rw [cutAll_length,hln]
       have d1:=D4.core.at3
       rw [e2]at d1
       have hrow:=D4.core.users
       rw [e2]at hrow
       have hcap:m+1≤k1:=by obtain ⟨rs,h1,_⟩:=hrow;exact (Kd.R_reads' h1).2.1
       have htk:=hrow.take (m:=m) (by show m≤(cutAll S.us m nd.args).length;rw [cutAll_length,hln];omega)
       have hcore:=D4.core.onUsers ((Kp.refl (·=b+7) wc o4)) htk
       have hob:=D4.core.blk.2
       have hgl:=blk_lt D4.core.blk.1
       have hA2:=D4.store (a:=⟨cb,3,none⟩) (by show CoreM b (o4 cb);rw [hob];unfold CoreM;omega) hgl hcore
       have hfz:=blk_frozen D4.core.blk.1 3
       have HA2:=Lib.hid hA2
       have hw0:(0:Int)≤m:=by omega
       have hw2:(m:Int)≤k1:=by omega
       clear D4 e1 e2 hrow htk hcore hob hgl hA2 hln hcap
       go_wp2_with fail
       go_end0
       have hfin:({ dr5 S nd m with us:=(cutAll S.us m nd.args).take m }:St)=dropS S m:=by unfold dropS;rw [HD.out.at_]
       have h9:=HA2.out.core
       exact ⟨_,_,rfl,hfin ▸ h9,HA2.out.fr⟩
end Go.Proofs.YtjckhhecnebmmaaGreatDoor.TU
end
