/- Steps towards the law TopUndoes; words printed by the kit, and printed texts, are cut to what is used, and spaces are left out. No condition. -/
import Derived.Test.YtjckhhecnebmmaaGreatDoorZ10
import Derived.Test.YtjckhhecnebmmaaGreatDoorZ14
import Derived.Test.YtjckhhecnebmmaaGreatDoorZ8
import Derived.StillTailTactics
set_option linter.unusedVariables false
set_option linter.unusedSimpArgs false
section
namespace Go.Proofs.YtjckhhecnebmmaaGreatDoor.TU
open Go.RowKit Go.Proofs.YtjckhhecnebmmaaGreatDoorW.PrintWords Go.Proofs.YtjckhhecnebmmaaGreatDoorW.PrintLast Go.Proofs.YtjckhhecnebmmaaGreatDoorW.PrintMore Go.Proofs.YtjckhhecnebmmaaGreatDoor.QAll
attribute [local go_sem] max2_int min2_int max_two min_two max_three min_three max_four min_four
set_option linter.unusedVariables false
def canonN (p:List Int) (n:Nd):Nd:={ n with args:=n.args.map (fnd p) }
def keyOfS (S:St) (x:Int):Nd:=canonN S.p (S.ns.getD x.toNat zNd)
def rekeyS (S:St) (x:Int):St:=if sameB (keyOfS S x) (S.ks.getD x.toNat zNd)then S else { S with tab:=delT S.tab (keyStr (S.ks.getD x.toNat zNd)),ks:=S.ks.set x.toNat (keyOfS S x) }
def repairS (S:St) (x:Int):St × Int :=
 match (rekeyS S x).tab (keyStr (keyOfS S x))with
 | none=>({ rekeyS S x with tab:=putT (rekeyS S x).tab (keyStr (keyOfS S x)) x,N:=S.N+1 },0)
 | some y=>if fnd S.p y=fnd S.p x then (rekeyS S x,0)else (joinS (rekeyS S x) y x,1)
theorem canonN_ok {p:List Int} {n:Nd} (hW:Well p) (hp:p.length≤1000) (h:n.Ok):(canonN p n).Ok:=by
 refine ⟨h.op,h.width,h.val,h.name,fun a ha=>?_,by simp [canonN];exact h.few⟩
 obtain ⟨x,_,rfl⟩:=List.mem_map.1 ha
 have h1:=fnd_lt hW x
 cases hin:inB p x
 ·rw [fnd_out hin];omega
 ·have:=fnd_in hW hin;omega
theorem Imm.held {w:World} {o:Own} {v:Value} {xs:List Int} (h:Imm w o v xs):Held w v xs:=by
 obtain ⟨A,c,h1,h2,h3,_⟩:=h
 exact ⟨A,c,h1,h2,h3⟩
theorem Fresh.imm {w0 w:World} {o:Own} {v:Value} {xs:List Int} (h:Fresh w0 w v xs) (ho:∀ k,w0.heap.size≤k→o k=0):Imm w o v xs:=by
 obtain ⟨A,c,h1,h2,h3,h4⟩:=h
 exact ⟨A,c,h1,h2,h3,fun a ha=>⟨(h4 a ha).2,ho _ (h4 a ha).1⟩⟩
section
variable {b cb:Nat} {w:World} {o:Own} {C:Cl} {S:St}
theorem CoreAt.at0 (h:CoreAt b w o cb C S):w.cell? ⟨cb,0,none⟩=some (.pointer (some ⟨C.sg,0,none⟩)):=(blk_cell h.blk.1 0).trans rfl
theorem CoreAt.at1 (h:CoreAt b w o cb C S):w.cell? ⟨cb,1,none⟩=some C.vn:=(blk_cell h.blk.1 1).trans rfl
theorem CoreAt.at2 (h:CoreAt b w o cb C S):w.cell? ⟨cb,2,none⟩=some C.vk:=(blk_cell h.blk.1 2).trans rfl
theorem CoreAt.at3 (h:CoreAt b w o cb C S):w.cell? ⟨cb,3,none⟩=some C.vu:=(blk_cell h.blk.1 3).trans rfl
theorem CoreAt.at4 (h:CoreAt b w o cb C S):w.cell? ⟨cb,4,none⟩=some (.pointer (some ⟨C.eg,0,none⟩)):=(blk_cell h.blk.1 4).trans rfl
theorem CoreAt.at5 (h:CoreAt b w o cb C S):w.cell? ⟨cb,5,none⟩=some (.pointer (some ⟨C.tg,0,none⟩)):=(blk_cell h.blk.1 5).trans rfl
theorem CoreAt.at6 (h:CoreAt b w o cb C S):w.cell? ⟨cb,6,none⟩=some (.pointer (some ⟨C.fg,0,none⟩)):=(blk_cell h.blk.1 6).trans rfl
theorem CoreAt.at7 (h:CoreAt b w o cb C S):w.cell? ⟨cb,7,none⟩=some (.map (some C.mv)):=(blk_cell h.blk.1 7).trans rfl
theorem CoreAt.at8 (h:CoreAt b w o cb C S):w.cell? ⟨cb,8,none⟩=some C.vt:=(blk_cell h.blk.1 8).trans rfl
theorem CoreAt.at9 (h:CoreAt b w o cb C S):w.cell? ⟨cb,9,none⟩=some (.bool S.dirty):=(blk_cell h.blk.1 9).trans rfl
theorem CoreAt.at10 (h:CoreAt b w o cb C S):w.cell? ⟨cb,10,none⟩=some C.vm:=(blk_cell h.blk.1 10).trans rfl
theorem CoreAt.below {w':World} (h:CoreAt b w o cb C S) (hb:Below w.heap.size w w'):CoreAt b w' (o.from_ w.heap.size 0) cb C S:=h.fr (((Kp.refl (fun _=>False) w o).renew 0).below hb) (fun _ _ h=>h) (fun h=>h)
end
def RepPost (b cb:Nat) (w:World) (o:Own) (v:Value) (S':St) (n:Nat) (e:Ending) (w':World):Prop:=∃ o' C' L',e=.returned v∧CoreAt b w' o' cb C' { S' with L:=L' }∧L'.length≤n∧Fr (CoreM b) w o w' o'
def RepAt (B b cb:Nat) (w:World) (o:Own) (C:Cl) (S:St) (key:Nd) (wx:World) (kb:Nat):Prop:=∃ o1 A c,CoreAt b wx o1 cb C S∧Fr (CoreM b) w o wx o1∧Blk wx o1 0 kb (key.cells (.slice A key.args.length c)) 56∧Imm wx o1 (.slice A key.args.length c) key.args∧Gl B wx o1
theorem RepAt.mk' {B b cb:Nat} {w:World} {o:Own} {C:Cl} {S:St} {key:Nd} {wx:World} {kb n c:Nat} {A:Option Addr} (G:Gl B w o) (H:CoreAt b w o cb C S) (hn:n=key.args.length) (hb:Below w.heap.size w wx) (hk:w.heap.size≤kb) (hbx:wx.heap[kb]?=some (.cells (key.cells (.slice A n c)) 56 (0,0))) (hf:Fresh w wx (.slice A n c) key.args):RepAt B b cb w o C S key wx kb:=by
 subst hn
 exact ⟨o.from_ w.heap.size 0,A,c,H.below hb,Fr.of_below hb 0 (.inl rfl),⟨hbx,Own.from_ge hk⟩,hf.imm (fun k h=>Own.from_ge h),G.on hb⟩
theorem NodesRow.put {w:World} {o:Own} {t n c bl:Nat} {ns:List Nd} (h:NodesRow w o t (.slice (some ⟨bl,0,none⟩) n c) ns) (i:Int) (h0:0≤i) (h1:i < ns.length) (nd:Nd) (va:SL) (hI:Imm w o va.v nd.args) (ht:t≠0) :
  NodesRow (((((w.setCell ⟨bl,i.toNat * 5,none⟩ (.int .i64 nd.op)).setCell ⟨bl,i.toNat * 5+1,none⟩ (.int .i64 nd.width)).setCell ⟨bl,i.toNat * 5+2,none⟩ (.int .u64 nd.val)).setCell ⟨bl,i.toNat * 5+3,none⟩ (.string nd.name)).setCell ⟨bl,i.toNat * 5+4,none⟩ va.v) o t (.slice (some ⟨bl,0,none⟩) n c) (ns.set i.toNat nd):=by
 obtain ⟨rs,h2,h3,h4⟩:=h
 subst h3
 rw [List.length_map]at h1
 have hil:i.toNat < rs.length:=by omega
 have hn:=(Kd.R_reads' h2).1
 obtain ⟨cs,hcl,hM,hcc,hcf⟩:=Kd.R_elem h2 ⟨⟨0,0,0,⟨#[]⟩,[]⟩,⟨none,0,0⟩⟩ i h0 (by omega)
 have hog:o bl=t:=h2.own bl rfl
 have hl5:cs.length=5:=hcl
 obtain ⟨hr,hg⟩:=Kd.R_seg h2 i h0 (by omega) (j:=0) (seg:=[.int .i64 nd.op,.int .i64 nd.width,.int .u64 nd.val,.string nd.name,va.v]) hcl hcc (Nat.le_refl _) (okp:=fun _=>False) (x':=⟨nd,va⟩)
  (show _=_ by rw [List.take_zero,List.drop_eq_nil_of_le (by simp [hl5])];rfl) (fun _ h=>h.elim)
 have kc:Kp (·=t) w o (w.setCells bl (i.toNat * kNV.sz+0) [.int .i64 nd.op,.int .i64 nd.width,.int .u64 nd.val,.string nd.name,va.v]) o:=(Kp.refl _ w o).grown hg (fun k e=>.inl (by rw [← Option.some.inj e];exact hog))
 refine ⟨_,hr,by rw [List.map_set],fun r hr'=>?_⟩
 rcases List.mem_or_eq_of_mem_set hr' with h5 | h5
 ·exact (h4 r h5).fr kc (fun e=>ht e.symm)
 ·rw [h5];exact hI.fr kc (fun e=>ht e.symm)
theorem Kp.cell {M:Nat→Prop} {w w':World} {o o':Own} (f:Kp M w o w' o') {g i:Nat} {v:Value} (hc:w.cell? ⟨g,i,none⟩=some v) (ho:¬ M (o g)):w'.cell? ⟨g,i,none⟩=some v :=
 (World.cell?_of_block (a:=⟨g,i,none⟩) (f.block g (cell_lt hc) ho)).trans hc
theorem bel_set {n:Nat} {w w1:World} (h:Below n w w1) (g i:Nat) (u:Value) (hg:n≤g):Below n w (w1.setCell ⟨g,i,none⟩ u):=h.setCell (p:=⟨g,i,none⟩) hg u
theorem fine_rekey {S:St} (h:Fine S) (x:Int) (hk:(keyOfS S x).Ok):Fine (rekeyS S x):=by
 unfold rekeyS
 split
 ·exact h
 ·exact {
   hp:=h.hp,hk:=by show (S.ks.set _ _).length=_;rw [List.length_set];exact h.hk
   hu:=h.hu,few:=h.few,ht:=h.ht,hL:=h.hL,well:=h.well,todo:=h.todo,ul:=h.ul,no:=h.no
   ko:=fun n hn=>by
    rcases List.mem_or_eq_of_mem_set hn with h1 | h1
    ·exact h.ko n h1
    ·rw [h1];exact hk
   tb:=fun k id hid=>by
    have:delT S.tab (keyStr (S.ks.getD x.toNat zNd)) k=some id:=hid
    unfold delT at this
    split at this
    ·cases this
    ·exact h.tb k id this
   N:=h.N,ur:=h.ur }
set_option maxHeartbeats 6400000 in
set_option maxRecDepth 20000 in
theorem repair_calls {B b cb:Nat} {w:World} {o:Own} {C:Cl} {S:St} (G:Gl B w o) (H:CoreAt b w o cb C S) (hS:Fine S) (x:Int) (hx0:0≤x) (hx1:x < S.ns.length) :
  Calls Tryz.prog 40 #[.pointer (some ⟨cb,0,none⟩),.int .i64 x] w (RepPost b cb w o (.int .i64 (repairS S x).2) (repairS S x).1 (S.L.length+(repairS S x).2.toNat)):=by
 obtain ⟨sg,vn,vk,vu,eg,tg,fg,mv,vt,vm⟩:=C
 obtain ⟨An,cn,hvn⟩:=H.nodes.slice
 obtain ⟨Ak,ck,hvk⟩:=H.keys.slice
 simp only at hvn hvk
 subst hvn hvk
 have few:=hS.few
 have hkl:=hS.hk
 obtain ⟨bn,va,nd,hAn,hgn,hgd,_,a0,a1,a2,a3,a4,hIm,_⟩:=NodesRow.at (show NodesRow w o (b+5) (.slice An S.ns.length cn) S.ns from H.nodes) x hx0 hx1
 subst hAn
 obtain ⟨bk,vb,kd,hAk,hgk,hgdk,_,d0,d1,d2,d3,d4,hImk,hfk⟩:=NodesRow.at (show NodesRow w o (b+6) (.slice Ak S.ks.length ck) S.ks from H.keys) x hx0 (by omega)
 subst hAk
 obtain ⟨An1,cn1,rfl,_⟩:=id hIm
 obtain ⟨Ak1,ck1,rfl,_⟩:=id hImk
 have c0:=H.at0
 have c1:=H.at1
 simp only at c0 c1
 have HK0:=Lib.hid (show keyOfS S x=canonN S.p nd by unfold keyOfS;rw [show zNd=⟨0,0,0,⟨#[]⟩,[]⟩from rfl,hgd])
 have HKK:=Lib.hid (show S.ks.getD x.toNat zNd=kd from hgdk)
 have hnok:=hS.no nd (List.mem_of_getElem? hgn)
 have hcan:∀ wr,Below w.heap.size w wr→Calls Tryz.prog 48 #[.agg (nd.cells (.slice An1 nd.args.length cn1)),.func (.func 49) #[.pointer (some ⟨sg,0,none⟩)] #[]] wr fun e w'=>∃ va',e=.returned (.agg (nd.cells va'))∧Fresh wr w' va' (nd.args.map (fnd S.p))∧Below wr.heap.size wr w':=fun wr hb=>canon_find (H.sets.uf.below hb) hS.pl hS.well nd _ (hIm.held.below hb) hnok.few
 have LIMB:=Lib.hid (fun wr (hb:Below w.heap.size w wr)=>show wr.cell? ⟨cb,0,none⟩=some (.pointer (some ⟨sg,0,none⟩))∧wr.cell? ⟨cb,1,none⟩=some (.slice (some ⟨bn,0,none⟩) S.ns.length cn)∧wr.cell? ⟨bn,x.toNat * 5,none⟩=some (.int .i64 nd.op)∧wr.cell? ⟨bn,x.toNat * 5+1,none⟩=some (.int .i64 nd.width)∧wr.cell? ⟨bn,x.toNat * 5+2,none⟩=some (.int .u64 nd.val)∧wr.cell? ⟨bn,x.toNat * 5+3,none⟩=some (.string nd.name)∧wr.cell? ⟨bn,x.toNat * 5+4,none⟩=some (.slice An1 nd.args.length cn1)
  from ⟨pw_cell_below hb c0,pw_cell_below hb c1,pw_cell_below hb a0,pw_cell_below hb a1,pw_cell_below hb a2,pw_cell_below hb a3,pw_cell_below hb a4⟩)
 have hmf:∀ (fn:Fn) (first cap:Array Value) (w:World),(Instr.makeFunc fn first cap).run Tryz.prog w=.ok (.func fn first cap) w:=fun _ _ _ _=>rfl
 have HOK:=Lib.hid (canonN_ok (p:=S.p) hS.well hS.pl hnok)
 have HCAN:=Lib.hid hcan
 have HH:=Lib.hid H
 have HS:=Lib.hid hS
 have HG:=Lib.hid G
 obtain ⟨q0,q1,q2,q3,q4,q5,q6⟩:=LIMB.out w.drew (Below.refl _ _).drew
 clear hcan H hS G hgn hgd hgk hgdk a0 a1 a2 a3 a4 d0 d1 d2 d3 d4 hIm hImk hfk c0 c1 hnok
 simp only [Nd.cells]at HCAN
 go_enter Tryz.func40,Tryz.ntmps40
 go_upto_region 1 with fail
 go_cut [5] (fun s5 wx=>∃ kb,s5=.pointer (some ⟨kb,0,none⟩)∧Hid (RepAt B b cb w o ⟨sg,.slice (some ⟨bn,0,none⟩) S.ns.length cn,.slice (some ⟨bk,0,none⟩) S.ks.length ck,vu,eg,tg,fg,mv,vt,vm⟩ S (canonN S.p nd) wx kb))
 case first =>
  go_region_held3 (fun wr=>wr.cell? ⟨cb,0,none⟩=some (.pointer (some ⟨sg,0,none⟩))∧wr.cell? ⟨cb,1,none⟩=some (.slice (some ⟨bn,0,none⟩) S.ns.length cn)∧wr.cell? ⟨bn,x.toNat * 5,none⟩=some (.int .i64 nd.op)∧wr.cell? ⟨bn,x.toNat * 5+1,none⟩=some (.int .i64 nd.width)∧wr.cell? ⟨bn,x.toNat * 5+2,none⟩=some (.int .u64 nd.val)∧wr.cell? ⟨bn,x.toNat * 5+3,none⟩=some (.string nd.name)∧wr.cell? ⟨bn,x.toNat * 5+4,none⟩=some (.slice An1 nd.args.length cn1))
   ((refine LIMB.out _ ?_;(repeat (with_reducible refine bel_set ?_ _ _ _ (by first | exact Nat.le_refl _ | exact HBW2.out.size)));first | exact (Below.refl _ _).drew | exact (Below.refl _ _).drew.alloc (Nat.le_refl _) _ | exact HBW2.out | exact HBW2.out.alloc HBW2.out.size _))
   ((go_at_call 48;refine (HCAN.out _ ?_).mono ?_;(first | exact (Below.refl _ _).drew | exact (Below.refl _ _).drew.alloc (Nat.le_refl _) _);rintro e w2 ⟨v2,rfl,hf2,hb2⟩;obtain ⟨A2,c2,hv2,_⟩:=id hf2;subst hv2;simp only [List.length_map]at hf2;have hbw2:Below w.heap.size w w2:=(by first | exact (Below.refl _ _).drew.trans hb2 | exact ((Below.refl _ _).drew.alloc (Nat.le_refl _) _).trans (hb2.mono (by simp)));(first | (have hz:w2.heap[w.heap.size]?=some (.cells #[.int .i64 0,.int .i64 0,.int .u64 0,.string ⟨#[]⟩,.slice none 0 0] 56 (0,0)):=blk_below (w:=(w.alloc (.cells #[.int .i64 0,.int .i64 0,.int .u64 0,.string ⟨#[]⟩,.slice none 0 0] 56)).drew) (blk_new w _) hb2;have z0:w2.cell? ⟨w.heap.size,0,none⟩=some (.int .i64 0):=(blk_cell hz 0).trans rfl;have z1:w2.cell? ⟨w.heap.size,1,none⟩=some (.int .i64 0):=(blk_cell hz 1).trans rfl;have z2:w2.cell? ⟨w.heap.size,2,none⟩=some (.int .u64 0):=(blk_cell hz 2).trans rfl;have z3:w2.cell? ⟨w.heap.size,3,none⟩=some (.string ⟨#[]⟩):=(blk_cell hz 3).trans rfl;have z4:w2.cell? ⟨w.heap.size,4,none⟩=some (.slice none 0 0):=(blk_cell hz 4).trans rfl;have y0:=blk_frozen hz 0;have y1:=blk_frozen hz 1;have y2:=blk_frozen hz 2;have y3:=blk_frozen hz 3;have y4:=blk_frozen hz 4;have HZ:=Lib.hid hz;clear hz) | skip);have HF2:=Lib.hid hf2;have HBW2:=Lib.hid hbw2;have HB2:=Lib.hid hb2;clear hf2 hb2 hbw2))
  ·go_wp2_with fail
   go_meet
   exact ⟨_,rfl,RepAt.mk' HG.out HH.out (by simp [canonN]) (HBW2.out.alloc HBW2.out.size _) HBW2.out.size (blk_new w2 _) ((HF2.out.lower (Nat.le_refl _)).below (below_alloc (Below.refl _ _) _))⟩
  all_goals
   go_wp2_with fail
   go_meet
   refine ⟨_,rfl,RepAt.mk' HG.out HH.out (by simp [canonN]) (bel_set (bel_set (bel_set (bel_set (bel_set HBW2.out _ _ _ (Nat.le_refl _)) _ _ _ (Nat.le_refl _)) _ _ _ (Nat.le_refl _)) _ _ _ (Nat.le_refl _)) _ _ _ (Nat.le_refl _)) (Nat.le_refl _) (node_stored HZ.out _ _ _ _ _) ?_⟩
   exact (((((HF2.out.set ⟨w.heap.size,0,none⟩ (by simp) _).set ⟨w.heap.size,1,none⟩ (by simp) _).set ⟨w.heap.size,2,none⟩ (by simp) _).set ⟨w.heap.size,3,none⟩ (by simp) _).set ⟨w.heap.size,4,none⟩ (by simp) _).lower (by simp)
 case rest =>
  obtain ⟨kb,rfl,HR⟩:=hcut
  clear q0 q1 q2 q3 q4 q5 q6 LIMB HCAN hmf HH
  refine (‹∀ (a:Act) (w:World),Code.wp _ _ _ a w→_›) _ _ ?_
  refine wp_seq_k ?_
  intro K2 hk2
  go_cut [] (fun wx=>Hid (RepAt B b cb w o ⟨sg,.slice (some ⟨bn,0,none⟩) S.ns.length cn,.slice (some ⟨bk,0,none⟩) S.ks.length ck,vu,eg,tg,fg,mv,vt,vm⟩ (rekeyS S x) (canonN S.p nd) wx kb))
  case first =>
   obtain ⟨o1,A,c,H1,F1,B1,I1,G1⟩:=HR
   obtain ⟨bk',vb,kd',e,hgk,hgdk,hok,d0,d1,d2,d3,d4,hImk,hfk⟩:=NodesRow.at (show NodesRow wc o1 (b+6) (.slice (some ⟨bk,0,none⟩) S.ks.length ck) S.ks from H1.keys) x hx0 (by omega)
   obtain rfl:bk=bk':=by injection e with e;injection e
   obtain rfl:kd=kd':=HKK.out.symm.trans hgdk
   obtain ⟨Ak1,ck1,rfl,_⟩:=id hImk
   have hre:rekeyS S x=if sameB (canonN S.p nd) kd then S else { S with tab:=delT S.tab (keyStr kd),ks:=S.ks.set x.toNat (canonN S.p nd) }:=by
    unfold rekeyS;rw [HK0.out,HKK.out]
   have hkok:=HS.out.ko kd (List.mem_of_getElem? hgk)
   have hcok:(canonN S.p nd).Ok:=HOK.out
   have hsm:=fun wr (hb:Below wc.heap.size wc wr)=>hsame_calls (w:=wr) (canonN S.p nd) kd (.slice A (canonN S.p nd).args.length c) _ (I1.held.below hb) (hImk.held.below hb) hcok.few
   have g2:=H1.at2
   have g5:=H1.at5
   simp only at g2 g5
   have x0:wc.cell? ⟨kb,0,none⟩=some (.int .i64 (canonN S.p nd).op):=(blk_cell B1.1 0).trans rfl
   have x1:wc.cell? ⟨kb,1,none⟩=some (.int .i64 (canonN S.p nd).width):=(blk_cell B1.1 1).trans rfl
   have x2:wc.cell? ⟨kb,2,none⟩=some (.int .u64 (canonN S.p nd).val):=(blk_cell B1.1 2).trans rfl
   have x3:wc.cell? ⟨kb,3,none⟩=some (.string (canonN S.p nd).name):=(blk_cell B1.1 3).trans rfl
   have x4:wc.cell? ⟨kb,4,none⟩=some (.slice A (canonN S.p nd).args.length c):=(blk_cell B1.1 4).trans rfl
   have HH1:=Lib.hid H1
   have HF1:=Lib.hid F1
   have HB1:=Lib.hid B1
   have HI1:=Lib.hid I1
   have HG1:=Lib.hid G1
   have HRE:=Lib.hid hre
   have HKOK:=Lib.hid hkok
   have HIMK:=Lib.hid hImk
   have HFK:=Lib.hid hfk
   have HOC:=Lib.hid (show ¬ TabM (b+11) ((o1.from_ wc.heap.size 0) cb) by rw [Own.from_lt (blk_lt H1.blk.1),H1.blk.2];unfold TabM;omega)
   have HOK6:=Lib.hid (show ¬ TabM (b+11) ((o1.from_ wc.heap.size 0) bk) by rw [Own.from_lt (cell_lt d0),hok];unfold TabM;omega)
   clear H1 F1 B1 I1 G1 hre hkok hcok e hgk hgdk hok hImk hfk HK0
   have hxk:x < (S.ks.length:Int):=by omega
   generalize canonN S.p nd=key at *
   have L1:=Lib.hid (fun wr (hb:Below wc.heap.size wc wr)=>show wr.cell? ⟨cb,2,none⟩=some (.slice (some ⟨bk,0,none⟩) S.ks.length ck)∧wr.cell? ⟨cb,5,none⟩=some (.pointer (some ⟨tg,0,none⟩))∧wr.cell? ⟨kb,0,none⟩=some (.int .i64 key.op)∧wr.cell? ⟨kb,1,none⟩=some (.int .i64 key.width)∧wr.cell? ⟨kb,2,none⟩=some (.int .u64 key.val)∧wr.cell? ⟨kb,3,none⟩=some (.string key.name)∧wr.cell? ⟨kb,4,none⟩=some (.slice A key.args.length c)∧wr.cell? ⟨bk,x.toNat * 5,none⟩=some (.int .i64 kd.op)∧wr.cell? ⟨bk,x.toNat * 5+1,none⟩=some (.int .i64 kd.width)∧wr.cell? ⟨bk,x.toNat * 5+2,none⟩=some (.int .u64 kd.val)∧wr.cell? ⟨bk,x.toNat * 5+3,none⟩=some (.string kd.name)∧wr.cell? ⟨bk,x.toNat * 5+4,none⟩=some (.slice Ak1 kd.args.length ck1)from ⟨pw_cell_below hb g2,pw_cell_below hb g5,pw_cell_below hb x0,pw_cell_below hb x1,pw_cell_below hb x2,pw_cell_below hb x3,pw_cell_below hb x4,pw_cell_below hb d0,pw_cell_below hb d1,pw_cell_below hb d2,pw_cell_below hb d3,pw_cell_below hb d4⟩)
   have HSM:=Lib.hid hsm
   obtain ⟨q0,q1,q2,q3,q4,q5,q6,q7,q8,q9,q10,q11⟩:=L1.out wc.drew (Below.refl _ _).drew
   clear hsm x0 x1 x2 x3 x4 d0 d1 d2 d3 d4 g2 g5
   cases hsb:sameB key kd with
   | true =>
    rw [hsb]at HSM HRE
    clear hsb
    go_upto_region 2 with fail
    go_region_held3 (fun wr=>wr.cell? ⟨cb,2,none⟩=some (.slice (some ⟨bk,0,none⟩) S.ks.length ck)∧wr.cell? ⟨cb,5,none⟩=some (.pointer (some ⟨tg,0,none⟩))∧wr.cell? ⟨kb,0,none⟩=some (.int .i64 key.op)∧wr.cell? ⟨kb,1,none⟩=some (.int .i64 key.width)∧wr.cell? ⟨kb,2,none⟩=some (.int .u64 key.val)∧wr.cell? ⟨kb,3,none⟩=some (.string key.name)∧wr.cell? ⟨kb,4,none⟩=some (.slice A key.args.length c)∧wr.cell? ⟨bk,x.toNat * 5,none⟩=some (.int .i64 kd.op)∧wr.cell? ⟨bk,x.toNat * 5+1,none⟩=some (.int .i64 kd.width)∧wr.cell? ⟨bk,x.toNat * 5+2,none⟩=some (.int .u64 kd.val)∧wr.cell? ⟨bk,x.toNat * 5+3,none⟩=some (.string kd.name)∧wr.cell? ⟨bk,x.toNat * 5+4,none⟩=some (.slice Ak1 kd.args.length ck1))
     ((refine L1.out _ ?_;first | exact (Below.refl _ _).drew | exact (Below.refl _ _).drew.trans HB2.out))
     ((go_at_call 61;refine (HSM.out _ ?_).mono ?_;(exact (Below.refl _ _).drew);rintro e w2 ⟨rfl,hb2⟩;have HB2:=Lib.hid hb2;clear hb2))
    go_wp2_with fail
    go_meet
    rw [HRE.out]
    simp only [if_true]
    have hb:=(Below.refl wc.heap.size wc).drew.trans HB2.out
    exact ⟨_,A,c,HH1.out.below hb,HF1.out.trans (Fr.of_below hb 0 (.inl rfl)),HB1.out.fr (((Kp.refl (fun _=>False) wc o1).renew 0).below hb) (fun h=>h),HI1.out.fr (((Kp.refl (fun _=>False) wc o1).renew 0).below hb) (fun h=>h),HG1.out.on hb⟩
   | false =>
    rw [hsb]at HSM HRE
    clear hsb
    go_upto_region 2 with fail
    go_region_held3 (fun wr=>wr.cell? ⟨cb,2,none⟩=some (.slice (some ⟨bk,0,none⟩) S.ks.length ck)∧wr.cell? ⟨cb,5,none⟩=some (.pointer (some ⟨tg,0,none⟩))∧wr.cell? ⟨kb,0,none⟩=some (.int .i64 key.op)∧wr.cell? ⟨kb,1,none⟩=some (.int .i64 key.width)∧wr.cell? ⟨kb,2,none⟩=some (.int .u64 key.val)∧wr.cell? ⟨kb,3,none⟩=some (.string key.name)∧wr.cell? ⟨kb,4,none⟩=some (.slice A key.args.length c)∧wr.cell? ⟨bk,x.toNat * 5,none⟩=some (.int .i64 kd.op)∧wr.cell? ⟨bk,x.toNat * 5+1,none⟩=some (.int .i64 kd.width)∧wr.cell? ⟨bk,x.toNat * 5+2,none⟩=some (.int .u64 kd.val)∧wr.cell? ⟨bk,x.toNat * 5+3,none⟩=some (.string kd.name)∧wr.cell? ⟨bk,x.toNat * 5+4,none⟩=some (.slice Ak1 kd.args.length ck1))
     ((refine L1.out _ ?_;first | exact (Below.refl _ _).drew | exact (Below.refl _ _).drew.trans HB2.out))
     ((go_at_call 61;refine (HSM.out _ ?_).mono ?_;(exact (Below.refl _ _).drew);rintro e w2 ⟨rfl,hb2⟩;have HB2:=Lib.hid hb2;clear hb2))
    go_wp2_with fail
    have hb2:=Lib.hid ((Below.refl wc.heap.size wc).drew.trans HB2.out)
    obtain ⟨r0,r1,r2,r3,r4,r5,r6,r7,r8,r9,r10,r11⟩:=L1.out w2.drew hb2.out.drew
    have hdel:=Lib.hid (del_calls (B:=B) ((HH1.out.below hb2.out.drew).table) kd _ (HIMK.out.held.below hb2.out.drew) HKOK.out (HG1.out.on hb2.out.drew).tab (HG1.out.on hb2.out.drew).le)
    go_region_held3 (fun wr=>wr.cell? ⟨cb,2,none⟩=some (.slice (some ⟨bk,0,none⟩) S.ks.length ck)∧wr.cell? ⟨cb,5,none⟩=some (.pointer (some ⟨tg,0,none⟩))∧wr.cell? ⟨bk,x.toNat * 5,none⟩=some (.int .i64 kd.op)∧wr.cell? ⟨bk,x.toNat * 5+1,none⟩=some (.int .i64 kd.width)∧wr.cell? ⟨bk,x.toNat * 5+2,none⟩=some (.int .u64 kd.val)∧wr.cell? ⟨bk,x.toNat * 5+3,none⟩=some (.string kd.name)∧wr.cell? ⟨bk,x.toNat * 5+4,none⟩=some (.slice Ak1 kd.args.length ck1))
     ((first | (refine ⟨?_,?_,?_,?_,?_,?_,?_⟩ <;> assumption) | fail))
     ((go_at_call 62;refine hdel.out.mono ?_;rintro e w3 ⟨o3,rfl,hT3,hF3⟩;have k2:=hF3.kp.cell r0 HOC.out;have k5:=hF3.kp.cell r1 HOC.out;have e0:=hF3.kp.cell r7 HOK6.out;have e1:=hF3.kp.cell r8 HOK6.out;have e2:=hF3.kp.cell r9 HOK6.out;have e3:=hF3.kp.cell r10 HOK6.out;have e4:=hF3.kp.cell r11 HOK6.out;have HT3:=Lib.hid hT3;have HF3:=Lib.hid hF3;clear hT3 hF3))
    clear r0 r1 r2 r3 r4 r5 r6 r7 r8 r9 r10 r11
    have H3:=Lib.hid ((HH1.out.below hb2.out.drew).onTable HF3.out.kp (Nat.le_refl _) HT3.out)
    obtain ⟨_,p1,p2,p3,p4,p5,p6,_,_,_,_,_⟩:=L1.out w2.drew hb2.out.drew
    have hkb0:=Lib.hid (show ¬ TabM (b+11) ((o1.from_ wc.heap.size 0) kb) by rw [Own.from_lt (blk_lt HB1.out.1),HB1.out.2];unfold TabM;omega)
    have k3:=HF3.out.kp.cell p2 hkb0.out
    have k4:=HF3.out.kp.cell p3 hkb0.out
    have k6:=HF3.out.kp.cell p4 hkb0.out
    have k7:=HF3.out.kp.cell p5 hkb0.out
    have k8:=HF3.out.kp.cell p6 hkb0.out
    clear p1 p2 p3 p4 p5 p6
    go_wp2_with fail
    go_still_tail 7,(by kernel_rfl)
    change wpList _ _ _ _ _ w3.drew
    obtain ⟨bk2,vb2,kd2,e,_,_,hok2,f0,f1,f2,f3,f4,_,hfz⟩:=NodesRow.at (show NodesRow w3.drew o3 (b+6) (.slice (some ⟨bk,0,none⟩) S.ks.length ck) S.ks from H3.out.drew.keys) x hx0 (by omega)
    obtain rfl:bk=bk2:=by injection e with e;injection e
    have z0:w3.frozen? ⟨bk,x.toNat * 5,none⟩=false:=hfz 0
    have z1:w3.frozen? ⟨bk,x.toNat * 5+1,none⟩=false:=hfz 1
    have z2:w3.frozen? ⟨bk,x.toNat * 5+2,none⟩=false:=hfz 2
    have z3:w3.frozen? ⟨bk,x.toNat * 5+3,none⟩=false:=hfz 3
    have z4:w3.frozen? ⟨bk,x.toNat * 5+4,none⟩=false:=hfz 4
    have HOK2:=Lib.hid hok2
    have HP:=Lib.hid ((show NodesRow w3.drew o3 (b+6) (.slice (some ⟨bk,0,none⟩) S.ks.length ck) S.ks from H3.out.drew.keys).put x hx0 (by omega) key ⟨A,key.args.length,c⟩ (((HI1.out.fr (((Kp.refl (fun _=>False) wc o1).renew 0).below hb2.out.drew) (fun h=>h)).fr HF3.out.kp (by unfold TabM;omega)).fr ((Kp.refl (fun _=>False) w3 o3).drew) (fun h=>h)) (by omega))
    clear e hfz hok2 k2 k3 k4 k5 k6 k7 k8 f0 f1 f2 f3 f4
    go_wp2_with fail
    go_meet
    rw [HRE.out]
    try simp only [Bool.false_eq_true,if_false]
    have kc:Kp (·=b+6) w3.drew o3 _ o3:=(((((Kp.refl (·=b+6) w3.drew o3).setCell ⟨bk,x.toNat * 5,none⟩ (.int .i64 key.op) (.inl HOK2.out)).setCell ⟨bk,x.toNat * 5+1,none⟩ (.int .i64 key.width) (.inl HOK2.out)).setCell ⟨bk,x.toNat * 5+2,none⟩ (.int .u64 key.val) (.inl HOK2.out)).setCell ⟨bk,x.toNat * 5+3,none⟩ (.string key.name) (.inl HOK2.out)).setCell ⟨bk,x.toNat * 5+4,none⟩ (.slice A key.args.length c) (.inl HOK2.out)
    have H5:=H3.out.drew.inKeys kc HP.out
    have g1:=HF1.out.trans (Fr.of_below (M:=CoreM b) hb2.out.drew 0 (.inl rfl))
    have g2:=(g1.trans (HF3.out.mono (fun _ h=>tab11_core h))).drew
    have hm6:CoreM b (o3 bk):=by rw [HOK2.out];unfold CoreM;omega
    have g3:=((((g2.setCell ⟨bk,x.toNat * 5,none⟩ (.int .i64 key.op) (.inl hm6)).setCell ⟨bk,x.toNat * 5+1,none⟩ (.int .i64 key.width) (.inl hm6)).setCell ⟨bk,x.toNat * 5+2,none⟩ (.int .u64 key.val) (.inl hm6)).setCell ⟨bk,x.toNat * 5+3,none⟩ (.string key.name) (.inl hm6)).setCell ⟨bk,x.toNat * 5+4,none⟩ (.slice A key.args.length c) (.inl hm6)
    have kz:=((Kp.refl (fun _=>False) wc o1).renew 0).below hb2.out.drew
    have k0:¬ TabM (b+11) 0:=by unfold TabM;omega
    have k6:¬ (0=b+6):=by omega
    have kd3:Kp (fun _=>False) w3 o3 w3.drew o3:=(Kp.refl _ w3 o3).drew
    have hB:Blk w3.drew o3 0 kb (key.cells (.slice A key.args.length c)) 56:=((HB1.out.fr kz (fun h=>h)).fr HF3.out.kp k0).fr kd3 (fun h=>h)
    have hI:Imm w3.drew o3 (.slice A key.args.length c) key.args:=((HI1.out.fr kz (fun h=>h)).fr HF3.out.kp k0).fr kd3 (fun h=>h)
    refine ⟨o3,A,c,H5,g3,hB.fr kc k6,hI.fr kc k6,?_⟩
    exact HG.out.fr g3 (by unfold CoreM;omega)
  case rest =>
   obtain ⟨o1,A,c,H1,F1,B1,I1,G1⟩:=hcut
   have hS1:=fine_rekey HS.out x (by rw [HK0.out];exact HOK.out)
   have hrp:repairS S x=match (rekeyS S x).tab (keyStr (canonN S.p nd))with
    | none=>({ rekeyS S x with tab:=putT (rekeyS S x).tab (keyStr (canonN S.p nd)) x,N:=(rekeyS S x).N+1 },0)
    | some y=>if fnd (rekeyS S x).p y=fnd (rekeyS S x).p x then (rekeyS S x,0)else (joinS (rekeyS S x) y x,1):=by
    have e1:(rekeyS S x).N=S.N:=by unfold rekeyS;split <;> rfl
    have e2:(rekeyS S x).p=S.p:=by unfold rekeyS;split <;> rfl
    unfold repairS
    rw [HK0.out,e1,e2]
   have hL:(rekeyS S x).L=S.L:=by unfold rekeyS;split <;> rfl
   have hnl:(rekeyS S x).ns.length=S.ns.length:=by unfold rekeyS;split <;> rfl
   have hcok:=HOK.out
   have HRP:=Lib.hid hrp
   have HLL:=Lib.hid hL
   have hx1':x < (rekeyS S x).ns.length:=by omega
   clear hrp HS HK0 HOK HKK hL hx1 hkl few hnl
   generalize canonN S.p nd=key at *
   generalize rekeyS S x=S1 at *
   have hget:=fun wr (hb:Below wc.heap.size wc wr)=>get_calls (B:=B) ((H1.below hb).table) key _ A c rfl (I1.held.below hb |> fun h=>by obtain ⟨A',c',e,_,h⟩:=h;injection e with e1 e2 e3;subst e1;exact h) hcok (G1.on hb).tab (G1.on hb).le
   have g5:=H1.at5
   have g0:=H1.at0
   simp only at g5 g0
   have x0:wc.cell? ⟨kb,0,none⟩=some (.int .i64 key.op):=(blk_cell B1.1 0).trans rfl
   have x1:wc.cell? ⟨kb,1,none⟩=some (.int .i64 key.width):=(blk_cell B1.1 1).trans rfl
   have x2:wc.cell? ⟨kb,2,none⟩=some (.int .u64 key.val):=(blk_cell B1.1 2).trans rfl
   have x3:wc.cell? ⟨kb,3,none⟩=some (.string key.name):=(blk_cell B1.1 3).trans rfl
   have x4:wc.cell? ⟨kb,4,none⟩=some (.slice A key.args.length c):=(blk_cell B1.1 4).trans rfl
   have L1:=Lib.hid (fun wr (hb:Below wc.heap.size wc wr)=>show wr.cell? ⟨cb,5,none⟩=some (.pointer (some ⟨tg,0,none⟩))∧wr.cell? ⟨cb,0,none⟩=some (.pointer (some ⟨sg,0,none⟩))∧wr.cell? ⟨kb,0,none⟩=some (.int .i64 key.op)∧wr.cell? ⟨kb,1,none⟩=some (.int .i64 key.width)∧wr.cell? ⟨kb,2,none⟩=some (.int .u64 key.val)∧wr.cell? ⟨kb,3,none⟩=some (.string key.name)∧wr.cell? ⟨kb,4,none⟩=some (.slice A key.args.length c)from ⟨pw_cell_below hb g5,pw_cell_below hb g0,pw_cell_below hb x0,pw_cell_below hb x1,pw_cell_below hb x2,pw_cell_below hb x3,pw_cell_below hb x4⟩)
   have HOC:=Lib.hid (show ¬ TabM (b+11) ((o1.from_ wc.heap.size 0) cb) by rw [Own.from_lt (blk_lt H1.blk.1),H1.blk.2];unfold TabM;omega)
   have HOK0:=Lib.hid (show ¬ TabM (b+11) ((o1.from_ wc.heap.size 0) kb) by rw [Own.from_lt (blk_lt B1.1),B1.2];unfold TabM;omega)
   have HGET:=Lib.hid hget
   have HH1:=Lib.hid H1
   have HF1:=Lib.hid F1
   have HB1:=Lib.hid B1
   have HI1:=Lib.hid I1
   have HG1:=Lib.hid G1
   have HOK:=Lib.hid hcok
   have HS1:=Lib.hid hS1
   obtain ⟨q0,q1,q2,q3,q4,q5,q6⟩:=L1.out wc.drew (Below.refl _ _).drew
   clear hget H1 F1 B1 I1 G1 hcok hS1 x0 x1 x2 x3 x4 g0 g5
   cases hT:S1.tab (keyStr key)with
   | none =>
    rw [hT]at HGET
    have HT:=Lib.hid hT
    rw [HT.out]at HRP
    clear hT
    simp only [Option.getD_none,Option.isSome_none]at HGET
    go_upto_region 5 with fail
    go_region_held3 (fun wr=>wr.cell? ⟨cb,5,none⟩=some (.pointer (some ⟨tg,0,none⟩))∧wr.cell? ⟨cb,0,none⟩=some (.pointer (some ⟨sg,0,none⟩))∧wr.cell? ⟨kb,0,none⟩=some (.int .i64 key.op)∧wr.cell? ⟨kb,1,none⟩=some (.int .i64 key.width)∧wr.cell? ⟨kb,2,none⟩=some (.int .u64 key.val)∧wr.cell? ⟨kb,3,none⟩=some (.string key.name)∧wr.cell? ⟨kb,4,none⟩=some (.slice A key.args.length c))
     ((refine L1.out _ ?_;first | exact (Below.refl _ _).drew | exact (Below.refl _ _).drew.trans HB2.out))
     ((go_at_call 63;refine (HGET.out _ ?_).mono ?_;(exact (Below.refl _ _).drew);rintro e w2 ⟨rfl,hb2⟩;have HB2:=Lib.hid hb2;clear hb2))
    go_wp2_with fail
    have hb2:=Lib.hid ((Below.refl wc.heap.size wc).drew.trans HB2.out)
    have HC2:=Lib.hid (HH1.out.below hb2.out)
    have HF2:=Lib.hid (HF1.out.trans (Fr.of_below (M:=CoreM b) hb2.out 0 (.inl rfl)))
    have HI2:=Lib.hid (HI1.out.fr (((Kp.refl (fun _=>False) wc o1).renew 0).below hb2.out) (fun h=>h))
    have HG2:=Lib.hid (HG1.out.on hb2.out)
    obtain ⟨r0,r1,r2,r3,r4,r5,r6⟩:=L1.out w2.drew hb2.out.drew
    have hput:=Lib.hid (put_calls (B:=B) (HC2.out.drew.table) (Nat.le_trans HS1.out.N (by omega)) key (.slice A key.args.length c) (HI2.out.fr ((Kp.refl (fun _=>False) w2 _).drew) (fun h=>h)).held HOK.out x (HG2.out.fr ((Fr.start (fun _=>False) w2 _ 0 (.inl rfl)).drew) id).tab (HG2.out.fr ((Fr.start (fun _=>False) w2 _ 0 (.inl rfl)).drew) id).le)
    rw [HT.out]at hput
    go_region_held3 (fun wr=>wr.cell? ⟨cb,5,none⟩=some (.pointer (some ⟨tg,0,none⟩))∧wr.cell? ⟨kb,0,none⟩=some (.int .i64 key.op)∧wr.cell? ⟨kb,1,none⟩=some (.int .i64 key.width)∧wr.cell? ⟨kb,2,none⟩=some (.int .u64 key.val)∧wr.cell? ⟨kb,3,none⟩=some (.string key.name)∧wr.cell? ⟨kb,4,none⟩=some (.slice A key.args.length c))
     ((first | (refine ⟨?_,?_,?_,?_,?_,?_⟩ <;> assumption) | fail))
     ((go_at_call 46;refine hput.out.mono ?_;rintro e w3 ⟨o3,rfl,hT3,hF3⟩;have k5:=hF3.kp.cell r0 HOC.out;have k0:=hF3.kp.cell r2 HOK0.out;have k1:=hF3.kp.cell r3 HOK0.out;have k2:=hF3.kp.cell r4 HOK0.out;have k3:=hF3.kp.cell r5 HOK0.out;have k4:=hF3.kp.cell r6 HOK0.out;have HT3:=Lib.hid hT3;have HF3:=Lib.hid hF3;clear hT3 hF3))
    go_wp2
    go_ret
    rw [HRP.out]
    refine ⟨o3,_,S1.L,rfl,HC2.out.drew.onTable HF3.out.kp (Nat.le_succ _) HT3.out,by rw [HLL.out];exact Nat.le_add_right _ _,?_⟩
    exact (HF2.out.drew).trans (HF3.out.mono (fun _ h=>tab11_core h))
   | some y =>
    rw [hT]at HGET
    have HT:=Lib.hid hT
    rw [HT.out]at HRP
    clear hT
    simp only [Option.getD_some,Option.isSome_some]at HGET
    go_upto_region 5 with fail
    go_region_held3 (fun wr=>wr.cell? ⟨cb,5,none⟩=some (.pointer (some ⟨tg,0,none⟩))∧wr.cell? ⟨cb,0,none⟩=some (.pointer (some ⟨sg,0,none⟩))∧wr.cell? ⟨kb,0,none⟩=some (.int .i64 key.op)∧wr.cell? ⟨kb,1,none⟩=some (.int .i64 key.width)∧wr.cell? ⟨kb,2,none⟩=some (.int .u64 key.val)∧wr.cell? ⟨kb,3,none⟩=some (.string key.name)∧wr.cell? ⟨kb,4,none⟩=some (.slice A key.args.length c))
     ((refine L1.out _ ?_;first | exact (Below.refl _ _).drew | exact (Below.refl _ _).drew.trans HB2.out))
     ((go_at_call 63;refine (HGET.out _ ?_).mono ?_;(exact (Below.refl _ _).drew);rintro e w2 ⟨rfl,hb2⟩;have HB2:=Lib.hid hb2;clear hb2))
    go_wp2_with fail
    have hb2:=Lib.hid ((Below.refl wc.heap.size wc).drew.trans HB2.out)
    have HC2:=Lib.hid (HH1.out.below hb2.out)
    have HF2:=Lib.hid (HF1.out.trans (Fr.of_below (M:=CoreM b) hb2.out 0 (.inl rfl)))
    have HI2:=Lib.hid (HI1.out.fr (((Kp.refl (fun _=>False) wc o1).renew 0).below hb2.out) (fun h=>h))
    have HG2:=Lib.hid (HG1.out.on hb2.out)
    have hyr:=HS1.out.tb _ _ HT.out
    have hp1:=HS1.out.hp
    have hiy:inB S1.p y=true:=inB_yes hyr.1 (by omega)
    have hix:inB S1.p x=true:=inB_yes hx0 (by omega)
    have hsm:=same_calls (HC2.out.sets.uf) HS1.out.pl HS1.out.well y x
    rw [hiy,Bool.true_and]at hsm
    have HIY:=Lib.hid hiy
    have HIX:=Lib.hid hix
    clear hiy hix hyr hp1
    by_cases hf:fnd S1.p y=fnd S1.p x
    ·rw [show (fnd S1.p y == fnd S1.p x)=true by simpa using hf]at hsm
     have HFF:=Lib.hid hf
     clear hf
     refine hsm.mono ?_
     rintro e w3 ⟨rfl,rfl⟩
     clear hsm
     go_wp2
     go_ret
     rw [HRP.out]
     simp only [HFF.out,if_true]
     exact ⟨_,_,S1.L,rfl,HC2.out,by rw [HLL.out];exact Nat.le_add_right _ _,HF2.out⟩
    ·rw [show (fnd S1.p y == fnd S1.p x)=false by simpa using hf]at hsm
     have HFF:=Lib.hid hf
     clear hf
     refine hsm.mono ?_
     rintro e w3 ⟨rfl,rfl⟩
     clear hsm
     go_wp2_with fail
     refine (join_calls HC2.out HS1.out y x (-1) HIY.out HIX.out HFF.out).mono ?_
     rintro e w4 ⟨o4,C4,L4,rfl,h4,hl4,f4⟩
     have H4:=Lib.hid h4
     have HL4:=Lib.hid hl4
     have F4:=Lib.hid f4
     clear h4 hl4 f4
     go_wp2
     go_ret
     rw [HRP.out]
     simp only [if_neg HFF.out]
     exact ⟨_,C4,L4,rfl,H4.out,by rw [← HLL.out];exact HL4.out,HF2.out.trans F4.out⟩
end Go.Proofs.YtjckhhecnebmmaaGreatDoor.TU
end
section
namespace Go.Proofs.YtjckhhecnebmmaaGreatDoor.TU
open Go.RowKit Go.Proofs.YtjckhhecnebmmaaGreatDoorW.PrintWords Go.Proofs.YtjckhhecnebmmaaGreatDoorW.PrintLast Go.Proofs.YtjckhhecnebmmaaGreatDoorW.PrintMore Go.Proofs.YtjckhhecnebmmaaGreatDoor.QAll
attribute [local go_sem] max2_int min2_int max_two min_two max_three min_three max_four min_four
set_option linter.unusedVariables false
def arityL:List Int:=[0,0,1,1,2,2,2,2,2,2,2,2,2,2,2,2,2,2,3,2,1,1,1,0,0,1]
def arity (op:Int):Int:=if 1≤op∧op≤26 then arityL.getD (op.toNat - 1) 0 else -1
theorem ops_cases {op:Int} (h:1≤op∧op≤26):op=1∨op=2∨op=3∨op=4∨op=5∨op=6∨op=7∨op=8∨op=9∨op=10∨op=11∨op=12∨op=13∨op=14∨op=15∨op=16∨op=17∨op=18∨op=19∨op=20∨op=21∨op=22∨op=23∨op=24∨op=25∨op=26:=by omega
set_option maxHeartbeats 3200000 in
theorem arity_calls (op:Int) (w:World):Calls Tryz.prog 73 #[.int .i64 op] w fun e w'=>e=.returned (.int .i64 (arity op))∧w=w':=by
 by_cases h:1≤op∧op≤26
 ·rcases ops_cases h with rfl | rfl | rfl | rfl | rfl | rfl | rfl | rfl | rfl | rfl | rfl | rfl | rfl | rfl | rfl | rfl | rfl | rfl | rfl | rfl | rfl | rfl | rfl | rfl | rfl | rfl
  all_goals
   go_enter Tryz.func73,Tryz.ntmps73
   go_wp2
   go_ret
   exact ⟨rfl,rfl⟩
 ·have hr:arity op=-1:=if_neg h
  rw [hr]
  have e1:(op == 1)=false:=by simp;omega
  have e2:(op == 2)=false:=by simp;omega
  have e3:(op == 3)=false:=by simp;omega
  have e4:(op == 4)=false:=by simp;omega
  have e5:(op == 5)=false:=by simp;omega
  have e6:(op == 6)=false:=by simp;omega
  have e7:(op == 7)=false:=by simp;omega
  have e8:(op == 8)=false:=by simp;omega
  have e9:(op == 9)=false:=by simp;omega
  have e10:(op == 10)=false:=by simp;omega
  have e11:(op == 11)=false:=by simp;omega
  have e12:(op == 12)=false:=by simp;omega
  have e13:(op == 13)=false:=by simp;omega
  have e14:(op == 14)=false:=by simp;omega
  have e15:(op == 15)=false:=by simp;omega
  have e16:(op == 16)=false:=by simp;omega
  have e17:(op == 17)=false:=by simp;omega
  have e18:(op == 18)=false:=by simp;omega
  have e19:(op == 19)=false:=by simp;omega
  have e20:(op == 20)=false:=by simp;omega
  have e21:(op == 21)=false:=by simp;omega
  have e22:(op == 22)=false:=by simp;omega
  have e23:(op == 23)=false:=by simp;omega
  have e24:(op == 24)=false:=by simp;omega
  have e25:(op == 25)=false:=by simp;omega
  have e26:(op == 26)=false:=by simp;omega
  clear h hr
  go_enter Tryz.func73,Tryz.ntmps73
  go_wp2
  go_ret
  exact ⟨rfl,rfl⟩
set_option maxHeartbeats 800000 in
theorem pattern_calls (op:Int) (w:World):Calls Tryz.prog 74 #[.int .i64 op] w fun e w'=>e=.returned (.bool (decide (24≤op) && decide (op≤26)))∧w=w':=by
 by_cases h:24≤op
 all_goals
  go_enter Tryz.func74,Tryz.ntmps74
  go_wp2
  go_ret
  exact ⟨by first | (simp [h];done) | (simp;omega),rfl⟩
set_option maxHeartbeats 800000 in
theorem known_calls (op:Int) (w:World):Calls Tryz.prog 86 #[.int .i64 op] w fun e w'=>e=.returned (.bool (decide (1≤op) && decide (op≤26)))∧w=w':=by
 by_cases h:1≤op
 all_goals
  go_enter Tryz.func86,Tryz.ntmps86
  go_wp2
  go_ret
  exact ⟨by first | (simp [h];done) | (simp;omega),rfl⟩
def ins (x:Int):Bool:=decide (0≤x) && decide (x≤64)
set_option maxHeartbeats 800000 in
theorem inside_calls (x:Int) (w:World):Calls Tryz.prog 87 #[.int .i64 x] w fun e w'=>e=.returned (.bool (ins x))∧w=w':=by
 unfold ins
 by_cases h:0≤x
 all_goals
  go_enter Tryz.func87,Tryz.ntmps87
  go_wp2
  go_ret
  exact ⟨by first | (simp [h];done) | (simp;omega),rfl⟩
def agreedW (ok:Bool) (x:Int):Int × Int:=if ok then (x,0)else (0,3)
set_option maxHeartbeats 800000 in
theorem agreed_calls (ok:Bool) (x:Int) (w:World):Calls Tryz.prog 90 #[.bool ok,.int .i64 x] w fun e w'=>e=.returned (.tuple #[.int .i64 (agreedW ok x).1,.int .i64 (agreedW ok x).2])∧w=w':=by
 cases ok
 all_goals
  go_enter Tryz.func90,Tryz.ntmps90
  go_wp2
  go_ret2
  exact ⟨rfl,rfl⟩
def leafW (op width val:Int):Int × Int:=if ins width=false then (0,3)else if op=2∧0 < width∧val / 2 ^ width.toNat≠0 then (0,3)else (width,0)
set_option maxHeartbeats 1600000 in
theorem leaf_calls (op width:Int) (val:Int) (w:World):Calls Tryz.prog 88 #[.int .i64 op,.int .i64 width,.int .u64 val] w fun e w'=>e=.returned (.tuple #[.int .i64 (leafW op width val).1,.int .i64 (leafW op width val).2])∧w=w':=by
 have hi:=inside_calls width w
 cases hin:ins width
 ·have hr:leafW op width val=(0,3):=by simp [leafW,hin]
  rw [hr]
  rw [hin]at hi
  go_enter Tryz.func88,Tryz.ntmps88
  go_wp2_with (go_at_call 87;refine hi.mono ?_;rintro e w' ⟨rfl,rfl⟩)
  go_ret2
  exact ⟨rfl,rfl⟩
 ·have hle:0≤width∧width≤64:=by simpa [ins]using hin
  rw [hin]at hi
  by_cases h2:op=2
  ·by_cases h0:0 < width
   ·have hle0:=hle.1
    have hle1:=hle.2
    by_cases hv:val / 2 ^ width.toNat=0
    ·have hr:leafW op width val=(width,0):=by simp [leafW,hin,hv]
     have hq:(val / 2 ^ width.toNat != 0)=false:=by simpa using hv
     rw [hr]
     subst h2
     clear hr hle hin hv
     go_enter Tryz.func88,Tryz.ntmps88
     go_wp2_with (go_at_call 87;refine hi.mono ?_;rintro e w' ⟨rfl,rfl⟩)
     go_ret2
     exact ⟨rfl,rfl⟩
    ·have hr:leafW op width val=(0,3):=by simp [leafW,hin,hv,h2,h0]
     have hq:(val / 2 ^ width.toNat != 0)=true:=by simpa using hv
     rw [hr]
     subst h2
     clear hr hle hin hv
     go_enter Tryz.func88,Tryz.ntmps88
     go_wp2_with (go_at_call 87;refine hi.mono ?_;rintro e w' ⟨rfl,rfl⟩)
     go_ret2
     exact ⟨rfl,rfl⟩
   ·have hr:leafW op width val=(width,0):=by simp [leafW,hin,h0]
    rw [hr]
    subst h2
    clear hr hle hin
    go_enter Tryz.func88,Tryz.ntmps88
    go_wp2_with (go_at_call 87;refine hi.mono ?_;rintro e w' ⟨rfl,rfl⟩)
    go_ret2
    exact ⟨rfl,rfl⟩
  ·have hr:leafW op width val=(width,0):=by simp [leafW,hin,h2]
   have h2q:(op == 2)=false:=by simpa using h2
   rw [hr]
   clear hr hle hin h2
   go_enter Tryz.func88,Tryz.ntmps88
   go_wp2_with (go_at_call 87;refine hi.mono ?_;rintro e w' ⟨rfl,rfl⟩)
   go_ret2
   exact ⟨rfl,rfl⟩
def resizedW (op width val of:Int):Int × Int:=if width < 1∨64 < width∨of < 1 then (0,3)else if op=21 then (if of < width then (0,3)else if of - width < val then (0,3)else (width,0))else (if width < of then (0,3)else (width,0))
set_option maxHeartbeats 1600000 in
theorem resized_calls (op width val of:Int) (hof:of≤64) (w:World):Calls Tryz.prog 89 #[.int .i64 op,.int .i64 width,.int .u64 val,.int .i64 of] w fun e w'=>e=.returned (.tuple #[.int .i64 (resizedW op width val of).1,.int .i64 (resizedW op width val of).2])∧w=w':=by
 by_cases h1:width < 1
 ·have hr:resizedW op width val of=(0,3):=by simp [resizedW,h1]
  rw [hr]
  go_enter Tryz.func89,Tryz.ntmps89
  go_wp2
  go_ret2
  exact ⟨rfl,rfl⟩
 by_cases h2:64 < width
 ·have hr:resizedW op width val of=(0,3):=by simp [resizedW,h2]
  rw [hr]
  go_enter Tryz.func89,Tryz.ntmps89
  go_wp2
  go_ret2
  exact ⟨rfl,rfl⟩
 by_cases h3:of < 1
 ·have hr:resizedW op width val of=(0,3):=by simp [resizedW,h3]
  rw [hr]
  go_enter Tryz.func89,Tryz.ntmps89
  go_wp2
  go_ret2
  exact ⟨rfl,rfl⟩
 by_cases h4:op=21
 ·have e4:(op != 21)=false:=by simpa using h4
  have e5:(op == 21)=true:=by simpa using h4
  by_cases h5:of < width
  ·have hr:resizedW op width val of=(0,3):=by simp [resizedW,h1,h2,h3,h4,h5]
   rw [hr]
   clear hr h4
   go_enter Tryz.func89,Tryz.ntmps89
   go_wp2
   go_ret2
   exact ⟨rfl,rfl⟩
  ·have hw1:IntKind.i64.wrap (of - width)=of - width:=IntWalk.i64_in _ (by omega)
   have hw2:IntKind.u64.wrap (of - width)=of - width:=by unfold IntKind.wrap;simp [IntKind.bits];omega
   by_cases h6:of - width < val
   ·have hr:resizedW op width val of=(0,3):=by simp [resizedW,h1,h2,h3,h4,h5,h6]
    rw [hr]
    clear hr h4
    go_enter Tryz.func89,Tryz.ntmps89
    go_wp2
    go_ret2
    exact ⟨rfl,rfl⟩
   ·have hr:resizedW op width val of=(width,0):=by simp [resizedW,h1,h2,h3,h4,h5,h6]
    rw [hr]
    clear hr h4
    go_enter Tryz.func89,Tryz.ntmps89
    go_wp2
    go_ret2
    exact ⟨rfl,rfl⟩
 ·have e4:(op != 21)=true:=by simpa using h4
  have e5:(op == 21)=false:=by simpa using h4
  by_cases h5:width < of
  ·have hr:resizedW op width val of=(0,3):=by simp [resizedW,h1,h2,h3,h4,h5]
   rw [hr]
   clear hr h4
   go_enter Tryz.func89,Tryz.ntmps89
   go_wp2
   go_ret2
   exact ⟨rfl,rfl⟩
  ·have hr:resizedW op width val of=(width,0):=by simp [resizedW,h1,h2,h3,h4,h5]
   rw [hr]
   clear hr h4
   go_enter Tryz.func89,Tryz.ntmps89
   go_wp2
   go_ret2
   exact ⟨rfl,rfl⟩
end Go.Proofs.YtjckhhecnebmmaaGreatDoor.TU
end
