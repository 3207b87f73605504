/- Steps towards the law TopUndoes; words printed by the kit, and printed texts, are cut to what is used, and spaces are left out. No condition. -/
import Derived.Test.YtjckhhecnebmmaaGreatDoorZ27
import Derived.Test.YtjckhhecnebmmaaGreatDoorZ6
import Derived.Test.YtjckhhecnebmmaaGreatDoorZ8
set_option linter.unusedVariables false
set_option linter.unusedSimpArgs false
section
namespace Go.Proofs.YtjckhhecnebmmaaGreatDoor.TU
open Go.RowKit Go.Proofs.YtjckhhecnebmmaaGreatDoorW.PrintWords Go.Proofs.YtjckhhecnebmmaaGreatDoorW.PrintLast Go.Proofs.YtjckhhecnebmmaaGreatDoorW.PrintMore Go.Proofs.YtjckhhecnebmmaaGreatDoor.QAll
attribute [local go_sem] max2_int min2_int max_two min_two max_three min_three max_four min_four
set_option linter.unusedVariables false
theorem MarkOk.fr {M:Nat→Prop} {w w':World} {o o':Own} {r:MV} {m:Mk} (h:MarkOk w o r m) (f:Kp M w o w' o') (h0:¬ M 0):MarkOk w' o' r m:=by
 obtain ⟨a1,a2,a3,a4,a5,a6⟩:=h
 exact ⟨a1,a2,a3,a4,a5.fr f h0 h0,a6.fr f h0⟩
theorem MarksRow.at {w:World} {o:Own} {t n c:Nat} {A:Option Addr} {ms:List Mk} (h:MarksRow w o t (.slice A n c) ms) (i:Nat) (h1:i < ms.length) :
  ∃ bl r m,A=some ⟨bl,0,none⟩∧ms[i]?=some m∧w.cell? ⟨bl,i * 6,none⟩=some (.int .i64 r.nodes)∧w.cell? ⟨bl,i * 6+1,none⟩=some (.int .i64 r.links)∧w.cell? ⟨bl,i * 6+2,none⟩=some (.int .i64 r.sets)∧w.cell? ⟨bl,i * 6+3,none⟩=some r.keys.v∧w.cell? ⟨bl,i * 6+4,none⟩=some r.todo.v∧w.cell? ⟨bl,i * 6+5,none⟩=some (.bool r.dirty)∧MarkOk w o r m:=by
 obtain ⟨rs,h2,h3,h4⟩:=h
 have hil:i < rs.length:=by omega
 obtain ⟨bl,cap,he,_,_,_⟩:=Kd.R_form h2 (by omega)
 injection he with he1 he2 he3
 subst he1
 subst he2
 obtain ⟨cs,hcl,hM,hcc,hcf⟩:=Kd.R_elem h2 ⟨0,0,0,⟨none,0,0⟩,⟨none,0,0⟩,false⟩ (i:Int) (by omega) (by omega)
 have hg:rs.getD (i:Int).toNat ⟨0,0,0,⟨none,0,0⟩,⟨none,0,0⟩,false⟩=rs[i]:=by rw [Int.toNat_natCast,List.getD_eq_getElem?_getD,List.getElem?_eq_getElem hil];rfl
 rw [hg]at hM
 obtain rfl:cs=_:=hM
 rw [Int.toNat_natCast]at hcc
 have hu:ms[i]?=some (ms[i]'(by omega)):=List.getElem?_eq_getElem _
 exact ⟨bl,rs[i],ms[i]'(by omega),rfl,hu,hcc 0 _ rfl,hcc 1 _ rfl,hcc 2 _ rfl,hcc 3 _ rfl,hcc 4 _ rfl,hcc 5 _ rfl,h4 i _ _ (List.getElem?_eq_getElem hil) hu⟩
theorem MarksRow.take {w:World} {o:Own} {t n c m:Nat} {A:Option Addr} {ms:List Mk} (h:MarksRow w o t (.slice A n c) ms) (hm:m≤ms.length):MarksRow w o t (.slice A m c) (ms.take m):=by
 obtain ⟨rs,h1,h2,h3⟩:=h
 have up:∀ {α:Type} {l:List α} {i:Nat} {x:α},(l.take m)[i]?=some x→l[i]?=some x:=by
  intro α l i x h
  rw [List.getElem?_take]at h
  split at h
  ·exact h
  ·cases h
 exact ⟨rs.take m,h1.take (by omega),by rw [List.length_take,List.length_take,h2],fun i r x hi hx=>h3 i r x (up hi) (up hx)⟩
def MV.cells (r:MV):Array Value:=#[.int .i64 r.nodes,.int .i64 r.links,.int .i64 r.sets,r.keys.v,r.todo.v,.bool r.dirty]
structure UA (B b g cb nb:Nat) (w:World) (o:Own) (r:MV) (K:Mk) (wx:World) (o1:Own) (C:Cl) (T:St):Prop where
 gr:Blk wx o1 b g #[.pointer (some ⟨cb,0,none⟩)] 68
 core:CoreAt b wx o1 cb C T
 fr:Fr (CoreM b) w o wx o1
 gl:Gl B wx o1
 box:Blk wx o1 0 nb r.cells 98
 ok:MarkOk wx o1 r K
section
variable {B b g cb nb:Nat} {w wx w2:World} {o o1 o2:Own} {r:MV} {K:Mk} {C C2:Cl} {T T2:St}
theorem UA.next (h:UA B b g cb nb w o r K wx o1 C T) (hc:CoreAt b w2 o2 cb C2 T2) (f:Fr (CoreM b) wx o1 w2 o2):UA B b g cb nb w o r K w2 o2 C2 T2 :=
 ⟨h.gr.fr f.kp (by unfold CoreM;omega),hc,h.fr.trans f,h.gl.fr f (by unfold CoreM;omega),h.box.fr f.kp (by unfold CoreM;omega),h.ok.fr f.kp (by unfold CoreM;omega)⟩
theorem UA.below (h:UA B b g cb nb w o r K wx o1 C T) (hb:Below wx.heap.size wx w2):UA B b g cb nb w o r K w2 (o1.from_ wx.heap.size 0) C T:=h.next (h.core.below hb) (Fr.of_below hb 0 (.inl rfl))
theorem UA.store {a:Addr} {u:Value} (h:UA B b g cb nb w o r K wx o1 C T) (hM:CoreM b (o1 a.block)) (hl:a.block < wx.heap.size) (hc:CoreAt b (wx.setCell a u) o1 cb C2 T2):UA B b g cb nb w o r K (wx.setCell a u) (o1.from_ wx.heap.size 0) C2 T2:=by
 have hz:(wx.setCell a u).heap.size=wx.heap.size:=by simp [World.setCell]
 exact h.next (hc.fr (M:=fun _=>False) ⟨Nat.le_refl _,fun k hk=>Own.from_lt (hz ▸ hk),fun _ _ _=>rfl⟩ (fun _ _ h=>h) (fun h=>h)) ((Fr.start (CoreM b) wx o1 0 (.inl rfl)).setCell _ _ (.inl (by rw [Own.from_lt hl];exact hM)))
end
noncomputable def dropN:Nat→St→St
 | 0,S=>S
 | c+1,S=>dropN c (dropS S (S.ns.length - 1))
def DropsOk:Nat→St→Prop
 | 0,_=>True
 | c+1,S=>DropOk S (S.ns.length - 1) (S.ns.getD (S.ns.length - 1) zNd)∧DropsOk c (dropS S (S.ns.length - 1))
def keysTab:List Nd→Int→(ByteArray→Option Int)→(ByteArray→Option Int)
 | [],_,T=>T
 | k :: l,i,T=>keysTab l (i+1) (if (T (keyStr k)).isSome then T else putT T (keyStr k) i)
theorem keysTab_snoc (k:Nd):∀ (l:List Nd) (i:Int) (T:ByteArray→Option Int),keysTab (l++[k]) i T=if (keysTab l i T (keyStr k)).isSome then keysTab l i T else putT (keysTab l i T) (keyStr k) (i+l.length):=by
 intro l
 induction l with
 | nil=>intro i T;show (if _ then _ else _)=if (T (keyStr k)).isSome then T else putT T (keyStr k) (i+((0:Nat):Int));rw [show i+((0:Nat):Int)=i by omega]
 | cons a l ih=>intro i T;show keysTab (l++[k]) (i+1) _=_;rw [ih];show _=if (keysTab l (i+1) _ (keyStr k)).isSome then _ else _;rw [show i+1+(l.length:Int)=i+((a :: l).length:Int) by simp;omega];rfl
noncomputable def unA (S:St) (K:Mk) (mk:Nat):St:=dropN (S.ns.length - K.nodes) { S with ms:=S.ms.take mk }
noncomputable def unB (S:St) (K:Mk) (mk:Nat):St:={ unA S K mk with p:=und (unA S K mk).p (unA S K mk).t ((unA S K mk).t.length - K.sets),t:=(unA S K mk).t.take K.sets }
noncomputable def unC (S:St) (K:Mk) (mk:Nat):St:={ unB S K mk with ks:=K.keys }
noncomputable def unD (S:St) (K:Mk) (mk:Nat):St:={ unC S K mk with todo:=K.todo }
noncomputable def unE (S:St) (K:Mk) (mk:Nat):St:={ unD S K mk with dirty:=K.dirty }
noncomputable def unF (S:St) (K:Mk) (mk:Nat):St:={ unE S K mk with tab:=fun _=>none }
noncomputable def undoS (S:St) (K:Mk) (mk:Nat):St:={ unE S K mk with tab:=keysTab K.keys 0 (fun _=>none),N:=(unE S K mk).N+K.keys.length }
noncomputable def unG (S:St) (K:Mk) (mk i:Nat):St:={ unE S K mk with tab:=keysTab (K.keys.take i) 0 (fun _=>none),N:=(unE S K mk).N+i }
structure UndoOk (S:St) (K:Mk) (mk:Nat):Prop where
 few:S.ns.length≤600
 hmk:S.ms[mk]?=some K
 mkl:S.ms.length≤1000000
 nd:K.nodes≤S.ns.length
 drops:DropsOk (S.ns.length - K.nodes) { S with ms:=S.ms.take mk }
 hp:(unA S K mk).p.length≤1000
 ht:(unA S K mk).t.length≤1000
 st:K.sets≤(unA S K mk).t.length
 safe:Safe (unA S K mk).p (unA S K mk).t ((unA S K mk).t.length - K.sets)
 hL:S.L.length≤900
 lk:K.links≤800
 kl:K.keys.length≤600
 ko:∀ n∈K.keys,n.Ok
 td:K.todo.length≤100000
 hN:(unA S K mk).N≤1152921504606800000
 hN0:(unA S K mk).L=S.L
def UndoPost (b g:Nat) (w:World) (o:Own) (S':St) (k:Nat) (e:Ending) (w':World):Prop:=∃ o' L',e=.returned (.bool true)∧GraphAt b w' o' g (withL S' L')∧L'.length≤k∧Fr (GraphM b) w o w' o'
set_option maxHeartbeats 12800000 in
set_option maxRecDepth 20000 in
theorem undo_calls {B b g:Nat} {w:World} {o:Own} {S:St} (G:Gl B w o) (H:GraphAt b w o g S) (hb0:0 < b) (K:Mk) (mk:Nat) (D:UndoOk S K mk) :
  Calls Tryz.prog 29 #[.pointer (some ⟨g,0,none⟩),.int .i64 mk] w (UndoPost b g w o (undoS S K mk) K.links):=by
 obtain ⟨cb,C,h1,h2⟩:=H
 have c0:w.cell? ⟨g,0,none⟩=some (.pointer (some ⟨cb,0,none⟩)):=(blk_cell h1.1 0).trans rfl
 have c10:=h2.at10
 obtain ⟨Am,cm,hvm⟩:=h2.marks.slice
 have hml:mk < S.ms.length:=by
  rcases Nat.lt_or_ge mk S.ms.length with h | h
  ·exact h
  ·have:=D.hmk;rw [List.getElem?_eq_none h]at this;cases this
 have hml2:=D.mkl
 have hmr:=h2.marks
 rw [hvm]at hmr c10
 obtain ⟨bl,r,K',hA,hK',a0,a1,a2,a3,a4,a5,hmok⟩:=hmr.at mk hml
 subst hA
 obtain rfl:K=K':=by have:=D.hmk;rw [hK']at this;exact (Option.some.inj this).symm
 have hcap:S.ms.length≤cm:=by obtain ⟨rs,q1,_⟩:=hmr;exact (Kd.R_reads' q1).2.1
 have HMR:=Lib.hid hmr
 obtain ⟨rn,rl,rs,⟨Ak,nk,ck⟩,⟨At,nt,ct⟩,rd⟩:=r
 simp only [SL.v]at a0 a1 a2 a3 a4 a5
 have HH:=Lib.hid h2
 have HG1:=Lib.hid h1
 have HG:=Lib.hid G
 have HD:=Lib.hid D
 have HMO:=Lib.hid hmok
 have hge:((mk:Int) < 0)=False:=by simp
 clear h1 h2 G D hvm hmr hK' hmok
 go_enter Tryz.func29,Tryz.ntmps29
 go_wp2_with fail
 refine (gmade_calls c0).mono ?_
 rintro e w' ⟨rfl,rfl⟩
 go_upto_region 4 with fail
 go_cut [6] (fun s6 wy=>s6=.pointer (some ⟨w.heap.size,0,none⟩)∧Hid (∃ o1,UA B b g cb w.heap.size w o ⟨rn,rl,rs,⟨Ak,nk,ck⟩,⟨At,nt,ct⟩,rd⟩ K wy o1 C S))
 case first =>
  go_wp2_with fail
  go_meet
  have hb:=below_alloc (Below.refl w.heap.size w) (.cells (MV.cells ⟨rn,rl,rs,⟨Ak,nk,ck⟩,⟨At,nt,ct⟩,rd⟩) 98)
  have kp:Kp (fun _=>False) w o (w.alloc (.cells (MV.cells ⟨rn,rl,rs,⟨Ak,nk,ck⟩,⟨At,nt,ct⟩,rd⟩) 98)) (o.from_ w.heap.size 0):=((Kp.refl _ w o).renew 0).alloc _
  exact ⟨rfl,o.from_ w.heap.size 0,HG1.out.fr kp (fun h=>h),HH.out.below hb,Fr.of_below hb 0 (.inl rfl),HG.out.on hb,⟨blk_new _ _,Own.from_ge (Nat.le_refl _)⟩,HMO.out.fr kp (fun h=>h)⟩
 case rest =>
  obtain ⟨rfl,o1,D1⟩:=hcut
  clear HG HG1 HMO HH
  have hmr5:=D1.core.marks
  obtain ⟨A1,k1,e1⟩:=hmr5.slice
  have e2:C.vm=.slice A1 S.ms.length k1:=e1
  rw [e2]at hmr5
  have d1:=D1.core.at10
  rw [e2]at d1
  have hcap5:S.ms.length≤k1:=by obtain ⟨rs,q1,_⟩:=hmr5;exact (Kd.R_reads' q1).2.1
  have hcore:=D1.core.onMarks (Kp.refl (·=b+20) wc o1) (hmr5.take (m:=mk) (by omega))
  have hA2:=D1.store (a:=⟨cb,10,none⟩) (by show CoreM b (o1 cb);rw [D1.core.blk.2];unfold CoreM;omega) (blk_lt D1.core.blk.1) hcore
  have hfz:=blk_frozen D1.core.blk.1 10
  have HA2:=Lib.hid hA2
  have hw0:(0:Int)≤mk:=by omega
  have hw2:(mk:Int)≤k1:=by omega
  clear D1 e1 e2 hmr5 hcore hA2 hcap5 c10 a0 a1 a2 a3 a4 a5 HMR hcap hge c0
  go_upto_region 5 with fail
  go_cut [] (fun wy=>Hid (∃ o2 C2,UA B b g cb w.heap.size w o ⟨rn,rl,rs,⟨Ak,nk,ck⟩,⟨At,nt,ct⟩,rd⟩ K wy o2 C2 ({ S with ms:=S.ms.take mk })))
  case first =>
   go_wp2_with fail
   go_meet
   exact ⟨_,_,HA2.out⟩
  case rest =>
   obtain ⟨o5,C5,D5⟩:=hcut
   clear HA2 d1 hw0 hw2 hfz
   obtain ⟨An,kn,en⟩:=D5.core.nodes.slice
   have d1:wc.cell? ⟨cb,1,none⟩=some (.slice An S.ns.length kn):=by rw [← en];exact D5.core.at1
   have few:=HD.out.few
   have hnd:=HD.out.nd
   have HDR:=Lib.hid HD.out.drops
   have H5:=Lib.hid D5
   clear D5 en
   refine (‹∀ (a:Act) (w:World),Code.wp _ _ _ a w→_›) _ _ ?_
   refine wp_seq_k ?_
   intro K2 hK2
   go_cut [] (fun wy=>Hid (∃ o2 C2,UA B b g cb w.heap.size w o ⟨rn,rl,rs,⟨Ak,nk,ck⟩,⟨At,nt,ct⟩,rd⟩ K wy o2 C2 (unA S K mk)))
   case first =>
    go_wp2_with fail
    go_loopw [7] (fun s7 wr=>∃ (c:Nat) (T:St),c≤600∧s7=.int .i64 ((K.nodes:Int)+c - 1)∧Hid (∃ o2 C2,UA B b g cb w.heap.size w o ⟨rn,rl,rs,⟨Ak,nk,ck⟩,⟨At,nt,ct⟩,rd⟩ K wr o2 C2 T)∧T.ns.length=K.nodes+c∧Hid (DropsOk c T)∧Hid (dropN c T=unA S K mk)) (fun s7 _=>(intOf s7+1).toNat)
    case atStart=>exact ⟨S.ns.length - K.nodes,_,by omega,by rw [show (K.nodes:Int)+((S.ns.length - K.nodes:Nat):Int) - 1=(S.ns.length:Int) - 1 by omega],⟨_,_,H5.out⟩,by show S.ns.length=_;omega,HDR.out,rfl⟩
    case round =>
     obtain ⟨c,T,hc,rfl,⟨o6,C6,D6⟩,hlen,hdr,heq⟩:=hrel
     have HA:=Lib.hid D6
     have HDR2:=Lib.hid hdr
     have HEQ:=Lib.hid heq
     have x0:wr.cell? ⟨w.heap.size,0,none⟩=some (.int .i64 rn):=(blk_cell D6.box.1 0).trans rfl
     have hrn:rn=K.nodes:=D6.ok.1
     rw [hrn]at x0
     clear D6 hdr heq hrn H5 HDR d1
     cases c with
     | zero =>
      have HEQ2:=Lib.hid (show T=unA S K mk from HEQ.out)
      go_wp2_with fail
      go_meet
      exact ⟨o6,C6,HEQ2.out ▸ HA.out⟩
     | succ c =>
      obtain ⟨hd1,hd2⟩:=HDR2.out
      have hz:T.ns.length - 1=K.nodes+c:=by omega
      rw [hz]at hd1 hd2
      have hdrop:=drop_calls HA.out.gl HA.out.core _ hd1
      have HEQ3:=Lib.hid (show dropN c (dropS T (K.nodes+c))=unA S K mk by have h:=HEQ.out;unfold dropN at h;rw [hz]at h;exact h)
      have HD2:=Lib.hid hd2
      have hl2:(dropS T (K.nodes+c)).ns.length=K.nodes+c:=by show (T.ns.take (K.nodes+c)).length=_;rw [List.length_take];omega
      rw [show ((K.nodes+c:Nat):Int)=(K.nodes:Int)+((c+1:Nat):Int) - 1 by omega]at hdrop
      have HDROP:=Lib.hid hdrop
      clear hd1 hd2 hdrop HDR2 HEQ
      have hg1:((K.nodes:Int)+((c+1:Nat):Int) - 1 ≥ K.nodes)=True:=by simp;omega
      go_wp2_with fail
      refine HDROP.out.mono ?_
      rintro e w2 ⟨o7,C7,rfl,h7,f7⟩
      have HA7:=Lib.hid (HA.out.next h7 f7)
      clear h7 f7
      go_wp2_with fail
      go_roundw
      case rel=>exact ⟨c,_,by omega,by go_num,⟨_,_,HA7.out⟩,hl2,HD2.out,HEQ3.out⟩
      case measure=>first | (simp [intOf];done) | (simp [intOf];omega)
   case rest =>
    obtain ⟨o6,C6,D6⟩:=hcut
    refine hK2 _ _ ?_
    have hD:=D6.below (Below.refl _ _).drew
    have hset:=sets_undo hD.core.sets HD.out.hp HD.out.ht (K.sets:Int) ((unA S K mk).t.length - K.sets) (by omega) (by have:=HD.out.st;omega) HD.out.safe
    rw [Int.toNat_natCast]at hset
    have g0:=D6.core.at0
    have x2:wc.cell? ⟨w.heap.size,2,none⟩=some (.int .i64 K.sets):=(blk_cell D6.box.1 2).trans (by rw [← D6.ok.2.2.1];rfl)
    have LIMB:=Lib.hid (fun wr (hb:Below wc.heap.size wc wr)=>show wr.cell? ⟨cb,0,none⟩=some (.pointer (some ⟨C6.sg,0,none⟩))∧wr.cell? ⟨w.heap.size,2,none⟩=some (.int .i64 K.sets)from ⟨pw_cell_below hb g0,pw_cell_below hb x2⟩)
    have HA:=Lib.hid hD
    have HSET:=Lib.hid hset
    have HOC:=Lib.hid (show ¬ SetsM (b+2) ((o6.from_ wc.heap.size 0) cb) by rw [Own.from_lt (blk_lt D6.core.blk.1),D6.core.blk.2];unfold SetsM;omega)
    have HOO:=Lib.hid (show ¬ SetsM (b+2) ((o6.from_ wc.heap.size 0) w.heap.size) by rw [Own.from_lt (blk_lt D6.box.1),D6.box.2];unfold SetsM;omega)
    obtain ⟨q0,q1⟩:=LIMB.out wc.drew (Below.refl _ _).drew
    clear D6 hset hD x2 g0 H5 HDR d1 hK2
    go_upto_region 10 with fail
    go_cut [] (fun wy=>Hid (∃ o2 C2,UA B b g cb w.heap.size w o ⟨rn,rl,rs,⟨Ak,nk,ck⟩,⟨At,nt,ct⟩,rd⟩ K wy o2 C2 (unB S K mk)))
    case first =>
     go_region_held3 (fun wr=>wr.cell? ⟨cb,0,none⟩=some (.pointer (some ⟨C6.sg,0,none⟩))∧wr.cell? ⟨w.heap.size,2,none⟩=some (.int .i64 K.sets))
      ((first | (refine ⟨?_,?_⟩ <;> assumption) | fail))
      ((go_at_call 44;refine HSET.out.mono ?_;rintro e w3 ⟨rfl,o3,hT3,hF3⟩;have k5:=hF3.kp.cell q0 HOC.out;have k0:=hF3.kp.cell q1 HOO.out;have HT3:=Lib.hid hT3;have HF3:=Lib.hid hF3;clear hT3 hF3))
     go_wp2_with fail
     go_meet
     exact ⟨_,_,HA.out.next (HA.out.core.onSets HF3.out.kp HT3.out) (HF3.out.mono (fun _ h=>setsM_core h))⟩
    case rest =>
     obtain ⟨o7,C7,D7⟩:=hcut
     clear q0 q1 LIMB HSET HOC HOO HA
     have hD:=D7.below (Below.refl _ _).drew
     have hset:=forest_undo (b:=b+13) (by omega) hD.core.forest (by show (unA S K mk).L.length≤900;rw [HD.out.hN0];exact HD.out.hL) K.links (by have:=HD.out.lk;omega)
     have g0:=D7.core.at6
     have x2:wc.cell? ⟨w.heap.size,1,none⟩=some (.int .i64 K.links):=(blk_cell D7.box.1 1).trans (by rw [← D7.ok.2.1];rfl)
     have LIMB:=Lib.hid (fun wr (hb:Below wc.heap.size wc wr)=>show wr.cell? ⟨cb,6,none⟩=some (.pointer (some ⟨C7.fg,0,none⟩))∧wr.cell? ⟨w.heap.size,1,none⟩=some (.int .i64 K.links)from ⟨pw_cell_below hb g0,pw_cell_below hb x2⟩)
     have HA:=Lib.hid hD
     have HSET:=Lib.hid hset
     have HOC:=Lib.hid (show ¬ ForM (b+13) ((o7.from_ wc.heap.size 0) cb) by rw [Own.from_lt (blk_lt D7.core.blk.1),D7.core.blk.2];unfold ForM;omega)
     have HOO:=Lib.hid (show ¬ ForM (b+13) ((o7.from_ wc.heap.size 0) w.heap.size) by rw [Own.from_lt (blk_lt D7.box.1),D7.box.2];unfold ForM;omega)
     obtain ⟨q0,q1⟩:=LIMB.out wc.drew (Below.refl _ _).drew
     clear D7 hset hD x2 g0
     go_upto_region 11 with fail
     go_cut [] (fun wy=>Hid (∃ L2,L2.length≤K.links∧∃ o2 C2,UA B b g cb w.heap.size w o ⟨rn,rl,rs,⟨Ak,nk,ck⟩,⟨At,nt,ct⟩,rd⟩ K wy o2 C2 (withL (unB S K mk) L2)))
     case first =>
      go_region_held3 (fun wr=>wr.cell? ⟨cb,6,none⟩=some (.pointer (some ⟨C7.fg,0,none⟩))∧wr.cell? ⟨w.heap.size,1,none⟩=some (.int .i64 K.links))
       ((first | (refine ⟨?_,?_⟩ <;> assumption) | fail))
       ((go_at_call 45;refine HSET.out.mono ?_;rintro e w3 ⟨o3,L3,r3,rfl,hT3,hl3,hF3⟩;have k5:=hF3.kp.cell q0 HOC.out;have k0:=hF3.kp.cell q1 HOO.out;have HT3:=Lib.hid hT3;have HL3:=Lib.hid hl3;have HF3:=Lib.hid hF3;clear hT3 hF3 hl3))
      go_wp2_with fail
      go_meet
      exact ⟨L3,HL3.out,_,_,HA.out.next (HA.out.core.onForest HF3.out.kp HT3.out) (HF3.out.mono (fun _ h=>forM_core h))⟩
     case rest =>
      obtain ⟨L2,hL2,o8,C8,D8⟩:=hcut
      clear q0 q1 LIMB HSET HOC HOO HA
      obtain ⟨rs0,q1,qm,q3⟩:=D8.ok.2.2.2.2.1
      obtain ⟨A',c',e',h1',hC⟩:=Kd.R_reads q1
      injection e' with e1 e2 e3
      subst e1
      subst e2
      subst e3
      have hlen:rs0.length≤600:=by have h:=HD.out.kl;rw [← qm,List.length_map]at h;exact h
      have HC:=Lib.hid hC
      have HQ3:=Lib.hid q3
      have HQM:=Lib.hid qm
      have HA:=Lib.hid D8
      have x3:wc.cell? ⟨w.heap.size,3,none⟩=some (.slice Ak rs0.length ck):=(blk_cell D8.box.1 3).trans rfl
      have y3:(wc.alloc (.cells #[] 56)).cell? ⟨w.heap.size,3,none⟩=some (.slice Ak rs0.length ck):=pw_cell_below (below_alloc (Below.refl _ _) _) x3
      have e2c:wc.cell? ⟨cb,2,none⟩=some C8.vk:=D8.core.at2
      clear D8 hC q1 q3 h1' qm
      go_upto_region 12 with fail
      go_cut [] (fun wy=>Hid (∃ o2 C2,UA B b g cb w.heap.size w o ⟨rn,rl,rs,⟨Ak,rs0.length,ck⟩,⟨At,nt,ct⟩,rd⟩ K wy o2 C2 (withL (unC S K mk) L2)))
      case first =>
       go_wp2_with ((with_reducible refine gate_builtin (b:=.append) (xs:=#[.tmp 79,.tmp 81]) rfl ?_);at_builtin;refine row_rows kNV (M:=(·=b+6)) ((Fr.start (·=b+6) wc o8 (b+6) (.inr rfl)).alloc (.cells #[] 56)) (b+6) (.inr rfl) rfl (.tmp 79) (.tmp 81) 49 56 (.agg #[.int .i64 0,.int .i64 0,.int .u64 0,.string ⟨#[]⟩,.slice none 0 0]) 64 rfl Tryz.underlying49 inf56 rfl (by decide) (by omega) (.slice (some ⟨wc.heap.size,0,none⟩) 0 0) [] rs0 Ak rs0.length ck rfl rfl (Row.empty kNV 56 wc _ (b+6)) (Kd.C_alloc HC.out _) (fun _ _ h=>h) (fun k hk=>.inr (Nat.le_of_eq (ob_eq hk))) (by simp;omega) ?_;intro A9 c9 w9 h9 f9 k9 g9;simp only [List.length_nil,Nat.zero_add,List.nil_append]at h9 ⊢;have H9:=Lib.hid h9;have F9:=Lib.hid f9;have hb9:=HA.out.core.blk.fr f9.kp (by omega);have e9:w9.cell? ⟨cb,2,none⟩=some C8.vk:=(blk_cell hb9.1 2).trans rfl;have fz9:=blk_frozen hb9.1 2;clear h9 f9 k9 g9 hb9)
       go_meet
       have hnr:NodesRow w9 _ (b+6) (.slice A9 rs0.length c9) K.keys:=⟨rs0,H9.out,HQM.out,fun r hr=>(HQ3.out r hr).fr F9.out.kp (by omega)⟩
       have hgl:=blk_lt HA.out.core.blk.1
       exact ⟨_,_,HA.out.next (HA.out.core.onKeys F9.out.kp hnr) ((F9.out.mono (M':=CoreM b) (fun t h=>by subst h;unfold CoreM;omega)).setCell ⟨cb,2,none⟩ (.slice A9 rs0.length c9) (.inl (by rw [F9.out.kp.own cb hgl,HA.out.core.blk.2];unfold CoreM;omega)))⟩
      case rest =>
       obtain ⟨o9,C9,D9⟩:=hcut
       clear HC HQ3 HQM HA x3 y3 e2c
       have q1:Row (Kd.int .i64) 3 wc o9 0 (.slice At nt ct) K.todo:=D9.ok.2.2.2.2.2
       obtain ⟨A',c',e',h1',hC⟩:=Kd.R_reads q1
       injection e' with e1 e2 e3
       subst e1
       subst e2
       subst e3
       have hlen2:K.todo.length≤100000:=HD.out.td
       have HC:=Lib.hid hC
       have HA:=Lib.hid D9
       have x3:wc.cell? ⟨w.heap.size,4,none⟩=some (.slice At K.todo.length ct):=(blk_cell D9.box.1 4).trans rfl
       have y3:(wc.alloc (.cells #[] 3)).cell? ⟨w.heap.size,4,none⟩=some (.slice At K.todo.length ct):=pw_cell_below (below_alloc (Below.refl _ _) _) x3
       have e2c:wc.cell? ⟨cb,8,none⟩=some C9.vt:=D9.core.at8
       clear D9 hC q1 h1'
       go_upto_region 13 with fail
       go_cut [] (fun wy=>Hid (∃ o2 C2,UA B b g cb w.heap.size w o ⟨rn,rl,rs,⟨Ak,rs0.length,ck⟩,⟨At,K.todo.length,ct⟩,rd⟩ K wy o2 C2 (withL (unD S K mk) L2)))
       case first =>
        go_wp2_with ((with_reducible refine gate_builtin (b:=.append) (xs:=#[.tmp 86,.tmp 88]) rfl ?_);at_builtin;refine row_rows (Kd.int .i64) (M:=(·=b+19)) ((Fr.start (·=b+19) wc o9 (b+19) (.inr rfl)).alloc (.cells #[] 3)) (b+19) (.inr rfl) rfl (.tmp 86) (.tmp 88) 26 3 (.int .i64 0) 8 rfl Tryz.underlying26 inf3 rfl (by decide) (by omega) (.slice (some ⟨wc.heap.size,0,none⟩) 0 0) [] K.todo At K.todo.length ct rfl rfl (Row.empty (Kd.int .i64) 3 wc _ (b+19)) (Kd.C_alloc HC.out _) (fun _ _ h=>h) (fun k hk=>.inr (Nat.le_of_eq (ob_eq hk))) (by simp;omega) ?_;intro A9 c9 w9 h9 f9 k9 g9;simp only [List.length_nil,Nat.zero_add,List.nil_append]at h9 ⊢;have H9:=Lib.hid h9;have F9:=Lib.hid f9;have hb9:=HA.out.core.blk.fr f9.kp (by omega);have e9:w9.cell? ⟨cb,8,none⟩=some C9.vt:=(blk_cell hb9.1 8).trans rfl;have fz9:=blk_frozen hb9.1 8;clear h9 f9 k9 g9 hb9)
        go_meet
        have hgl:=blk_lt HA.out.core.blk.1
        exact ⟨_,_,HA.out.next (HA.out.core.onTodo F9.out.kp H9.out) ((F9.out.mono (M':=CoreM b) (fun t h=>by subst h;unfold CoreM;omega)).setCell ⟨cb,8,none⟩ (.slice A9 K.todo.length c9) (.inl (by rw [F9.out.kp.own cb hgl,HA.out.core.blk.2];unfold CoreM;omega)))⟩
       case rest =>
        obtain ⟨o10,C10,D10⟩:=hcut
        clear HC HA x3 y3 e2c
        have x3:wc.cell? ⟨w.heap.size,5,none⟩=some (.bool K.dirty):=(blk_cell D10.box.1 5).trans (by rw [← D10.ok.2.2.2.1];rfl)
        have e9:=D10.core.at9
        have fz9:=blk_frozen D10.core.blk.1 9
        have hgl:=blk_lt D10.core.blk.1
        have hob:=D10.core.blk.2
        have HA:=Lib.hid (D10.store (a:=⟨cb,9,none⟩) (by show CoreM b (o10 cb);rw [hob];unfold CoreM;omega) hgl (D10.core.onDirty K.dirty))
        clear D10 hgl hob
        go_upto_region 14 with fail
        go_cut [] (fun wy=>Hid (∃ o2 C2,UA B b g cb w.heap.size w o ⟨rn,rl,rs,⟨Ak,rs0.length,ck⟩,⟨At,K.todo.length,ct⟩,rd⟩ K wy o2 C2 (withL (unE S K mk) L2)))
        case first =>
         go_wp2_with fail
         go_meet
         exact ⟨_,_,HA.out⟩
        case rest =>
         obtain ⟨o11,C11,D11⟩:=hcut
         clear HA x3 e9 fz9
         have HA:=Lib.hid D11
         have hnew:=tab_new (b+11) wc o11
         clear D11
         go_upto_region 15 with fail
         go_cut [] (fun wy=>Hid (∃ o2 C2,UA B b g cb w.heap.size w o ⟨rn,rl,rs,⟨Ak,rs0.length,ck⟩,⟨At,K.todo.length,ct⟩,rd⟩ K wy o2 C2 (withL (unF S K mk) L2)))
         case first =>
          go_wp2_with fail
          refine hnew.mono ?_
          rintro e w9 ⟨g9,o9,rfl,h9,f9⟩
          have H9:=Lib.hid h9
          have F9:=Lib.hid f9
          have hb9:=HA.out.core.blk.fr f9.kp (by unfold TabM;omega)
          have e9:w9.cell? ⟨cb,5,none⟩=some (.pointer (some ⟨C11.tg,0,none⟩)):=(blk_cell hb9.1 5).trans rfl
          have fz9:=blk_frozen hb9.1 5
          clear h9 f9 hb9
          go_wp2_with fail
          go_meet
          have hgl:=blk_lt HA.out.core.blk.1
          exact ⟨_,_,HA.out.next (HA.out.core.newTable F9.out.kp H9.out) ((F9.out.mono (M':=CoreM b) (fun t h=>tab11_core h)).setCell ⟨cb,5,none⟩ (.pointer (some ⟨g9,0,none⟩)) (.inl (by rw [F9.out.kp.own cb hgl,HA.out.core.blk.2];unfold CoreM;omega)))⟩
         case rest =>
          obtain ⟨o12,C12,D12⟩:=hcut
          clear hnew HA
          refine (‹∀ (a:Act) (w:World),Code.wp _ _ _ a w→_›) _ _ ?_
          refine wp_seq_k ?_
          intro K3 hK3
          obtain ⟨Akk,ckk,ek⟩:=D12.core.keys.slice
          have EK:=Lib.hid (show C12.vk=.slice Akk K.keys.length ckk from ek)
          have d2:wc.cell? ⟨cb,2,none⟩=some (.slice Akk K.keys.length ckk):=by rw [← EK.out];exact D12.core.at2
          have hkl:K.keys.length≤600:=HD.out.kl
          have H0:=Lib.hid (show ∃ o2,UA B b g cb w.heap.size w o ⟨rn,rl,rs,⟨Ak,rs0.length,ck⟩,⟨At,K.todo.length,ct⟩,rd⟩ K wc o2 C12 (withL (unG S K mk 0) L2)from ⟨o12,D12⟩)
          clear D12 ek
          go_cut [] (fun wy=>Hid (∃ o2 C2,UA B b g cb w.heap.size w o ⟨rn,rl,rs,⟨Ak,rs0.length,ck⟩,⟨At,K.todo.length,ct⟩,rd⟩ K wy o2 C2 (withL (undoS S K mk) L2)))
          case first =>
           go_wp2_with fail
           go_loopw [106] (fun s wr=>∃ i:Nat,i≤K.keys.length∧s=.int .i64 i∧Hid (∃ o2,UA B b g cb w.heap.size w o ⟨rn,rl,rs,⟨Ak,rs0.length,ck⟩,⟨At,K.todo.length,ct⟩,rd⟩ K wr o2 C12 (withL (unG S K mk i) L2))) (fun s _=>K.keys.length - (intOf s).toNat)
           case atStart=>exact ⟨0,Nat.zero_le _,rfl,H0⟩
           case round =>
            obtain ⟨i,hi,rfl,⟨o13,hA⟩⟩:=hrel
            have HA:=Lib.hid hA
            clear hA H0 d2
            by_cases hlt:i < K.keys.length
            ·have hkr:=HA.out.core.keys
             rw [EK.out]at hkr
             obtain ⟨bk,vk3,kd,hAk,hgk,hgd,_,a0,a1,a2,a3,a4,hIm,_⟩:=NodesRow.at (show NodesRow wr o13 (b+6) (.slice Akk K.keys.length ckk) K.keys from hkr) (i:Int) (by omega) (by omega)
             rw [Int.toNat_natCast]at a0 a1 a2 a3 a4 hgk
             subst hAk
             obtain ⟨A3,c3,rfl,_⟩:=id hIm
             have HI:=Lib.hid hIm
             have hgk2:K.keys[i]?=some kd:=hgk
             have HKO:=Lib.hid (HD.out.ko kd (List.mem_of_getElem? hgk2))
             have HTK:=Lib.hid (show K.keys.take (i+1)=K.keys.take i++[kd] by
              rw [List.take_add_one,hgk2];rfl)
             clear hkr hgk hgd hIm hgk2
             go_upto_region 18 with fail
             go_cut [8,9] (fun s8 s9 wy=>s8=.int .i64 i∧s9=.pointer (some ⟨wr.heap.size,0,none⟩)∧Hid (∃ o3,UA B b g cb w.heap.size w o ⟨rn,rl,rs,⟨Ak,rs0.length,ck⟩,⟨At,K.todo.length,ct⟩,rd⟩ K wy o3 C12 (withL (unG S K mk i) L2)∧Blk wy o3 0 wr.heap.size (kd.cells (.slice A3 kd.args.length c3)) 56∧Imm wy o3 (.slice A3 kd.args.length c3) kd.args))
             case first =>
              go_wp2_with fail
              go_meet
              have hb:=below_alloc (Below.refl wr.heap.size wr) (.cells (kd.cells (.slice A3 kd.args.length c3)) 56)
              exact ⟨rfl,rfl,o13.from_ wr.heap.size 0,HA.out.below hb,⟨blk_new _ _,Own.from_ge (Nat.le_refl _)⟩,HI.out.fr (((Kp.refl (fun _=>False) wr o13).renew 0).below hb) (fun h=>h)⟩
             case rest =>
              obtain ⟨rfl,rfl,o14,D14,B14,I14⟩:=hcut
              clear HA HI a0 a1 a2 a3 a4
              generalize wr.heap.size=nb2 at *
              have hD:=D14.below (Below.refl _ _).drew
              have I15:=I14.fr (((Kp.refl (fun _=>False) wc o14).renew 0).below (Below.refl wc.heap.size wc).drew) (fun h=>h)
              have hput:=put_calls (B:=B) hD.core.table (by have:=HD.out.hN;show (unA S K mk).N+i≤_;omega) kd (.slice A3 kd.args.length c3) I15.held HKO.out (i:Int) hD.gl.tab hD.gl.le
              have g4:=D14.core.at5
              have x0:wc.cell? ⟨nb2,0,none⟩=some (.int .i64 kd.op):=(blk_cell B14.1 0).trans rfl
              have x1:wc.cell? ⟨nb2,1,none⟩=some (.int .i64 kd.width):=(blk_cell B14.1 1).trans rfl
              have x2:wc.cell? ⟨nb2,2,none⟩=some (.int .u64 kd.val):=(blk_cell B14.1 2).trans rfl
              have x3:wc.cell? ⟨nb2,3,none⟩=some (.string kd.name):=(blk_cell B14.1 3).trans rfl
              have x4:wc.cell? ⟨nb2,4,none⟩=some (.slice A3 kd.args.length c3):=(blk_cell B14.1 4).trans rfl
              have LIMB:=Lib.hid (fun wr (hb:Below wc.heap.size wc wr)=>show wr.cell? ⟨cb,5,none⟩=some (.pointer (some ⟨C12.tg,0,none⟩))∧wr.cell? ⟨nb2,0,none⟩=some (.int .i64 kd.op)∧wr.cell? ⟨nb2,1,none⟩=some (.int .i64 kd.width)∧wr.cell? ⟨nb2,2,none⟩=some (.int .u64 kd.val)∧wr.cell? ⟨nb2,3,none⟩=some (.string kd.name)∧wr.cell? ⟨nb2,4,none⟩=some (.slice A3 kd.args.length c3)from ⟨pw_cell_below hb g4,pw_cell_below hb x0,pw_cell_below hb x1,pw_cell_below hb x2,pw_cell_below hb x3,pw_cell_below hb x4⟩)
              have HA:=Lib.hid hD
              have HPUT:=Lib.hid hput
              have HOC:=Lib.hid (show ¬ TabM (b+11) ((o14.from_ wc.heap.size 0) cb) by rw [Own.from_lt (blk_lt D14.core.blk.1),D14.core.blk.2];unfold TabM;omega)
              have HOO:=Lib.hid (show ¬ TabM (b+11) ((o14.from_ wc.heap.size 0) nb2) by rw [Own.from_lt (blk_lt B14.1),B14.2];unfold TabM;omega)
              obtain ⟨q0,q1,q2,q3,q4,q5⟩:=LIMB.out wc.drew (Below.refl _ _).drew
              clear D14 B14 I14 I15 hput hD x0 x1 x2 x3 x4 g4
              simp only [Nd.cells]at HPUT
              go_upto_region 19 with fail
              go_region_held3 (fun wr=>wr.cell? ⟨cb,5,none⟩=some (.pointer (some ⟨C12.tg,0,none⟩))∧wr.cell? ⟨nb2,0,none⟩=some (.int .i64 kd.op)∧wr.cell? ⟨nb2,1,none⟩=some (.int .i64 kd.width)∧wr.cell? ⟨nb2,2,none⟩=some (.int .u64 kd.val)∧wr.cell? ⟨nb2,3,none⟩=some (.string kd.name)∧wr.cell? ⟨nb2,4,none⟩=some (.slice A3 kd.args.length c3))
               ((first | (refine ⟨?_,?_,?_,?_,?_,?_⟩ <;> assumption) | fail))
               ((go_at_call 46;refine HPUT.out.mono ?_;rintro e w3 ⟨o3,rfl,hT3,hF3⟩;have k5:=hF3.kp.cell q0 HOC.out;have k0:=hF3.kp.cell q1 HOO.out;have k1:=hF3.kp.cell q2 HOO.out;have k2:=hF3.kp.cell q3 HOO.out;have k3:=hF3.kp.cell q4 HOO.out;have k4:=hF3.kp.cell q5 HOO.out;have HT3:=Lib.hid hT3;have HF3:=Lib.hid hF3;clear hT3 hF3))
              have hn:=HA.out.next (HA.out.core.onTable HF3.out.kp (Nat.le_succ _) HT3.out) (HF3.out.mono (fun _ h=>tab11_core h))
              have hst:({ withL (unG S K mk i) L2 with tab:=(if ((unG S K mk i).tab (keyStr kd)).isSome then (unG S K mk i).tab else putT (unG S K mk i).tab (keyStr kd) i),N:=(unG S K mk i).N+1 }:St)=withL (unG S K mk (i+1)) L2:=by
               have h1:keysTab (K.keys.take (i+1)) 0 (fun _=>none)=(if ((unG S K mk i).tab (keyStr kd)).isSome then (unG S K mk i).tab else putT (unG S K mk i).tab (keyStr kd) i):=by
                rw [HTK.out,keysTab_snoc]
                show (if (keysTab (K.keys.take i) 0 (fun _=>none) (keyStr kd)).isSome then _ else _)=if (keysTab (K.keys.take i) 0 (fun _=>none) (keyStr kd)).isSome then _ else _
                rw [show (0:Int)+((K.keys.take i).length:Int)=i by rw [List.length_take];omega]
                rfl
               rw [← h1]
               rfl
              have H15:=Lib.hid (show UA B b g cb w.heap.size w o ⟨rn,rl,rs,⟨Ak,rs0.length,ck⟩,⟨At,K.todo.length,ct⟩,rd⟩ K w3 o3 C12 (withL (unG S K mk (i+1)) L2)from hst ▸ hn)
              clear hst hn
              go_wp2_with fail
              go_roundw
              case rel=>exact ⟨i+1,by omega,by go_num,⟨_,H15.out⟩⟩
              case measure=>first | (simp [intOf];done) | (simp [intOf];omega)
            ·have hil:i=K.keys.length:=by omega
             subst hil
             have HST:=Lib.hid (show unG S K mk K.keys.length=undoS S K mk by unfold unG undoS;rw [List.take_length])
             go_wp2_with fail
             go_meet
             exact ⟨o13,C12,HST.out ▸ HA.out⟩
          case rest =>
           obtain ⟨o13,C13,D13⟩:=hcut
           refine hK3 _ _ ?_
           go_wp2_with fail
           go_ret
           exact ⟨o13,L2,rfl,⟨cb,C13,D13.gr,D13.core⟩,hL2,D13.fr.mono (fun _ h=>coreM_graph h)⟩
end Go.Proofs.YtjckhhecnebmmaaGreatDoor.TU
end
