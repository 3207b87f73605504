/- Steps towards the law TopUndoes; words printed by the kit, and printed texts, are cut to what is used, and spaces are left out. No condition. -/
import Derived.Test.YtjckhhecnebmmaaGreatDoorZ25
import Derived.Test.YtjckhhecnebmmaaGreatDoorZ23
import Derived.Test.YtjckhhecnebmmaaGreatDoorZ18
set_option linter.unusedVariables false
set_option linter.unusedSimpArgs false
section
namespace Go.Proofs.YtjckhhecnebmmaaGreatDoor.TU
open Go.RowKit Go.Proofs.YtjckhhecnebmmaaGreatDoorW.PrintWords Go.Proofs.YtjckhhecnebmmaaGreatDoorW.PrintLast Go.Proofs.YtjckhhecnebmmaaGreatDoorW.PrintMore Go.Proofs.YtjckhhecnebmmaaGreatDoor.QAll
attribute [local go_sem] max2_int min2_int max_two min_two max_three min_three max_four min_four
set_option linter.unusedVariables false
attribute [local go_sem] Oper.semAt_some
structure CkS where
 seen:Lit→Option Value
 conf:Bool
 err:Int
open Classical in
noncomputable def ckStep (s:CkS) (u:S35):CkS :=
 if s.err≠0 then s else if nodeF u≠0 then { s with err:=nodeF u }
 else if u.f0=1 then ⟨updF s.seen (lits_ u.f3) (some (.int .i64 u.f1)),s.conf || ((s.seen (lits_ u.f3)).isSome && (intOf ((s.seen (lits_ u.f3)).getD (.int .i64 0)) != u.f1)),0⟩else s
noncomputable def ckAll (l:List S35):CkS:=l.foldl ckStep ⟨fun _=>none,false,0⟩
noncomputable def checkF (k:Nat) (t:S35):Int:=if (ckAll (postT k t)).err≠0 then (ckAll (postT k t)).err else if (ckAll (postT k t)).conf=true then 12 else 0
theorem ckAll_snoc (l:List S35) (u:S35):ckAll (l++[u])=ckStep (ckAll l) u:=by unfold ckAll;rw [List.foldl_append];rfl
theorem ckAll_err (l q:List S35) (h:q <+: l) (he:(ckAll q).err≠0):(ckAll l).err=(ckAll q).err:=by
 obtain ⟨r,rfl⟩:=h
 have:∀ (r:List S35) (s:CkS),s.err≠0→r.foldl ckStep s=s:=by
  intro r
  induction r with
  | nil=>intro s _;rfl
  | cons u r ih =>
   intro s hs
   have e:ckStep s u=s:=if_pos hs
   show r.foldl ckStep (ckStep s u)=s
   rw [e,ih s hs]
 unfold ckAll at he ⊢
 rw [List.foldl_append,this r _ he]
structure CI (w0:World) (b2 b5 b6 mb:Nat) (pre:List S35) (W:World):Prop where
 err:(ckAll pre).err=0
 map:GMap 9 SInt (.int .i64 0) W mb pre.length (ckAll pre).seen
 x5:W.heap[b5]?=some (.cells #[.map (some mb)] 62 (0,0))
 x6:W.heap[b6]?=some (.cells #[.bool (ckAll pre).conf] 4 (0,0))
 x2:W.heap[b2]?=some (.cells #[.int .i64 0] 28 (0,0))
 bel:Below w0.heap.size w0 W
structure CX (w0:World) (b2:Nat) (c:Code) (pre:List S35) (W:World):Prop where
 ret:c=.ret
 err:(ckAll pre).err≠0
 x2:W.heap[b2]?=some (.cells #[.int .i64 (ckAll pre).err] 28 (0,0))
 bel:Below w0.heap.size w0 W
theorem CI.stays {w0 W W':World} {b2 b5 b6 mb n1:Nat} {pre:List S35} (h:CI w0 b2 b5 b6 mb pre W) (hb:Below n1 W W') (h0:w0.heap.size≤n1) (h2:b2 < n1) (h5:b5 < n1) (h6:b6 < n1) (hm:mb < n1):CI w0 b2 b5 b6 mb pre W' :=
 ⟨h.err,h.map.at (hb.block _ hm),(hb.block _ h5).trans h.x5,(hb.block _ h6).trans h.x6,(hb.block _ h2).trans h.x2,h.bel.trans (hb.mono h0)⟩
theorem CX.stays {w0 W W':World} {b2 n1:Nat} {c:Code} {pre:List S35} (h:CX w0 b2 c pre W) (hb:Below n1 W W') (h0:w0.heap.size≤n1) (h2:b2 < n1):CX w0 b2 c pre W' :=
 ⟨h.ret,h.err,(hb.block _ h2).trans h.x2,h.bel.trans (hb.mono h0)⟩
theorem TIn.anyO {w:World} {o:Own}:∀ (n:Nat) (A:Option Addr) (l:List S35),TIn w o n A l→TIn w (oB w.heap.size) n A l:=by
 intro n
 induction n with
 | zero=>intro A l h;exact h
 | succ n ih =>
  intro A l h
  refine ⟨h.1,fun i x hx=>?_⟩
  obtain ⟨ad,Ai,ci,e,hl,ho,a0,a1,a2,a3,a4,hc,hn⟩:=h.2 i x hx
  exact ⟨ad,Ai,ci,e,hl,if_pos hl,a0,a1,a2,a3,a4,hc,ih _ _ hn⟩
theorem kx_setCell {n0 B b i:Nat} (W:World) (u:Value) (h0:n0≤b) (hB:b < B):Kx n0 B W (W.setCell ⟨b,i,none⟩ u):=⟨by simp only [World.setCell,Array.size_modify];exact Nat.le_refl _,fun k _ ho=>Below.heap_setCell W ⟨b,i,none⟩ u k (by show k≠b;omega)⟩
theorem res34 {tmps:Array Value} {w:World} {b2:Nat} {v:Int} (hp:tmps.getD 2 undef=.pointer (some ⟨b2,0,none⟩)) (hc:w.cell? ⟨b2,0,none⟩=some (.int .i64 v)):(results Tryz.f34 tmps).run Tryz.prog w=.ok (.int .i64 v) w:=by
 have hr:Tryz.f34.results=#[.cell 2 28]:=rfl
 have hp':tmps[2]?.getD undef=.pointer (some ⟨b2,0,none⟩):=by simpa using hp
 have hu:=Tryz.underlying28
 simp [results,hr,hp',asAddr,go_sem,hc,hu]
set_option maxHeartbeats 8000000 in
set_option maxRecDepth 20000 in
theorem check_calls {o:Own} (k:Nat) (t:S35) (A:Option Addr) (c:Nat) (w:World) (hT:TIn w o k A t.f4) (hk:k≤50) (hc:t.f4.length≤c) (hct:countT (k+1) t≤1000) :
  Calls Tryz.prog 34 #[.agg (tcells t A c)] w (FlawPost w (checkF (k+1) t)):=by
 have hdd:∀ k:Nat,(Fence.wide.depth.isSome=true→1≤k):=fun k h=>by cases h
 have hwf:=TIn.wf' hT
 obtain ⟨K,hms⟩:=measure_f (k+1) t 4096 64 hwf (by omega) (by omega) (by omega) (by omega)
 have hmeas:=fun wr (hb:Below w.heap.size w wr)=>term_measure.calls K t.f0 t.f1 t.f2 t.f3 A c t.f4 4096 64 _ _ wr (Kd.C_below (TIn.C _ _ _ hT) hb) hc hms
 have hb1:=below_alloc (below_alloc (Below.refl w.heap.size w) (.cells (tcells t A c) 35)) (.cells #[.int .i64 0] 28)
 have hx1:=blk_alloc (blk_new w (.cells (tcells t A c) 35)) (.cells #[.int .i64 0] 28)
 have hx2:=blk_new (w.alloc (.cells (tcells t A c) 35)) (.cells #[.int .i64 0] 28)
 have HMEAS:=Lib.hid hmeas
 have HB1:=Lib.hid hb1
 have HT:=Lib.hid (TIn.anyO _ _ _ hT)
 have HC:=Lib.hid hc
 have HCT:=Lib.hid hct
 have HWF:=Lib.hid hwf
 have HX1:=Lib.hid hx1
 have HX2:=Lib.hid hx2
 clear hmeas hms hb1 hT hc hct hwf hx1 hx2
 simp only [tcells,World.size_alloc]at *
 have hmm:=@run_makeMap Tryz.prog
 refine (callsIn_wide (n:=3)).1 ?_
 refine callsIn_of_wp_marks Tryz.func34 rfl trivial ?_ rfl
 simp only [Tryz.ntmps34,List.size_toArray,List.length_cons,List.length_nil,Nat.reduceAdd,Nat.reduceSub,Array.replicate_succ,Array.replicate_zero,List.push_toArray,List.append_toArray,List.nil_append,List.cons_append]
 gi_wp2
 refine ⟨trivial,?_⟩
 refine (callsIn_wide.2 (HMEAS.out _ HB1.out)).mono ?_
 rintro e w3 ⟨rfl,hb3⟩
 have HB3:=Lib.hid (HB1.out.trans (hb3.mono HB1.out.size))
 have hb4:=below_alloc (below_alloc (below_alloc (Below.refl w3.heap.size w3) (.map #[] 0)) (.cells #[.map (some w3.heap.size)] 62)) (.cells #[.bool false] 4)
 have hx13:=blk_below HX1.out (hb3.trans (hb4.mono hb3.size))
 have hx23:=blk_below HX2.out (hb3.trans (hb4.mono hb3.size))
 have hx:=blk_cell hx13
 have x0:(((w3.alloc (.map #[] 0)).alloc (.cells #[.map (some w3.heap.size)] 62)).alloc (.cells #[.bool false] 4)).cell? ⟨w.heap.size,0,none⟩=some (.int .i64 t.f0):=(hx 0).trans rfl
 have x1:(((w3.alloc (.map #[] 0)).alloc (.cells #[.map (some w3.heap.size)] 62)).alloc (.cells #[.bool false] 4)).cell? ⟨w.heap.size,1,none⟩=some (.int .i64 t.f1):=(hx 1).trans rfl
 have x2:(((w3.alloc (.map #[] 0)).alloc (.cells #[.map (some w3.heap.size)] 62)).alloc (.cells #[.bool false] 4)).cell? ⟨w.heap.size,2,none⟩=some (.int .u64 t.f2):=(hx 2).trans rfl
 have x3:(((w3.alloc (.map #[] 0)).alloc (.cells #[.map (some w3.heap.size)] 62)).alloc (.cells #[.bool false] 4)).cell? ⟨w.heap.size,3,none⟩=some (.string t.f3):=(hx 3).trans rfl
 have x4:(((w3.alloc (.map #[] 0)).alloc (.cells #[.map (some w3.heap.size)] 62)).alloc (.cells #[.bool false] 4)).cell? ⟨w.heap.size,4,none⟩=some (.slice A t.f4.length c):=(hx 4).trans rfl
 have HB4:=Lib.hid (HB3.out.trans (hb4.mono HB3.out.size))
 have HX23:=Lib.hid hx23
 have HB2:=Lib.hid (Nat.le_succ w.heap.size)
 have hlt1:w.heap.size+1 < w3.heap.size:=by have:=HB1.out.size;have:=hb3.size;simp only [World.size_alloc]at *;omega
 have HGM:=Lib.hid ((GMap.made 9 SInt (.int .i64 0) w3).at (w':=((w3.alloc (.map #[] 0)).alloc (.cells #[.map (some w3.heap.size)] 62)).alloc (.cells #[.bool false] 4)) ((below_alloc (below_alloc (Below.refl _ (w3.alloc (.map #[] 0))) (.cells #[.map (some w3.heap.size)] 62)) (.cells #[.bool false] 4)).block _ (by simp)))
 have HX5:=Lib.hid (blk_alloc (blk_new (w3.alloc (.map #[] 0)) (.cells #[.map (some w3.heap.size)] 62)) (.cells #[.bool false] 4))
 have HX6:=Lib.hid (blk_new ((w3.alloc (.map #[] 0)).alloc (.cells #[.map (some w3.heap.size)] 62)) (.cells #[.bool false] 4))
 have HSZ:Hid ((((w3.alloc (.map #[] 0)).alloc (.cells #[.map (some w3.heap.size)] 62)).alloc (.cells #[.bool false] 4)).heap.size=w3.heap.size+3):=Lib.hid (by simp)
 clear HMEAS HB1 hb3 hx HX1 HX2 hx13 hx23 hb4
 simp only [World.size_alloc]at HX5 HX6
 gi_wp2
 generalize ((w3.alloc (.map #[] 0)).alloc (.cells #[.map (some w3.heap.size)] 62)).alloc (.cells #[.bool false] 4)=w6 at *
 generalize w3.heap.size=mb at *
 replace HB2:=Lib.hid (show w.heap.size≤w.heap.size+1 from HB2.out)
 generalize w.heap.size+1=b2 at *
 refine ⟨trivial,?_⟩
 refine (callsIn_wide.2 (all_calls t A c w6)).mono ?_
 rintro e w7 ⟨rfl,rfl⟩
 have hb7:=below_alloc (Below.refl w6.heap.size w6) (.cells (tcells t A c) 35)
 have HTB:=Lib.hid (blk_new w6 (.cells (tcells t A c) 35))
 have hs7:(w6.alloc (.cells (tcells t A c) 35)).heap.size=w6.heap.size+1:=by simp
 generalize w6.alloc (.cells (tcells t A c) 35)=w7 at *
 have HCI:=Lib.hid (show CI w b2 (mb+1) (mb+1+1) mb [] w7 from ⟨rfl,(HGM.out).at (hb7.block _ (by have:=HSZ.out;omega)),blk_below HX5.out hb7,blk_below HX6.out hb7,blk_below HX23.out hb7,HB4.out.trans (hb7.mono HB4.out.size)⟩)
 have HT7:=Lib.hid ((Kx.of_below (HB4.out.trans (hb7.mono HB4.out.size)):Kx w.heap.size (w.heap.size+1) w w7).tin HT.out)
 have HB7:=Lib.hid (HB4.out.trans (hb7.mono HB4.out.size))
 have HSZ7:=Lib.hid (show mb+4≤w7.heap.size by have:=HSZ.out;omega)
 have HN:=Lib.hid (show (postT (k+1) t).length≤1000 by rw [postT_count _ _ HWF.out];exact HCT.out)
 clear HGM HX5 HX6 HSZ hb7 HX23 hs7 hmm HB4 HB3 HT x0 x1 x2 x3 x4
 gi_wp2
 refine range_terms (n0:=w.heap.size) (k:=k) (N:=1000) (tb:=w6.heap.size) (t:=t) (A:=A) (c:=c) rfl HTB.out HN.out HT7.out HC.out HCT.out HB7.out.size rfl
  (CI w b2 (mb+1) (mb+1+1) mb) (CX w b2)
  (fun pre W W' h hb=>h.stays hb HB7.out.size (by have:=HSZ7.out;omega) (by have:=HSZ7.out;omega) (by have:=HSZ7.out;omega) (by have:=HSZ7.out;omega))
  (fun c pre W W' h hb=>h.stays hb HB7.out.size (by have:=HSZ7.out;omega))
  HCI.out
  (fun x A' c' ub=>#[.agg (tcells t A c),.pointer (some ⟨w.heap.size,0,none⟩),.pointer (some ⟨b2,0,none⟩),.int .i64 (4096 - (countT (k+1) t:Int)),.bool true,.pointer (some ⟨mb+1,0,none⟩),.pointer (some ⟨mb+1+1,0,none⟩),.pointer (some ⟨ub,0,none⟩),undef,undef,undef,.tuple #[.int .i64 (4096 - (countT (k+1) t:Int)),.bool true],.agg (tcells t A c),.tuple #[.int .i64 (4096 - (countT (k+1) t:Int)),.bool true],.int .i64 (4096 - (countT (k+1) t:Int)),.bool true,.bool true,.bool false,.map (some mb),.agg (tcells t A c),.func (.func 70) #[] #[.pointer (some ⟨w6.heap.size,0,none⟩)],.agg (tcells x A' c'),undef,undef,undef,undef,undef,undef,undef,undef,undef,undef,undef,undef,undef,undef,undef,undef,undef,undef,undef,undef,undef,undef,undef,undef,undef,undef,undef,undef,undef,undef,undef]) ?assign ?body ?done ?stop
 case assign =>
  intro l x A' c' W K hK
  simp only [tcells]at hK ⊢
  gi_wp2
  exact hK
 case body =>
  intro l pre x A' c' ub W hI hub hbx hrw hx hlen
  obtain ⟨_,hc',hC'⟩:=Kd.R_reads' hrw
  have hnode:=node_calls x A' c' W hC' hc' hx
  have hu:=blk_cell hbx
  have u0:W.cell? ⟨ub,0,none⟩=some (.int .i64 x.f0):=(hu 0).trans rfl
  have u1:W.cell? ⟨ub,1,none⟩=some (.int .i64 x.f1):=(hu 1).trans rfl
  have u2:W.cell? ⟨ub,2,none⟩=some (.int .u64 x.f2):=(hu 2).trans rfl
  have u3:W.cell? ⟨ub,3,none⟩=some (.string x.f3):=(hu 3).trans rfl
  have u4:W.cell? ⟨ub,4,none⟩=some (.slice A' x.f4.length c'):=(hu 4).trans rfl
  have HNODE:=Lib.hid hnode
  have HI:=Lib.hid hI
  have HBX:=Lib.hid hbx
  have HUB:=Lib.hid hub
  have HLEN:=Lib.hid hlen
  clear hnode hu hI hbx hrw hC' hub hlen hc' HCI HT7 HN HC HTB
  simp only [tcells]at HNODE HBX ⊢
  generalize (4096 - (countT (k+1) t:Int))=ng at *
  gi_wp2
  refine ⟨trivial,?_⟩
  refine (CallsIn.inRound l (callsIn_wide.2 HNODE.out)).mono ?_
  rintro e w8 ⟨rfl,hb8⟩
  have HB8:=Lib.hid hb8
  have HI8:=Lib.hid (HI.out.stays hb8 (Nat.le_trans HB7.out.size (Nat.le_trans HUB.out (Nat.le_of_lt (blk_lt HBX.out)))) (blk_lt HI.out.x2) (blk_lt HI.out.x5) (blk_lt HI.out.x6) HI.out.map.lt)
  have hu:=blk_cell (blk_below HBX.out hb8)
  clear HNODE hb8 u0 u1 u2 u3 u4
  by_cases hn:nodeF x=0
  ·have hok:=nodeF_ok hn
   have HOK:=Lib.hid hok
   have HNF:=Lib.hid hn
   rw [hn]
   clear hn hok
   have u0:w8.cell? ⟨ub,0,none⟩=some (.int .i64 x.f0):=(hu 0).trans rfl
   have u1:w8.cell? ⟨ub,1,none⟩=some (.int .i64 x.f1):=(hu 1).trans rfl
   have u3:w8.cell? ⟨ub,3,none⟩=some (.string x.f3):=(hu 3).trans rfl
   have u5:w8.cell? ⟨mb+1,0,none⟩=some (.map (some mb)):=(blk_cell HI8.out.x5 0).trans rfl
   have u6:w8.cell? ⟨mb+1+1,0,none⟩=some (.bool (ckAll pre).conf):=(blk_cell HI8.out.x6 0).trans rfl
   clear hu
   by_cases hop:x.f0=1
   ·have hck:ckAll (pre++[x])=⟨updF (ckAll pre).seen (lits_ x.f3) (some (.int .i64 x.f1)),(ckAll pre).conf || (((ckAll pre).seen (lits_ x.f3)).isSome && (intOf (((ckAll pre).seen (lits_ x.f3)).getD (.int .i64 0)) != x.f1)),0⟩:=by
     rw [ckAll_snoc,ckStep,if_neg (by rw [HI.out.err];simp),if_neg (by rw [HNF.out];simp),if_pos hop]
    have hkey:=Go.WideMaps.keyOf_string_mk (s:=x.f3) Tryz.underlying9 (by have:=HOK.out.2.2.1;have:maxLen=9223372036854775807:=rfl;omega:x.f3.size≤maxLen)
    obtain ⟨⟨old,hov,hoi⟩,hlk1⟩:=GMap.look (Go.Maps.string_keyed Tryz.underlying9) Tryz.underlying62 zero3 ⟨0,rfl,by unfold I64;omega⟩ hkey HI8.out.map
    have hlk:=(hlk1 w8 rfl).1
    have hkl:(Lit.string x.f3.data.toList)=lits_ x.f3:=rfl
    rw [hkl]at hov hlk
    rw [hov]at hlk hck
    rw [show intOf (.int .i64 old)=old from rfl]at hck
    have HCK:=Lib.hid hck
    have f6:=blk_frozen HI8.out.x6 0
    have HUP:=Lib.hid (fun (cf:Bool)=>GMap.update (Go.Maps.string_keyed Tryz.underlying9) Tryz.underlying62 hkey (HI8.out.map.at (w':=w8.setCell ⟨mb+1+1,0,none⟩ (.bool cf)) (Below.heap_setCell w8 ⟨mb+1+1,0,none⟩ _ mb (by show mb≠mb+1+1;omega))) (by have:=HLEN.out;have:maxLen=9223372036854775807:=rfl;omega) (v:=.int .i64 x.f1) ⟨_,rfl,by have:=HOK.out.2.2.2;unfold I64;omega⟩)
    clear hck hlk1 hov hkey
    rw [hop]at u0
    clear hop
    generalize ((ckAll pre).seen (lits_ x.f3)).isSome=is at *
    generalize hcf:(ckAll pre).conf=cf at *
    clear hcf
    have fin:∀ cf',cf'=(cf || (is && (old != x.f1)))→∀ w9,GMap 9 SInt (.int .i64 0) w9 mb (pre.length+1) (updF (ckAll pre).seen (lits_ x.f3) (some (.int .i64 x.f1)))→(w8.setCell ⟨mb+1+1,0,none⟩ (.bool cf')).grownBy w9 (some mb)→Kx w.heap.size w7.heap.size W w9∧CI w b2 (mb+1) (mb+1+1) mb (pre++[x]) w9:=by
     intro cf' e w9 hm hg
     have hs:(w8.setCell ⟨mb+1+1,0,none⟩ (.bool cf')).heap.size=w8.heap.size:=by simp only [World.setCell,Array.size_modify]
     have hbl:∀ j,j < w8.heap.size→j≠mb→w9.heap[j]?=(w8.setCell ⟨mb+1+1,0,none⟩ (.bool cf')).heap[j]?:=fun j hj hn=>hg.block j (by omega) (fun e=>hn (Option.some.inj e))
     have hI8:=HI8.out
     have h7:=HSZ7.out
     have hm0:w.heap.size≤mb:=by have:=HB2.out;omega
     have hset:∀ j,j≠mb+1+1→(w8.setCell ⟨mb+1+1,0,none⟩ (.bool cf')).heap[j]?=w8.heap[j]?:=fun j hj=>Below.heap_setCell w8 ⟨mb+1+1,0,none⟩ _ j hj
     refine ⟨⟨?_,fun j hj ho=>?_⟩,?_⟩
     ·have h1:=HB8.out.size
      have h2:=hg.size
      omega
     ·rw [hbl j (Nat.lt_of_lt_of_le hj HB8.out.size) (by omega),hset j (by omega)]
      exact HB8.out.block j hj
     ·refine ⟨by rw [HCK.out],by rw [HCK.out,List.length_append];exact hm,?_,?_,?_,?_⟩
      ·rw [hbl _ (blk_lt hI8.x5) (by omega),hset _ (by omega)];exact hI8.x5
      ·rw [hbl _ (blk_lt hI8.x6) (by omega),HCK.out]
       have h:=blk_set hI8.x6 0 (.bool cf')
       rw [e]at h ⊢
       exact h
      ·rw [hbl _ (blk_lt hI8.x2) (by omega),hset _ (by omega)];exact hI8.x2
      ·exact (hI8.bel.setCell (p:=⟨mb+1+1,0,none⟩) (by show w.heap.size≤mb+1+1;omega) _).grown hg (by have:=hI8.bel.size;omega) (fun j e=>by have:=Option.some.inj e;omega)
    have FIN:=Lib.hid fin
    clear fin
    cases cf with
    | true =>
     obtain ⟨w9,hrun,hm9,hg9⟩:=HUP.out true
     have HM9:=Lib.hid hm9
     have HG9:=Lib.hid hg9
     clear hm9 hg9
     gi_wp2
     exact FIN.out true rfl w9 HM9.out HG9.out
    | false =>
     cases is with
     | false =>
      obtain ⟨w9,hrun,hm9,hg9⟩:=HUP.out false
      have HM9:=Lib.hid hm9
      have HG9:=Lib.hid hg9
      clear hm9 hg9
      gi_wp2
      exact FIN.out false rfl w9 HM9.out HG9.out
     | true =>
      obtain ⟨w9,hrun,hm9,hg9⟩:=HUP.out (old != x.f1)
      have HM9:=Lib.hid hm9
      have HG9:=Lib.hid hg9
      clear hm9 hg9
      gi_wp2
      exact FIN.out (old != x.f1) rfl w9 HM9.out HG9.out
   ·have hck:ckAll (pre++[x])=ckAll pre:=by
     rw [ckAll_snoc,ckStep,if_neg (by rw [HI.out.err];simp),if_neg (by rw [HNF.out];simp),if_neg hop]
    have HCK:=Lib.hid hck
    clear hck u1 u3 u5 u6
    gi_wp2
    refine ⟨Kx.of_below HB8.out,?_⟩
    have h:=HI8.out
    exact ⟨by rw [HCK.out];exact h.err,by rw [HCK.out,List.length_append];exact h.map.mono (by omega),h.x5,by rw [HCK.out];exact h.x6,h.x2,h.bel⟩
  ·have hck:ckAll (pre++[x])={ ckAll pre with err:=nodeF x }:=by
    rw [ckAll_snoc,ckStep,if_neg (by rw [HI.out.err];simp),if_pos hn]
   have HCK:=Lib.hid hck
   have HNF:=Lib.hid hn
   have c2:w8.cell? ⟨b2,0,none⟩=some (.int .i64 0):=(blk_cell HI8.out.x2 0).trans rfl
   have f2:=blk_frozen HI8.out.x2 0
   clear hck hu
   have hnb:(nodeF x != 0)=true:=by simpa using hn
   clear hn
   generalize nodeF x=er at *
   gi_wp2
   refine ⟨(Kx.of_below HB8.out).trans (kx_setCell _ _ HB2.out (by have:=HSZ7.out;omega)),⟨rfl,by rw [HCK.out];exact HNF.out,by rw [HCK.out];exact blk_set HI8.out.x2 0 (.int .i64 er),HI8.out.bel.setCell (p:=⟨b2,0,none⟩) HB2.out _⟩⟩
 case done =>
  intro D W hD hI hW
  have c6:W.cell? ⟨mb+1+1,0,none⟩=some (.bool (ckAll (postT (k+1) t)).conf):=(blk_cell hI.x6 0).trans rfl
  have c2:W.cell? ⟨b2,0,none⟩=some (.int .i64 0):=(blk_cell hI.x2 0).trans rfl
  have f2:=blk_frozen hI.x2 0
  have hck:checkF (k+1) t=if (ckAll (postT (k+1) t)).conf=true then 12 else 0:=if_neg (by rw [hI.err];simp)
  have HCK:=Lib.hid hck
  have HI:=Lib.hid hI
  have HD:=Lib.hid hD
  clear hck hI hD
  generalize (ckAll (postT (k+1) t)).conf=cf at *
  cases cf with
  | true =>
   gi_wp2
   refine ⟨by simp,.inl ⟨_,_,rfl,run_takeDeferred ((Below.heap_setCell W ⟨b2,0,none⟩ _ D (by have:=HD.out;have:=HSZ7.out;show D≠b2;omega)).trans hW),?_⟩⟩
   refine ⟨.int .i64 12,res34 rfl ?_,?_,?_⟩
   ·exact (World.cell?_of_block (a:=⟨b2,0,none⟩) (World.putObj_heap_other (by have:=HD.out;have:=HSZ7.out;show b2≠D;omega))).trans (World.cell?_setCell_same' _ _ _ (by rw [c2];rfl))
   ·rw [HCK.out];rfl
   ·exact ((HI.out.bel.setCell (p:=⟨b2,0,none⟩) HB2.out _)).trans (below_putObj _ (Nat.le_trans HB7.out.size HD.out))
  | false =>
   gi_wp2
   refine ⟨by simp,.inl ⟨_,_,rfl,run_takeDeferred ((Below.heap_setCell W ⟨b2,0,none⟩ _ D (by have:=HD.out;have:=HSZ7.out;show D≠b2;omega)).trans hW),?_⟩⟩
   refine ⟨.int .i64 0,res34 rfl ?_,?_,?_⟩
   ·exact (World.cell?_of_block (a:=⟨b2,0,none⟩) (World.putObj_heap_other (by have:=HD.out;have:=HSZ7.out;show b2≠D;omega))).trans (World.cell?_setCell_same' _ _ _ (by rw [c2];rfl))
   ·rw [HCK.out];rfl
   ·exact ((HI.out.bel.setCell (p:=⟨b2,0,none⟩) HB2.out _)).trans (below_putObj _ (Nat.le_trans HB7.out.size HD.out))
 case stop =>
  intro D q W hD hq hI hW
  gi_wp2
  refine ⟨by simp,.inl ⟨_,_,rfl,run_takeDeferred hW,?_⟩⟩
  refine ⟨.int .i64 (ckAll q).err,res34 rfl ?_,?_,?_⟩
  ·exact (World.cell?_of_block (a:=⟨b2,0,none⟩) (World.putObj_heap_other (by have:=HSZ7.out;show b2≠D;omega))).trans ((blk_cell hI.x2 0).trans rfl)
  ·rw [checkF,ckAll_err _ _ hq hI.err,if_pos hI.err]
  ·exact hI.bel.trans (below_putObj _ (Nat.le_trans HB7.out.size hD))
end Go.Proofs.YtjckhhecnebmmaaGreatDoor.TU
end
section
namespace Go.Proofs.YtjckhhecnebmmaaGreatDoor.TU
open Go.RowKit Go.Proofs.YtjckhhecnebmmaaGreatDoorW.PrintWords Go.Proofs.YtjckhhecnebmmaaGreatDoorW.PrintLast Go.Proofs.YtjckhhecnebmmaaGreatDoorW.PrintMore Go.Proofs.YtjckhhecnebmmaaGreatDoor.QAll
attribute [local go_sem] max2_int min2_int max_two min_two max_three min_three max_four min_four
set_option linter.unusedVariables false
theorem radd_calls {B b g:Nat} (hb0:0 < b):∀ (k:Nat) (w:World) (o:Own) (S:St) (L:List S117) (t:S35) (A:Option Addr) (c:Nat),Gl B w o→GraphAt b w o g (withL S L)→AOk (k+1) S t→L.length+countT (k+1) t≤790→TIn w o k A t.f4→t.f4.length≤c →
  Calls Tryz.prog 35 #[.pointer (some ⟨g,0,none⟩),.agg (tcells t A c)] w (RPost b g (k+1) w o (addT (k+1) S t) (L.length+countT (k+1) t)):=by
 intro k
 induction k with
 | zero=>intro w o S L t A c G H hok hL hT hc;exact radd_step hb0 (fun _ _ _ _ _ _ _ _ _ _ _ h _=>by obtain ⟨k',h,_⟩:=h;omega) G H t A c hok hL hT hc
 | succ k ih =>
  intro w o S L t A c G H hok hL hT hc
  refine radd_step hb0 (fun w o S L t A c G H hok hL hT hc=>?_) G H t A c hok hL hT hc
  obtain ⟨k',hk,hT⟩:=hT
  obtain rfl:k=k':=by omega
  exact ih w o S L t A c G H hok hL hT hc
set_option maxHeartbeats 1600000 in
set_option maxRecDepth 20000 in
theorem rmade_calls {b g:Nat} {w:World} {o:Own} {S:St} (H:GraphAt b w o g S) (hS:Fine S):Calls Tryz.prog 33 #[.pointer (some ⟨g,0,none⟩)] w fun e w'=>e=.returned (.bool true)∧w=w':=by
 have hu:=gunion_out H hS (-1) (-1) (-3) (by omega) (.inl (by omega))
 have HU:=Lib.hid hu
 clear hu
 go_enter Tryz.func33,Tryz.ntmps33
 go_wp2_with fail
 refine HU.out.mono ?_
 rintro e w' ⟨rfl,rfl⟩
 go_wp2
 go_ret
 exact ⟨rfl,rfl⟩
noncomputable def addTermS (S:St) (t:S35):St × Int × Int :=
 if checkF 7 t≠0 then (S,0,checkF 7 t)else if (addT 7 S t).2.2≠0 then ((addT 7 S t).1,0,(addT 7 S t).2.2)else ((addT 7 S t).1,(addT 7 S t).2.1,0)
set_option maxHeartbeats 3200000 in
set_option maxRecDepth 20000 in
theorem addterm_calls {B b g:Nat} (hb0:0 < b) {w:World} {o:Own} {S:St} {L:List S117} (G:Gl B w o) (H:GraphAt b w o g (withL S L)) (hS:Fine S) (t:S35) (A:Option Addr) (c:Nat) (hT:TIn w o 6 A t.f4) (hc:t.f4.length≤c) (hct:countT 7 t≤700) (hok:checkF 7 t=0→AOk 7 S t) (hL:L.length+countT 7 t≤790) :
  Calls Tryz.prog 19 #[.pointer (some ⟨g,0,none⟩),.agg (tcells t A c)] w (RPost b g 7 w o (addTermS S t) (L.length+countT 7 t)):=by
 have hb1:=below_alloc (Below.refl w.heap.size w) (.cells (tcells t A c) 35)
 have k1:Kp (fun _=>False) w o (w.alloc (.cells (tcells t A c) 35)) (o.from_ w.heap.size 0):=((Kp.refl _ w o).renew 0).below hb1
 have hmade:=rmade_calls (H.fr k1 (fun _ _ h=>h) (fun h=>h)) (hS.withL (L:=L) (by omega))
 have hcheck:=check_calls 6 t A c _ (TIn.fr k1 (fun h=>h) _ _ _ hT) (by omega) hc (by show countT 7 t≤1000;omega)
 have hx:=blk_cell (blk_new w (.cells (tcells t A c) 35))
 have HA:=Lib.hid (fun w2 (hb:Below w.heap.size w w2) (hk:checkF 7 t=0)=>radd_calls hb0 6 w2 (o.from_ w.heap.size 0) S L t A c (G.on hb) (H.fr (((Kp.refl (fun _=>False) w o).renew 0).below hb) (fun _ _ h=>h) (fun h=>h)) (hok hk) hL (TIn.fr (((Kp.refl (fun _=>False) w o).renew 0).below hb) (fun h=>h) _ _ _ hT) hc)
 have H0:=Lib.hid (fun w2 (hb:Below w.heap.size w w2)=>show GraphAt b w2 (o.from_ w.heap.size 0) g (withL S L)from H.fr (((Kp.refl (fun _=>False) w o).renew 0).below hb) (fun _ _ h=>h) (fun h=>h))
 have HMADE:=Lib.hid hmade
 have HCHECK:=Lib.hid hcheck
 have HB1:=Lib.hid hb1
 clear hmade hcheck hb1 G H hS hT hc hct hok k1
 have x0:(w.alloc (.cells (tcells t A c) 35)).cell? ⟨w.heap.size,0,none⟩=some (.int .i64 t.f0):=(hx 0).trans rfl
 have x1:(w.alloc (.cells (tcells t A c) 35)).cell? ⟨w.heap.size,1,none⟩=some (.int .i64 t.f1):=(hx 1).trans rfl
 have x2:(w.alloc (.cells (tcells t A c) 35)).cell? ⟨w.heap.size,2,none⟩=some (.int .u64 t.f2):=(hx 2).trans rfl
 have x3:(w.alloc (.cells (tcells t A c) 35)).cell? ⟨w.heap.size,3,none⟩=some (.string t.f3):=(hx 3).trans rfl
 have x4:(w.alloc (.cells (tcells t A c) 35)).cell? ⟨w.heap.size,4,none⟩=some (.slice A t.f4.length c):=(hx 4).trans rfl
 have hbk:=blk_new w (.cells (tcells t A c) 35)
 have HBK:=Lib.hid hbk
 clear hx hbk
 simp only [tcells]at *
 go_enter Tryz.func19,Tryz.ntmps19
 go_wp2_with fail
 refine HMADE.out.mono ?_
 rintro e w2 ⟨rfl,rfl⟩
 go_wp2_with fail
 refine HCHECK.out.mono ?_
 rintro e w3 ⟨rfl,hb3⟩
 have HB3:=Lib.hid (HB1.out.trans (hb3.mono HB1.out.size))
 have hx:=blk_cell (blk_below HBK.out hb3)
 clear x0 x1 x2 x3 x4 hb3
 by_cases hck:checkF 7 t=0
 ·have hdef:addTermS S t=if (addT 7 S t).2.2≠0 then ((addT 7 S t).1,0,(addT 7 S t).2.2)else ((addT 7 S t).1,(addT 7 S t).2.1,0):=if_neg (by simpa using hck)
  have HA3:=Lib.hid (HA.out w3 HB3.out hck)
  have HD:=Lib.hid hdef
  rw [hck]
  have x0:w3.cell? ⟨w.heap.size,0,none⟩=some (.int .i64 t.f0):=(hx 0).trans rfl
  have x1:w3.cell? ⟨w.heap.size,1,none⟩=some (.int .i64 t.f1):=(hx 1).trans rfl
  have x2:w3.cell? ⟨w.heap.size,2,none⟩=some (.int .u64 t.f2):=(hx 2).trans rfl
  have x3:w3.cell? ⟨w.heap.size,3,none⟩=some (.string t.f3):=(hx 3).trans rfl
  have x4:w3.cell? ⟨w.heap.size,4,none⟩=some (.slice A t.f4.length c):=(hx 4).trans rfl
  clear hx hdef hck HA HMADE HCHECK
  go_wp2_with fail
  refine HA3.out.mono ?_
  rintro e w4 ⟨o4,L4,rfl,hg4,hl4,f4⟩
  have HG4:=Lib.hid hg4
  have F4:=Lib.hid f4
  clear hg4 f4 HA3 x0 x1 x2 x3 x4
  have f0:Fr (GM b 7) w o w3 (o.from_ w.heap.size 0):=Fr.of_below HB3.out 0 (.inl rfl)
  have F0:=Lib.hid f0
  clear f0
  generalize addT 7 S t=r at *
  obtain ⟨r1,r2,r3⟩:=r
  simp only at HD HG4 ⊢
  by_cases hr:r3=0
  ·have hrb:(r3 != 0)=false:=by simpa using hr
   have e1:addTermS S t=(r1,r2,0):=by rw [HD.out,if_neg (by simpa using hr)]
   have E1:=Lib.hid e1
   clear e1 hr
   go_wp2_with fail
   go_ret2
   rw [E1.out]
   exact ⟨o4,L4,rfl,HG4.out,hl4,F0.out.trans F4.out⟩
  ·have hrb:(r3 != 0)=true:=by simpa using hr
   have e1:addTermS S t=(r1,0,r3):=by rw [HD.out,if_pos (by simpa using hr)]
   have E1:=Lib.hid e1
   clear e1 hr
   go_wp2_with fail
   go_ret2
   rw [E1.out]
   exact ⟨o4,L4,rfl,HG4.out,hl4,F0.out.trans F4.out⟩
 ·have hdef:addTermS S t=(S,0,checkF 7 t):=if_pos hck
  have HD:=Lib.hid hdef
  have hcb:(checkF 7 t != 0)=true:=by simpa using hck
  have HG:=Lib.hid (H0.out w3 HB3.out)
  clear hx hdef hck HA HMADE HCHECK H0
  generalize checkF 7 t=ck at *
  go_wp2_with fail
  go_ret2
  rw [HD.out]
  exact ⟨_,L,rfl,HG.out,by omega,Fr.of_below HB3.out 0 (.inl rfl)⟩
end Go.Proofs.YtjckhhecnebmmaaGreatDoor.TU
end
section
namespace Go.Proofs.YtjckhhecnebmmaaGreatDoor.TU
open Go.RowKit Go.Proofs.YtjckhhecnebmmaaGreatDoorW.PrintWords Go.Proofs.YtjckhhecnebmmaaGreatDoorW.PrintLast Go.Proofs.YtjckhhecnebmmaaGreatDoorW.PrintMore Go.Proofs.YtjckhhecnebmmaaGreatDoor.QAll
attribute [local go_sem] max2_int min2_int max_two min_two max_three min_three max_four min_four
set_option linter.unusedVariables false
structure Ev where
 kind:Int
 t:S35
 a:Int
 b:Int
def evc (e:Ev) (A:Option Addr) (c:Nat):Array Value:=#[.int .i64 e.kind,.int .i64 e.t.f0,.int .i64 e.t.f1,.int .u64 e.t.f2,.string e.t.f3,.slice A e.t.f4.length c,.int .i64 e.a,.int .i64 e.b]
def oneI (b:Bool):Int:=if b=true then 1 else 0
theorem one_calls (b:Bool) (w:World):Calls Tryz.prog 27 #[.bool b] w fun e w'=>e=.returned (.int .i64 (oneI b))∧Below w.heap.size w w':=by
 refine (journal_one.calls b (oneI b) w (by cases b <;> rfl)).mono ?_
 rintro e w' ⟨rfl,h⟩
 exact ⟨rfl,h.below⟩
noncomputable def evS (S:St) (e:Ev):St × Int × Int :=
 if e.kind=1 then addTermS S e.t else if e.kind=2 then ((unionS S e.a e.b (-3)).1,oneI (unionS S e.a e.b (-3)).2.2,(unionS S e.a e.b (-3)).2.1)
 else if e.kind=3 then ((rebS 700 S).1,(rebS 700 S).2,0)else (S,0,1)
def evCost (S:St) (e:Ev):Nat:=if e.kind=1 then countT 7 e.t else if e.kind=2 then 1 else if e.kind=3 then (rebN 700 S).2.toNat else 0
structure EvOk (S:St) (m:Nat) (e:Ev):Prop where
 fine:Fine S
 add:e.kind=1→countT 7 e.t≤700∧(checkF 7 e.t=0→AOk 7 S e.t)
 reb:e.kind=3→RebOk 700 S
 m:m+evCost S e≤790
theorem Kp.cellT {M:Nat→Prop} {w w':World} {o o':Own} (f:Kp M w o w' o') {bk i:Nat} {v:Value} (h:w.cell? ⟨bk,i,none⟩=some v) (t:Nat) (ho:o bk=t) (hM:¬ M t):w'.cell? ⟨bk,i,none⟩=some v:=f.cell h (by rw [ho];exact hM)
set_option maxHeartbeats 3200000 in
set_option maxRecDepth 20000 in
theorem play_add {B b g s:Nat} (hb0:0 < b) {w:World} {o:Own} {S:St} {L:List S117} (G:Gl B w o) (H:GraphAt b w o g (withL S L)) (e:Ev) (he:e.kind=1) (hok:EvOk S L.length e) (A:Option Addr) (c:Nat) (hT:TIn w o 6 A e.t.f4) (hc:e.t.f4.length≤c) (hso:o s=b+36) (hs:w.cell? ⟨s,0,none⟩=some (.pointer (some ⟨g,0,none⟩))) :
  Calls Tryz.prog 14 #[.pointer (some ⟨s,0,none⟩),(.agg (evc e A c))] w (RPost b g 7 w o (evS S e) (L.length+evCost S e)):=by
 have hb1:=Below.drew (below_alloc (Below.refl w.heap.size w) (.cells (evc e A c) 37))
 have k1:Kp (fun _=>False) w o (w.alloc (.cells (evc e A c) 37)).drew (o.from_ w.heap.size 0):=((Kp.refl _ w o).renew 0).below hb1
 have e1:evS S e=addTermS S e.t:=if_pos he
 have e2:evCost S e=countT 7 e.t:=if_pos he
 rw [e1,e2]
 have hm:=hok.m
 rw [e2]at hm
 have hcall:=addterm_calls hb0 (G.on hb1) (H.fr k1 (fun _ _ h=>h) (fun h=>h)) hok.fine e.t A c (TIn.fr k1 (fun h=>h) _ _ _ hT) hc (hok.add he).1 (hok.add he).2 hm
 have hbk:(w.alloc (.cells (evc e A c) 37)).drew.heap[w.heap.size]?=some (.cells (evc e A c) 37 (0,0)):=blk_new w _
 have hx:=blk_cell hbk
 have hs1:=pw_cell_below hb1 hs
 have F0:=Lib.hid (show Fr (GM b 7) w o (w.alloc (.cells (evc e A c) 37)).drew (o.from_ w.heap.size 0)from Fr.of_below hb1 0 (.inl rfl))
 have hso1:(o.from_ w.heap.size 0) s=b+36:=by rw [Own.from_lt (World.block_lt_of_cell? w _ hs)];exact hso
 have hbo1:(o.from_ w.heap.size 0) w.heap.size=0:=Own.from_ge (Nat.le_refl _)
 have y0:(w.alloc (.cells (evc e A c) 37)).drew.cell? ⟨w.heap.size,1,none⟩=some (.int .i64 e.t.f0):=(hx 1).trans rfl
 have y1:(w.alloc (.cells (evc e A c) 37)).drew.cell? ⟨w.heap.size,2,none⟩=some (.int .i64 e.t.f1):=(hx 2).trans rfl
 have y2:(w.alloc (.cells (evc e A c) 37)).drew.cell? ⟨w.heap.size,3,none⟩=some (.int .u64 e.t.f2):=(hx 3).trans rfl
 have y3:(w.alloc (.cells (evc e A c) 37)).drew.cell? ⟨w.heap.size,4,none⟩=some (.string e.t.f3):=(hx 4).trans rfl
 have y4:(w.alloc (.cells (evc e A c) 37)).drew.cell? ⟨w.heap.size,5,none⟩=some (.slice A e.t.f4.length c):=(hx 5).trans rfl
 have HCALL:=Lib.hid hcall
 have HB0:=Lib.hid hb0
 have HSO:=Lib.hid hso1
 have HBO:=Lib.hid hbo1
 clear hcall e1 e2 hm hok G H hT hc hso hs hbk hx hb1 k1 hb0 hso1 hbo1
 obtain ⟨kind,t,ea,eb⟩:=e
 obtain rfl:kind=1:=he
 simp only [evc,tcells]at *
 go_enter Tryz.func14,Tryz.ntmps14
 go_wp2_with fail
 go_region_held3 (fun wr=>wr.cell? ⟨s,0,none⟩=some (.pointer (some ⟨g,0,none⟩))∧wr.cell? ⟨w.heap.size,1,none⟩=some (.int .i64 t.f0)∧wr.cell? ⟨w.heap.size,2,none⟩=some (.int .i64 t.f1)∧wr.cell? ⟨w.heap.size,3,none⟩=some (.int .u64 t.f2)∧wr.cell? ⟨w.heap.size,4,none⟩=some (.string t.f3)∧wr.cell? ⟨w.heap.size,5,none⟩=some (.slice A t.f4.length c))
  ((first | (refine ⟨?_,?_,?_,?_,?_,?_⟩ <;> assumption) | fail))
  ((go_at_call 19;refine HCALL.out.mono ?_;rintro e w3 ⟨o3,L3,rfl,hg3,hl3,f3⟩;have k0:=f3.kp.cellT hs1 _ HSO.out (by unfold GM;omega);have k1:=f3.kp.cellT y0 _ HBO.out (by have:=HB0.out;unfold GM;omega);have k2:=f3.kp.cellT y1 _ HBO.out (by have:=HB0.out;unfold GM;omega);have k3:=f3.kp.cellT y2 _ HBO.out (by have:=HB0.out;unfold GM;omega);have k4:=f3.kp.cellT y3 _ HBO.out (by have:=HB0.out;unfold GM;omega);have k5:=f3.kp.cellT y4 _ HBO.out (by have:=HB0.out;unfold GM;omega);have HG3:=Lib.hid hg3;have F3:=Lib.hid f3;clear hg3 f3))
 go_wp2_with fail
 go_ret2
 exact ⟨o3,L3,rfl,HG3.out,hl3,F0.out.trans F3.out⟩
theorem unionS_withL (S:St) (L:List S117) (x y z:Int):unionS (withL S L) x y z=(withL (unionS S x y z).1 L,(unionS S x y z).2):=by
 have e:∀ T:St,unionS T x y z=if z=-1 then (T,1,false)else if ¬ (inB T.p x=true∧inB T.p y=true)then (T,2,false)else if (T.ns.getD x.toNat zNd).width≠(T.ns.getD y.toNat zNd).width then (T,3,false)else if fnd T.p x=fnd T.p y then (T,0,false)else ({ joinS T x y with dirty:=true },0,true):=fun _=>rfl
 have e2:=e (withL S L)
 rw [e2,e S]
 have p1:(withL S L).p=S.p:=rfl
 have p2:(withL S L).ns=S.ns:=rfl
 rw [p1,p2]
 by_cases h1:z=-1
 ·rw [if_pos h1,if_pos h1]
 ·rw [if_neg h1,if_neg h1]
  by_cases h2:¬ (inB S.p x=true∧inB S.p y=true)
  ·rw [if_pos h2,if_pos h2]
  ·rw [if_neg h2,if_neg h2]
   by_cases h3:(S.ns.getD x.toNat zNd).width≠(S.ns.getD y.toNat zNd).width
   ·rw [if_pos h3,if_pos h3]
   ·rw [if_neg h3,if_neg h3]
    by_cases h4:fnd S.p x=fnd S.p y
    ·rw [if_pos h4,if_pos h4]
    ·rw [if_neg h4,if_neg h4]
     rfl
theorem reps_withL (L:List S117):∀ (l:List Int) (S:St),reps (withL S L) l=(withL (reps S l).1 L,(reps S l).2):=by
 intro l
 induction l with
 | nil=>intro S;rfl
 | cons x l ih =>
  intro S
  show ((reps (repairS (withL S L) x).1 l).1,(repairS (withL S L) x).2+(reps (repairS (withL S L) x).1 l).2)=_
  rw [repairS_withL]
  rw [ih]
  rfl
theorem rebN_withL (L:List S117):∀ (n:Nat) (S:St),rebN n (withL S L)=(withL (rebN n S).1 L,(rebN n S).2):=by
 intro n
 induction n with
 | zero=>intro S;rfl
 | succ n ih =>
  intro S
  by_cases h:S.todo=[]
  ·rw [rebN_done h,rebN_done (show (withL S L).todo=[]from h)]
  ·have e:∀ T:St,T.todo≠[]→rebN (n+1) T=((rebN n (reps (popS T) (par (popS T) (lastS T))).1).1,(reps (popS T) (par (popS T) (lastS T))).2+(rebN n (reps (popS T) (par (popS T) (lastS T))).1).2):=fun T hT=>if_neg hT
   rw [e S h,e (withL S L) h]
   have e2:reps (popS (withL S L)) (par (popS (withL S L)) (lastS (withL S L)))=(withL (reps (popS S) (par (popS S) (lastS S))).1 L,(reps (popS S) (par (popS S) (lastS S))).2):=reps_withL L _ (popS S)
   rw [e2]
   simp only
   rw [ih]
theorem RepsOk.withL {L:List S117} (hL:L.length≤800):∀ (l:List Int) (S:St),RepsOk S l→RepsOk (withL S L) l:=by
 intro l
 induction l with
 | nil=>intro S h;exact Fine.withL h hL
 | cons x l ih =>
  intro S h
  refine ⟨Fine.withL h.1 hL,h.2.1,h.2.2.1,?_⟩
  rw [repairS_withL]
  exact ih _ h.2.2.2
theorem RebOk.withL {L:List S117} (hL:L.length≤800):∀ (n:Nat) (S:St),RebOk n S→RebOk n (withL S L):=by
 intro n
 induction n with
 | zero=>intro S h;exact ⟨Fine.withL h.1 hL,h.2⟩
 | succ n ih =>
  intro S h
  refine ⟨Fine.withL h.1 hL,?_⟩
  rcases h.2 with h2 | ⟨h2,h3,h4⟩
  ·exact .inl h2
  ·refine .inr ⟨h2,RepsOk.withL hL _ (popS S) h3,?_⟩
   have e2:reps (popS (TU.withL S L)) (par (popS (TU.withL S L)) (lastS (TU.withL S L)))=(TU.withL (reps (popS S) (par (popS S) (lastS S))).1 L,(reps (popS S) (par (popS S) (lastS S))).2):=reps_withL L _ (popS S)
   rw [e2]
   exact ih _ h4
set_option maxHeartbeats 3200000 in
set_option maxRecDepth 20000 in
theorem play_union {b g s:Nat} (hb0:0 < b) {w:World} {o:Own} {S:St} {L:List S117} (H:GraphAt b w o g (withL S L)) (e:Ev) (he:e.kind=2) (hok:EvOk S L.length e) (A:Option Addr) (c:Nat) (hso:o s=b+36) (hs:w.cell? ⟨s,0,none⟩=some (.pointer (some ⟨g,0,none⟩))) :
  Calls Tryz.prog 14 #[.pointer (some ⟨s,0,none⟩),.agg (evc e A c)] w (RPost b g 7 w o (evS S e) (L.length+evCost S e)):=by
 have hb1:=Below.drew (below_alloc (Below.refl w.heap.size w) (.cells (evc e A c) 37))
 have k1:Kp (fun _=>False) w o (w.alloc (.cells (evc e A c) 37)).drew (o.from_ w.heap.size 0):=((Kp.refl _ w o).renew 0).below hb1
 have e1:evS S e=((unionS S e.a e.b (-3)).1,oneI (unionS S e.a e.b (-3)).2.2,(unionS S e.a e.b (-3)).2.1):=by unfold evS;rw [if_neg (by omega),if_pos he]
 have e2:evCost S e=1:=by unfold evCost;rw [if_neg (by omega),if_pos he]
 rw [e1,e2]
 have hm:=hok.m
 rw [e2]at hm
 have hcall:=gunion_calls (H.fr k1 (fun _ _ h=>h) (fun h=>h)) (hok.fine.withL (L:=L) (by omega)) e.a e.b (-3) (by omega)
 rw [unionS_withL]at hcall
 have hbk:(w.alloc (.cells (evc e A c) 37)).drew.heap[w.heap.size]?=some (.cells (evc e A c) 37 (0,0)):=blk_new w _
 have hx:=blk_cell hbk
 have hs1:=pw_cell_below hb1 hs
 have F0:=Lib.hid (show Fr (GM b 7) w o (w.alloc (.cells (evc e A c) 37)).drew (o.from_ w.heap.size 0)from Fr.of_below hb1 0 (.inl rfl))
 have hso1:(o.from_ w.heap.size 0) s=b+36:=by rw [Own.from_lt (World.block_lt_of_cell? w _ hs)];exact hso
 have hbo1:(o.from_ w.heap.size 0) w.heap.size=0:=Own.from_ge (Nat.le_refl _)
 have y0:(w.alloc (.cells (evc e A c) 37)).drew.cell? ⟨w.heap.size,6,none⟩=some (.int .i64 e.a):=(hx 6).trans rfl
 have y1:(w.alloc (.cells (evc e A c) 37)).drew.cell? ⟨w.heap.size,7,none⟩=some (.int .i64 e.b):=(hx 7).trans rfl
 have HCALL:=Lib.hid hcall
 have HB0:=Lib.hid hb0
 have HSO:=Lib.hid hso1
 have HBO:=Lib.hid hbo1
 clear hcall e1 e2 hm hok H hso hs hbk hx hb1 k1 hb0 hso1 hbo1
 obtain ⟨kind,t,ea,eb⟩:=e
 obtain rfl:kind=2:=he
 simp only [evc]at *
 go_enter Tryz.func14,Tryz.ntmps14
 go_wp2_with fail
 go_region_held3 (fun wr=>wr.cell? ⟨s,0,none⟩=some (.pointer (some ⟨g,0,none⟩))∧wr.cell? ⟨w.heap.size,6,none⟩=some (.int .i64 ea)∧wr.cell? ⟨w.heap.size,7,none⟩=some (.int .i64 eb))
  ((first | (refine ⟨?_,?_,?_⟩ <;> assumption) | fail))
  ((go_at_call 22;refine HCALL.out.mono ?_;rintro e w3 ⟨o3,L3,rfl,hg3,hl3,f3⟩;have k0:=f3.kp.cellT hs1 _ HSO.out (by unfold GraphM;omega);have k1:=f3.kp.cellT y0 _ HBO.out (by have:=HB0.out;unfold GraphM;omega);have k2:=f3.kp.cellT y1 _ HBO.out (by have:=HB0.out;unfold GraphM;omega);have HG3:=Lib.hid hg3;have F3:=Lib.hid f3;clear hg3 f3))
 clear HCALL
 generalize unionS S ea eb (-3)=r at *
 obtain ⟨r1,r2,r3⟩:=r
 simp only at HG3 hl3 ⊢
 go_wp2_with fail
 refine (one_calls r3 _).mono ?_
 rintro e w4 ⟨rfl,hb4⟩
 have HB4:=Lib.hid hb4
 clear hb4
 go_wp2_with fail
 go_ret2
 exact ⟨_,L3,rfl,GraphAt.zero HG3.out HB4.out,hl3,F0.out.trans ((F3.out.mono (fun _ h=>graphM_gm h)).trans (Fr.of_below HB4.out 0 (.inl rfl)))⟩
set_option maxHeartbeats 3200000 in
set_option maxRecDepth 20000 in
theorem play_reb {B b g s:Nat} (hb0:0 < b) {w:World} {o:Own} {S:St} {L:List S117} (G:Gl B w o) (H:GraphAt b w o g (withL S L)) (e:Ev) (he:e.kind=3) (hok:EvOk S L.length e) (A:Option Addr) (c:Nat) (hs:w.cell? ⟨s,0,none⟩=some (.pointer (some ⟨g,0,none⟩))) :
  Calls Tryz.prog 14 #[.pointer (some ⟨s,0,none⟩),.agg (evc e A c)] w (RPost b g 7 w o (evS S e) (L.length+evCost S e)):=by
 have hb1:=below_alloc (Below.refl w.heap.size w) (.cells (evc e A c) 37)
 have k1:Kp (fun _=>False) w o (w.alloc (.cells (evc e A c) 37)) (o.from_ w.heap.size 0):=((Kp.refl _ w o).renew 0).below hb1
 have e1:evS S e=((rebS 700 S).1,(rebS 700 S).2,0):=by unfold evS;rw [if_neg (by omega),if_neg (by omega),if_pos he]
 have e2:evCost S e=(rebN 700 S).2.toNat:=by unfold evCost;rw [if_neg (by omega),if_neg (by omega),if_pos he]
 rw [e1,e2]
 have hm:=hok.m
 rw [e2]at hm
 have hj:=rebN_joins 700 S
 have hcall:=rebuild_calls (G.on hb1) (H.fr k1 (fun _ _ h=>h) (fun h=>h)) hb0 700 ((hok.reb he).withL (L:=L) (by omega)) (by rw [rebN_withL];show (L.length:Int)+(rebN 700 S).2≤800;omega)
 have er:rebS 700 (withL S L)=(withL (rebS 700 S).1 L,(rebS 700 S).2):=by unfold rebS;rw [rebN_withL];rfl
 rw [er,rebN_withL]at hcall
 have hs1:=pw_cell_below hb1 hs
 have F0:=Lib.hid (show Fr (GM b 7) w o (w.alloc (.cells (evc e A c) 37)) (o.from_ w.heap.size 0)from Fr.of_below hb1 0 (.inl rfl))
 have hx:=blk_cell (blk_new w (.cells (evc e A c) 37))
 have HCALL:=Lib.hid hcall
 clear hcall e1 e2 hm hok H G hs hb1 k1 hb0 hx er hj
 obtain ⟨kind,t,ea,eb⟩:=e
 obtain rfl:kind=3:=he
 simp only [evc]at *
 go_enter Tryz.func14,Tryz.ntmps14
 go_wp2_with fail
 refine HCALL.out.mono ?_
 rintro e w3 ⟨o3,L3,rfl,hg3,hl3,f3⟩
 have HG3:=Lib.hid hg3
 have F3:=Lib.hid f3
 clear hg3 f3 HCALL
 generalize (rebS 700 S).2=jn at *
 generalize (rebS 700 S).1=S3 at *
 go_wp2_with fail
 go_ret2
 exact ⟨o3,L3,rfl,HG3.out,hl3,F0.out.trans (F3.out.mono (fun _ h=>graphM_gm h))⟩
set_option maxHeartbeats 3200000 in
set_option maxRecDepth 20000 in
theorem play_other {b g s:Nat} {w:World} {o:Own} {S:St} {L:List S117} (H:GraphAt b w o g (withL S L)) (e:Ev) (h1:e.kind≠1) (h2:e.kind≠2) (h3:e.kind≠3) (h4:e.kind≠4) (h5:e.kind≠5) (A:Option Addr) (c:Nat) :
  Calls Tryz.prog 14 #[.pointer (some ⟨s,0,none⟩),.agg (evc e A c)] w (RPost b g 7 w o (evS S e) (L.length+evCost S e)):=by
 have hb1:=below_alloc (Below.refl w.heap.size w) (.cells (evc e A c) 37)
 have e1:evS S e=(S,0,1):=by unfold evS;rw [if_neg h1,if_neg h2,if_neg h3]
 have e2:evCost S e=0:=by unfold evCost;rw [if_neg h1,if_neg h2,if_neg h3]
 rw [e1,e2]
 have HG:=Lib.hid (H.zero hb1)
 have F0:=Lib.hid (show Fr (GM b 7) w o (w.alloc (.cells (evc e A c) 37)) (o.from_ w.heap.size 0)from Fr.of_below hb1 0 (.inl rfl))
 obtain ⟨kind,t,ea,eb⟩:=e
 replace h1:(kind == 1)=false:=by simpa using h1
 replace h2:(kind == 2)=false:=by simpa using h2
 replace h3:(kind == 3)=false:=by simpa using h3
 replace h4:(kind == 4)=false:=by simpa using h4
 replace h5:(kind == 5)=false:=by simpa using h5
 clear e1 e2 H hb1
 simp only [evc]at *
 go_enter Tryz.func14,Tryz.ntmps14
 go_wp2_with fail
 go_ret2
 exact ⟨_,L,rfl,HG.out,by omega,F0.out⟩
theorem play_calls {B b g s:Nat} (hb0:0 < b) {w:World} {o:Own} {S:St} {L:List S117} (G:Gl B w o) (H:GraphAt b w o g (withL S L)) (e:Ev) (h4:e.kind≠4) (h5:e.kind≠5) (hok:EvOk S L.length e) (A:Option Addr) (c:Nat) (hT:TIn w o 6 A e.t.f4) (hc:e.t.f4.length≤c) (hso:o s=b+36) (hs:w.cell? ⟨s,0,none⟩=some (.pointer (some ⟨g,0,none⟩))) :
  Calls Tryz.prog 14 #[.pointer (some ⟨s,0,none⟩),.agg (evc e A c)] w (RPost b g 7 w o (evS S e) (L.length+evCost S e)):=by
 by_cases h1:e.kind=1
 ·exact play_add hb0 G H e h1 hok A c hT hc hso hs
 by_cases h2:e.kind=2
 ·exact play_union hb0 H e h2 hok A c hso hs
 by_cases h3:e.kind=3
 ·exact play_reb hb0 G H e h3 hok A c hs
 ·exact play_other H e h1 h2 h3 h4 h5 A c
end Go.Proofs.YtjckhhecnebmmaaGreatDoor.TU
end
