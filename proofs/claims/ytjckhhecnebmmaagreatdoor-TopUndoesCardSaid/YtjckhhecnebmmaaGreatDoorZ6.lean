/- Steps towards the law TopUndoes; words printed by the kit, and printed texts, are cut to what is used, and spaces are left out. No condition. -/
import Derived.Test.YtjckhhecnebmmaaGreatDoorZ5
import Derived.Deep.RegionHeld3
set_option linter.unusedVariables false
set_option linter.unusedSimpArgs false
section
namespace Go.Proofs.YtjckhhecnebmmaaGreatDoor.TU
open Go.RowKit Go.Proofs.YtjckhhecnebmmaaGreatDoorW.PrintWords Go.Proofs.YtjckhhecnebmmaaGreatDoorW.PrintLast Go.Proofs.YtjckhhecnebmmaaGreatDoorW.PrintMore Go.Proofs.YtjckhhecnebmmaaGreatDoor.QAll
attribute [local go_sem] max2_int min2_int max_two min_two max_three min_three max_four min_four
set_option linter.unusedVariables false
def SetsAt (b:Nat) (w:World) (o:Own) (g:Nat) (p:List Int) (t:List S115):Prop :=
 ∃ vp vt,Blk w o b g #[.bool true,vp,vt] 89∧Row (Kd.int .i64) 3 w o (b+1) vp p∧Row k115 115 w o (b+2) vt t
def SetsM (b:Nat):Nat→Prop:=fun x=>x=b∨x=b+1∨x=b+2
theorem SetsAt.uf {b g:Nat} {w:World} {o:Own} {p:List Int} {t:List S115} (h:SetsAt b w o g p t):UF 0 w g p t:=by
 obtain ⟨vp,vt,h1,h2,h3⟩:=h
 exact ⟨Nat.zero_le _,vp,vt,h1.1,h2.uf,h3.uf⟩
theorem SetsAt.fr {b g:Nat} {M:Nat→Prop} {w w':World} {o o':Own} {p:List Int} {t:List S115} (h:SetsAt b w o g p t) (f:Kp M w o w' o') (hM:∀ x,SetsM b x→¬ M x):SetsAt b w' o' g p t:=by
 obtain ⟨vp,vt,h1,h2,h3⟩:=h
 exact ⟨vp,vt,h1.fr f (hM _ (.inl rfl)),h2.fr f (hM _ (.inr (.inl rfl))),h3.fr f (hM _ (.inr (.inr rfl)))⟩
set_option maxHeartbeats 400000 in
theorem sets_new (b:Nat) (w:World) (o:Own):Calls Tryz.prog 24 #[] w fun e w'=>∃ g,e=.returned (.pointer (some ⟨g,0,none⟩))∧SetsAt b w' (o.from_ w.heap.size b) g [] []∧Fr (SetsM b) w o w' (o.from_ w.heap.size b):=by
 go_enter Tryz.func24,Tryz.ntmps24
 go_wp2
 go_ret
 exact ⟨_,rfl,⟨_,_,⟨blk_new _ _,Own.from_ge (Nat.le_refl _)⟩,Row.nil _ _ _ _ _,Row.nil _ _ _ _ _⟩,(Fr.start (SetsM b) w o b (.inr (.inl rfl))).alloc _⟩
set_option maxHeartbeats 1600000 in
theorem sets_make {b:Nat} {w:World} {o:Own} {g:Nat} {p:List Int} {t:List S115} (hU:SetsAt b w o g p t) (hl:p.length≤1000) (hlt:t.length≤1000) :
  Calls Tryz.prog 79 #[.pointer (some ⟨g,0,none⟩)] w fun e w'=>e=.returned (.int .i64 p.length)∧∃ o',SetsAt b w' o' g (p++[(p.length:Int)]) (t++[⟨true,p.length⟩])∧Fr (SetsM b) w o w' o':=by
 have hv:=valid_calls hU.uf
 obtain ⟨vp,vt,hb,hp,ht⟩:=hU
 obtain ⟨A,c,rfl⟩:=hp.slice
 obtain ⟨A2,c2,rfl⟩:=ht.slice
 have h1:w.cell? ⟨g,1,none⟩=some (.slice A p.length c):=(blk_cell hb.1 1).trans rfl
 have f0:Fr (SetsM b) w o w (o.from_ w.heap.size 0):=Fr.start (SetsM b) w o 0 (.inl rfl)
 have k0:Kp (fun _=>False) w o w (o.from_ w.heap.size 0):=(Kp.refl _ w o).renew 0
 have HP:=Lib.hid (hp.fr k0 id)
 have HT:=Lib.hid (ht.fr k0 id)
 have HBK:=Lib.hid (hb.fr k0 id)
 have HF:=Lib.hid f0
 clear hp ht hb f0 k0
 generalize o.from_ w.heap.size 0=oz at *
 go_enter Tryz.func79,Tryz.ntmps79
 go_wp2_with (first
  | (go_at_call 64;refine hv.mono ?_;rintro e w' ⟨rfl,rfl⟩)
  | ((with_reducible refine gate_builtin (b:=.append) (xs:=#[.tmp 16,.tmp 18]) rfl ?_);at_builtin;refine row_append (Kd.int .i64) HF.out (b+1) (.inr (.inl rfl)) rfl (.tmp 16) (.tmp 18) 26 3 (.int .i64 0) 8 rfl Tryz.underlying26 inf3 rfl (by decide) (by omega) (.slice A p.length c) p (p.length:Int) [.int .i64 (p.length:Int)] rfl rfl ?aP HP.out ?aL ?_;(case aP=>exact rfl);(case aL=>omega);intro A1 c1 w1 hp1 hf1 hk1;have HBK1:=Lib.hid (HBK.out.fr hk1 (by omega));have HT1:=Lib.hid (HT.out.fr hk1 (by omega));have HP1:=Lib.hid hp1;have HF1:=Lib.hid hf1;clear hp1 hf1 hk1;have f1:=blk_frozen HBK1.out.1 1;have c1_:w1.cell? ⟨g,1,none⟩=some (.slice A p.length c):=(blk_cell HBK1.out.1 1).trans rfl;have c2_:w1.cell? ⟨g,2,none⟩=some (.slice A2 t.length c2):=(blk_cell HBK1.out.1 2).trans rfl)
  | ((with_reducible refine gate_builtin (b:=.append) (xs:=#[.tmp 26,.tmp 29]) rfl ?_);at_builtin;have ks:=Lib.hid ((Kp.refl (·=b) _ _).setCell (o1:=oz.from_ w.heap.size (b+1)) (w1:=w1) ⟨g,1,none⟩ (.slice A1 (p.length+1) c1) (.inl HBK1.out.2));have HP2:=Lib.hid (HP1.out.fr ks.out (by omega));have HT2:=Lib.hid (HT1.out.fr ks.out (by omega));have HBK2:=Lib.hid (HBK1.out.set 1 (.slice A1 (p.length+1) c1));have HF2:=Lib.hid (HF1.out.setCell ⟨g,1,none⟩ (.slice A1 (p.length+1) c1) (.inl (by rw [HBK1.out.2];exact .inl rfl)));refine row_append k115 HF2.out (b+2) (.inr (.inr rfl)) rfl (.tmp 26) (.tmp 29) 87 115 (.agg #[.bool false,.int .i64 0]) 16 rfl Tryz.underlying87 inf115 rfl (by decide) (by omega) (.slice A2 t.length c2) t (⟨true,p.length⟩:S115) [.bool true,.int .i64 (p.length:Int)] rfl ?bX ?bP HT2.out ?bL ?_;(case bX=>show Value.slice (some ⟨w1.heap.size,0,none⟩) 1 1=_;simp [World.setCell]);(case bP=>exact k115_mkM _ _ _ _);(case bL=>omega);intro A3 c3 w2 ht3 hf3 hk3;have HBK3:=Lib.hid (HBK2.out.fr hk3 (by omega));have HP3:=Lib.hid (HP2.out.fr hk3 (by omega));have HT3:=Lib.hid ht3;have HF3:=Lib.hid hf3;clear ht3 hf3 hk3;have f2:=blk_frozen HBK3.out.1 2;have c4_:w2.cell? ⟨g,2,none⟩=some (.slice A2 t.length c2):=(blk_cell HBK3.out.1 2).trans rfl)
  )
 go_ret
 have ks3:=(Kp.refl (·=b) w2 _).setCell ⟨g,2,none⟩ (.slice A3 (t.length+1) c3) (.inl HBK3.out.2)
 refine ⟨rfl,_,⟨_,_,HBK3.out.set 2 (.slice A3 (t.length+1) c3),HP3.out.fr ks3 (by omega),HT3.out.fr ks3 (by omega)⟩,HF3.out.setCell ⟨g,2,none⟩ _ (.inl (by rw [HBK3.out.2];exact .inl rfl))⟩
theorem Row.put {t g e n cap:Nat} {w:World} {o:Own} {xs:List Int} (h:Row (Kd.int .i64) e w o t (.slice (some ⟨g,0,none⟩) n cap) xs) (i x:Int) :
  Row (Kd.int .i64) e (w.setCell ⟨g,i.toNat,none⟩ (.int .i64 x)) o t (.slice (some ⟨g,0,none⟩) n cap) (xs.set i.toNat x):=Kd.R_putn h i x
set_option maxHeartbeats 1600000 in
theorem sets_core {b:Nat} {w:World} {o:Own} {g:Nat} {p:List Int} {t:List S115} (hU:SetsAt b w o g p t) (hlt:t.length≤1000) (a1 a2 x y lo hi:Int)
  (hv:Calls Tryz.prog 64 #[.pointer (some ⟨g,0,none⟩)] w fun e w'=>e=.returned (.bool true)∧w=w')
  (ha:Calls Tryz.prog 49 #[.pointer (some ⟨g,0,none⟩),.int .i64 a1] w fun e w'=>e=.returned (.int .i64 x)∧w=w')
  (hb:Calls Tryz.prog 49 #[.pointer (some ⟨g,0,none⟩),.int .i64 a2] w fun e w'=>e=.returned (.int .i64 y)∧w=w')
  (hx0:0≤x) (hy0:0≤y) (hne:(x == y)=false) (hlo:(if y < x then y else x)=lo) (hhi:(if x < y then y else x)=hi) (hi0:0≤hi) (hi1:hi < p.length) :
  Calls Tryz.prog 57 #[.pointer (some ⟨g,0,none⟩),.int .i64 a1,.int .i64 a2] w fun e w'=>e=.returned (.tuple #[.int .i64 lo,.bool true])∧∃ o',SetsAt b w' o' g (p.set hi.toNat lo) (t++[⟨false,hi⟩])∧Fr (SetsM b) w o w' o':=by
 obtain ⟨vp,vt,hbk,hp,ht⟩:=hU
 obtain ⟨bp,c,rfl,hbb,_,_⟩:=Kd.R_form hp (by omega)
 obtain ⟨A2,c2,rfl⟩:=ht.slice
 have h1:w.cell? ⟨g,1,none⟩=some (.slice (some ⟨bp,0,none⟩) p.length c):=(blk_cell hbk.1 1).trans rfl
 have h2:w.cell? ⟨g,2,none⟩=some (.slice A2 t.length c2):=(blk_cell hbk.1 2).trans rfl
 obtain ⟨hc,hf⟩:=Kd.R_celln 0 hp hi hi0 hi1
 have f0:Fr (SetsM b) w o w (o.from_ w.heap.size 0):=Fr.start (SetsM b) w o 0 (.inl rfl)
 have k0:Kp (fun _=>False) w o w (o.from_ w.heap.size 0):=(Kp.refl _ w o).renew 0
 have hp:=hp.fr k0 id
 have ht:=ht.fr k0 id
 have hbk:=hbk.fr k0 id
 clear k0
 generalize o.from_ w.heap.size 0=oz at *
 have hbp:oz bp=b+1:=hp.own bp rfl
 have kp:Kp (·=b+1) w oz (w.setCell ⟨bp,hi.toNat,none⟩ (.int .i64 lo)) oz:=(Kp.refl _ w oz).setCell _ _ (.inl hbp)
 have HP:=Lib.hid (hp.put hi lo)
 have HT1:=Lib.hid (ht.fr kp (by omega))
 have HBK1:=Lib.hid (hbk.fr kp (by omega))
 have HF:=Lib.hid (f0.setCell ⟨bp,hi.toNat,none⟩ (.int .i64 lo) (.inl (by rw [hbp];exact .inr (.inl rfl))))
 have c2_:(w.setCell ⟨bp,hi.toNat,none⟩ (.int .i64 lo)).cell? ⟨g,2,none⟩=some (.slice A2 t.length c2):=(blk_cell HBK1.out.1 2).trans rfl
 clear hbk hp ht f0 kp hbp
 go_enter Tryz.func57,Tryz.ntmps57
 go_wp2_with (go_at_call 64;refine hv.mono ?_;rintro e w' ⟨rfl,rfl⟩)
 refine ha.mono ?_
 rintro e w' ⟨rfl,rfl⟩
 go_wp2_with fail
 refine hb.mono ?_
 rintro e w' ⟨rfl,rfl⟩
 go_wp2_with (first
  | ((with_reducible refine gate_builtin (b:=.append) (xs:=#[.tmp 48,.tmp 51]) rfl ?_);at_builtin;refine row_append k115 HF.out (b+2) (.inr (.inr rfl)) rfl (.tmp 48) (.tmp 51) 87 115 (.agg #[.bool false,.int .i64 0]) 16 rfl Tryz.underlying87 inf115 rfl (by decide) (by omega) (.slice A2 t.length c2) t (⟨false,hi⟩:S115) [.bool false,.int .i64 hi] rfl ?bX ?bP HT1.out ?bL ?_;(case bX=>show Value.slice (some ⟨w.heap.size,0,none⟩) 1 1=_;simp [World.setCell]);(case bP=>exact k115_mkM _ _ _ _);(case bL=>omega);intro A3 c3 w2 ht3 hf3 hk3;have HBK3:=Lib.hid (HBK1.out.fr hk3 (by omega));have HP3:=Lib.hid (HP.out.fr hk3 (by omega));have HT3:=Lib.hid ht3;have HF3:=Lib.hid hf3;clear ht3 hf3 hk3;have f2:=blk_frozen HBK3.out.1 2;have c4_:w2.cell? ⟨g,2,none⟩=some (.slice A2 t.length c2):=(blk_cell HBK3.out.1 2).trans rfl)
  )
 go_ret2
 have ks3:=(Kp.refl (·=b) w2 _).setCell ⟨g,2,none⟩ (.slice A3 (t.length+1) c3) (.inl HBK3.out.2)
 refine ⟨rfl,_,⟨_,_,HBK3.out.set 2 (.slice A3 (t.length+1) c3),HP3.out.fr ks3 (by omega),HT3.out.fr ks3 (by omega)⟩,HF3.out.setCell ⟨g,2,none⟩ _ (.inl (by rw [HBK3.out.2];exact .inl rfl))⟩
theorem sets_join {b:Nat} {w:World} {o:Own} {g:Nat} {p:List Int} {t:List S115} (hU:SetsAt b w o g p t) (hl:p.length≤1000) (hlt:t.length≤1000) (hW:Well p) (a1 a2:Int) (hx:0≤fnd p a1) (hy:0≤fnd p a2) (hne:¬ fnd p a1=fnd p a2) :
  Calls Tryz.prog 57 #[.pointer (some ⟨g,0,none⟩),.int .i64 a1,.int .i64 a2] w fun e w'=>e=.returned (.tuple #[.int .i64 (mn (fnd p a1) (fnd p a2)),.bool true])∧∃ o',
   SetsAt b w' o' g (p.set (mx (fnd p a1) (fnd p a2)).toNat (mn (fnd p a1) (fnd p a2))) (t++[⟨false,mx (fnd p a1) (fnd p a2)⟩])∧Fr (SetsM b) w o w' o':=by
 have h1:=fnd_lt hW a1
 have h2:=fnd_lt hW a2
 exact sets_core hU hlt a1 a2 (fnd p a1) (fnd p a2) _ _ (valid_calls hU.uf) (find_calls hU.uf hl hW a1) (find_calls hU.uf hl hW a2) hx hy (by simpa using hne) rfl rfl (by unfold mx;split <;> omega) (by unfold mx;split <;> omega)
end Go.Proofs.YtjckhhecnebmmaaGreatDoor.TU
end
section
namespace Go.Proofs.YtjckhhecnebmmaaGreatDoor.TU
open Go.RowKit Go.Proofs.YtjckhhecnebmmaaGreatDoorW.PrintWords Go.Proofs.YtjckhhecnebmmaaGreatDoorW.PrintLast Go.Proofs.YtjckhhecnebmmaaGreatDoorW.PrintMore Go.Proofs.YtjckhhecnebmmaaGreatDoor.QAll
attribute [local go_sem] max2_int min2_int max_two min_two max_three min_three max_four min_four
set_option linter.unusedVariables false
def pop1 (p:List Int) (s:S115):List Int:=if s.f0=true then p.take s.f1.toNat else p.set s.f1.toNat s.f1
def und (p:List Int):List S115→Nat→List Int
 | _,0=>p
 | [],_+1=>p
 | t,n+1=>und (pop1 p (t.getLastD z115)) t.dropLast n
def Safe (p:List Int):List S115→Nat→Prop
 | _,0=>True
 | t,n+1=>t≠[]∧0≤(t.getLastD z115).f1∧(t.getLastD z115).f1 < p.length∧Safe (pop1 p (t.getLastD z115)) t.dropLast n
theorem SetsAt.drew {b g:Nat} {w:World} {o:Own} {p:List Int} {t:List S115} (h:SetsAt b w o g p t):SetsAt b w.drew o g p t:=h
theorem SetsAt.alloc {b g:Nat} {w:World} {o:Own} {p:List Int} {t:List S115} (h:SetsAt b w o g p t) (X:Obj):SetsAt b (w.alloc X) o g p t:=h.fr ((Kp.refl (fun _=>False) w o).alloc X) (fun _ _ h=>h)
theorem SetsAt.cut_t {b g:Nat} {w:World} {o:Own} {p:List Int} {t:List S115} (h:SetsAt b w o g p t) {A:Option Addr} {n c k:Nat} (hc:w.cell? ⟨g,2,none⟩=some (.slice A n c)) (hk:k≤t.length):SetsAt b (w.setCell ⟨g,2,none⟩ (.slice A k c)) o g p (t.take k):=by
 obtain ⟨vp,vt,hbk,hp,ht⟩:=h
 obtain rfl:vt=.slice A n c:=Option.some.inj (((blk_cell hbk.1 2).symm.trans hc))
 have ks:=(Kp.refl (·=b) w o).setCell ⟨g,2,none⟩ (.slice A k c) (.inl hbk.2)
 exact ⟨_,_,hbk.set 2 (.slice A k c),hp.fr ks (by omega),(Row.take ht hk).fr ks (by omega)⟩
theorem SetsAt.cut_p {b g:Nat} {w:World} {o:Own} {p:List Int} {t:List S115} (h:SetsAt b w o g p t) {A:Option Addr} {n c k:Nat} (hc:w.cell? ⟨g,1,none⟩=some (.slice A n c)) (hk:k≤p.length):SetsAt b (w.setCell ⟨g,1,none⟩ (.slice A k c)) o g (p.take k) t:=by
 obtain ⟨vp,vt,hbk,hp,ht⟩:=h
 obtain rfl:vp=.slice A n c:=Option.some.inj (((blk_cell hbk.1 1).symm.trans hc))
 have ks:=(Kp.refl (·=b) w o).setCell ⟨g,1,none⟩ (.slice A k c) (.inl hbk.2)
 exact ⟨_,_,hbk.set 1 (.slice A k c),(Row.take hp hk).fr ks (by omega),ht.fr ks (by omega)⟩
theorem SetsAt.put_p {b g:Nat} {w:World} {o:Own} {p:List Int} {t:List S115} (h:SetsAt b w o g p t) {bp n c:Nat} (hc:w.cell? ⟨g,1,none⟩=some (.slice (some ⟨bp,0,none⟩) n c)) (i x:Int):SetsAt b (w.setCell ⟨bp,i.toNat,none⟩ (.int .i64 x)) o g (p.set i.toNat x) t∧o bp=b+1:=by
 obtain ⟨vp,vt,hbk,hp,ht⟩:=h
 obtain rfl:vp=.slice (some ⟨bp,0,none⟩) n c:=Option.some.inj (((blk_cell hbk.1 1).symm.trans hc))
 have hbp:o bp=b+1:=hp.own bp rfl
 have ks:=(Kp.refl (·=b+1) w o).setCell ⟨bp,i.toNat,none⟩ (.int .i64 x) (.inl hbp)
 exact ⟨⟨_,_,hbk.fr ks (by omega),hp.put i x,ht.fr ks (by omega)⟩,hbp⟩
theorem und_snoc (p:List Int) (ts:List S115) (s:S115) (k:Nat):und p (ts++[s]) (k+1)=und (pop1 p s) ts k:=by
 obtain ⟨x,xs,h⟩:∃ x xs,ts++[s]=x :: xs:=by
  cases ts with
  | nil=>exact ⟨s,[],rfl⟩
  | cons a b=>exact ⟨a,b++[s],rfl⟩
 have e1:(ts++[s]).getLastD z115=s:=by simp [List.getLastD_eq_getLast?]
 have e2:(ts++[s]).dropLast=ts:=by simp
 rw [h]at e1 e2 ⊢
 simp only [und]
 rw [e1,e2]
theorem pop1_length (p:List Int) (s:S115):(pop1 p s).length≤p.length:=by
 unfold pop1
 split
 ·rw [List.length_take];omega
 ·simp
set_option maxHeartbeats 1600000 in
set_option maxRecDepth 20000 in
theorem sets_undo {b:Nat} {w:World} {o:Own} {g:Nat} {p:List Int} {t:List S115} (hU:SetsAt b w o g p t) (hl:p.length≤1000) (hlt:t.length≤1000) (m:Int) (n:Nat) (h0:0≤m) (hn:m+n=t.length) (hS:Safe p t n) :
  Calls Tryz.prog 44 #[.pointer (some ⟨g,0,none⟩),.int .i64 m] w fun e w'=>e=.returned (.bool true)∧∃ o',SetsAt b w' o' g (und p t n) (t.take m.toNat)∧Fr (SetsM b) w o w' o':=by
 have hv:=valid_calls hU.uf
 have h2:∃ A2 c2,w.cell? ⟨g,2,none⟩=some (.slice A2 t.length c2):=by
  obtain ⟨vp,vt,hbk,hp,ht⟩:=hU
  obtain ⟨A2,c2,rfl⟩:=ht.slice
  exact ⟨A2,c2,(blk_cell hbk.1 2).trans rfl⟩
 obtain ⟨A2,c2,h2⟩:=h2
 have f0:Fr (SetsM b) w o w (o.from_ w.heap.size 0):=Fr.start (SetsM b) w o 0 (.inl rfl)
 have HU:=Lib.hid (hU.fr ((Kp.refl (fun _=>False) w o).renew 0) (fun _ _ h=>h))
 have HF:=Lib.hid f0
 have hU0:=hU.uf
 have HS:=Lib.hid hS
 have HN:=Lib.hid hn
 have hm1:¬ m < 0:=by omega
 have hm2:¬ (t.length:Int) < m:=by omega
 clear hU hU0 hS hn f0
 generalize o.from_ w.heap.size 0=oz at *
 have hu53:=Tryz.underlying115
 go_enter Tryz.func44,Tryz.ntmps44
 go_wp2_with (go_at_call 64;refine hv.mono ?_;rintro e w' ⟨rfl,rfl⟩)
 go_loopg [] n (fun kq w'=>∃ (p1:List Int) (t1:List S115),Hid (SetsAt b w' oz g p1 t1)∧Hid (Fr (SetsM b) w o w' oz)∧Hid (m+kq=t1.length)∧Hid (Safe p1 t1 kq)∧Hid (und p t n=und p1 t1 kq)∧Hid (t1.take m.toNat=t.take m.toNat)∧Hid (t1.length≤1000∧p1.length≤1000))
 case atStart=>exact ⟨p,t,HU,HF,HN,HS,rfl,rfl,⟨hlt,hl⟩⟩
 case round =>
  obtain ⟨p1,t1,U1,F1,N1,S1,E1,K1,L1⟩:=hrel
  clear HU HF HN HS h2
  cases gk with
  | zero =>
   obtain ⟨vp,vt,hbk,hp,ht⟩:=U1.out
   obtain ⟨A3,c3,rfl⟩:=ht.slice
   have h2:wr.cell? ⟨g,2,none⟩=some (.slice A3 t1.length c3):=(blk_cell hbk.1 2).trans rfl
   have hm3:¬ m < (t1.length:Int):=by have:=N1.out;omega
   clear hbk hp ht
   go_wp2
   go_ret
   refine ⟨rfl,oz,?_,F1.out⟩
   rw [E1.out,← K1.out,List.take_of_length_le (by have:=N1.out;omega)]
   exact U1.out
  | succ k1 =>
   obtain ⟨ts,s,hts⟩:∃ ts s,t1=ts++[s]:=by
    rcases List.eq_nil_or_concat t1 with h | ⟨ts,s,h⟩
    ·have:=N1.out;rw [h]at this;simp at this;omega
    ·exact ⟨ts,s,by simpa using h⟩
   subst hts
   obtain ⟨f0,f1⟩:=s
   obtain ⟨vp,vt,hbko,hp,ht⟩:=U1.out
   have hbk:=hbko.1
   have hog:=hbko.2
   have hlen:(ts++[(⟨f0,f1⟩:S115)]).length=ts.length+1:=by simp
   have hgl2:(ts++[(⟨f0,f1⟩:S115)]).getLastD z115=⟨f0,f1⟩:=by simp [List.getLastD_eq_getLast?]
   have hS:=S1.out
   simp only [Safe,hgl2]at hS
   obtain ⟨_,hf0,hf1,hS2⟩:=hS
   have S2:=Lib.hid hS2
   have G2:=Lib.hid hgl2
   clear hS2 hgl2
   obtain ⟨bt,c3,rfl,hbb,hbl,_⟩:=Kd.R_form ht (by omega)
   obtain ⟨bp,c4,rfl,hbb4,hbl4,_⟩:=Kd.R_form hp (by omega)
   have hgl:=blk_lt hbk
   have hcap3:=(Kd.R_reads' ht).2.1
   have hcap4:=(Kd.R_reads' hp).2.1
   rw [hlen]at hbk hbko ht hcap3
   have h2:wr.cell? ⟨g,2,none⟩=some (.slice (some ⟨bt,0,none⟩) (ts.length+1) c3):=(blk_cell hbk 2).trans rfl
   have h1:wr.cell? ⟨g,1,none⟩=some (.slice (some ⟨bp,0,none⟩) p1.length c4):=(blk_cell hbk 1).trans rfl
   have hfz1:=blk_frozen hbk 1
   have hfz2:=blk_frozen hbk 2
   have hm3:m < (ts.length:Int)+1:=by have:=N1.out;rw [hlen]at this;omega
   have hL:=L1.out
   rw [hlen]at hL
   obtain ⟨cc,hcl,hM,hcc,hcf⟩:=Kd.R_elem ht z115 (ts.length:Int) (by omega) (by omega)
   have hgs:(ts++[(⟨f0,f1⟩:S115)]).getD (ts.length:Int).toNat z115=⟨f0,f1⟩:=by simp
   rw [hgs]at hM
   obtain rfl:=k115_openM hM
   have hc0:wr.cell? ⟨bt,ts.length * 2,none⟩=some (.bool f0):=hcc 0 _ rfl
   have hc1:wr.cell? ⟨bt,ts.length * 2+1,none⟩=some (.int .i64 f1):=hcc 1 _ rfl
   obtain ⟨hpc,hpf⟩:=Kd.R_celln 0 hp f1 hf0 hf1
   have hneb:some g≠(Value.slice (some ⟨bp,0,none⟩) p1.length c4).ownBlock:=Kd.R_ne hp hbk (by decide)
   have hgp:g≠bp:=fun e=>hneb (by rw [e];rfl)
   have hgp':bp≠g:=fun e=>hgp e.symm
   have HBK:=Lib.hid hbk
   clear hbk hbko hp ht hlen hM hcc hgs hcl hcf hneb
   cases f0
   ·go_wp2
    have hw64:IntKind.i64.wrap (ts.length:Int)=ts.length:=IntWalk.i64_in _ (by omega)
    have hw0:(0:Int)≤ts.length:=by omega
    have hw1:(ts.length:Int) < ts.length+1:=by omega
    have hw2:(ts.length:Int)≤c3:=by omega
    have hw3:f1≤(c4:Int):=by omega
    go_region
    all_goals go_wp2
    all_goals go_region
    all_goals go_wp2
    all_goals go_region
    all_goals go_wp2
    go_roundg k1
    case measure=>omega
    case rel =>
     have u1:=U1.out.cut_t h2 (k:=ts.length) (by simp)
     rw [List.take_left' rfl]at u1
     have h1':(wr.setCell ⟨g,2,none⟩ (.slice (some ⟨bt,0,none⟩) ts.length c3)).cell? ⟨g,1,none⟩=some (.slice (some ⟨bp,0,none⟩) p1.length c4):=(blk_cell (blk_put HBK.out 2 (.slice (some ⟨bt,0,none⟩) ts.length c3) rfl) 1).trans rfl
     have hN:=N1.out
     have hK:=K1.out
     have hE:=E1.out
     have hS:=S2.out
     have hdl:∀ q:S115,(ts++[q]).dropLast=ts:=fun q=>by simp
     rw [List.length_append,List.length_singleton]at hN
     rw [List.take_append_of_le_length (by omega)]at hK
     rw [und_snoc]at hE
     rw [hdl]at hS
     have hln:=pop1_length p1
     have u2:=u1.put_p h1' f1 f1
     refine ⟨pop1 p1 ⟨false,f1⟩,ts,((((u2.1.alloc _).drew).drew).drew:SetsAt b _ oz g _ _),?_,by unfold Hid;omega,hS,hE,hK,⟨by omega,by have:=hln ⟨false,f1⟩;omega⟩⟩
     exact (((((F1.out.setCell ⟨g,2,none⟩ _ (.inl (by rw [hog];exact .inl rfl))).setCell ⟨bp,f1.toNat,none⟩ _ (.inl (by rw [u2.2];exact .inr (.inl rfl)))).alloc _).drew).drew).drew
   ·go_wp2
    have hw64:IntKind.i64.wrap (ts.length:Int)=ts.length:=IntWalk.i64_in _ (by omega)
    have hw0:(0:Int)≤ts.length:=by omega
    have hw1:(ts.length:Int) < ts.length+1:=by omega
    have hw2:(ts.length:Int)≤c3:=by omega
    have hw3:f1≤(c4:Int):=by omega
    go_region
    all_goals go_wp2
    all_goals go_region
    all_goals go_wp2
    all_goals go_region
    all_goals go_wp2
    go_roundg k1
    case measure=>omega
    case rel =>
     have u1:=U1.out.cut_t h2 (k:=ts.length) (by simp)
     rw [List.take_left' rfl]at u1
     have h1':(wr.setCell ⟨g,2,none⟩ (.slice (some ⟨bt,0,none⟩) ts.length c3)).cell? ⟨g,1,none⟩=some (.slice (some ⟨bp,0,none⟩) p1.length c4):=(blk_cell (blk_put HBK.out 2 (.slice (some ⟨bt,0,none⟩) ts.length c3) rfl) 1).trans rfl
     have hN:=N1.out
     have hK:=K1.out
     have hE:=E1.out
     have hS:=S2.out
     have hdl:∀ q:S115,(ts++[q]).dropLast=ts:=fun q=>by simp
     rw [List.length_append,List.length_singleton]at hN
     rw [List.take_append_of_le_length (by omega)]at hK
     rw [und_snoc]at hE
     rw [hdl]at hS
     have hln:=pop1_length p1
     have u2:=u1.cut_p h1' (k:=f1.toNat) (by omega)
     refine ⟨pop1 p1 ⟨true,f1⟩,ts,((((u2.alloc _).drew).drew).drew:SetsAt b _ oz g _ _),?_,by unfold Hid;omega,hS,hE,hK,⟨by omega,by have:=hln ⟨true,f1⟩;omega⟩⟩
     exact (((((F1.out.setCell ⟨g,2,none⟩ _ (.inl (by rw [hog];exact .inl rfl))).setCell ⟨g,1,none⟩ _ (.inl (by rw [hog];exact .inl rfl))).alloc _).drew).drew).drew
end Go.Proofs.YtjckhhecnebmmaaGreatDoor.TU
end
section
namespace Go.Proofs.YtjckhhecnebmmaaGreatDoor.TU
open Go.RowKit Go.Proofs.YtjckhhecnebmmaaGreatDoorW.PrintWords Go.Proofs.YtjckhhecnebmmaaGreatDoorW.PrintLast Go.Proofs.YtjckhhecnebmmaaGreatDoorW.PrintMore Go.Proofs.YtjckhhecnebmmaaGreatDoor.QAll
attribute [local go_sem] max2_int min2_int max_two min_two max_three min_three max_four min_four
set_option linter.unusedVariables false
structure S117 where
 f0:Int
 f1:Int
 f2:Int
def z117:S117:=⟨0,0,0⟩
def k117:Kd S117:=Kd.iso (Kd.pair (Kd.int .i64) (Kd.pair (Kd.int .i64) (Kd.int .i64))) (fun x:S117=>(x.f0,x.f1,x.f2))
theorem k117_open {w:World} {x:S117} {cs:List Value} (h:k117.K w x cs):cs=[.int .i64 x.f0,.int .i64 x.f1,.int .i64 x.f2]:=by
 obtain ⟨_,_,rfl,rfl,_,_,rfl,rfl,rfl⟩:=h
 exact rfl
theorem k117_openM {w:World} {base:Nat} {ok:Nat→Prop} {x:S117} {cs:List Value} (h:k117.M w base ok x cs):cs=[.int .i64 x.f0,.int .i64 x.f1,.int .i64 x.f2]:=by
 obtain ⟨_,_,rfl,rfl,_,_,rfl,rfl,rfl⟩:=h
 exact rfl
theorem k117_mkM (w:World) (base:Nat) (ok:Nat→Prop) (x:S117)  : k117.M w base ok x [.int .i64 x.f0,.int .i64 x.f1,.int .i64 x.f2]:=⟨[.int .i64 x.f0],[.int .i64 x.f1,.int .i64 x.f2],rfl,rfl,[.int .i64 x.f1],[.int .i64 x.f2],rfl,rfl,rfl⟩
def I64 (x:Int):Prop:=-9223372036854775808≤x∧x≤9223372036854775807
theorem I64.wf {x:Int} (h:I64 x):(Lit.int .i64 x).wf=true:=by
 simp only [Lit.wf,IntKind.min,IntKind.max,IntKind.signed,IntKind.bits]
 have:=h.1
 have:=h.2
 simp
 omega
def SInt (v:Value):Prop:=∃ x,v=.int .i64 x∧I64 x
def SRow (v:Value):Prop:=∃ A n c,v=.slice A n c
theorem zero3 (w:World):(zeroValue 3).run Tryz.prog w=.ok (.int .i64 0) w:=Tryz.zeroValue3 w
theorem zero26 (w:World):(zeroValue 26).run Tryz.prog w=.ok (.slice none 0 0) w:=Tryz.zeroValue26 w
def li (x:Int):Lit:=.int .i64 x
theorem keyI {x:Int} (h:I64 x):keyOf Tryz.prog 3 (.int .i64 x)=some (li x):=Go.Maps.keyOf_int_mk Tryz.underlying3 h.wf
theorem keyedI:Go.Maps.Keyed Tryz.prog 3:=Go.Maps.int_keyed Tryz.underlying3
def rootsOf:List S117→Int→Int
 | []=>id
 | l :: ls=>fun x=>let R:=rootsOf ls;if R x=R l.f0 then R l.f1 else R x
def Acyc:List S117→Prop
 | []=>True
 | l :: ls=>rootsOf ls l.f0≠rootsOf ls l.f1∧Acyc ls
def upM (F:Lit→Option Value) (x:Int):Option Int:=(F (li x)).map intOf
structure UpOk (d:Int→Nat) (m:Int→Option Int) (R:Int→Int):Prop where
 root:∀ x,m x=none→R x=x
 step:∀ x u,m x=some u→R u=R x∧d u < d x
theorem UpOk.far {d:Int→Nat} {m:Int→Option Int} {R:Int→Int} (h:UpOk d m R):∀ (n:Nat) (x:Int),d x≤n→m (R x)=none∧d (R x)≤d x:=by
 intro n
 induction n with
 | zero =>
  intro x hx
  cases hm:m x with
  | none=>rw [h.root x hm];exact ⟨hm,Nat.le_refl _⟩
  | some u=>have:=(h.step x u hm).2;omega
 | succ n ih =>
  intro x hx
  cases hm:m x with
  | none=>rw [h.root x hm];exact ⟨hm,Nat.le_refl _⟩
  | some u =>
   have h1:=h.step x u hm
   have h2:=ih u (by omega)
   rw [h1.1]at h2
   exact ⟨h2.1,by omega⟩
theorem UpOk.top {d:Int→Nat} {m:Int→Option Int} {R:Int→Int} (h:UpOk d m R) (x:Int):m (R x)=none:=(h.far (d x) x (Nat.le_refl _)).1
theorem UpOk.idem {d:Int→Nat} {m:Int→Option Int} {R:Int→Int} (h:UpOk d m R) (x:Int):R (R x)=R x:=h.root _ (h.top x)
theorem UpOk.lt {d:Int→Nat} {m:Int→Option Int} {R:Int→Int} (h:UpOk d m R) {x u:Int} (hm:m x=some u):d (R x) < d x:=by
 have h1:=h.step x u hm
 have h2:=(h.far (d u) u (Nat.le_refl _)).2
 rw [h1.1]at h2
 omega
theorem UpOk.short {d:Int→Nat} {m m':Int→Option Int} {R:Int→Int} (h:UpOk d m R) {x:Int} (hx:m x≠none) (h':∀ y,m' y=if y=x then some (R x)else m y):UpOk d m' R:=by
 refine ⟨fun y hy=>?_,fun y u hy=>?_⟩
 ·rw [h']at hy
  by_cases e:y=x
  ·rw [if_pos e]at hy;cases hy
  ·rw [if_neg e]at hy;exact h.root y hy
 ·rw [h']at hy
  by_cases e:y=x
  ·rw [if_pos e]at hy
   subst e
   have:=Option.some.inj hy
   subst this
   obtain ⟨u,hu⟩:=Option.ne_none_iff_exists'.1 hx
   exact ⟨h.idem y,h.lt hu⟩
  ·rw [if_neg e]at hy;exact h.step y u hy
theorem UpOk.join {d:Int→Nat} {m m':Int→Option Int} {R:Int→Int} (h:UpOk d m R) {a b:Int} (ha:m a=none) (hb:m b=none) (hab:a≠b) (h':∀ y,m' y=if y=a then some b else m y) :
  UpOk (fun x=>if R x=a then d x+d b+1 else d x) m' (fun x=>if R x=a then b else R x):=by
 have ra:=h.root a ha
 have rb:=h.root b hb
 refine ⟨fun y hy=>?_,fun y u hy=>?_⟩
 ·rw [h']at hy
  by_cases e:y=a
  ·rw [if_pos e]at hy;cases hy
  ·rw [if_neg e]at hy
   have:=h.root y hy
   rw [if_neg (by rw [this];exact e)]
   exact this
 ·rw [h']at hy
  by_cases e:y=a
  ·rw [if_pos e]at hy
   have:=Option.some.inj hy
   subst this e
   simp only [ra,rb,if_true,if_neg (Ne.symm hab)]
   exact ⟨trivial,by omega⟩
  ·rw [if_neg e]at hy
   have h1:=h.step y u hy
   simp only [h1.1]
   refine ⟨trivial,?_⟩
   split <;> omega
theorem upM_upd {F:Lit→Option Value} {x u:Int} (y:Int):upM (updF F (li x) (some (.int .i64 u))) y=if y=x then some u else upM F y:=by
 unfold upM updF
 by_cases e:y=x
 ·subst e;rw [if_pos rfl,if_pos rfl];rfl
 ·rw [if_neg e,if_neg (by intro h;injection h with _ h;exact e h)]
structure NearOk (w:World) (o:Own) (t:Nat) (F:Lit→Option Value) (N:Nat):Prop where
 row:∀ k v,F k=some v→∃ xs:List Int,w.ownsRow 0 3 1 v xs.length (xs.map (Value.int .i64))∧(∀ b,v.ownBlock=some b→o b=t)∧xs.length≤N
 apart:∀ k k' v v' b,F k=some v→F k'=some v'→v.ownBlock=some b→v'.ownBlock=some b→k=k'
structure ForBase (b:Nat) (w:World) (o:Own) (g mn mu:Nat) (vl:Value) (L:List S117) (Fn Fu:Lit→Option Value) (d:Int→Nat) (R:Int→Int) (Nn Nu Nr:Nat):Prop where
 blk:Blk w o b g #[.bool true,vl,.map (some mn),.map (some mu)] 96
 lnk:Row k117 117 w o (b+1) vl L
 omn:o mn=b+2
 omu:o mu=b+3
 nmap:GMap 3 SRow (.slice none 0 0) w mn Nn Fn
 umap:GMap 3 SInt (.int .i64 0) w mu Nu Fu
 up:UpOk d (upM Fu) R
 near:NearOk w o (b+4) Fn Nr
def ForM (b:Nat):Nat→Prop:=fun x=>x=b∨x=b+1∨x=b+2∨x=b+3∨x=b+4
def ForAt (b:Nat) (w:World) (o:Own) (g:Nat) (L:List S117):Prop :=
 ∃ vl mn mu Fn Fu d,ForBase b w o g mn mu vl L.reverse Fn Fu d (rootsOf L) (2 * L.length) L.length (2 * L.length)∧(∀ l∈L,I64 l.f0∧I64 l.f1)∧Acyc L
section
variable {b g mn mu Nn Nu Nr:Nat} {w w':World} {o o':Own} {vl:Value} {L:List S117} {Fn Fu:Lit→Option Value} {d:Int→Nat} {R:Int→Int}
theorem NearOk.fr {M:Nat→Prop} {t N:Nat} {F:Lit→Option Value} (h:NearOk w o t F N) (f:Kp M w o w' o') (ht:¬ M t):NearOk w' o' t F N:=by
 refine ⟨fun k v hk=>?_,h.apart⟩
 obtain ⟨xs,h1,h2,h3⟩:=h.row k v hk
 exact ⟨xs,own_move h1 (fun q hq=>f.block q (own_lt h1 q hq) (by rw [h2 q hq];exact ht)),fun q hq=>(f.own q (own_lt h1 q hq)).trans (h2 q hq),h3⟩
theorem ForBase.fr {M:Nat→Prop} (h:ForBase b w o g mn mu vl L Fn Fu d R Nn Nu Nr) (f:Kp M w o w' o') (hM:∀ x,ForM b x→¬ M x):ForBase b w' o' g mn mu vl L Fn Fu d R Nn Nu Nr :=
 ⟨h.blk.fr f (hM _ (.inl rfl)),h.lnk.fr f (hM _ (.inr (.inl rfl))),(f.own mn h.nmap.lt).trans h.omn,(f.own mu h.umap.lt).trans h.omu,
  h.nmap.at (f.block mn h.nmap.lt (by rw [h.omn];exact hM _ (.inr (.inr (.inl rfl))))),h.umap.at (f.block mu h.umap.lt (by rw [h.omu];exact hM _ (.inr (.inr (.inr (.inl rfl)))))),h.up,h.near.fr f (hM _ (.inr (.inr (.inr (.inr rfl)))))⟩
theorem ForAt.fr {M:Nat→Prop} {L:List S117} (h:ForAt b w o g L) (f:Kp M w o w' o') (hM:∀ x,ForM b x→¬ M x):ForAt b w' o' g L:=by
 obtain ⟨vl,mn,mu,Fn,Fu,d,h1,h2⟩:=h
 exact ⟨vl,mn,mu,Fn,Fu,d,h1.fr f hM,h2⟩
theorem ForBase.near_app (h:ForBase b w o g mn mu vl L Fn Fu d R Nn Nu Nr) (k:Int) (hk:I64 k) (x:Int) (hN:Nn < maxLen) :
  ∃ A n c,(Fn (li k)).getD (.slice none 0 0)=.slice A n c∧∃ xs:List Int,xs.length=n∧w.ownsRow 0 3 1 (.slice A n c) n (xs.map (Value.int .i64))∧n≤Nr∧(∀ q,(Value.slice A n c).ownBlock=some q→o q=b+4) ∧
   ∀ v1 w2,w2.ownsRow 0 3 1 v1 (n+1) (xs.map (Value.int .i64)++[.int .i64 x])→w.grownBy w2 (Value.slice A n c).ownBlock→(v1.ownBlock=(Value.slice A n c).ownBlock∨∃ q,v1.ownBlock=some q∧w.heap.size≤q) →
    ∃ w3,(Instr.mapUpdate 93 (.map (some mn)) (.int .i64 k) v1).run Tryz.prog w2=.ok () w3∧w2.grownBy w3 (some mn) ∧
     ForBase b w3 (o.from_ w.heap.size (b+4)) g mn mu vl L (updF Fn (li k) (some v1)) Fu d R (Nn+1) Nu (Nr+1)∧Kp (fun t=>t=b+2∨t=b+4) w o w3 (o.from_ w.heap.size (b+4)):=by
 have hrow:∃ A n c,(Fn (li k)).getD (.slice none 0 0)=.slice A n c∧∃ xs:List Int,xs.length=n∧w.ownsRow 0 3 1 (.slice A n c) n (xs.map (Value.int .i64))∧n≤Nr∧(∀ q,(Value.slice A n c).ownBlock=some q→o q=b+4∧∀ k' v',Fn k'=some v'→v'.ownBlock=some q→li k=k'):=by
  cases hF:Fn (li k)with
  | none=>exact ⟨none,0,0,rfl,[],rfl,World.ownsRow_nil _ _ _ _,Nat.zero_le _,fun q hq=>by cases hq⟩
  | some v =>
   obtain ⟨xs,h1,h2,h3⟩:=h.near.row _ _ hF
   obtain ⟨A,c,rfl⟩:=own_slice h1
   exact ⟨A,xs.length,c,rfl,xs,rfl,h1,h3,fun q hq=>⟨h2 q hq,fun k' v' hk' hv'=>h.near.apart _ _ _ _ q hF hk' hq hv'⟩⟩
 obtain ⟨A,n,c,hv,xs,hxl,ho,hn,hq⟩:=hrow
 refine ⟨A,n,c,hv,xs,hxl,ho,hn,fun q e=>(hq q e).1,fun v1 w2 ho1 hg hat=>?_⟩
 have f2:Kp (·=b+4) w o w2 (o.from_ w.heap.size (b+4)):=((Kp.refl _ w o).renew _).grown hg (fun q e=>.inl (by
  rw [Own.from_lt (own_lt ho q e)]
  exact (hq q e).1))
 have hnm2:w2.heap[mn]?=w.heap[mn]?:=f2.block mn h.nmap.lt (by rw [h.omn];omega)
 obtain ⟨A1,c1,rfl⟩:=own_slice ho1
 obtain ⟨w3,hr,hG,hgr⟩:=GMap.update keyedI Tryz.underlying93 (keyI hk) (h.nmap.at hnm2) hN (v:=.slice A1 (n+1) c1) ⟨_,_,_,rfl⟩
 have hmn2:o.from_ w.heap.size (b+4) mn=b+2:=(Own.from_lt h.nmap.lt).trans h.omn
 have k3:Kp (fun t=>t=b+2) w2 (o.from_ w.heap.size (b+4)) w3 (o.from_ w.heap.size (b+4)):=(Kp.refl _ w2 _).grown hgr (fun q e=>.inl (by rw [← Option.some.inj e];exact hmn2))
 have f3:Kp (fun t=>t=b+2∨t=b+4) w o w3 (o.from_ w.heap.size (b+4)):=(f2.mono (fun _ h=>.inr h)).trans (k3.mono (fun _ h=>.inl h))
 refine ⟨w3,hr,hgr,⟨h.blk.fr f3 (by omega),h.lnk.fr f3 (by omega),hmn2,(Own.from_lt h.umap.lt).trans h.omu,hG,h.umap.at (f3.block mu h.umap.lt (by rw [h.omu];omega)),h.up,⟨fun k' v' hk'=>?_,fun k1 k2 v v' q h1 h2 e1 e2=>?_⟩⟩,f3⟩
 ·unfold updF at hk'
  by_cases e:k'=li k
  ·rw [if_pos e]at hk'
   have:=Option.some.inj hk'
   subst this
   have e1:(xs.map (Value.int .i64)++[.int .i64 x])=(xs++[x]).map (Value.int .i64):=by simp
   have hown:∀ q,(Value.slice A1 (n+1) c1).ownBlock=some q→o.from_ w.heap.size (b+4) q=b+4:=fun q hq1=>by
    rcases hat with hat | ⟨q',hq',hge⟩
    ·rw [hat]at hq1
     rw [Own.from_lt (own_lt ho q hq1)]
     exact (hq q hq1).1
    ·rw [hq']at hq1
     rw [← Option.some.inj hq1]
     exact Own.from_ge hge
   refine ⟨xs++[x],?_,hown,by simp;omega⟩
   rw [List.length_append,List.length_singleton,hxl,← e1]
   exact own_move ho1 (fun q hq1=>k3.block q (own_lt ho1 q hq1) (by rw [hown q hq1];omega))
  ·rw [if_neg e]at hk'
   obtain ⟨ys,h1,h2,h3⟩:=h.near.row _ _ hk'
   have hne:∀ q,v'.ownBlock=some q→some q≠(Value.slice A n c).ownBlock:=fun q hq1 hq2=>e ((hq q hq2.symm).2 k' v' hk' hq1).symm
   have hm2:w2.ownsRow 0 3 1 v' ys.length (ys.map (Value.int .i64)):=own_move h1 (fun q hq1=>hg.block q (own_lt h1 q hq1) (hne q hq1))
   have ho2:∀ q,v'.ownBlock=some q→o.from_ w.heap.size (b+4) q=b+4:=fun q hq1=>(Own.from_lt (own_lt h1 q hq1)).trans (h2 q hq1)
   exact ⟨ys,own_move hm2 (fun q hq1=>k3.block q (own_lt hm2 q hq1) (by rw [ho2 q hq1];omega)),ho2,by omega⟩
 ·have old:∀ k' v' q,k'≠li k→updF Fn (li k) (some (.slice A1 (n+1) c1)) k'=some v'→v'.ownBlock=some q→(Value.slice A1 (n+1) c1).ownBlock=some q→False:=fun k' v' q hne hk' e1 e2=>by
   unfold updF at hk'
   rw [if_neg hne]at hk'
   obtain ⟨ys,h1,h2,h3⟩:=h.near.row _ _ hk'
   have hlt:=own_lt h1 q e1
   rcases hat with hat | ⟨q',hq',hge⟩
   ·rw [hat]at e2
    exact hne ((hq q e2).2 k' v' hk' e1).symm
   ·rw [hq']at e2
    have:=Option.some.inj e2
    omega
  by_cases g1:k1=li k
  ·by_cases g2:k2=li k
   ·rw [g1,g2]
   ·exfalso
    have h1':=h1
    unfold updF at h1'
    rw [if_pos g1]at h1'
    rw [← Option.some.inj h1']at e1
    exact old k2 v' q g2 h2 e2 e1
  ·by_cases g2:k2=li k
   ·exfalso
    have h2':=h2
    unfold updF at h2'
    rw [if_pos g2]at h2'
    rw [← Option.some.inj h2']at e2
    exact old k1 v q g1 h1 e1 e2
   ·unfold updF at h1 h2
    rw [if_neg g1]at h1
    rw [if_neg g2]at h2
    exact h.near.apart _ _ _ _ q h1 h2 e1 e2
theorem ForBase.link_app (h:ForBase b w o g mn mu vl L Fn Fu d R Nn Nu Nr) (l:S117) {v1:Value} {w2:World} (h1:Kd.R k117 117 w2 0 (fun k=>o.from_ w.heap.size (b+1) k=b+1) v1 (L++[l])) (hg:w.grownBy w2 vl.ownBlock) :
  ForBase b (w2.setCell ⟨g,1,none⟩ v1) (o.from_ w.heap.size (b+1)) g mn mu v1 (L++[l]) Fn Fu d R Nn Nu Nr∧Kp (fun t=>t=b∨t=b+1) w o (w2.setCell ⟨g,1,none⟩ v1) (o.from_ w.heap.size (b+1))∧Kp (fun t=>t=b+1) w o w2 (o.from_ w.heap.size (b+1)):=by
 have f2:Kp (·=b+1) w o w2 (o.from_ w.heap.size (b+1)):=((Kp.refl _ w o).renew _).grown hg (fun q e=>.inl (by
  have hk2:=(Kd.R_bound h.lnk).1 q e
  rw [Own.from_lt hk2.2.2.1,hk2.1]))
 have hb2:=h.blk.fr f2 (by omega)
 have ks:Kp (·=b) w2 (o.from_ w.heap.size (b+1)) (w2.setCell ⟨g,1,none⟩ v1) (o.from_ w.heap.size (b+1)):=(Kp.refl (·=b) w2 _).setCell ⟨g,1,none⟩ v1 (.inl hb2.2)
 have f3:Kp (fun t=>t=b∨t=b+1) w o (w2.setCell ⟨g,1,none⟩ v1) (o.from_ w.heap.size (b+1)):=(f2.mono (fun _ h=>.inr h)).trans (ks.mono (fun _ h=>.inl h))
 have hr2:Row k117 117 w2 (o.from_ w.heap.size (b+1)) (b+1) v1 (L++[l]):=h1
 refine ⟨⟨hb2.set 1 v1,hr2.fr ks (by omega),(Own.from_lt h.nmap.lt).trans h.omn,(Own.from_lt h.umap.lt).trans h.omu,h.nmap.at (f3.block mn h.nmap.lt (by rw [h.omn];omega)),h.umap.at (f3.block mu h.umap.lt (by rw [h.omu];omega)),h.up,h.near.fr f3 (by omega)⟩,f3,f2⟩
end
end Go.Proofs.YtjckhhecnebmmaaGreatDoor.TU
end
