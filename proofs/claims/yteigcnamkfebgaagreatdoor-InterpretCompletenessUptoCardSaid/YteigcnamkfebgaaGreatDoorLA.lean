import Derived.Test.YteigcnamkfebgaaGreatDoorJD
import Derived.Test.YteigcnamkfebgaaGreatDoorGK
set_option linter.all false
set_option maxHeartbeats 25600000
namespace Go.Proofs.YteigcnamkfebgaaGreatDoor
open Go.RowKit
theorem step_update_raw {P:Program} {ops:Array Oper} {o:Oper} {a:Act} {w:World} {K:Act→World→Prop} {Q:Exit→Act→World→Prop} {E':Prop} (hg:o.guard=none) (m x v:Operand) (t:TypeId) (hop:o.op=Op.mapUpdate t m x v) (k e:TypeId) (ht:P.underlying t=some (.map k e))
  (b:Nat) (es:Array MapEntry) (clock:Nat) (hm:a.eval m=.map (some b)) (hb:w.heap[b]? =some (.map es clock)) (key val:Value) (hx:a.eval x=key) (hv:a.eval v=val)
  (hck:∀em w,(Instr.checkKey em 10000 k key).run P w=.ok () w) (hf:∀w,(Instr.findKey k key es.toList).run P w=.ok none w)
  (hK:∀w',w'.heap[b]? =some (.map (es.push ⟨key,val,clock⟩) (clock+1))→w.grownBy w' (some b)→w'.heap.size=w.heap.size→K (a.put o.dst undef) w'):if Region.wanted o (yielded ops a.tmps)=true then Oper.wp P o a w K Q else E':=by
 have hw:Region.wanted o (yielded ops a.tmps)=true:=by simp [Region.wanted,hg]
 rw [if_pos hw]
 have hrun:(Instr.mapUpdate t (.map (some b)) key val).run P w=.ok () (ChangeMaps.setBlock w b (.map (es.push ⟨key,val,clock⟩) (clock+1))):=by
  simp [Instr.mapUpdate,run_underlying ht,MapKept.run_getObj_map hb,hck,hf,MapKept.run_setObj_map _ hb,Result.andThen,ChangeMaps.setBlock]
 have hK2:=hK _ (ChangeMaps.heap_setBlock_same hb _) ⟨rfl,rfl,rfl,by simp [ChangeMaps.setBlock],fun i _ hi=>ChangeMaps.heap_setBlock_other hb _ (fun e=>hi (by rw [e]))⟩ (by simp [ChangeMaps.setBlock]);unfold Oper.wp;simp [execOp,hop,hm,hx,hv,hrun,Result.andThen];exact hK2
theorem eG:kG.toList= [103,114,111,117,112]:=by kernel_rfl
theorem eP:kP.toList= [112,97,114,97,109]:=by kernel_rfl
theorem feP_id {F:List FeP} {l:List IdD} {N:List TnD} (hF:F.map (·.id)=(l.filter (isFea N)).map nameF) {i:Nat} {x:IdD} (hx:l[i]? =some x) (hp:isFea N x=true):∃fe,F[((l.take i).filter (isFea N)).length]? =some fe∧fe.id=nameF x:=by
 have h1:=filter_at (isFea N) l i x hx hp;have h2:(F.map (·.id))[((l.take i).filter (isFea N)).length]? =some (nameF x):=by rw [hF,List.getElem?_map,h1];rfl
 rw [List.getElem?_map]at h2
 cases hq:F[((l.take i).filter (isFea N)).length]? with
 |none=>rw [hq]at h2;cases h2
 |some fe=>rw [hq]at h2;exact⟨fe,rfl,by simpa using h2⟩
theorem feP_len {F:List FeP} {l:List IdD} {N:List TnD} (hF:F.map (·.id)=(l.filter (isFea N)).map nameF):F.length=(l.filter (isFea N)).length:=by
 have h1:=congrArg List.length hF
 rwa [List.length_map,List.length_map]at h1
structure EdBig (x:EdP):Prop where
 sm:EdSm x.d
 id:x.d.id.a.size≤900000000
 val:x.d.value.size≤400000000
 ids:∀y∈x.ids,y.a.size≤1000000000
attribute [local go_sem high] eql38 eql43 eql207
set_option maxRecDepth 100000 in
theorem compl_any (E:List EdP) (v:Value) (w:World) (hv:EditsW w v E) (hl:E.length≤100000000) (hE:∀x∈E,EdBig x) (KT:KindsAt w) (KA:KAll w) (hG:Globs w):
  Calls Tryz.prog 6 #[v] w fun e w'=>e=.returned (.bool true)∧Below w.heap.size w w':=by
 obtain⟨a1,n,c,rfl⟩:=hv.1.form;have hmm:= @run_makeMap Tryz.prog;have HV:=zz hv;have HE:=zz hE;have HK:=zz (And.intro KT (And.intro KA hG));clear hv hE KT KA hG;go_enter Tryz.func6,Tryz.ntmps6
 go_wp2_with fail
 refine(alive_any w HK.out.1).mono ?_;rintro e w1 ⟨rfl,hb1⟩;have HB1:=zz hb1;clear hb1
 go_wp2_with fail
 refine(sorted_any E (.slice a1 n c) w1 (HV.out.below HB1.out) hl (fun x hx=>(HE.out x hx).sm) (fun x hx=>(HE.out x hx).ids)).mono ?_;rintro e w2 ⟨⟨q,rfl,hq⟩,hb2⟩;have HB2:=zz (HB1.out.trans (hb2.mono HB1.out.size));have HQ:=zz hq;clear hb2 hq HB1
 by_cases hq0:q=0
 ·subst hq0
  go_wp2_with fail
  go_ret
  exact⟨rfl,HB2.out⟩
 have hqb:(q==0)=false:=by simp [hq0]
 have HEO:=zz (HQ.out hq0).2;have hE40:=(HQ.out hq0).1;clear HQ hq0 hl
 go_wp2_with fail
 refine(fold43_any E (.slice a1 n c) w2 (HV.out.below HB2.out) hE40 (fun x hx=>(HE.out x hx).sm)).mono ?_;rintro e w3 ⟨sn,s,K,N,R,rfl,hKl,hKE,hN,hF,hR,hRl,hRo,hws,hb3⟩;have HB3:=zz (HB2.out.trans (hb3.mono HB2.out.size));have hN40:N.length≤40:=Nat.le_trans hF.len (by omega);have hR40:R.length≤1000:=by omega
 have HN:=zz hN;have HR:=zz hR;have HND:=zz hF.nodup;have HSM:=zz (fun t (ht:t∈N)=>(hF.ok t ht).2.1)
 have HID:=zz (fun t (ht:t∈N)=>(show IdOk t.node by
  obtain⟨⟨x,hx,he⟩,_⟩:=hF.ok t ht;have h1:=HEO.out x (hKE x hx);rw [he]
  exact⟨(HE.out x (hKE x hx)).id,h1.1,h1.2.1,h1.2.2⟩))
 have HRW:=zz (fun r (hr:r∈R)=>(show r.w.length≤100000∧∀y∈r.w,y.text.size≤400000000 from⟨by have:=(hRo r hr).1;omega,fun y hy=>by
  obtain⟨x,hx,he⟩:=(hRo r hr).2.1 y hy;rw [he]
  exact(HE.out x (hKE x hx)).val⟩))
 have HCL:=zz (clash_bound (Nat.le_trans (wsum_clash R) (Nat.le_trans hws (by omega))));have hnl:=hN.len;obtain⟨na,nl,nc⟩:=sn;simp only at hnl;subst hnl;have BA:=HB3.out.alloc HB3.out.size (.cells #[.slice na N.length nc,.slice s.a s.len s.cap] 28);have HA:=zz (And.intro (HN.out.alloc (.cells #[.slice na N.length nc,.slice s.a s.len s.cap] 28)) (And.intro (HR.out.below ((Below.refl _ w3).alloc (Nat.le_refl _) (.cells #[.slice na N.length nc,.slice s.a s.len s.cap] 28))) BA));have HB3A:=zz (zg w3 (.cells #[.slice na N.length nc,.slice s.a s.len s.cap] 28) w3.heap.size rfl);clear hKl hKE hN hF hR hRl hRo hws hb3 BA HV HE HEO
 go_wp2_with(first
  |refine wpList_store_new w3 rfl 28 _ _ rfl _ _ rfl rfl (by kernel_rfl) (by rfl) (by simp [Value.oneCell']) ?_)
 refine(design_gen N R ⟨na,N.length,nc⟩ s _ HA.out.1 HA.out.2.1 hN40 HSM.out HID.out hR40 HRW.out HCL.out (HK.out.2.2.below HA.out.2.2) (HK.out.2.1.below HA.out.2.2)).mono ?_;rintro e w5 ⟨sp,sf,sc,P,F,rfl,hP,hFe,hPl,hFi,hb5⟩;have HB35:=zz (((Below.refl w3.heap.size w3).alloc (Nat.le_refl _) (.cells #[.slice na N.length nc,.slice s.a s.len s.cap] 28)).trans (hb5.mono (by simp)));have HB5:=zz (HA.out.2.2.trans (hb5.mono HA.out.2.2.size));have T3:=(hb5.block _ (by simp)).trans HB3A.out;have HPL:=zz (And.intro hPl hFi);obtain⟨pa,pl,pc⟩:=sp;obtain⟨fa,fl,fc⟩:=sf;have hpl:pl=P.length:=hP.len;have hfl:fl=F.length:=hFe.len;subst hpl;subst hfl;have HFE:=zz hFe;have l35:w3.heap.size < w5.heap.size:=zl T3;have HT3:=zz (zo _ _ (.cells #[.slice pa P.length pc,.slice fa F.length fc,.slice sc.a sc.len sc.cap] 34) _ T3);have HT4:=zz (zg w5 (.cells #[.slice pa P.length pc,.slice fa F.length fc,.slice sc.a sc.len sc.cap] 34) w5.heap.size rfl);clear hP hFe hPl hFi hb5 T3 HB3A HA HRW HCL HR
 go_wp2_with(first
  |refine wpList_store_new w5 rfl 34 _ _ rfl _ _ rfl rfl (by kernel_rfl) (by rfl) (by simp [Value.oneCell']) ?_)
 have l55:w5.heap.size < (w5.alloc (.cells #[.slice pa P.length pc,.slice fa F.length fc,.slice sc.a sc.len sc.cap] 34)).heap.size:=by simp
 have B6:=((Below.refl w5.heap.size w5).alloc (Nat.le_refl _) (.cells #[.slice pa P.length pc,.slice fa F.length fc,.slice sc.a sc.len sc.cap] 34)).alloc (Nat.le_of_lt l55) (.map #[] 0);have T4:=zo _ _ (.map #[] 0) _ HT4.out;have TM:=zg (w5.alloc (.cells #[.slice pa P.length pc,.slice fa F.length fc,.slice sc.a sc.len sc.cap] 34)) (.map #[] 0) (w5.heap.size+1) (by simp);have H6:=zz (And.intro B6 (And.intro T4 TM));clear B6 T4 TM HT4;have HT5:=zz (show w5.heap[w3.heap.size]? =some (.cells #[.slice na N.length nc,.slice s.a s.len s.cap] 28 (0,0))from((Below.refl _ w5).alloc (Nat.le_refl _) _).block _ l35▸HT3.out);clear HT3 l55 hmm;generalize(w5.alloc (.cells #[.slice pa P.length pc,.slice fa F.length fc,.slice sc.a sc.len sc.cap] 34)).alloc (.map #[] 0)=W6 at*
 go_loopg [6] N.length (fun gn t6 wr=>∃i:Nat,i+gn=N.length∧t6=.int .i64 i∧wr.heap[w5.heap.size+1]? =some (.map (kindT (N.take i)) i)∧wr.heap[w5.heap.size]? =some (.cells #[.slice pa P.length pc,.slice fa F.length fc,.slice sc.a sc.len sc.cap] 34 (0,0))∧Below w5.heap.size w5 wr)
 case atStart=>exact⟨0,by omega,rfl,H6.out.2.2,H6.out.2.1,H6.out.1⟩
 case round=>
  obtain⟨G,rfl⟩:∃G,G=gk:=⟨_,rfl⟩;obtain⟨i,hi,rfl,hM,h4,hB⟩:=hrel;have HI:=zz hi;have H7:=zz (And.intro hM (And.intro h4 hB));have T3:=(hB.block _ l35).trans HT5.out;have l3:=zl T3;have lM:=zl hM;clear hi hM h4 hB
  by_cases hlt:i < N.length
  ·obtain⟨t,ht⟩:∃t,N[i]? =some t:=⟨_,List.getElem?_eq_getElem hlt⟩
   obtain⟨nb,noff,rfl,hnr⟩:∃b off,na=some ⟨b,off,none⟩∧w3.rangeAt b off (tnY.flat N):=by
    rcases HN.out with⟨h1,h2⟩|⟨b,off,cap,h1,h2,h3⟩
    ·rw [h2]at ht;simp at ht
    ·first|(simp [SlV.v]at h1;exact⟨b,off,h1.1,h3⟩)|(simp at h1;exact⟨b,off,h1.1,h3⟩)
   have hx3:=tnY.elem hnr i t ht;have hx:wr.rangeAt nb (noff+i*8) (tnV t):=rangeAt_below hx3 (HB35.out.trans (H7.out.2.2.mono (Nat.le_of_lt l35)));have hnb:nb < w3.heap.size:=block_lt_of_cell (hx3 0 _ rfl);have c0:wr.cell? ⟨w3.heap.size,0,none⟩=some (.slice (some ⟨nb,noff,none⟩) N.length nc):=zc _ _ 0 _ _ _ T3;have x0:wr.cell? ⟨nb,noff+i*8,none⟩=some (.string t.node.a):=hx 0 _ rfl;have x1:wr.cell? ⟨nb,noff+i*8+1,none⟩=some (.int .i64 t.node.n):=hx 1 _ rfl;have x7:wr.cell? ⟨nb,noff+i*8+7,none⟩=some (.string t.kind):=hx 7 _ rfl;have hiz:(i:Int) < (N.length:Int):=by omega
   have HKN:=zz (kind_no (nodup_take HND.out ht));have HTS:=zz (And.intro (kindT_snoc (N.take i) t) (list_snoc N i t ht));have HTL:=zz (show(N.take i).length=i by rw [List.length_take];omega);have hH:wr.drew.cell? ⟨w3.heap.size,0,none⟩=some (.slice (some ⟨nb,noff,none⟩) N.length nc)∧wr.drew.cell? ⟨nb,noff+i*8,none⟩=some (.string t.node.a)∧wr.drew.cell? ⟨nb,noff+i*8+1,none⟩=some (.int .i64 t.node.n)∧wr.drew.cell? ⟨nb,noff+i*8+7,none⟩=some (.string t.kind):=⟨c0,x0,x1,x7⟩;clear hx hx3 hnr ht T3
   go_wp2_with fail
   clear c0 x0 x1 x7;refine wp_region_held_drew (S:=fun w'=>w'.cell? ⟨w3.heap.size,0,none⟩=some (.slice (some ⟨nb,noff,none⟩) N.length nc)∧w'.cell? ⟨nb,noff+i*8,none⟩=some (.string t.node.a)∧w'.cell? ⟨nb,noff+i*8+1,none⟩=some (.int .i64 t.node.n)∧w'.cell? ⟨nb,noff+i*8+7,none⟩=some (.string t.kind)) (by kernel_rfl) hH (fun hH=>?_);refine tk 0 (.map (some (w5.heap.size+1))) rfl hH ?_ (hy:=fun _ hSw=>by obtain⟨h0,h1,h2,h3⟩:=hSw;go_simp);(try simp only [PU]);refine tk 1 (.pointer (some ⟨w3.heap.size,0,none⟩)) rfl hH ?_ (hy:=fun _ hSw=>by obtain⟨h0,h1,h2,h3⟩:=hSw;go_simp);(try simp only [PU]);refine tk 2 (.slice (some ⟨nb,noff,none⟩) N.length nc) rfl hH ?_ (hy:=fun _ hSw=>by obtain⟨h0,h1,h2,h3⟩:=hSw;go_simp);(try simp only [PU]);refine tk 3 (.int .i64 i) rfl hH ?_ (hy:=fun _ hSw=>by obtain⟨h0,h1,h2,h3⟩:=hSw;go_simp);(try simp only [PU]);refine tk 4 (.pointer (some ⟨nb,noff+i*8,none⟩)) rfl hH ?_ (hy:=fun _ hSw=>by obtain⟨h0,h1,h2,h3⟩:=hSw;go_simp);(try simp only [PU]);refine tk 5 (.pointer (some ⟨nb,noff+i*8,none⟩)) rfl hH ?_ (hy:=fun _ hSw=>by obtain⟨h0,h1,h2,h3⟩:=hSw;go_simp);(try simp only [PU]);refine tk 6 (.agg #[.string t.node.a,.int .i64 t.node.n]) rfl hH ?_ (hy:=fun _ hSw=>by obtain⟨h0,h1,h2,h3⟩:=hSw;go_simp);(try simp only [PU]);refine tk 7 (.pointer (some ⟨w3.heap.size,0,none⟩)) rfl hH ?_ (hy:=fun _ hSw=>by obtain⟨h0,h1,h2,h3⟩:=hSw;go_simp);(try simp only [PU]);refine tk 8 (.slice (some ⟨nb,noff,none⟩) N.length nc) rfl hH ?_ (hy:=fun _ hSw=>by obtain⟨h0,h1,h2,h3⟩:=hSw;go_simp);(try simp only [PU]);refine tk 9 (.int .i64 i) rfl hH ?_ (hy:=fun _ hSw=>by obtain⟨h0,h1,h2,h3⟩:=hSw;go_simp);(try simp only [PU]);refine tk 10 (.pointer (some ⟨nb,noff+i*8,none⟩)) rfl hH ?_ (hy:=fun _ hSw=>by obtain⟨h0,h1,h2,h3⟩:=hSw;go_simp);(try simp only [PU]);refine tk 11 (.pointer (some ⟨nb,noff+i*8+7,none⟩)) rfl hH ?_ (hy:=fun _ hSw=>by obtain⟨h0,h1,h2,h3⟩:=hSw;go_simp);(try simp only [PU]);refine tk 12 (.string t.kind) rfl hH ?_ (hy:=fun _ hSw=>by obtain⟨h0,h1,h2,h3⟩:=hSw;go_simp);(try simp only [PU]);refine rd 13 rfl (fun K9 hK9=>?_);refine step_update_raw rfl _ _ _ 64 rfl 38 9 Tryz.underlying64 (w5.heap.size+1) (kindT (N.take i)) i rfl H7.out.1 (.agg #[.string t.node.a,.int .i64 t.node.n]) (.string t.kind) rfl rfl (ck38 _ _) HKN.out ?_;intro w9 hm9 hg9 hs9;have hH9:=fun(b:Nat) (hb:b < wr.heap.size) (hn:b≠w5.heap.size+1)=>(hg9.block b hb (by simp;omega))
   refine hK9.out _ _ ⟨(World.cell?_of_block (w:=wr) (hH9 w3.heap.size l3 (by omega))).trans hH.1,(World.cell?_of_block (w:=wr) (hH9 nb (by omega) (by omega))).trans hH.2.1,(World.cell?_of_block (w:=wr) (hH9 nb (by omega) (by omega))).trans hH.2.2.1,(World.cell?_of_block (w:=wr) (hH9 nb (by omega) (by omega))).trans hH.2.2.2⟩ (fun hH=>?_);clear hK9;(try simp only [PU]);refine wpAnyH_done (by kernel_rfl) ?_ _;have H9:=zz (And.intro hm9 (And.intro hg9 (hH9 w5.heap.size (by omega) (by omega))));clear hm9 hg9 hs9 hH9 hH;go_wp2
   go_roundg (N.length - 1 - i)
   case rel=>exact⟨i+1,by have:=HI.out;omega,by go_num,by rw [HTS.out.2,HTS.out.1,HTL.out];exact H9.out.1,H9.out.2.2.trans H7.out.2.1,Below.grown H7.out.2.2 (show wr.grownBy w9 (some (w5.heap.size+1))from⟨H9.out.2.1.os,H9.out.2.1.tape,H9.out.2.1.output,H9.out.2.1.size,H9.out.2.1.block⟩) H7.out.2.2.size (fun k hk=>by cases hk;omega)⟩
   case measure=>have:=HI.out;omega
  ·obtain rfl:i=N.length:=by have:=HI.out;omega
   have c0:wr.cell? ⟨w3.heap.size,0,none⟩=some (.slice na N.length nc):=zc _ _ 0 _ _ _ T3;have HB3r:=HB35.out.trans (H7.out.2.2.mono (Nat.le_of_lt l35))
   go_wp2_with fail
   refine(walkN_any N (.slice na N.length nc) wr (HN.out.below HB3r) hN40 HSM.out).mono ?_;rintro e w9 ⟨v9,rfl,ho9,hb9⟩;obtain⟨s9,hs9⟩:=ownsForm ho9;subst hs9;have HI9:=zz (show idY.Rd w9 (.slice s9.a s9.len s9.cap) (walkL N)from Lay.Rd.of_owns (Y:=idY) ho9);obtain⟨ga,gl,gc⟩:=s9;have HGL:=zz HI9.out.len;have HO40:=(walkL_inv hN40).len;have HSUB:=zz (walkL_inv hN40).sub
   have hM9:w9.heap[w5.heap.size+1]? =some (.map (kindT N) N.length):=by
    have h:=(hb9.block _ lM).trans H7.out.1;rw [List.take_length]at h;exact h
   have HM9:=zz hM9;have HT49:=zz ((hb9.block w5.heap.size (by omega)).trans H7.out.2.1);have HB59:=zz (H7.out.2.2.trans (hb9.mono H7.out.2.2.size));have l9:=zl hM9;generalize hO:walkL N=O at*
   simp only at HGL;have hgl40:gl≤40:=by have:=HGL.out;omega
   clear c0 HB3r ho9 hb9 hM9 T3 l3 lM HT5 H6 H7 hO HO40;go_wp2
   go_loopg [7,8,9,11] gl (fun gn t7 t8 t9 t11 wr=>∃i a b c:Nat,i+gn=gl∧t7=.int .i64 a∧t8=.int .i64 b∧t9=.int .i64 c∧t11=.int .i64 i∧(a=((O.take i).filter (isGrp N)).length∧b=((O.take i).filter (isPar N)).length∧c=((O.take i).filter (isFea N)).length)∧Below w9.heap.size w9 wr)
   case atStart=>exact⟨0,0,0,0,by omega,rfl,rfl,rfl,rfl,⟨rfl,rfl,rfl⟩,Below.refl _ _⟩
   case round=>
    obtain⟨G2,rfl⟩:∃G2,G2=gk:=⟨_,rfl⟩;obtain⟨wq,rfl⟩:∃wq,wq=wr:=⟨_,rfl⟩;obtain⟨i,a,b,c,hi,rfl,rfl,rfl,rfl,hcnt,hB⟩:=hrel;have HI2:=zz hi;have HCN:=zz hcnt;have HBQ:=zz hB
    have habc:a≤i∧b≤i∧c≤i:=by
     have h:=count3 N (O.take i);rw [←hcnt.1,←hcnt.2.1,←hcnt.2.2,List.length_take]at h;omega
    obtain⟨hai,hbi,hci⟩:=habc;have T4:=(hB.block _ (by omega)).trans HT49.out;have hszq:w9.heap.size≤wq.heap.size:=hB.size;clear hi hcnt hB
    by_cases hlt2:i < gl
    ·obtain⟨x,hx⟩:∃x,O[i]? =some x:=⟨_,List.getElem?_eq_getElem (by rw [←HGL.out];exact hlt2)⟩
     obtain⟨g,go,rfl,hids⟩:∃g go,ga=some ⟨g,go,none⟩∧w9.rangeAt g go (idY.flat O):=by
      rcases HI9.out with⟨h1,h2⟩|⟨b,off,cap,h1,h2,h3⟩
      ·rw [h2]at hx;simp at hx
      ·simp at h1;exact⟨b,off,h1.1,h3⟩
     have hx9:=rangeAt_below (idY.elem hids i x hx) HBQ.out;have x0:wq.cell? ⟨g,go+i*2,none⟩=some (.string x.a):=hx9 0 _ rfl;have x1:wq.cell? ⟨g,go+i*2+1,none⟩=some (.int .i64 x.n):=hx9 1 _ rfl;have lg:g < wq.heap.size:=block_lt_of_cell x0;have HXN:=zz (HSUB.out x (List.mem_of_getElem? hx));obtain⟨kk,hkk⟩:=kind_yes HXN.out;have HKK:=zz hkk;have HMQ:=zz ((HBQ.out.block _ l9).trans HM9.out);have HX:=zz hx;have hiz:(i:Int) < (gl:Int):=by omega
     obtain⟨kx,hkx⟩:∃kx,kx=kindOf N x:=⟨_,rfl⟩;rw [←hkx]at HKK;have HS1:=zz (cnt_step (isGrp N) O i x hx);have HS2:=zz (cnt_step (isPar N) O i x hx);have HS3:=zz (cnt_step (isFea N) O i x hx);have HKG:=zz (show isGrp N x=(kx.toList== [103,114,111,117,112]) by unfold isGrp;rw [←hkx,beq_toListBytes,eG]);have HKP:=zz (show isPar N x=(kx.toList== [112,97,114,97,109]) by unfold isPar;rw [←hkx,beq_toListBytes,eP]);clear hids hx9 hkk hx hkx
     cases hg:(kx.toList== [103,114,111,117,112])with
     |true=>
      have HPN:=zz (show isPar N x=false by
       cases hp:isPar N x with
       |false=>rfl
       |true=>have h:=noPG N x hp;rw [HKG.out,hg]at h;cases h)
      go_wp2_with(first
       |(at_lookup;refine wpList_lookup_raw _ rfl _ _ 64 false rfl 38 9 Tryz.underlying64 (.string ⟨#[]⟩) Tryz.zeroValue9 (w5.heap.size+1) (kindT N) N.length rfl HMQ.out (.agg #[.string x.a,.int .i64 x.n]) rfl (ck38 _ _) (some (kk,.string kx)) HKK.out (.string kx) rfl ?_))
      go_roundg (gl - 1 - i)
      case rel=>exact⟨i+1,a+1,b,c,by have:=HI2.out;omega,by go_num,rfl,rfl,by go_num,⟨by rw [HS1.out,HKG.out,if_pos (by assumption),HCN.out.1],by rw [HS2.out,HPN.out,HCN.out.2.1];rfl,by rw [HS3.out,HCN.out.2.2];unfold isFea;rw [HPN.out,HKG.out,show(kx.toList== [103,114,111,117,112])=true from hg];rfl⟩,HBQ.out⟩
      case measure=>have:=HI2.out;omega
     |false=>
      cases hp:(kx.toList== [112,97,114,97,109])with
      |true=>
       go_wp2_with(first
        |(at_lookup;refine wpList_lookup_raw _ rfl _ _ 64 false rfl 38 9 Tryz.underlying64 (.string ⟨#[]⟩) Tryz.zeroValue9 (w5.heap.size+1) (kindT N) N.length rfl HMQ.out (.agg #[.string x.a,.int .i64 x.n]) rfl (ck38 _ _) (some (kk,.string kx)) HKK.out (.string kx) rfl ?_))
       go_roundg (gl - 1 - i)
       case rel=>exact⟨i+1,a,b+1,c,by have:=HI2.out;omega,rfl,by go_num,rfl,by go_num,⟨by rw [HS1.out,HKG.out,show(kx.toList== [103,114,111,117,112])=false from hg,HCN.out.1];rfl,by rw [HS2.out,HKP.out,show(kx.toList== [112,97,114,97,109])=true from hp,HCN.out.2.1];rfl,by rw [HS3.out,HCN.out.2.2];unfold isFea;rw [HKP.out,show(kx.toList== [112,97,114,97,109])=true from hp];rfl⟩,HBQ.out⟩
       case measure=>have:=HI2.out;omega
      |false=>
       have HFN:=zz (show isFea N x=true by unfold isFea;rw [HKG.out,HKP.out,hg,hp];rfl);obtain⟨fe,hfe,hfn⟩:=feP_id HPL.out.2 HX.out HFN.out;rw [←HCN.out.2.2]at hfe
       obtain⟨fb,fo,rfl,hfr⟩:∃b off,fa=some ⟨b,off,none⟩∧w5.rangeAt b off (feP.flat F):=by
        rcases HFE.out with⟨h1,h2⟩|⟨b,off,cap,h1,h2,h3⟩
        ·rw [h2]at hfe;simp at hfe
        ·first|(simp [SlV.v]at h1;exact⟨b,off,h1.1,h3⟩)|(simp at h1;exact⟨b,off,h1.1,h3⟩)
       have f0:wq.cell? ⟨fb,fo+c*12,none⟩=some (.string (nameF x)):=by
        have h:=rangeAt_below (feP.elem hfr c fe hfe) (HB59.out.trans (HBQ.out.mono HB59.out.size));have h2:=h 0 (.string fe.id) rfl;rw [hfn]at h2;exact h2
       have hcF:c < F.length:=(List.getElem?_eq_some_iff.1 hfe).1;have hcz:(c:Int) < (F.length:Int):=by omega
       have d1:decide ((F.length:Int)≤(c:Int))=false:=by simp;omega
       have r1:wq.cell? ⟨w5.heap.size,1,none⟩=some (.slice (some ⟨fb,fo,none⟩) F.length fc):=zc _ _ 1 _ _ _ T4
       have HXI:=zz (show IdOk x by
        obtain⟨t,ht,he⟩:=HXN.out
        rw [←he];exact HID.out t ht)
       have HNE:=zz (fun(W:World)=>name_eq x W (Nat.le_trans HXI.out.a (by decide)) HXI.out.v HXI.out.n1 HXI.out.n9);generalize nameF x=nm at*
       clear hfe hfn hfr T4
       go_wp2_with(first
        |(at_lookup;refine wpList_lookup_raw _ rfl _ _ 64 false rfl 38 9 Tryz.underlying64 (.string ⟨#[]⟩) Tryz.zeroValue9 (w5.heap.size+1) (kindT N) N.length rfl HMQ.out (.agg #[.string x.a,.int .i64 x.n]) rfl (ck38 _ _) (some (kk,.string kx)) HKK.out (.string kx) rfl ?_))
       have hH:wq.drew.cell? ⟨w5.heap.size,1,none⟩=some (.slice (some ⟨fb,fo,none⟩) F.length fc)∧wq.drew.cell? ⟨fb,fo+c*12,none⟩=some (.string nm)∧wq.drew.cell? ⟨g,go+i*2,none⟩=some (.string x.a)∧wq.drew.cell? ⟨g,go+i*2+1,none⟩=some (.int .i64 x.n):=⟨r1,f0,x0,x1⟩;clear r1 f0 x0 x1;refine wp_region_held_drew (S:=fun w'=>w'.cell? ⟨w5.heap.size,1,none⟩=some (.slice (some ⟨fb,fo,none⟩) F.length fc)∧w'.cell? ⟨fb,fo+c*12,none⟩=some (.string nm)∧w'.cell? ⟨g,go+i*2,none⟩=some (.string x.a)∧w'.cell? ⟨g,go+i*2+1,none⟩=some (.int .i64 x.n)) (by kernel_rfl) hH (fun hH=>?_);refine tk 0 (.int .i64 c) rfl hH ?_ (hy:=fun _ hSw=>by obtain⟨h0,h1,h2,h3⟩:=hSw;go_simp);(try simp only [PU]);refine tk 1 (.pointer (some ⟨w5.heap.size,1,none⟩)) rfl hH ?_ (hy:=fun _ hSw=>by obtain⟨h0,h1,h2,h3⟩:=hSw;go_simp);(try simp only [PU]);refine tk 2 (.slice (some ⟨fb,fo,none⟩) F.length fc) rfl hH ?_ (hy:=fun _ hSw=>by obtain⟨h0,h1,h2,h3⟩:=hSw;go_simp);(try simp only [PU]);refine tk 3 (.int .i64 F.length) rfl hH ?_ (hy:=fun _ hSw=>by obtain⟨h0,h1,h2,h3⟩:=hSw;go_simp);(try simp only [PU]);refine tk 4 (.bool false) rfl hH ?_ (hy:=fun _ hSw=>by obtain⟨h0,h1,h2,h3⟩:=hSw;go_simp);(try simp only [PU]);refine tk 5 (.bool false) rfl hH ?_ (hy:=fun _ hSw=>by obtain⟨h0,h1,h2,h3⟩:=hSw;go_simp);(try simp only [PU]);refine tk 6 (.pointer (some ⟨w5.heap.size,1,none⟩)) rfl hH ?_ (hy:=fun _ hSw=>by obtain⟨h0,h1,h2,h3⟩:=hSw;go_simp);(try simp only [PU]);refine tk 7 (.slice (some ⟨fb,fo,none⟩) F.length fc) rfl hH ?_ (hy:=fun _ hSw=>by obtain⟨h0,h1,h2,h3⟩:=hSw;go_simp);(try simp only [PU]);refine tk 8 (.int .i64 c) rfl hH ?_ (hy:=fun _ hSw=>by obtain⟨h0,h1,h2,h3⟩:=hSw;go_simp);(try simp only [PU]);refine tk 9 (.pointer (some ⟨fb,fo+c*12,none⟩)) rfl hH ?_ (hy:=fun _ hSw=>by obtain⟨h0,h1,h2,h3⟩:=hSw;go_simp);(try simp only [PU]);refine tk 10 (.pointer (some ⟨fb,fo+c*12,none⟩)) rfl hH ?_ (hy:=fun _ hSw=>by obtain⟨h0,h1,h2,h3⟩:=hSw;go_simp);(try simp only [PU]);refine tk 11 (.string nm) rfl hH ?_ (hy:=fun _ hSw=>by obtain⟨h0,h1,h2,h3⟩:=hSw;go_simp);(try simp only [PU]);refine tk 12 (.slice (some ⟨g,go,none⟩) gl gc) rfl hH ?_ (hy:=fun _ hSw=>by obtain⟨h0,h1,h2,h3⟩:=hSw;go_simp);(try simp only [PU]);refine tk 13 (.int .i64 i) rfl hH ?_ (hy:=fun _ hSw=>by obtain⟨h0,h1,h2,h3⟩:=hSw;go_simp);(try simp only [PU]);refine tk 14 (.pointer (some ⟨g,go+i*2,none⟩)) rfl hH ?_ (hy:=fun _ hSw=>by obtain⟨h0,h1,h2,h3⟩:=hSw;go_simp);(try simp only [PU]);refine tk 15 (.agg #[.string x.a,.int .i64 x.n]) rfl hH ?_ (hy:=fun _ hSw=>by obtain⟨h0,h1,h2,h3⟩:=hSw;go_simp);(try simp only [PU]);refine rd 16 rfl (fun K9 hK9=>?_);go_simp
       with_reducible refine(HNE.out _).mono ?_
       rintro e w8 ⟨rfl,hb8⟩;refine hK9.out _ _ ⟨keep1 hb8 hH.1,keep1 hb8 hH.2.1,keep1 hb8 hH.2.2.1,keep1 hb8 hH.2.2.2⟩ (fun hH=>?_);clear hK9;(try simp only [PU]);refine tk 17 (.bool false) rfl hH ?_ (hy:=fun _ hSw=>by obtain⟨h0,h1,h2,h3⟩:=hSw;go_simp);(try simp only [PU]);refine tk 18 (.bool false) rfl hH ?_ (hy:=fun _ hSw=>by obtain⟨h0,h1,h2,h3⟩:=hSw;go_simp);(try simp only [PU]);refine wpAnyH_done (by kernel_rfl) ?_ _;have HB8:=zz (HBQ.out.trans (show Below w9.heap.size wq w8 from(Below_drew_left' hb8).mono hszq));clear hb8 hH;go_wp2
       go_roundg (gl - 1 - i)
       case rel=>exact⟨i+1,a,b,c+1,by have:=HI2.out;omega,rfl,rfl,by go_num,by go_num,⟨by rw [HS1.out,HKG.out,show(kx.toList== [103,114,111,117,112])=false from hg,HCN.out.1];rfl,by rw [HS2.out,HKP.out,show(kx.toList== [112,97,114,97,109])=false from hp,HCN.out.2.1];rfl,by rw [HS3.out,HFN.out,HCN.out.2.2];rfl⟩,HB8.out⟩
       case measure=>have:=HI2.out;omega
    ·obtain rfl:i=gl:=by have:=HI2.out;omega
     have hOt:O.take i=O:=List.take_of_length_le (by rw [←HGL.out];exact Nat.le_refl _);have h3:=count3 N O;have hc1:=HCN.out;rw [hOt]at hc1;obtain rfl:c=F.length:=by rw [hc1.2.2,←feP_len HPL.out.2]
     obtain rfl:b=P.length:=by rw [hc1.2.1,HPL.out.1]
     have hsum:a+P.length+F.length=i:=by rw [←hc1.1,←hc1.2.1,←hc1.2.2]at h3;rw [HGL.out];exact h3
     have r0:wq.cell? ⟨w5.heap.size,0,none⟩=some (.slice pa P.length pc):=zc _ _ 0 _ _ _ T4;have r1:wq.cell? ⟨w5.heap.size,1,none⟩=some (.slice fa F.length fc):=zc _ _ 1 _ _ _ T4;have hw1:IntKind.i64.wrap ((a:Int)+(P.length:Int))=(a:Int)+(P.length:Int):=i64wS _ (by omega) (by omega);have hw2:IntKind.i64.wrap ((a:Int)+(P.length:Int)+(F.length:Int))=(i:Int):=by rw [i64wS _ (by omega) (by omega)];omega
     have HBZ:=zz (HB5.out.trans ((HB59.out.mono (Nat.le_trans HB5.out.size (Nat.le_refl _))).trans (HBQ.out.mono (Nat.le_trans HB5.out.size HB59.out.size))));clear hc1 h3 hOt T4 hsum;go_wp2;go_ret
     exact⟨rfl,HBZ.out⟩
end Go.Proofs.YteigcnamkfebgaaGreatDoor
