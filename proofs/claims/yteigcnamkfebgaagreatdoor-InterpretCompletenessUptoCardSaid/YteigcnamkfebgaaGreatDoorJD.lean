import Derived.Test.YteigcnamkfebgaaGreatDoorJB
set_option linter.all false
set_option maxHeartbeats 25600000
namespace Go.Proofs.YteigcnamkfebgaaGreatDoor
open Go.RowKit
theorem khitG (rb:Nat) (w:World):(Instr.findKey 9 (.string ⟨#[103,114,111,117,112]⟩) (kindsTab rb).toList).run Tryz.prog w=.ok (some (1,.func (.func 25) #[] #[])) w:=by kernel_rfl
theorem kmissX (rb:Nat) (s:ByteArray) (h1:(s==kP)=false) (h2:(s==kG)=false) (w:World):(Instr.findKey 9 (.string s) (kindsTab rb).toList).run Tryz.prog w=.ok none w:=by
 unfold kP at h1;unfold kG at h2;refine MapKept.run_findKey Tryz.underlying9 ?_;simp [kindsTab,Instr.findNow,Instr.sameNow,h1,h2]
theorem group_any (x:TnD) (w:World):Calls Tryz.prog 25 #[.agg (tnV x).toArray] w fun e w'=>e=.returned (.tuple #[])∧Below w.heap.size w w':=by
 have hb:Below w.heap.size w (w.alloc (.cells (tnV x).toArray 55)):=(Below.refl _ _).alloc (Nat.le_refl _) _;unfold tnV at*
 go_enter Tryz.func25,Tryz.ntmps25
 go_wp2;go_end0
 exact⟨rfl,hb⟩
structure Dst (w w4:World) (rb:Nat) (sn sr sp sf sc:SlV) (P:List PdD) (F:List FeP) (C:List RegD) (N:List TnD) (l:List IdD) (W:World):Prop where
 row:W.heap[rb]? =some (.cells #[.slice sn.a sn.len sn.cap,.slice sr.a sr.len sr.cap,.slice sp.a sp.len sp.cap,.slice sf.a sf.len sf.cap,.slice sc.a sc.len sc.cap] 75 (0,0))
 but:But rb w4 W
 bel:Below w.heap.size w W
 op:W.ownsRow w4.heap.size 52 2 sp.v P.length (pdY.flat P)
 of:W.ownsRow w4.heap.size 62 12 sf.v F.length (feP.flat F)
 oc:W.ownsRow w4.heap.size 48 4 sc.v C.length (regY.flat C)
 np:P.length=(l.filter (isPar N)).length
 nf:F.map (·.id)=(l.filter (isFea N)).map nameF
section
variable {w w4 W W':World} {rb:Nat} {sn sr sp sf sc s6:SlV} {P:List PdD} {F:List FeP} {C M:List RegD} {N:List TnD} {l:List IdD} {x:IdD}
theorem Dst.below (h:Dst w w4 rb sn sr sp sf sc P F C N l W) (hb:Below W.heap.size W W'):Dst w w4 rb sn sr sp sf sc P F C N l W':=
 ⟨(hb.block _ (zl h.row)).trans h.row,h.but.trans (But.of_below hb),h.bel.trans (hb.mono h.bel.size),ownsRow_below h.op hb,ownsRow_below h.of hb,ownsRow_below h.oc hb,h.np,h.nf⟩
theorem Dst.lenP (h:Dst w w4 rb sn sr sp sf sc P F C N l W):P.length≤l.length:=by rw [h.np];exact List.length_filter_le _ _
theorem Dst.lenF (h:Dst w w4 rb sn sr sp sf sc P F C N l W):F.length≤l.length:=by
 have h1:=congrArg List.length h.nf;rw [List.length_map,List.length_map]at h1;rw [h1];exact List.length_filter_le _ _
theorem Dst.group (h:Dst w w4 rb sn sr sp sf sc P F C N l W) (hp:isPar N x=false) (hg:isGrp N x=true):Dst w w4 rb sn sr sp sf sc P F C N (l++ [x]) W:=
 ⟨h.row,h.but,h.bel,h.op,h.of,h.oc,by rw [h.np,List.filter_append];simp [hp],by rw [h.nf,List.filter_append];simp [isFea,hp,hg]⟩
theorem but_butO (h:But rb w4 W) {o:Option Nat} (hb:ButO rb o W W') (ho:∀k,o=some k→w4.heap.size≤k):But rb w4 W':=
 ⟨Nat.le_trans h.1 hb.1,fun i hi hd=>(hb.2 i (Nat.lt_of_lt_of_le hi h.1) hd (fun e=>absurd (ho i e.symm) (by omega))).trans (h.2 i hi hd)⟩
theorem Dst.param (h:Dst w w4 rb sn sr sp sf sc P F C N l W) (hrb:rb < w4.heap.size) (hp:isPar N x=true) (hb:ButO rb sp.v.ownBlock W W') (hbel:Below w.heap.size W W') (hrow:W'.heap[rb]? =some (.cells #[.slice sn.a sn.len sn.cap,.slice sr.a sr.len sr.cap,.slice s6.a s6.len s6.cap,.slice sf.a sf.len sf.cap,.slice sc.a sc.len sc.cap] 75 (0,0)))
  {p:PdD} (hown:W'.ownsRow w4.heap.size 52 2 s6.v (P.length+1) (pdY.flat (P++ [p]))):Dst w w4 rb sn sr s6 sf sc (P++ [p]) F C N (l++ [x]) W':=
 ⟨hrow,but_butO h.but hb (fun k hk=>(h.op.lt k hk).1),h.bel.trans hbel,by rw [List.length_append];exact hown,own_butO hb h.of h.op (by decide) hrb,own_butO hb h.oc h.op (by decide) hrb,
  by rw [List.length_append,h.np,List.filter_append];simp [hp],by rw [h.nf,List.filter_append];simp [isFea,hp]⟩
theorem Dst.feat (h:Dst w w4 rb sn sr sp sf sc P F C N l W) (hrb:rb < w4.heap.size) (hp:isPar N x=false) (hg:isGrp N x=false) (hb:ButO rb sf.v.ownBlock W W') (hbel:Below w.heap.size W W') (hrow:W'.heap[rb]? =some (.cells #[.slice sn.a sn.len sn.cap,.slice sr.a sr.len sr.cap,.slice sp.a sp.len sp.cap,.slice s6.a s6.len s6.cap,.slice sc.a sc.len sc.cap] 75 (0,0)))
  {p:FeP} (hid:p.id=nameF x) (hown:W'.ownsRow w4.heap.size 62 12 s6.v (F.length+1) (feP.flat (F++ [p]))):Dst w w4 rb sn sr sp s6 sc P (F++ [p]) C N (l++ [x]) W':=
 ⟨hrow,but_butO h.but hb (fun k hk=>(h.of.lt k hk).1),h.bel.trans hbel,own_butO hb h.op h.of (by decide) hrb,by rw [List.length_append];exact hown,own_butO hb h.oc h.of (by decide) hrb,
  by rw [h.np,List.filter_append];simp [hp],by rw [List.map_append,h.nf,List.filter_append];simp [isFea,hp,hg,hid]⟩
theorem Dst.conf (h:Dst w w4 rb sn sr sp sf sc P F C N l W) (hrb:rb < w4.heap.size) (hwb:w.heap.size≤rb) (hg:W.grownBy W' sc.v.ownBlock) (hown:W'.ownsRow w4.heap.size 48 4 s6.v (C++M).length (regY.flat (C++M))):
  Dst w w4 rb sn sr sp sf s6 P F (C++M) N l (W'.setCell ⟨rb,4,none⟩ (.slice s6.a s6.len s6.cap)):=by
 have hne:some rb≠sc.v.ownBlock:=fun e=>absurd (h.oc.lt rb e.symm).1 (by omega)
 have hrow:=(hg.block rb (zl h.row) hne).trans h.row;have hb:ButO rb sc.v.ownBlock W W':=butO_grown rb (Below.refl _ W) hg;have hB:But rb W' (W'.setCell ⟨rb,4,none⟩ (.slice s6.a s6.len s6.cap)):=But.set (But.of_below (Below.refl _ _)) 4 _
 exact⟨set5_4 hrow,(but_butO h.but hb (fun k hk=>(h.oc.lt k hk).1)).trans hB,Below.setCell (h.bel.grown hg h.bel.size (fun k hk=>by have:=(h.oc.lt k hk).1;omega)) (p:=⟨rb,4,none⟩) hwb _,
  ownsRow_but (own_butO hb h.op h.oc (by decide) hrb) hB hrb,ownsRow_but (own_butO hb h.of h.oc (by decide) hrb) hB hrb,ownsRow_but hown hB hrb,h.np,h.nf⟩
end
theorem sortQ (n base:Nat) (s:SlV) (l:List RegD) (w:World) (hl:l.length=n) (hn:n≤20) (hv:w.ownsRow base 48 4 s.v n (regY.flat l)) (hbase:base≤w.heap.size):
  Calls Tryz.prog 30 #[.slice s.a s.len s.cap,.func (.func 31) #[] #[]] w fun e w'=>e=.returned (.tuple #[])∧(∃m:List RegD,m.length=n∧w'.ownsRow base 48 4 s.v n (regY.flat m))∧Below base w w':=by
 obtain⟨sa,sl,sq⟩:=s
 rcases hv.2 with⟨h1,h2⟩|⟨g,cap,cur,h1,_⟩
 ·simp [SlV.v]at h1;obtain⟨rfl,rfl,rfl⟩:=h1;refine(sortSmallR 31 none 0 0 w (by omega)).mono ?_;rintro e w8 ⟨rfl,rfl⟩;exact⟨rfl,⟨l,hl,hv⟩,Below.refl _ _⟩
 ·simp [SlV.v]at h1;obtain⟨rfl,rfl,rfl⟩:=h1;exact sortRg 31 cmpFields_any Tryz.call31 sl sq g base l w hl hn hv hbase
theorem clash_bound {R:List RegP} (h:2*(R.filter (fun r=>decide (1 < r.w.length))).length≤40) (n:IdD) (k:Nat):(clash n R k).length≤20:=by
 have h1:=clash_len n R k
 have h2:(clash n R R.length).length≤(R.filter (fun r=>decide (1 < r.w.length))).length:=by
  unfold clash;rw [List.take_length];unfold isClash;rw [←List.filter_filter];exact List.length_filter_le _ _
 omega
theorem wsum_clash:∀R:List RegP,2*(R.filter (fun r=>decide (1 < r.w.length))).length≤wsum R
 | []=>Nat.le_refl _
 |r::R=>by
  have ih:=wsum_clash R;unfold wsum at*
  by_cases hr:1 < r.w.length
  ·rw [List.filter_cons_of_pos (by simpa using hr)];simp;omega
  ·rw [List.filter_cons_of_neg (by simpa using hr)];simp;omega
theorem src_of_own {W:World} {base:Nat} {s:SlV} {l:List RegD} (h:W.ownsRow base 48 4 s.v l.length (regY.flat l)):s.len=l.length∧(0 < s.len→∃bb oo,s.a=some ⟨bb,oo,none⟩∧W.rangeAt bb oo (regY.flat l)):=by
 have h2:=Lay.Rd.of_owns (Y:=regY) h;have hl:s.len=l.length:=h2.len;refine⟨hl,fun h0=>?_⟩
 rcases h2 with⟨_,h4⟩|⟨b,off,cap,h3,_,h5⟩
 ·rw [h4]at hl;simp at hl;omega
 ·simp [SlV.v]at h3;exact⟨b,off,h3.1,h5⟩
attribute [local go_sem high] eql38 eql43 eql207
set_option maxRecDepth 100000 in
theorem design_gen (N:List TnD) (R:List RegP) (sn sr:SlV) (w:World) (hn:tnY.Rd w sn.v N) (hr:RRegs w sr.v R) (hNl:N.length≤40) (hsm:∀t∈N,TnSm t) (hid:∀t∈N,IdOk t.node) (hRl:R.length≤1000)
  (hRw:∀r∈R,r.w.length≤100000∧∀y∈r.w,y.text.size≤400000000) (hcl:∀(x:IdD) (k:Nat),(clash x R k).length≤20) (hG:Globs w) (KA:KAll w):
  Calls Tryz.prog 11 #[.agg #[.slice sn.a sn.len sn.cap,.slice sr.a sr.len sr.cap]] w fun e w'=>∃(sp sf sc:SlV) (P:List PdD) (F:List FeP),e=.returned (.agg #[.slice sp.a sp.len sp.cap,.slice sf.a sf.len sf.cap,.slice sc.a sc.len sc.cap])∧pdY.Rd w' sp.v P∧feP.Rd w' sf.v F∧
   P.length=((walkL N).filter (isPar N)).length∧F.map (·.id)=((walkL N).filter (isFea N)).map nameF∧Below w.heap.size w w':=by
 obtain⟨i0,hi,hz0,hz1,hz2⟩:=info_parts info48;obtain⟨sra,srl,src⟩:=sr;obtain⟨sna,snl,snc⟩:=sn;have hmm:= @run_makeMap Tryz.prog;have hnl:snl=N.length:=hn.len;subst hnl;obtain⟨m,hm⟩:∃m,m=(walkL N).length:=⟨_,rfl⟩;have hm40:m≤40:=by rw [hm];exact Nat.le_trans (walkL_inv hNl).len hNl
 have HWK:=zz (fun(W:World) (hb:Below w.heap.size w W)=>walkN_any N (.slice sna N.length snc) W (hn.below hb) hNl hsm);have HSUB:=zz (walkL_inv hNl).sub;have HHN:=zz hn;have HHR:=zz hr;have HID:=zz hid;have HRW:=zz hRw;have HCL:=zz hcl;have HGK:=zz (And.intro hG KA);obtain⟨K,hK⟩:∃K,K=walkL N:=⟨_,rfl⟩;rw [←hK]at hm HWK HSUB⊢;have HM:=zz hm;clear hn hr hsm hid hRw hcl hG KA hK hm;go_enter Tryz.func11,Tryz.ntmps11
 go_wp2_with(first
  |(refine wpList_update_raw _ rfl _ _ _ 77 (.inr rfl) 9 76 Tryz.underlying77 (w.heap.size+1+1+1) #[] 0 rfl (zg _ _ _ (by simp)) (.string ⟨#[112,97,114,97,109]⟩) (.func (.func 24) #[.pointer (some ⟨w.heap.size+1+1,0,none⟩)] #[]) rfl rfl (ck9 _) kmiss0 ?_;intro w2 hm2 hg2 hsz2;have HS2:=zz hsz2;have HM2:=zz hm2;have HG2:=zz hg2;clear hsz2 hm2 hg2)
  |(refine wpList_update_raw _ rfl _ _ _ 77 (.inr rfl) 9 76 Tryz.underlying77 (w.heap.size+1+1+1) _ 1 rfl HM2.out (.string ⟨#[103,114,111,117,112]⟩) (.func (.func 25) #[] #[]) rfl rfl (ck9 _) (kmiss1 _) ?_;intro w3 hm3 hg3 hsz3;have HS3:=zz hsz3;have HM3:=zz hm3;have HG3:=zz hg3;clear hsz3 hm3 hg3;have hs2:w2.heap.size=w.heap.size+4:=(by have:=HS2.out;simpa using this);have T1:=(HG3.out.block w.heap.size (by omega) (by simp;omega)).trans ((HG2.out.block w.heap.size (by simp <;>omega) (by simp;omega)).trans (zo _ _ _ _ (zo _ _ _ _ (zo _ _ _ _ (zg _ _ _ rfl)))));have t10:=(two_cells T1).1;have HT1:=zz T1;have HS:=zz hs2;clear T1 hs2))
 have hs2:=HS.out;have hs3:w3.heap.size=w.heap.size+4:=by rw [HS3.out,hs2]
 have T2:=(HG3.out.block (w.heap.size+1) (by omega) (by simp)).trans ((HG2.out.block (w.heap.size+1) (by simp <;>omega) (by simp)).trans (zo _ _ _ _ (zo _ _ _ _ (zg _ _ _ (by simp)))));have T3:=(HG3.out.block (w.heap.size+1+1) (by omega) (by simp)).trans ((HG2.out.block (w.heap.size+1+1) (by simp <;>omega) (by simp)).trans (zo _ _ _ _ (zg _ _ _ (by simp))));have BL3:Below w.heap.size w w3:=Below.grown (Below.grown (((((Below.refl _ w).alloc (Nat.le_refl _) _).alloc (by simp) _).alloc (by simp <;>omega) _).alloc (by simp <;>omega) _) HG2.out (by simp <;>omega) (fun j hj=>by cases hj;omega)) HG3.out (by omega) (fun j hj=>by cases hj;omega);refine(HWK.out w3 BL3).mono ?_;rintro e w4 ⟨v4,rfl,ho4,hb4⟩;have T1:=(hb4.block _ (by omega)).trans HT1.out;have T2:=(hb4.block _ (by omega)).trans T2;have T3:=(hb4.block _ (by omega)).trans T3;have T4:=(hb4.block (w.heap.size+1+1+1) (by omega)).trans HM3.out;have BL4:=BL3.trans (hb4.mono BL3.size);rw [←HM.out]at ho4;obtain⟨s4,hs4v⟩:=ownsForm ho4;subst hs4v;obtain⟨ga,gl,gc⟩:=s4
 have hgl0:gl=m:=by
  rcases ho4.2 with⟨h,h0⟩|⟨g,cap,cur,h,_⟩
  ·simp at h;omega
  ·simp at h;exact h.2.1
 subst hgl0;have HIDS:=zz (Lay.Rd.of_owns (Y:=idY) (by rw [←HM.out];exact ho4));have H1:=zz T1;have H2:=zz T2;have H3:=zz T3;have H4:=zz T4;have HB4:=zz BL4;have HS4:=zz (show w.heap.size+4≤w4.heap.size by have:=hb4.size;omega);clear T1 T2 T3 T4 BL4 BL3 hb4 ho4 t10 HT1 HM2 HM3 HG2 HG3 HS2 HS3 HS hs2 hs3 hmm HWK;go_wp2
 go_loopg [24] gl (fun gn t24 wr=>∃(k:Nat) (sp sf sc:SlV) (P:List PdD) (F:List FeP) (C:List RegD),k+gn=gl∧t24=.int .i64 k∧Dst w w4 (w.heap.size+1+1) ⟨sna,N.length,snc⟩ ⟨sra,srl,src⟩ sp sf sc P F C N (K.take k) wr∧C.length≤20*k)
 case atStart=>exact⟨0,SlV.nil,SlV.nil,SlV.nil, [], [], [],by omega,rfl,⟨H3.out,⟨Nat.le_refl _,fun _ _ _=>rfl⟩,HB4.out,owns_nil0 _ _ _ _,owns_nil0 _ _ _ _,owns_nil0 _ _ _ _,rfl,rfl⟩,by simp⟩
 case round=>
  obtain⟨G,rfl⟩:∃G,G=gk:=⟨_,rfl⟩;obtain⟨k,sp,sf,sc,P,F,C,hk,rfl,hD,hCl⟩:=hrel;obtain⟨wb,rfl⟩:∃wb,wb=wr:=⟨_,rfl⟩;have HK:=zz hk;have HD:=zz hD;have hs4:=HS4.out;have hszb:w4.heap.size≤wb.heap.size:=hD.but.1;have T1:=(hD.but.2 _ (by omega) (by omega)).trans H1.out;clear hk hD
  by_cases hlt:k < gl
  ·obtain⟨node,hnode⟩:∃x,K[k]? =some x:=⟨_,List.getElem?_eq_getElem (by rw [←HM.out];exact hlt)⟩;obtain⟨i,t,hidx,hNi,htn,hkind⟩:=node_at N node (HSUB.out node (List.mem_of_getElem? hnode));have HTK:=zz (list_snoc K k node hnode)
   obtain⟨g,go,rfl,hids⟩:∃g go,ga=some ⟨g,go,none⟩∧w4.rangeAt g go (idY.flat K):=by
    rcases HIDS.out with⟨h1,h2⟩|⟨b,off,cap,h1,h2,h3⟩
    ·rw [h2]at hnode;simp at hnode
    ·simp at h1;exact⟨b,off,h1.1,h3⟩
   obtain⟨nb,noff,rfl,hnr⟩:∃b off,sna=some ⟨b,off,none⟩∧w.rangeAt b off (tnY.flat N):=by
    rcases HHN.out with⟨h1,h2⟩|⟨b,off,cap,h1,h2,h3⟩
    ·rw [h2]at hNi;simp at hNi
    ·simp [SlV.v]at h1;exact⟨b,off,h1.1,h3⟩
   have hx4:=idY.elem hids k node hnode;have hgl2:g < w4.heap.size:=block_lt_of_cell (hx4 0 _ rfl)
   have hgne:g≠w.heap.size+1+1:=fun e=>by
    have h0:=hx4 0 _ rfl;rw [e]at h0;obtain⟨a,b,c,h1⟩:=five_slices (a:=⟨some ⟨nb,noff,none⟩,N.length,snc⟩) (b:=⟨sra,srl,src⟩) (c:=SlV.nil) (d:=SlV.nil) (e:=SlV.nil) H3.out _ _ h0;cases h1
   have hid0:wb.cell? ⟨g,go+k*2,none⟩=some (.string node.a):=(World.cell?_of_block (w:=w4) (w':=wb) (a:=⟨g,go+k*2,none⟩) (HD.out.but.2 g hgl2 hgne)).trans (hx4 0 _ rfl);have hid1:wb.cell? ⟨g,go+k*2+1,none⟩=some (.int .i64 node.n):=(World.cell?_of_block (w:=w4) (w':=wb) (a:=⟨g,go+k*2+1,none⟩) (HD.out.but.2 g hgl2 hgne)).trans (hx4 1 _ rfl);have t10:=(two_cells T1).1;have hP:PredE tnY (wb.alloc (.cells #[.string node.a,.int .i64 node.n] 38)).heap.size 27 #[.pointer (some ⟨wb.heap.size,0,none⟩)] (fun x:TnD=>eqId x.node node) (wb.alloc (.cells #[.string node.a,.int .i64 node.n] 38)):=fun x V hB=>nodeIs_any x wb.heap.size node V ((hB.block _ (by simp)).trans (zg wb _ _ rfl))
   have DA:=HD.out.below ((Below.refl _ wb).alloc (Nat.le_refl _) (.cells #[.string node.a,.int .i64 node.n] 38));have HIX:=zz (indexTn_any 27 _ _ N (.slice (some ⟨nb,noff,none⟩) N.length snc) (wb.alloc (.cells #[.string node.a,.int .i64 node.n] 38)) _ (Nat.le_refl _) (by omega) (HHN.out.below DA.bel) Tryz.call27 hP);rw [hidx]at HIX;have HT4:=zz (show wb.heap[w.heap.size+1+1+1]? =some (.map (kindsTab (w.heap.size+1+1)) 2)from(HD.out.but.2 (w.heap.size+1+1+1) (by omega) (by omega)).trans H4.out);have HBX:=zz (show(wb.alloc (.cells #[.string node.a,.int .i64 node.n] 38)).heap[wb.heap.size]? =_ from zg wb _ _ rfl);have HDA:=zz DA;have HT1:=zz T1;have lB:w.heap.size < wb.heap.size:=by omega
   have lg:g < wb.heap.size:=by omega
   have hkz:(k:Int) < (gl:Int):=by omega
   have hiN:i < N.length:=(List.getElem?_eq_some_iff.1 hNi).1;have hiz:(i:Int) < (N.length:Int):=by omega
   have HN0:=zz (tnY.elem hnr i t hNi);have HTI:=zz (And.intro htn (HID.out t (List.mem_of_getElem? hNi)));have HKD:=zz hkind;clear hidx hx4 hP DA T1 hNi htn hkind hnr hids hnode hgne hgl2
   go_wp2_with fail
   refine HIX.out.mono ?_;rintro e w5 ⟨rfl,hb5⟩;have D5:=HDA.out.below hb5;have HD5:=zz D5;have T1:=(hb5.block _ (by simp;omega)).trans (zo _ _ _ _ HT1.out);have t10:=(two_cells T1).1;have hrn:w5.rangeAt nb (noff+i*8) (tnV t):=rangeAt_below HN0.out D5.bel;have hkd:w5.cell? ⟨nb,noff+i*8+7,none⟩=some (.string t.kind):=hrn 7 _ rfl;have HT45:=zz ((hb5.block _ (by simp;omega)).trans (zo _ _ _ _ HT4.out));have RV5:RRegs w5 (.slice sra srl src) R:=HHR.out.below D5.bel;have X5:=(hb5.block _ (by simp)).trans HBX.out;have HX5:=zz X5;have lr5:w.heap.size+1+1 < w5.heap.size:=zl D5.row;have lq5:wb.heap.size < w5.heap.size:=zl X5;have hs45:w4.heap.size≤w5.heap.size:=D5.but.1;have hPl:P.length≤1000:=Nat.le_trans D5.lenP (by rw [List.length_take];omega);have hFl:F.length≤1000:=Nat.le_trans D5.lenF (by rw [List.length_take];omega);have HRV:=zz RV5;have HLB:=zz (fun(q:Nat) (h:sp.v.ownBlock=some q∨sf.v.ownBlock=some q)=>(show q < wb.heap.size from h.elim (fun h=>(HD.out.op.lt q h).2) (fun h=>(HD.out.of.lt q h).2)));have HOC:=zz (And.intro D5.op (And.intro D5.of D5.oc));clear hb5 D5 T1 HT1 HT4 HDA HBX X5 RV5 HIX hid0 hid1 HD HN0;obtain⟨tnode,tparent,tneg,tnum,tden,tkind⟩:=t;simp only at HTI HKD hkd;obtain rfl:tnode=node:=HTI.out.1;unfold tnV at hrn;simp only at hrn
   rcases(show(tkind==kP)=true∨((tkind==kP)=false∧(tkind==kG)=true)∨((tkind==kP)=false∧(tkind==kG)=false) by cases(tkind==kP) <;>cases(tkind==kG) <;>simp)with h1|⟨h1,h2⟩|⟨h1,h2⟩
   case' inl=>
    have HPX:=zz (show isPar N tnode=true by unfold isPar;rw [HKD.out];exact h1);obtain rfl:tkind=⟨#[112,97,114,97,109]⟩:=(MapKept.bytes_beq _ _).1 h1;clear h1
    go_wp2_with(first
     |(at_lookup;refine wpList_lookup_raw _ rfl _ _ 77 true rfl 9 76 Tryz.underlying77 .nilFunc Tryz.zeroValue76 (w.heap.size+1+1+1) (kindsTab (w.heap.size+1+1)) 2 rfl HT45.out (.string ⟨#[112,97,114,97,109]⟩) rfl (ck9 _) (some (0,.func (.func 24) #[.pointer (some ⟨w.heap.size+1+1,0,none⟩)] #[])) (khit _) (.tuple #[.func (.func 24) #[.pointer (some ⟨w.heap.size+1+1,0,none⟩)] #[],.bool true]) rfl ?_)
     |refine wpList_load_mid rfl 55 _ rfl nb (noff+i*8) rfl _ _ hrn Tryz.underlying55 rfl (by kernel_rfl) ?_)
    refine(param_gen R (w.heap.size+1+1) ⟨some ⟨nb,noff,none⟩,N.length,snc⟩ ⟨sra,srl,src⟩ sp sf sc P ⟨tnode,tparent,tneg,tnum,tden,⟨#[112,97,114,97,109]⟩⟩ w.heap.size w4.heap.size w5 HD5.out.row (by omega) (fun r hr=>(HRW.out r hr).1) HRV.out (by omega) (by omega) hs45 HOC.out.1 hPl).mono ?_;rintro e w6 ⟨rfl,hbut6,hbel6,s6,hrb6,hown6⟩;have HX6:=zz ((hbut6.2 _ lq5 (by omega) (fun e=>absurd (HLB.out wb.heap.size (.inl e.symm)) (Nat.lt_irrefl _))).trans HX5.out);have HD6:=zz (show∃(sp sf:SlV) (P:List PdD) (F:List FeP),Dst w w4 (w.heap.size+1+1) ⟨some ⟨nb,noff,none⟩,N.length,snc⟩ ⟨sra,srl,src⟩ sp sf sc P F C N (K.take (k+1)) w6 from⟨s6,sf,_,F,by rw [HTK.out];exact HD5.out.param (by omega) HPX.out hbut6 hbel6 hrb6 hown6⟩);clear hbut6 hbel6 hrb6 hown6
   case' inr.inl=>
    have HPX:=zz (show isPar N tnode=false∧isGrp N tnode=true by unfold isPar isGrp;rw [HKD.out];exact⟨h1,h2⟩);obtain rfl:tkind=⟨#[103,114,111,117,112]⟩:=(MapKept.bytes_beq _ _).1 h2;clear h1 h2
    go_wp2_with(first
     |(at_lookup;refine wpList_lookup_raw _ rfl _ _ 77 true rfl 9 76 Tryz.underlying77 .nilFunc Tryz.zeroValue76 (w.heap.size+1+1+1) (kindsTab (w.heap.size+1+1)) 2 rfl HT45.out (.string ⟨#[103,114,111,117,112]⟩) rfl (ck9 _) (some (1,.func (.func 25) #[] #[])) (khitG _) (.tuple #[.func (.func 25) #[] #[],.bool true]) rfl ?_)
     |refine wpList_load_mid rfl 55 _ rfl nb (noff+i*8) rfl _ _ hrn Tryz.underlying55 rfl (by kernel_rfl) ?_)
    refine(group_any ⟨tnode,tparent,tneg,tnum,tden,⟨#[103,114,111,117,112]⟩⟩ w5).mono ?_;rintro e w6 ⟨rfl,hb6⟩;have HX6:=zz ((hb6.block _ lq5).trans HX5.out);have HD6:=zz (show∃(sp sf:SlV) (P:List PdD) (F:List FeP),Dst w w4 (w.heap.size+1+1) ⟨some ⟨nb,noff,none⟩,N.length,snc⟩ ⟨sra,srl,src⟩ sp sf sc P F C N (K.take (k+1)) w6 from⟨sp,sf,P,F,by rw [HTK.out];exact(HD5.out.below hb6).group HPX.out.1 HPX.out.2⟩);clear hb6
   case' inr.inr=>
    have HPX:=zz (show isPar N tnode=false∧isGrp N tnode=false by unfold isPar isGrp;rw [HKD.out];exact⟨h1,h2⟩);have HMS:=zz (kmissX (w.heap.size+1+1) tkind h1 h2);clear h1 h2
    go_wp2_with(first
     |(at_lookup;refine wpList_lookup_raw _ rfl _ _ 77 true rfl 9 76 Tryz.underlying77 .nilFunc Tryz.zeroValue76 (w.heap.size+1+1+1) (kindsTab (w.heap.size+1+1)) 2 rfl HT45.out (.string tkind) rfl (ck9 _) none HMS.out (.tuple #[.nilFunc,.bool false]) rfl ?_)
     |refine wpList_load_mid rfl 55 _ rfl nb (noff+i*8) rfl _ _ hrn Tryz.underlying55 rfl (by kernel_rfl) ?_)
    refine(step_gen R (w.heap.size+1+1) ⟨some ⟨nb,noff,none⟩,N.length,snc⟩ ⟨sra,srl,src⟩ sp sf sc F ⟨tnode,tparent,tneg,tnum,tden,tkind⟩ w.heap.size w4.heap.size w5 HD5.out.row hRl HRW.out HRV.out (by omega) (by omega) hs45 HOC.out.2.1 hFl HTI.out.2 (HGK.out.1.below HD5.out.bel) (HGK.out.2.below HD5.out.bel)).mono ?_;rintro e w6 ⟨rfl,hbut6,hbel6,s6,FE,hrb6,hfe,hown6⟩;have HX6:=zz ((hbut6.2 _ lq5 (by omega) (fun e=>absurd (HLB.out wb.heap.size (.inr e.symm)) (Nat.lt_irrefl _))).trans HX5.out);have HD6:=zz (show∃(sp sf:SlV) (P:List PdD) (F:List FeP),Dst w w4 (w.heap.size+1+1) ⟨some ⟨nb,noff,none⟩,N.length,snc⟩ ⟨sra,srl,src⟩ sp sf sc P F C N (K.take (k+1)) w6 from⟨sp,s6,P,_,by rw [HTK.out];exact HD5.out.feat (by omega) HPX.out.1 HPX.out.2 hbut6 hbel6 hrb6 hfe hown6⟩);clear hbut6 hbel6 hrb6 hown6 hfe HMS
   all_goals
    obtain⟨sp6,sf6,P6,F6,hD6⟩:=HD6.out;have X6:=HX6.out;have hs46:w4.heap.size≤w6.heap.size:=hD6.but.1;have T16:=(hD6.but.2 _ (by omega) (by omega)).trans H1.out;obtain⟨ds,hd1,hd2,hd3⟩:=HHR.out.below hD6.bel
    have hsl:srl=R.length:=by
     have h:regY.Rd w6 (.slice sra srl src) ds:=hd1;have h2:=h.len;rw [hd2]at h2;exact h2
    have t11:=(two_cells T16).2;have l16:=zl T16;have lq6:wb.heap.size < w6.heap.size:=zl X6;have HDD:=zz hD6;have HD1:=zz hd1;have HD2:=zz hd2;have HD3:=zz hd3;have HSL:=zz hsl;have hsrl:srl≤1000:=by omega
    clear hd1 hd2 hd3 hsl hD6 X6 T16 HD6 hrn hkd t10 HT45 HRV HOC HLB HD5 HX5 HPX HKD;go_wp2;clear t11
    go_loopg [10,59] srl (fun gn t10 t59 wr=>∃(k2:Nat) (s:SlV) (cs:List RegD),k2+gn=srl∧t59=.int .i64 k2∧t10=.slice s.a s.len s.cap∧wr.ownsRow w6.heap.size 48 4 s.v cs.length (regY.flat cs)∧cs.length=(clash tnode R k2).length∧Below w6.heap.size w6 wr)
    case atStart=>exact⟨0,SlV.nil, [],by omega,rfl,rfl,owns_nil0 _ _ _ _,by simp [clash],Below.refl _ _⟩
    case round=>
     obtain⟨G2,rfl⟩:∃G2,G2=gk:=⟨_,rfl⟩;obtain⟨k2,s,cs,hkk,rfl,rfl,hown,hcs,hbw⟩:=hrel;have HKK:=zz hkk;have HOW:=zz hown;have HCS:=zz hcs;have HBW:=zz hbw;have hszw:w6.heap.size≤wr.heap.size:=hbw.size;have hcs20:cs.length≤20:=by rw [hcs];exact HCL.out tnode k2
     clear hkk hown hcs
     by_cases hlt2:k2 < srl
     ·obtain⟨d,hd⟩:∃d,ds[k2]? =some d:=⟨_,List.getElem?_eq_getElem (by rw [HD2.out,←HSL.out];exact hlt2)⟩;obtain⟨r,hr⟩:∃r,R[k2]? =some r:=⟨_,List.getElem?_eq_getElem (by rw [←HSL.out];exact hlt2)⟩;have hdr:=HD3.out k2 d r hd hr;have HRWL:=zz (HRW.out r (List.mem_of_getElem? hr)).1
      obtain⟨b2,off2,hsra,hrg⟩:∃b off,sra=some ⟨b,off,none⟩∧w6.rangeAt b off (regY.flat ds):=by
       rcases HD1.out with⟨h1,h2⟩|⟨b,off,cap,h1,h2,h3⟩
       ·rw [h2]at hd;cases hd
       ·first|(simp [SlV.v]at h1;exact⟨b,off,h1.1,h3⟩)|(simp at h1;exact⟨b,off,h1.1,h3⟩)
      have hrx:wr.rangeAt b2 (off2+k2*4) (regV d):=rangeAt_below (regY.elem hrg k2 d hd) hbw
      have hdl:d.w.len=r.w.length:=by
       have h:wrY.Rd w6 (.slice d.w.a d.w.len d.w.cap) r.w:=hdr.2.2;exact h.len
      unfold regV at hrx;rw [hdl]at hrx;have HHR2:=zz hr;have HDR:=zz hdr;have HDN:=zz (show eqId r.node tnode=same38 d.node.a d.node.n tnode.a tnode.n by rw [←hdr.1];rfl);obtain⟨c0,c1⟩:=two_cells ((hbw.block _ (zl HX6.out)).trans HX6.out);have lq:wb.heap.size < wr.heap.size:=by omega
      have hltZ:(k2:Int) < (srl:Int):=by omega
      have HRD:=zz (show wrY.Rd (wr.alloc (.cells #[.string d.node.a,.int .i64 d.node.n,.string d.field,.slice d.w.a r.w.length d.w.cap] 48)) (.slice d.w.a r.w.length d.w.cap) r.w by
       have h:=hdr.2.2;unfold SlV.v at h;rw [hdl]at h
       exact h.below (HBW.out.alloc hszw _))
      clear hd hr hdr hrg hbw hdl;subst hsra
      cases he:same38 d.node.a d.node.n tnode.a tnode.n with
      |false=>
       have HQ:=zz (clash_no HHR2.out (show isClash tnode r=false by unfold isClash;rw [HDN.out,he];rfl))
       go_wp2_with(first
        |refine wpList_load_mid rfl 48 _ rfl b2 (off2+k2*4) rfl _ _ hrx Tryz.underlying48 rfl (by kernel_rfl) ?_)
       go_roundg (srl - 1 - k2)
       case rel=>exact⟨k2+1,s,cs,by have:=HKK.out;omega,by go_num,rfl,HOW.out.alloc _,by rw [HQ.out];exact HCS.out,HBW.out.alloc hszw _⟩
       case measure=>have:=HKK.out;omega
      |true=>
       by_cases hw2:1 < r.w.length
       ·have HQ:=zz (clash_yes HHR2.out (show isClash tnode r=true by unfold isClash;rw [HDN.out,he];simp [hw2]));have hd2:decide ((1:Int) < (r.w.length:Int))=true:=by simp;omega
        have HBX2:=zz (zg wr (.cells #[.string d.node.a,.int .i64 d.node.n,.string d.field,.slice d.w.a r.w.length d.w.cap] 48) wr.heap.size rfl);have HCN:=zz (cloneWr_any r.w _ _ (by have:=HRWL.out;omega) HRD.out);have HOWl:=zz (fun q (h:s.v.ownBlock=some q)=>(HOW.out.lt q h).2)
        go_wp2_with(first
         |refine wpList_load_mid rfl 48 _ rfl b2 (off2+k2*4) rfl _ _ hrx Tryz.underlying48 rfl (by kernel_rfl) ?_)
        refine HCN.out.mono ?_;rintro e w7 ⟨v7,rfl,ho7,hb7⟩;obtain⟨s7,hs7⟩:=ownsForm ho7;subst hs7;have hbx7:=(hb7.block _ (by simp)).trans HBX2.out;have e37:=zc _ _ 3 _ _ _ hbx7;have f37:=frozen_of_row w7 wr.heap.size 3 _ _ hbx7;have hset:=set4_3 (c':=.slice s7.a s7.len s7.cap) hbx7;have hs7':wr.heap.size+1≤w7.heap.size:=by have:=hb7.size;simp at this;omega
        have hc8:=(ownsRow_below (HOW.out.alloc (.cells #[.string d.node.a,.int .i64 d.node.n,.string d.field,.slice d.w.a r.w.length d.w.cap] 48)) hb7).kept (grownBy_set w7 wr.heap.size 3 (.slice s7.a s7.len s7.cap)) (by
         rcases h:(s.v).ownBlock with _|j
         ·left;rfl
         ·right;have:=HOWl.out j h;intro e9;simp at e9;omega)
        have HB8:=zz (show Below w6.heap.size w6 (w7.setCell ⟨wr.heap.size,3,none⟩ (.slice s7.a s7.len s7.cap))from Below.setCell ((HBW.out.alloc hszw _).trans (hb7.mono (by simp;omega))) (p:=⟨wr.heap.size,3,none⟩) hszw _);have HOWA:=zz (hc8.alloc (.cells #[.string d.node.a,.int .i64 d.node.n,.string d.field,.slice s7.a s7.len s7.cap] 48));clear ho7 hb7 hbx7 hc8 hrx
        go_wp2_with(first
         |refine wpList_load_row rfl 48 _ rfl wr.heap.size rfl 48 _ (0,0) _ hset Tryz.underlying48 rfl (by kernel_rfl) ?_
         |(at_builtin;refine wpList_app1 (Y:=regY) rfl _ _ 26 48 64 (.agg z48) rfl Tryz.underlying26 info48 rfl (by decide) w6.heap.size _ cs rfl HOWA.out (⟨d.node,d.field,s7⟩:RegD) _ 1 rfl (zg _ _ _ (by first|rfl|simp)) (by(try simp);omega) (by decide) (by(try simp);omega) ?_;intro s1 w9 hown1 hg1 hb1))
        have HB9:=zz ((HB8.out.alloc (by simp;omega) _).trans (hb1 w6.heap.size (Nat.le_refl _)));have HO9:=zz (show w9.ownsRow w6.heap.size 48 4 s1.v (cs++ [(⟨d.node,d.field,s7⟩:RegD)]).length (regY.flat (cs++ [(⟨d.node,d.field,s7⟩:RegD)]))from hown1);clear hown1 hg1 hb1 hset e37 f37;go_wp2
        go_roundg (srl - 1 - k2)
        case rel=>exact⟨k2+1,s1,cs++ [(⟨d.node,d.field,s7⟩:RegD)],by have:=HKK.out;omega,by go_num,rfl,HO9.out,by rw [HQ.out,List.length_append,List.length_append,HCS.out];rfl,HB9.out⟩
        case measure=>have:=HKK.out;omega
       ·have HQ:=zz (clash_no HHR2.out (show isClash tnode r=false by unfold isClash;rw [HDN.out,he];simp;omega));have hd2:decide ((1:Int) < (r.w.length:Int))=false:=by simp;omega
        go_wp2_with(first
         |refine wpList_load_mid rfl 48 _ rfl b2 (off2+k2*4) rfl _ _ hrx Tryz.underlying48 rfl (by kernel_rfl) ?_)
        go_roundg (srl - 1 - k2)
        case rel=>exact⟨k2+1,s,cs,by have:=HKK.out;omega,by go_num,rfl,HOW.out.alloc _,by rw [HQ.out];exact HCS.out,HBW.out.alloc hszw _⟩
        case measure=>have:=HKK.out;omega
     ·obtain rfl:k2=srl:=by have:=HKK.out;omega
      clear hbw
      go_wp2_with fail
      refine(sortQ cs.length w6.heap.size s cs wr rfl hcs20 HOW.out hszw).mono ?_;rintro e w8 ⟨rfl,⟨mm,hml,hown8⟩,hb8⟩;have D8:=HDD.out.below (HBW.out.trans hb8);have HSRC:=zz (src_of_own (hml▸hown8:w8.ownsRow w6.heap.size 48 4 s.v mm.length (regY.flat mm)));have r14:=(five_cells D8.row).2.2.2.2;have lrw:=zl D8.row;have hs48:w4.heap.size≤w8.heap.size:=D8.but.1;have HD8:=zz D8;have hmm20:mm.length≤20:=by omega
      clear hb8 D8 hown8
      go_wp2_with(first
       |(at_builtin;refine wpList_appN (Y:=regY) rfl _ _ 26 48 64 (.agg z48) rfl Tryz.underlying26 info48 rfl (by decide) w4.heap.size _ C rfl HD8.out.oc mm _ _ _ rfl HSRC.out.1 HSRC.out.2 (by omega) (by decide) (by omega) ?_;intro s9 w9 hown9 hg9 hb9;have HO9:=zz hown9;have HG9:=zz hg9;have R39:=(hg9.block _ lrw (fun e=>absurd (HD8.out.oc.lt _ e.symm).1 (by omega))).trans HD8.out.row;have r149:=(five_cells R39).2.2.2.2;have f149:=frozen_of_row w9 (w.heap.size+1+1) 4 _ _ R39;clear hg9 hb9 r14 hown9 R39))
      go_roundg (gl - 1 - k)
      case rel=>exact⟨k+1,sp6,sf6,s9,P6,F6,C++mm,by have:=HK.out;omega,by go_num,HD8.out.conf (by omega) (by omega) HG9.out HO9.out,by rw [List.length_append];omega⟩
      case measure=>have:=HK.out;omega
  ·obtain rfl:k=gl:=by have:=HK.out;omega
   have hD:=HD.out;have hrb:=hD.row
   have hr34:wb.rangeAt (w.heap.size+1+1) 2 [.slice sp.a sp.len sp.cap,.slice sf.a sf.len sf.cap,.slice sc.a sc.len sc.cap]:=by
    intro j u hj;rw [zc _ _ _ _ _ _ hrb]
    match j,hj with
    |0,hj=>simpa using hj
    |1,hj=>simpa using hj
    |2,hj=>simpa using hj
    |j+3,hj=>simp at hj
   have HT2:=zz ((hD.but.2 (w.heap.size+1) (by omega) (by omega)).trans H2.out);have lrb:w.heap.size+1+1 < wb.heap.size:=zl hrb;clear hD hrb T1
   go_wp2_with(first
    |refine wpList_load_mid rfl 34 _ rfl (w.heap.size+1+1) 2 rfl _ _ hr34 Tryz.underlying34 rfl (by kernel_rfl) ?_
    |(refine wpList_store_row rfl 34 _ _ rfl (w.heap.size+1) _ _ HT2.out rfl rfl (by kernel_rfl) (by rfl) (by simp [Value.oneCell']) ?_;intro w9 h9 ho9 _ hb9))
   have hbw9:But (w.heap.size+1) wb w9:=⟨(hb9 _ (Nat.le_refl _)).size,fun i _ hi=>ho9 i hi⟩;have hKt:K.take k=K:=List.take_of_length_le (by rw [←HM.out];exact Nat.le_refl _);have hD:=HD.out;rw [hKt]at hD;exact bodyPost_ret (results_cell_row Tryz.results11 _ _ (w.heap.size+1) 34 _ (0,0) _ rfl h9 Tryz.underlying34 rfl (by kernel_rfl)) rfl ⟨sp,sf,sc,P,F,rfl,Lay.Rd.of_owns (Y:=pdY) (ownsRow_but hD.op hbw9 (by omega)),Lay.Rd.of_owns (Y:=feP) (ownsRow_but hD.of hbw9 (by omega)),hD.np,hD.nf,hD.bel.trans (hb9 _ (by omega))⟩
end Go.Proofs.YteigcnamkfebgaaGreatDoor
