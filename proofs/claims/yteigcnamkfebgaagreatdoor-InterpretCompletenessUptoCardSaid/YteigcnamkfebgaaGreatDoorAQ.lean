import Derived.Test.YteigcnamkfebgaaGreatDoorAO
set_option linter.all false
set_option maxHeartbeats 25600000
namespace Go.Proofs.YteigcnamkfebgaaGreatDoor
open Go.RowKit
set_option maxRecDepth 100000 in
theorem validAuthor_ann (w:World):Calls Tryz.prog 138 #[.string ⟨#[97,110,110]⟩] w fun e w'=>e=.returned (.bool true)∧w=w':=by
 go_enter Tryz.func138,Tryz.ntmps138
 go_wp2;refine wp_loop_rounds 4 ?_;rw [rounds_succ];go_wp2;rw [rounds_succ];go_wp2;rw [rounds_succ];go_wp2;rw [rounds_succ];go_wp2;go_ret
 exact⟨rfl,rfl⟩
set_option maxRecDepth 100000 in
theorem valid_ann4 (w:World):Calls Tryz.prog 95 #[.agg #[.string ⟨#[97,110,110]⟩,.int .i64 4]] w fun e w'=>e=.returned (.bool true)∧Below w.heap.size w w':=by
 go_enter Tryz.func95,Tryz.ntmps95
 go_wp2_with(go_at_call 138;refine(validAuthor_ann _).mono ?_;rintro e w1 ⟨rfl,rfl⟩)
 go_ret
 exact⟨rfl,(Below.refl _ _).alloc (Nat.le_refl _) _⟩
set_option maxRecDepth 100000 in
theorem small4 (w:World):Calls Tryz.prog 211 #[.int .i64 4] w fun e w'=>e=.returned (.string ⟨#[52]⟩)∧w=w':=by
 go_enter Tryz.func211,Tryz.ntmps211
 go_wp2;go_ret
 exact⟨rfl,rfl⟩
set_option maxRecDepth 100000 in
theorem fmtInt4 (w:World):Calls Tryz.prog 177 #[.int .i64 4,.int .i64 10] w fun e w'=>e=.returned (.string ⟨#[52]⟩)∧w=w':=by
 go_enter Tryz.func177,Tryz.ntmps177
 go_wp2_with(go_at_call 211;refine(small4 _).mono ?_;rintro e w1 ⟨rfl,rfl⟩)
 go_ret
 exact⟨rfl,rfl⟩
theorem itoa4i (w:World):Calls Tryz.prog 139 #[.int .i64 4] w fun e w'=>e=.returned (.string ⟨#[52]⟩)∧w=w':=by
 go_enter Tryz.func139,Tryz.ntmps139
 go_wp2_with(go_at_call 177;refine(fmtInt4 _).mono ?_;rintro e w1 ⟨rfl,rfl⟩)
 go_ret
 exact⟨rfl,rfl⟩
theorem itoa4 (w:World):Calls Tryz.prog 96 #[.int .i64 4] w fun e w'=>e=.returned (.string ⟨#[52]⟩)∧w=w':=by
 go_enter Tryz.func96,Tryz.ntmps96
 go_wp2_with(go_at_call 139;refine(itoa4i _).mono ?_;rintro e w1 ⟨rfl,rfl⟩)
 go_ret
 exact⟨rfl,rfl⟩
set_option maxRecDepth 100000 in
theorem formatId4 (w:World):Calls Tryz.prog 58 #[.agg #[.string ⟨#[97,110,110]⟩,.int .i64 4]] w fun e w'=>e=.returned (.string ⟨#[97,110,110,46,52]⟩)∧Below w.heap.size w w':=by
 have R0:(w.alloc (.cells #[.string ⟨#[97,110,110]⟩,.int .i64 4] 38)).heap[w.heap.size]? =_:=zg _ _ _ rfl;have hb0:Below w.heap.size w (w.alloc (.cells #[.string ⟨#[97,110,110]⟩,.int .i64 4] 38)):=(Below.refl _ _).alloc (Nat.le_refl _) _;go_enter Tryz.func58,Tryz.ntmps58
 go_wp2_with fail
 refine(valid_ann4 _).mono ?_;rintro e w1 ⟨rfl,hb1⟩;have R1:=(hb1.block _ (zl R0)).trans R0;have hb2:=hb0.trans (hb1.mono hb0.size);have R1:w1.drew.heap[w.heap.size]? =_:=R1;clear R0 hb0 hb1
 go_wp2_with fail
 go_region_held3 (fun w'=>w'.cell? ⟨w.heap.size,0,none⟩=some (.string ⟨#[97,110,110]⟩)∧w'.cell? ⟨w.heap.size,1,none⟩=some (.int .i64 4))
  (first
   |with_reducible exact two_cells R1
   |go_keep)
  (first
   |(go_at_call 96;with_reducible refine(itoa4 _).mono ?_;rintro e w1 ⟨rfl,rfl⟩))
 go_wp2;go_ret
 exact⟨rfl,hb2.drew⟩
def KindsAt (W:World):Prop:=∃(kb ko cap:Nat) (f0 f1 f2 f3:SlV),W.cell? ⟨2,0,none⟩=some (.slice (some ⟨kb,ko,none⟩) 8 cap)∧
 W.cell? ⟨kb,ko,none⟩=some (.string ⟨#[101,120,116,114,117,100,101]⟩)∧W.cell? ⟨kb,ko+1,none⟩=some (.slice f0.a f0.len f0.cap)∧
 W.cell? ⟨kb,ko+2,none⟩=some (.string ⟨#[99,117,116]⟩)∧W.cell? ⟨kb,ko+3,none⟩=some (.slice f1.a f1.len f1.cap)∧
 W.cell? ⟨kb,ko+4,none⟩=some (.string ⟨#[99,104,97,109,102,101,114]⟩)∧W.cell? ⟨kb,ko+5,none⟩=some (.slice f2.a f2.len f2.cap)∧
 W.cell? ⟨kb,ko+6,none⟩=some (.string ⟨#[109,105,114,114,111,114]⟩)∧W.cell? ⟨kb,ko+7,none⟩=some (.slice f3.a 1 f3.cap)
theorem KindsAt.below {w w':World} (h:KindsAt w) (hb:Below w.heap.size w w'):KindsAt w':=by
 obtain⟨kb,ko,cap,f0,f1,f2,f3,g,h0,h1,h2,h3,h4,h5,h6,h7⟩:=h;exact⟨kb,ko,cap,f0,f1,f2,f3,keep1 hb g,keep1 hb h0,keep1 hb h1,keep1 hb h2,keep1 hb h3,keep1 hb h4,keep1 hb h5,keep1 hb h6,keep1 hb h7⟩
set_option maxRecDepth 100000 in
theorem kindMirror (w:World) (h:KindsAt w):Calls Tryz.prog 97 #[.string ⟨#[109,105,114,114,111,114]⟩] w fun e w'=>e=.returned (.tuple #[.int .i64 4,.bool true])∧Below w.heap.size w w':=by
 obtain⟨kb,ko,cap,f0,f1,f2,f3,g,h0,h1,h2,h3,h4,h5,h6,h7⟩:=h;have l2:=block_lt_of_cell g;have lk:kb < w.heap.size:=block_lt_of_cell h0;have lk1:kb < w.heap.size+1:=by omega
 have lk2:kb < w.heap.size+1+1:=by omega
 have lk3:kb < w.heap.size+1+1+1:=by omega
 go_enter Tryz.func97,Tryz.ntmps97
 go_wp2;refine wp_loop_rounds 4 ?_;rw [rounds_succ];go_wp2;rw [rounds_succ];go_wp2;rw [rounds_succ];go_wp2;rw [rounds_succ];go_wp2;exact bodyPost_ret (v:=.tuple #[.int .i64 4,.bool true]) (by simp [results,Tryz.results97,go_sem]) rfl ⟨rfl,(((((Below.refl _ w).alloc (Nat.le_refl _) _).alloc (by simp) _).alloc (by simp <;>omega) _).alloc (by simp <;>omega) _)⟩
set_option maxRecDepth 100000 in
theorem fields4 (w:World) (h:KindsAt w):Calls Tryz.prog 98 #[.int .i64 4] w fun e w'=>∃s:SlV,e=.returned (.tuple #[.slice s.a 1 s.cap,.bool true])∧w=w':=by
 obtain⟨kb,ko,cap,f0,f1,f2,f3,g,h0,h1,h2,h3,h4,h5,h6,h7⟩:=h;go_enter Tryz.func98,Tryz.ntmps98
 go_wp2;exact bodyPost_ret (v:=.tuple #[.slice f3.a 1 f3.cap,.bool true]) (by simp [results,Tryz.results98,go_sem]) rfl ⟨f3,rfl,rfl⟩
theorem places_any (b:Nat) (w:World):Calls Tryz.prog 99 #[.pointer (some ⟨b,0,none⟩)] w fun e w'=>∃g:Value,e=.returned g∧Below w.heap.size w w':=by
 go_enter Tryz.func99,Tryz.ntmps99
 go_wp2;go_ret
 exact⟨_,rfl,(Below.refl _ _).alloc (Nat.le_refl _) _⟩
theorem wpList_store_row {P:Program} {ops:Array Oper} {rest:List Oper} {o:Oper} {a:Act} {w:World} {Q:Exit→Act→World→Prop} (hgd:o.guard=none) (ty:TypeId) (x y:Operand) (ho:o.op=.store ty x y) (b:Nat) (c c':Array Value) (hb:w.heap[b]? =some (.cells c ty (0,0)))
  (hx:a.eval x=.pointer (some ⟨b,0,none⟩)) (hy:a.eval y=.agg c') (hi:(P.info? ty).map (·.size)=some c'.size) (hs:c.size=c'.size) (h1:c'.all (·.oneCell')=true)
  (h:∀w',w'.heap[b]? =some (.cells c' ty (0,0))→(∀i,i≠b→w'.heap[i]? =w.heap[i]?)→w'.heap.size=w.heap.size→(∀B,B≤b→Below B w w')→wpList P ops Q rest (a.put o.dst undef) w'):wpList P ops Q (o::rest) a w:=by
 refine wpList_plain hgd fun K hK=>?_
 have hr:=run_storeVar_row (P:=P) w b ty ty c c' hb hi hs h1;unfold Oper.wp execOp;simp only [ho,hx,hy,Instr.storeAt,Instr.sureAddr,hr,Sem.run_bind,Sem.run_pure,Result.andThen_ok];exact hK _ _ (h _ (setRow_heap _ _ _ _ _ _ hb) (fun i hi=>setRow_other w b i _ hi) (by simp) (fun B hB=>⟨rfl,rfl,rfl,by simp,fun k hk=>setRow_other w b k _ (by omega)⟩))
theorem results_cell_tmp {P:Program} {fn:Func} {p q:Tmp} {ty:TypeId} (h:fn.results=#[.cell p ty,.tmp q]) (tmps:Array Value) (w:World) (g:Nat) (t:TypeId) (cs:Array Value) (fr:Nat×Nat) (d:TypeDesc) (v:Value)
  (hp:tmps.getD p undef=.pointer (some ⟨g,0,none⟩)) (hq:tmps.getD q undef=v) (hg:w.heap[g]? =some (.cells cs t fr))
  (hu:P.underlying ty=some d) (hd:(match d with| .struct _| .array _ _=>true|_=>false)=true) (hi:(P.info? ty).map (·.size)=some cs.size):
  (results fn tmps).run P w=.ok (.tuple #[.agg cs,v]) w:=by
 have hp':tmps[p]?.getD undef=.pointer (some ⟨g,0,none⟩):=by simpa using hp
 have hq':tmps[q]?.getD undef=v:=by simpa using hq
 simp [results,h,hp',hq',asAddr,run_loadVar_row w g t ty cs fr d hg hu hd hi]
def z62:Array Value:=#[.string ⟨#[]⟩,.int .i64 0,.string ⟨#[]⟩,.slice none 0 0,.string ⟨#[]⟩,.slice none 0 0,.string ⟨#[]⟩,.string ⟨#[]⟩,.string ⟨#[]⟩,.string ⟨#[]⟩,.string ⟨#[]⟩,.string ⟨#[]⟩]
theorem und146:Tryz.prog.underlying 146=some (.map 9 4):=by kernel_rfl
set_option maxRecDepth 100000 in
theorem fromFieldsMirror (w:World) (h:KindsAt w):Calls Tryz.prog 59 #[.string ⟨#[97,110,110,46,52]⟩,.string ⟨#[109,105,114,114,111,114]⟩,.slice none 0 0] w fun e w'=>e=.returned (.tuple #[.agg z62,.int .i64 9])∧Below w.heap.size w w':=by
 have R0:(w.alloc (.cells z62 62)).heap[w.heap.size]? =_:=zg _ _ _ rfl;have BL:Below w.heap.size w (w.alloc (.cells z62 62)):=(Below.refl _ _).alloc (Nat.le_refl _) _;have KA:=h.below BL;have hmm:= @run_makeMap Tryz.prog;unfold z62 at*
 clear h;go_enter Tryz.func59,Tryz.ntmps59
 go_wp2_with fail
 refine(kindMirror _ KA).mono ?_;rintro e w1 ⟨rfl,hb1⟩;have R0:=(hb1.block _ (zl R0)).trans R0;have BL:=BL.trans (hb1.mono BL.size);have KA:=KA.below hb1;clear hb1
 go_wp2_with fail
 have R0:=zo _ _ (.cells #[.string ⟨#[97,110,110,46,52]⟩,.int .i64 4,.string ⟨#[]⟩,.slice none 0 0,.string ⟨#[]⟩,.slice none 0 0,.string ⟨#[]⟩,.string ⟨#[]⟩,.string ⟨#[]⟩,.string ⟨#[]⟩,.string ⟨#[]⟩,.string ⟨#[]⟩] 62) _ R0;have KA:=KA.below ((Below.refl _ w1).alloc (Nat.le_refl _) (.cells #[.string ⟨#[97,110,110,46,52]⟩,.int .i64 4,.string ⟨#[]⟩,.slice none 0 0,.string ⟨#[]⟩,.slice none 0 0,.string ⟨#[]⟩,.string ⟨#[]⟩,.string ⟨#[]⟩,.string ⟨#[]⟩,.string ⟨#[]⟩,.string ⟨#[]⟩] 62));have BL:=BL.alloc BL.size (.cells #[.string ⟨#[97,110,110,46,52]⟩,.int .i64 4,.string ⟨#[]⟩,.slice none 0 0,.string ⟨#[]⟩,.slice none 0 0,.string ⟨#[]⟩,.string ⟨#[]⟩,.string ⟨#[]⟩,.string ⟨#[]⟩,.string ⟨#[]⟩,.string ⟨#[]⟩] 62);refine(fields4 _ KA).mono ?_;rintro e w2 ⟨s,rfl,rfl⟩
 go_wp2_with fail
 refine(places_any _ _).mono ?_;rintro e w3 ⟨g,rfl,hb3⟩;have R0:=(hb3.block _ (zl R0)).trans R0;have BL:=BL.trans (hb3.mono BL.size);clear hb3 KA;go_wp2;refine wp_loop_rounds 1 ?_;rw [rounds_succ];have R0:=zo _ _ (.map #[] 0) _ R0;have BL:=BL.alloc BL.size (.map #[] 0);have ht:=zg w3 (.map #[] 0) w3.heap.size rfl
 go_wp2_with(first
  |(at_len;refine wpList_len_raw _ rfl _ 146 rfl 9 4 und146 w3.heap.size #[] 0 rfl ht ?_)
  |(refine wpList_store_row rfl 62 _ _ rfl w.heap.size _ _ R0 rfl rfl (by kernel_rfl) (by rfl) (by simp [Value.oneCell']) ?_;intro w9 h9 _ _ hb9))
 exact bodyPost_ret (results_cell_tmp Tryz.results59 _ _ w.heap.size 62 _ (0,0) _ (.int .i64 9) rfl rfl h9 Tryz.underlying62 rfl (by kernel_rfl)) rfl ⟨rfl,BL.trans (hb9 _ (Nat.le_refl _))⟩
structure FeD where
 id:ByteArray
def feV (x:FeD):List Value:= [.string x.id,.int .i64 0,.string ⟨#[]⟩,.slice none 0 0,.string ⟨#[]⟩,.slice none 0 0,.string ⟨#[]⟩,.string ⟨#[]⟩,.string ⟨#[]⟩,.string ⟨#[]⟩,.string ⟨#[]⟩,.string ⟨#[]⟩]
def feY:Lay FeD:=⟨12,feV,fun _=>rfl,by
 intro x u hu;simp only [feV,List.mem_cons,List.not_mem_nil,or_false]at hu
 rcases hu with rfl|rfl|rfl|rfl|rfl|rfl|rfl|rfl|rfl|rfl|rfl|rfl <;>rfl⟩
theorem info62:(Tryz.prog.info? 62).map (fun i=>(i.zero,i.size,i.bytes))=some (some (.agg z62),12,200):=by kernel_rfl
set_option maxRecDepth 100000 in
theorem step_any (R:List RegP) (hRn:∀r∈R,r.node=ann1∧(winF r.w).2=true∧r.w.length≤100000) (hl:R.length≤1000) (rb:Nat) (sn sr sp sc:SlV) (base:Nat) (w:World)
  (hr:w.heap[rb]? =some (.cells #[.slice sn.a sn.len sn.cap,.slice sr.a sr.len sr.cap,.slice sp.a sp.len sp.cap,.slice none 0 0,.slice sc.a sc.len sc.cap] 75 (0,0))) (hv:RRegs w sr.v R) (hbase:base≤rb) (KA:KindsAt w):
  Calls Tryz.prog 28 #[.pointer (some ⟨rb,0,none⟩),.agg (tnV node4).toArray] w fun e w'=>e=.returned (.tuple #[])∧But rb w w'∧Below base w w'∧∃sf:SlV,w'.heap[rb]? =some (.cells #[.slice sn.a sn.len sn.cap,.slice sr.a sr.len sr.cap,.slice sp.a sp.len sp.cap,.slice sf.a sf.len sf.cap,.slice sc.a sc.len sc.cap] 75 (0,0))∧
   w'.ownsRow w.heap.size 62 12 sf.v 1 (feY.flat [⟨⟨#[97,110,110,46,52]⟩⟩]):=by
 obtain⟨i0,hi,hz0,hz1,hz2⟩:=info_parts info62;have B0:Below w.heap.size w (w.alloc (.cells (tnV node4).toArray 55)):=(Below.refl _ w).alloc (Nat.le_refl _) _;have R1:(w.alloc (.cells (tnV node4).toArray 55)).heap[rb]? =_:=zo _ _ _ _ hr;have RX:(w.alloc (.cells (tnV node4).toArray 55)).heap[w.heap.size]? =_:=zg _ _ _ rfl;have lrb:rb < w.heap.size:=zl hr;obtain⟨ds,hd1,hd2,hd3⟩:=hv.below B0;have KA0:=KA.below B0;have r11:=(five_cells R1).2.1;obtain⟨sa,sl,scp⟩:=sr;have hsl:sl=R.length:=by have h:=hd1.len;rw [hd2]at h;exact h
 subst hsl;generalize hn:R.length=n at*
 have HN:=zz hn;have HD1:=zz hd1;have HD2:=zz hd2;have HD3:=zz hd3;have HRN:=zz hRn;have HB0:=zz B0;have HR1:=zz R1;have HRX:=zz RX;have HKA:=zz KA0;clear hr hv KA hd1 hd2 hd3 hRn B0 R1 RX hn KA0;unfold tnV node4 ann4 rootI at*
 go_enter Tryz.func28,Tryz.ntmps28
 go_wp2;clear r11;generalize hW0:w.alloc (.cells _ 55)=W0 at*
 have hW0s:w.heap.size≤W0.heap.size:=HB0.out.size;clear hW0
 go_loopg [4,18] n (fun gn t4 t18 wr=>∃k:Nat,k+gn=n∧t4=.slice none 0 0∧t18=.int .i64 k∧Below W0.heap.size W0 wr)
 case atStart=>exact⟨0,by omega,rfl,rfl,Below.refl _ _⟩
 case round=>
  obtain⟨G,rfl⟩:∃G,G=gk:=⟨_,rfl⟩;obtain⟨k,hk,rfl,rfl,hbel⟩:=hrel;have HK:=zz hk;have HBL:=zz hbel;have hszr:W0.heap.size≤wr.heap.size:=hbel.size;clear hk
  by_cases hlt:k < n
  ·obtain⟨d,hd⟩:∃d,ds[k]? =some d:=⟨_,List.getElem?_eq_getElem (by rw [HD2.out];exact hlt)⟩;obtain⟨r,hr⟩:∃r,R[k]? =some r:=⟨_,List.getElem?_eq_getElem (by rw [HN.out];exact hlt)⟩;have hdr:=HD3.out k d r hd hr;have hrn:=HRN.out r (List.mem_of_getElem? hr)
   obtain⟨b,off,rfl,hrg⟩:∃b off,sa=some ⟨b,off,none⟩∧W0.rangeAt b off (regY.flat ds):=by
    rcases HD1.out with⟨h1,h2⟩|⟨b,off,cap,h1,h2,h3⟩
    ·rw [h2]at hd;cases hd
    ·simp [SlV.v]at h1;exact⟨b,off,h1.1,h3⟩
   have hrx:wr.rangeAt b (off+k*4) (regV d):=rangeAt_below (regY.elem hrg k d hd) hbel;have hna:d.node.a=⟨#[97,110,110]⟩:=by rw [hdr.1,hrn.1];rfl
   have hnn:d.node.n=1:=by rw [hdr.1,hrn.1];rfl
   unfold regV at hrx;rw [hna,hnn]at hrx;have hwd:=(hdr.2.2.below hbel).alloc (.cells #[.string ⟨#[97,110,110]⟩,.int .i64 1,.string d.field,.slice d.w.a d.w.len d.w.cap] 48);have hwl:r.w.length≤1000000:=by have:=hrn.2.2;omega
   have HW:=zz (winner_any r.w _ _ hwl hwd);rw [hrn.2.1]at HW;have hltZ:(k:Int) < (n:Int):=by omega
   have X1:=(hbel.block _ (zl HRX.out)).trans HRX.out;have lx:w.heap.size < wr.heap.size:=zl X1;have hx0:=(two8 X1).1;have hx1:=(two8 X1).2;clear hbel hdr hrn hrg hd hr hna hnn hwd X1
   go_wp2_with(first
    |refine wpList_load_mid rfl 48 _ rfl b (off+k*4) rfl _ _ hrx Tryz.underlying48 rfl (by kernel_rfl) ?_
    |(go_at_call 57;refine HW.out.mono ?_;rintro e w2 ⟨rfl,rfl⟩))
   go_roundg (n - 1 - k)
   case rel=>exact⟨k+1,by have:=HK.out;omega,rfl,by go_num,HBL.out.alloc hszr _⟩
   case measure=>have:=HK.out;omega
  ·obtain rfl:k=n:=by have:=HK.out;omega
   have X1:=(hbel.block _ (zl HRX.out)).trans HRX.out;have hx0:=(two8 X1).1;have hx1:=(two8 X1).2;have hx7:wr.cell? ⟨w.heap.size,7,none⟩=some (.string ⟨#[109,105,114,114,111,114]⟩):=zc _ _ 7 _ _ _ X1;clear hbel
   go_wp2_with fail
   with_reducible refine(formatId4 _).mono ?_
   rintro e w3 ⟨rfl,hb3⟩;have BL:=HBL.out.trans (hb3.mono hszr);have X1:=(BL.block _ (zl HRX.out)).trans HRX.out;have hx7:w3.cell? ⟨w.heap.size,7,none⟩=some (.string ⟨#[109,105,114,114,111,114]⟩):=zc _ _ 7 _ _ _ X1;clear hb3 hx0 hx1
   go_wp2_with fail
   with_reducible refine(fromFieldsMirror _ (HKA.out.below BL)).mono ?_
   rintro e w4 ⟨rfl,hb4⟩;have BL:=BL.trans (hb4.mono BL.size);unfold z62;clear hb4 hx7 X1
   go_wp2_with(first
    |refine wpList_store_new w4 rfl 62 _ _ rfl _ _ rfl rfl (by kernel_rfl) (by rfl) (by simp [Value.oneCell']) ?_)
   have R2:(w4.alloc (.cells #[.string ⟨#[97,110,110,46,52]⟩,.int .i64 0,.string ⟨#[]⟩,.slice none 0 0,.string ⟨#[]⟩,.slice none 0 0,.string ⟨#[]⟩,.string ⟨#[]⟩,.string ⟨#[]⟩,.string ⟨#[]⟩,.string ⟨#[]⟩,.string ⟨#[]⟩] 62)).drew.heap[w4.heap.size]? =_:=zg _ _ _ rfl;have R1:(w4.alloc (.cells #[.string ⟨#[97,110,110,46,52]⟩,.int .i64 0,.string ⟨#[]⟩,.slice none 0 0,.string ⟨#[]⟩,.slice none 0 0,.string ⟨#[]⟩,.string ⟨#[]⟩,.string ⟨#[]⟩,.string ⟨#[]⟩,.string ⟨#[]⟩,.string ⟨#[]⟩] 62)).drew.heap[rb]? =_:=zo _ _ _ _ ((BL.block _ (zl HR1.out)).trans HR1.out);have hs4:w.heap.size≤w4.heap.size:=Nat.le_trans hW0s BL.size;have hrq:rb < w4.heap.size:=by omega
   have BL:Below w.heap.size w (w4.alloc (.cells #[.string ⟨#[97,110,110,46,52]⟩,.int .i64 0,.string ⟨#[]⟩,.slice none 0 0,.string ⟨#[]⟩,.slice none 0 0,.string ⟨#[]⟩,.string ⟨#[]⟩,.string ⟨#[]⟩,.string ⟨#[]⟩,.string ⟨#[]⟩,.string ⟨#[]⟩] 62)).drew:=((HB0.out.trans (BL.mono hW0s)).alloc hs4 _).drew;generalize w4.alloc (.cells #[.string ⟨#[97,110,110,46,52]⟩,.int .i64 0,.string ⟨#[]⟩,.slice none 0 0,.string ⟨#[]⟩,.slice none 0 0,.string ⟨#[]⟩,.string ⟨#[]⟩,.string ⟨#[]⟩,.string ⟨#[]⟩,.string ⟨#[]⟩,.string ⟨#[]⟩] 62)=W4 at*
   refine wp_region_held_drew (S:=fun w'=>w'.heap[w4.heap.size]? =some (.cells #[.string ⟨#[97,110,110,46,52]⟩,.int .i64 0,.string ⟨#[]⟩,.slice none 0 0,.string ⟨#[]⟩,.slice none 0 0,.string ⟨#[]⟩,.string ⟨#[]⟩,.string ⟨#[]⟩,.string ⟨#[]⟩,.string ⟨#[]⟩,.string ⟨#[]⟩] 62 (0,0))) (by kernel_rfl) R2 (fun hS=>?_);refine tk 0 (.pointer (some ⟨rb,0,none⟩)) rfl hS ?_;(try simp only [PU]);refine tk 1 (.pointer (some ⟨rb,0,none⟩)) rfl hS ?_;(try simp only [PU]);refine tk 2 (.pointer (some ⟨rb,0,none⟩)) rfl hS ?_;(try simp only [PU]);refine tk 3 (.pointer (some ⟨rb,2,none⟩)) rfl hS ?_;(try simp only [PU]);refine tk 4 (.pointer (some ⟨rb,3,none⟩)) rfl hS ?_;(try simp only [PU]);refine tk 6 (.agg #[.string ⟨#[97,110,110,46,52]⟩,.int .i64 0,.string ⟨#[]⟩,.slice none 0 0,.string ⟨#[]⟩,.slice none 0 0,.string ⟨#[]⟩,.string ⟨#[]⟩,.string ⟨#[]⟩,.string ⟨#[]⟩,.string ⟨#[]⟩,.string ⟨#[]⟩]) rfl hS ?_ (hy:=fun w' hS=>by have hl:=run_loadVar_row (P:=Tryz.prog) w' w4.heap.size 62 62 _ (0,0) _ hS Tryz.underlying62 rfl (by kernel_rfl);simp only [execOp,Act.eval,Instr.loadAt,Instr.sureAddr,Sem.run_bind,Sem.run_pure,Result.andThen_ok];first|(simp [hl,Result.andThen];done)|(go_simp;done));(try simp only [PU]);refine wpAnyH_ready (rs:= [5,7]) (by kernel_rfl) (by simp) ?_;refine AllReadyH.cons rfl (fun K9 hK9=>?_) (AllReadyH.cons rfl (fun K9 hK9=>?_) AllReadyH.nil)
   ·have r13:=(five_cells R1).2.2.2.1;go_simp;clear r13;refine hK9.out _ _ hS (fun _=>?_);clear hK9;(try simp only [PU]);refine rd 7 rfl (fun K9 hK9=>?_);go_simp;have R1:(W4.alloc (.cells #[.string ⟨#[97,110,110,46,52]⟩,.int .i64 0,.string ⟨#[]⟩,.slice none 0 0,.string ⟨#[]⟩,.slice none 0 0,.string ⟨#[]⟩,.string ⟨#[]⟩,.string ⟨#[]⟩,.string ⟨#[]⟩,.string ⟨#[]⟩,.string ⟨#[]⟩] 62)).drew.heap[rb]? =_:=zo W4 _ _ _ R1;have R2:(W4.alloc (.cells #[.string ⟨#[97,110,110,46,52]⟩,.int .i64 0,.string ⟨#[]⟩,.slice none 0 0,.string ⟨#[]⟩,.slice none 0 0,.string ⟨#[]⟩,.string ⟨#[]⟩,.string ⟨#[]⟩,.string ⟨#[]⟩,.string ⟨#[]⟩,.string ⟨#[]⟩] 62)).drew.heap[w4.heap.size]? =_:=zo W4 _ _ _ R2;have RN:(W4.alloc (.cells #[.string ⟨#[97,110,110,46,52]⟩,.int .i64 0,.string ⟨#[]⟩,.slice none 0 0,.string ⟨#[]⟩,.slice none 0 0,.string ⟨#[]⟩,.string ⟨#[]⟩,.string ⟨#[]⟩,.string ⟨#[]⟩,.string ⟨#[]⟩,.string ⟨#[]⟩] 62)).drew.heap[W4.heap.size]? =_:=zg W4 _ _ rfl;have BL:Below w.heap.size w (W4.alloc (.cells #[.string ⟨#[97,110,110,46,52]⟩,.int .i64 0,.string ⟨#[]⟩,.slice none 0 0,.string ⟨#[]⟩,.slice none 0 0,.string ⟨#[]⟩,.string ⟨#[]⟩,.string ⟨#[]⟩,.string ⟨#[]⟩,.string ⟨#[]⟩,.string ⟨#[]⟩] 62)).drew:=BL.alloc BL.size _;have hS:=R2;refine hK9.out _ _ hS (fun _=>?_);clear hK9;(try simp only [PU]);refine rd 8 rfl (fun K9 hK9=>?_);refine step_append_src _ rfl _ _ 32 rfl w.heap.size 62 i0 (.agg z62) 12 200 Tryz.underlying32 hi hz0 hz1 hz2 rfl (by decide) (.slice none 0 0) 0 [] rfl (owns_nil0 _ _ _ _) (some ⟨_,0,none⟩) 1 1 (feV ⟨⟨#[97,110,110,46,52]⟩⟩) rfl rfl (fun _=>⟨_,rfl,news_of (cs:=feV ⟨⟨#[97,110,110,46,52]⟩⟩) RN⟩) (feY.one _) (by unfold maxLen;omega) (by omega) BL.size ?_;intro v6 w6 hown6 hg6;obtain⟨s6,hs6⟩:=ownsForm hown6;subst hs6;have R1:=(hg6.block _ (zl R1) (by simp [Value.ownBlock])).trans R1;have R2:=(hg6.block _ (zl R2) (by simp [Value.ownBlock])).trans R2;have BL:=BL.grown hg6 BL.size (by intro k hk;simp [Value.ownBlock]at hk);have hS:=R2;refine hK9.out _ _ hS (fun _=>?_);clear hK9;(try simp only [PU]);refine tk 9 (.pointer (some ⟨rb,0,none⟩)) rfl hS ?_;(try simp only [PU]);refine tk 10 (.pointer (some ⟨rb,2,none⟩)) rfl hS ?_;(try simp only [PU]);refine tk 11 (.pointer (some ⟨rb,3,none⟩)) rfl hS ?_;(try simp only [PU]);refine rd 12 rfl (fun K9 hK9=>?_);have r13:=(five_cells R1).2.2.2.1;have f13:w6.frozen? ⟨rb,3,none⟩=false:=frozen_of_row w6 rb 3 _ _ R1;go_simp;refine hK9.out _ _ ((heap_setCell_other _ _ _ _ (by show _≠rb;omega)).trans hS) (fun _=>?_);clear hK9;(try simp only [PU]);refine wpAnyH_done (by kernel_rfl) ?_ _;have HNE:=zz (own_ne_ty hown6 ⟨_,R1,_,R1⟩ (by decide));have HF:=zz (And.intro BL (And.intro (set5_3 (c':=.slice s6.a s6.len s6.cap) R1) hown6));clear hg6 hown6 r13 f13 R1 R2 BL hS;go_wp2;go_end0
    refine⟨rfl,But.set (But.of_below HF.out.1) 3 _,Below.setCell (HF.out.1.mono (by omega)) (p:=⟨rb,3,none⟩) hbase _,s6,HF.out.2.1,?_⟩;exact HF.out.2.2.kept (grownBy_set w6 rb 3 _) HNE.out
   ·go_simp;have R1:(W4.alloc (.cells #[.string ⟨#[97,110,110,46,52]⟩,.int .i64 0,.string ⟨#[]⟩,.slice none 0 0,.string ⟨#[]⟩,.slice none 0 0,.string ⟨#[]⟩,.string ⟨#[]⟩,.string ⟨#[]⟩,.string ⟨#[]⟩,.string ⟨#[]⟩,.string ⟨#[]⟩] 62)).drew.heap[rb]? =_:=zo W4 _ _ _ R1;have R2:(W4.alloc (.cells #[.string ⟨#[97,110,110,46,52]⟩,.int .i64 0,.string ⟨#[]⟩,.slice none 0 0,.string ⟨#[]⟩,.slice none 0 0,.string ⟨#[]⟩,.string ⟨#[]⟩,.string ⟨#[]⟩,.string ⟨#[]⟩,.string ⟨#[]⟩,.string ⟨#[]⟩] 62)).drew.heap[w4.heap.size]? =_:=zo W4 _ _ _ R2;have RN:(W4.alloc (.cells #[.string ⟨#[97,110,110,46,52]⟩,.int .i64 0,.string ⟨#[]⟩,.slice none 0 0,.string ⟨#[]⟩,.slice none 0 0,.string ⟨#[]⟩,.string ⟨#[]⟩,.string ⟨#[]⟩,.string ⟨#[]⟩,.string ⟨#[]⟩,.string ⟨#[]⟩] 62)).drew.heap[W4.heap.size]? =_:=zg W4 _ _ rfl;have BL:Below w.heap.size w (W4.alloc (.cells #[.string ⟨#[97,110,110,46,52]⟩,.int .i64 0,.string ⟨#[]⟩,.slice none 0 0,.string ⟨#[]⟩,.slice none 0 0,.string ⟨#[]⟩,.string ⟨#[]⟩,.string ⟨#[]⟩,.string ⟨#[]⟩,.string ⟨#[]⟩,.string ⟨#[]⟩] 62)).drew:=BL.alloc BL.size _;have hS:=R2;refine hK9.out _ _ hS (fun _=>?_);clear hK9;(try simp only [PU]);refine rd 5 rfl (fun K9 hK9=>?_);have r13:=(five_cells R1).2.2.2.1;go_simp;clear r13;refine hK9.out _ _ hS (fun _=>?_);clear hK9;(try simp only [PU]);refine rd 8 rfl (fun K9 hK9=>?_);refine step_append_src _ rfl _ _ 32 rfl w.heap.size 62 i0 (.agg z62) 12 200 Tryz.underlying32 hi hz0 hz1 hz2 rfl (by decide) (.slice none 0 0) 0 [] rfl (owns_nil0 _ _ _ _) (some ⟨_,0,none⟩) 1 1 (feV ⟨⟨#[97,110,110,46,52]⟩⟩) rfl rfl (fun _=>⟨_,rfl,news_of (cs:=feV ⟨⟨#[97,110,110,46,52]⟩⟩) RN⟩) (feY.one _) (by unfold maxLen;omega) (by omega) BL.size ?_;intro v6 w6 hown6 hg6;obtain⟨s6,hs6⟩:=ownsForm hown6;subst hs6;have R1:=(hg6.block _ (zl R1) (by simp [Value.ownBlock])).trans R1;have R2:=(hg6.block _ (zl R2) (by simp [Value.ownBlock])).trans R2;have BL:=BL.grown hg6 BL.size (by intro k hk;simp [Value.ownBlock]at hk);have hS:=R2;refine hK9.out _ _ hS (fun _=>?_);clear hK9;(try simp only [PU]);refine tk 9 (.pointer (some ⟨rb,0,none⟩)) rfl hS ?_;(try simp only [PU]);refine tk 10 (.pointer (some ⟨rb,2,none⟩)) rfl hS ?_;(try simp only [PU]);refine tk 11 (.pointer (some ⟨rb,3,none⟩)) rfl hS ?_;(try simp only [PU]);refine rd 12 rfl (fun K9 hK9=>?_);have r13:=(five_cells R1).2.2.2.1;have f13:w6.frozen? ⟨rb,3,none⟩=false:=frozen_of_row w6 rb 3 _ _ R1;go_simp;refine hK9.out _ _ ((heap_setCell_other _ _ _ _ (by show _≠rb;omega)).trans hS) (fun _=>?_);clear hK9;(try simp only [PU]);refine wpAnyH_done (by kernel_rfl) ?_ _;have HNE:=zz (own_ne_ty hown6 ⟨_,R1,_,R1⟩ (by decide));have HF:=zz (And.intro BL (And.intro (set5_3 (c':=.slice s6.a s6.len s6.cap) R1) hown6));clear hg6 hown6 r13 f13 R1 R2 BL hS;go_wp2;go_end0
    refine⟨rfl,But.set (But.of_below HF.out.1) 3 _,Below.setCell (HF.out.1.mono (by omega)) (p:=⟨rb,3,none⟩) hbase _,s6,HF.out.2.1,?_⟩;exact HF.out.2.2.kept (grownBy_set w6 rb 3 _) HNE.out
end Go.Proofs.YteigcnamkfebgaaGreatDoor
