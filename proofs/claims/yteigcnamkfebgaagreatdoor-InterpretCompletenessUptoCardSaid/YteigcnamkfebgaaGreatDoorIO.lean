import Derived.Test.YteigcnamkfebgaaGreatDoorIL
import Derived.Test.YteigcnamkfebgaaGreatDoorFK
set_option linter.all false
set_option maxHeartbeats 25600000
namespace Go.Proofs.YteigcnamkfebgaaGreatDoor
open Go.RowKit
theorem grown_below {w w':World} {g B:Nat} (h:w.grownBy w' (some g)) (hB:B≤g) (hs:B≤w.heap.size):Below B w w':=⟨h.os,h.tape,h.output,h.size,fun i hi=>h.block i (by omega) (by simp;omega)⟩
theorem FeM.grownMap {w w':World} {fb g:Nat} {id:ByteArray} {es:Array MapEntry} {cl:Nat} (h:FeM w fb id) (hm:w.heap[g]? =some (.map es cl)) (hg:w.grownBy w' (some g)) (hne:fb≠g):FeM w' fb id:=by
 obtain⟨cs,hr,hc⟩:=h;refine⟨cs,(hg.block fb (zl hr) (by simpa using hne)).trans hr,hc.sz,hc.h0,hc.h1,fun o ho=>?_,hc.st⟩;obtain⟨t,a,n,c,ss,g1,g2,g3,g4,g5,g6⟩:=hc.rf o ho;refine⟨t,a,n,c,ss,g1,g2,?_,g4,g5,fun ad hd=>⟨(g6 ad hd).1,Nat.lt_of_lt_of_le (g6 ad hd).2 hg.size⟩⟩
 rcases g3 with g3|⟨b,off,cap,e,hcap,hrg⟩
 ·exact .inl g3
 ·refine .inr ⟨b,off,cap,e,hcap,fun j v hj=>?_⟩;have h5:=hrg j v hj
  have hb:b≠g:=fun e=>by
   subst e;unfold World.cell? at h5;simp only [hm]at h5;cases h5
  exact(World.cell?_of_block (w:=w) (w':=w') (a:=⟨b,off+j,none⟩) (hg.block b (block_lt_of_cell h5) (by simpa using hb))).trans h5
set_option maxRecDepth 100000 in
theorem fromFields_w (id kind:ByteArray) (G:List PdD) (a:Option Addr) (n c:Nat) (w:World) (hv:pdY.Rd w (.slice a n c) G) (hn:G.length≤100000) (hG:∀d∈G,d.text.size≤400000000) (hid:id.size≤1000000000) (hg:Globs w) (KA:KAll w):
  Calls Tryz.prog 59 #[.string id,.string kind,.slice a n c] w fun e w'=>IsFF id e∧Below w.heap.size w w':=by
 have hnl:n=G.length:=hv.len;have B0:Below w.heap.size w (w.alloc (.cells #[.string ⟨#[]⟩,.int .i64 0,.string ⟨#[]⟩,.slice none 0 0,.string ⟨#[]⟩,.slice none 0 0,.string ⟨#[]⟩,.string ⟨#[]⟩,.string ⟨#[]⟩,.string ⟨#[]⟩,.string ⟨#[]⟩,.string ⟨#[]⟩] 62)):=(Below.refl _ w).alloc (Nat.le_refl _) _;have R6:(w.alloc (.cells #[.string ⟨#[]⟩,.int .i64 0,.string ⟨#[]⟩,.slice none 0 0,.string ⟨#[]⟩,.slice none 0 0,.string ⟨#[]⟩,.string ⟨#[]⟩,.string ⟨#[]⟩,.string ⟨#[]⟩,.string ⟨#[]⟩,.string ⟨#[]⟩] 62)).heap[w.heap.size]? =_:=zg _ _ _ rfl;have HV:=zz (And.intro hv (And.intro hnl hG));have HGL:=zz (fun(W:World) (hb:Below w.heap.size w W)=>hg.below hb);have HFD:=zz (fun(k:Int) (W:World) (hb:Below w.heap.size w W)=>fields_w k w W KA hb);have HKA:=zz (fun(W:World) (hb:Below w.heap.size w W)=>KA.below hb);have HKN:=zz (kindByName_w kind _ (KA.below B0));have hle:n≤100000:=by omega
 have HB0:=zz (And.intro B0 R6);have hmm:= @run_makeMap Tryz.prog;clear hv hnl hG hn hg KA B0 R6;go_enter Tryz.func59,Tryz.ntmps59
 go_wp2_with fail
 refine HKN.out.mono ?_;rintro e w1 ⟨⟨k,b,rfl,hkb⟩,hb⟩;have BL:=HB0.out.1.trans (hb.mono HB0.out.1.size);have R6:=(hb.block _ (zl HB0.out.2)).trans HB0.out.2;clear hb HKN
 cases b with
 |false=>
  go_wp2_with(first|(refine wpList_store_row rfl 62 _ _ rfl w.heap.size _ _ R6 rfl rfl (by kernel_rfl) (by rfl) (by simp [Value.oneCell']) ?_;intro w9 h9 _ _ hb9))
  exact bodyPost_ret (results_cell_tmp Tryz.results59 _ _ w.heap.size 62 _ (0,0) _ (.int .i64 11) rfl rfl h9 Tryz.underlying62 rfl (by kernel_rfl)) rfl ⟨⟨z62,11,rfl,feRow_z62,fun h=>absurd h (by first|decide|assumption)⟩,BL.trans (hb9 _ (Nat.le_refl _))⟩
 |true=>
  have hk8:=hkb rfl;have HK8:=zz hk8;clear hkb hk8;have hq10:w.heap.size < w1.heap.size:=zl R6
  go_wp2_with(first
   |(refine wpList_store_new w1 rfl 62 _ _ rfl _ _ rfl rfl (by kernel_rfl) (by rfl) (by simp [Value.oneCell']) ?_))
  have BL:=BL.alloc BL.size (.cells #[.string id,.int .i64 k,.string ⟨#[]⟩,.slice none 0 0,.string ⟨#[]⟩,.slice none 0 0,.string ⟨#[]⟩,.string ⟨#[]⟩,.string ⟨#[]⟩,.string ⟨#[]⟩,.string ⟨#[]⟩,.string ⟨#[]⟩] 62);have R6:=zo _ _ (.cells #[.string id,.int .i64 k,.string ⟨#[]⟩,.slice none 0 0,.string ⟨#[]⟩,.slice none 0 0,.string ⟨#[]⟩,.string ⟨#[]⟩,.string ⟨#[]⟩,.string ⟨#[]⟩,.string ⟨#[]⟩,.string ⟨#[]⟩] 62) _ R6;have hF:FeM (w1.alloc (.cells #[.string id,.int .i64 k,.string ⟨#[]⟩,.slice none 0 0,.string ⟨#[]⟩,.slice none 0 0,.string ⟨#[]⟩,.string ⟨#[]⟩,.string ⟨#[]⟩,.string ⟨#[]⟩,.string ⟨#[]⟩,.string ⟨#[]⟩] 62)) w1.heap.size id:=⟨_,zg _ _ _ rfl,feC_new _ _ _ _⟩;have hsz1:(w1.alloc (.cells #[.string id,.int .i64 k,.string ⟨#[]⟩,.slice none 0 0,.string ⟨#[]⟩,.slice none 0 0,.string ⟨#[]⟩,.string ⟨#[]⟩,.string ⟨#[]⟩,.string ⟨#[]⟩,.string ⟨#[]⟩,.string ⟨#[]⟩] 62)).heap.size=w1.heap.size+1:=by simp
  obtain⟨q10,hq⟩:∃q10,q10=w1.heap.size:=⟨_,rfl⟩;rw [←hq]at hF hq10 hsz1⊢;clear hq;generalize w1.alloc (.cells #[.string id,.int .i64 k,.string ⟨#[]⟩,.slice none 0 0,.string ⟨#[]⟩,.slice none 0 0,.string ⟨#[]⟩,.string ⟨#[]⟩,.string ⟨#[]⟩,.string ⟨#[]⟩,.string ⟨#[]⟩,.string ⟨#[]⟩] 62)=W1 at*
  refine(HFD.out k W1 BL).mono ?_;rintro e w3 ⟨he,rfl⟩
  rcases he with⟨i,kx,hkx,bo,oo,co,rfl,hown⟩|⟨_,hbad⟩
  ·have HKX:=zz (And.intro (kindTab2_sub kx (List.mem_of_getElem? hkx)) hown);have hl4:kx.2.length≤4:=(kindTab2_sub kx (List.mem_of_getElem? hkx)).2.2;clear hkx hown
   go_wp2_with fail
   refine(places_eq q10 _).mono ?_;rintro e w4 ⟨rfl,rfl⟩;obtain⟨pb,hpb⟩:∃pb,pb=W1.heap.size:=⟨_,rfl⟩;have p0:(W1.alloc (.cells #[.pointer (some ⟨q10,0,none⟩)] 145)).cell? ⟨W1.heap.size,0,none⟩=some (.pointer (some ⟨q10,0,none⟩)):=zc _ _ 0 _ _ _ (zg _ _ _ rfl);rw [←hpb]at p0⊢;have hsz2:(W1.alloc (.cells #[.pointer (some ⟨q10,0,none⟩)] 145)).heap.size=pb+1:=by simp [hpb]
   have hqp:q10 < pb:=by omega
   have BL2:=(Below.refl W1.heap.size W1).alloc (Nat.le_refl _) (.cells #[.pointer (some ⟨q10,0,none⟩)] 145);have BL:=BL.alloc BL.size (.cells #[.pointer (some ⟨q10,0,none⟩)] 145);have R6:=zo _ _ (.cells #[.pointer (some ⟨q10,0,none⟩)] 145) _ R6;have hF:=hF.below ((Below.refl W1.heap.size W1).alloc (Nat.le_refl _) (.cells #[.pointer (some ⟨q10,0,none⟩)] 145));clear hpb;generalize W1.alloc (.cells #[.pointer (some ⟨q10,0,none⟩)] 145)=W3 at*
   have HCO:=zz (fun(x:ByteArray) (W:World) (hb2:Below w.heap.size w W)=>Tryz.slices_Contains_string bo oo kx.2.length co kx.2 x W (Nat.le_refl _) (by omega) (fun j hj=>by
    have h:=keep1 hb2 (HKX.out.2 j _ (List.getElem?_eq_getElem hj))
    rw [h];simp [List.getD_eq_getElem?_getD,List.getElem?_eq_getElem hj]))
   have HI:=zz (And.intro BL (And.intro R6 (And.intro hF p0)));clear BL R6 hF BL2
   go_wp2_with fail
   have p0:(W3.alloc (.map #[] 0)).cell? ⟨pb,0,none⟩=_:=keep1 ((Below.refl _ _).alloc (Nat.le_refl _) _) HI.out.2.2.2;have HI2:=zz (And.intro (HI.out.1.alloc HI.out.1.size (.map #[] 0)) (And.intro (zo _ _ (.map #[] 0) _ HI.out.2.1) (And.intro (HI.out.2.2.1.below ((Below.refl _ _).alloc (Nat.le_refl _) (.map #[] 0))) (And.intro p0 (zg W3 (.map #[] 0) (pb+1) hsz2.symm)))));clear p0 hmm;generalize W3.alloc (.map #[] 0)=W4 at*
   go_loopg [38] n (fun gn t38 wr=>∃(q:Nat) (es:Array MapEntry) (cl:Nat),q+gn=n∧t38=.int .i64 q∧Below w.heap.size w wr∧wr.heap[w.heap.size]? =some (.cells #[.string ⟨#[]⟩,.int .i64 0,.string ⟨#[]⟩,.slice none 0 0,.string ⟨#[]⟩,.slice none 0 0,.string ⟨#[]⟩,.string ⟨#[]⟩,.string ⟨#[]⟩,.string ⟨#[]⟩,.string ⟨#[]⟩,.string ⟨#[]⟩] 62 (0,0))∧FeM wr q10 id∧wr.cell? ⟨pb,0,none⟩=some (.pointer (some ⟨q10,0,none⟩))∧wr.heap[pb+1]? =some (.map es cl)∧BoolMap es.toList∧es.size≤q)
   case atStart=>exact⟨0,#[],0,by omega,rfl,HI2.out.1,HI2.out.2.1,HI2.out.2.2.1,HI2.out.2.2.2.1,HI2.out.2.2.2.2,fun e he=>by simp at he,Nat.le_refl _⟩
   case round=>
    obtain⟨G9,rfl⟩:∃G9,G9=gk:=⟨_,rfl⟩;obtain⟨q,es,cl,hq,rfl,BL,R6,hF,p0,RM,hbm,hel⟩:=hrel;have HQ:=zz hq;have HBM:=zz hbm;clear hq hbm
    by_cases hlt:q < n
    ·obtain⟨d,hd⟩:∃d,G[q]? =some d:=⟨_,List.getElem?_eq_getElem (by rw [←HV.out.2.1];exact hlt)⟩;have hdt:=HV.out.2.2 d (List.mem_of_getElem? hd)
     obtain⟨b2,off2,rfl,hr⟩:∃b off,a=some ⟨b,off,none⟩∧w.rangeAt b off (pdY.flat G):=by
      rcases HV.out.1 with⟨h1,h2⟩|⟨b,off,cap,h1,h2,h3⟩
      ·rw [h2]at hd;cases hd
      ·simp at h1;exact⟨b,off,h1.1,h3⟩
     have hrx:wr.rangeAt b2 (off2+q*2) (pdV d):=rangeAt_below (pdY.elem hr q d hd) BL;have hltZ:(q:Int) < (n:Int):=by omega
     unfold pdV at hrx;have hw16:wr.heap.size < (wr.alloc (.cells #[.string d.name,.string d.text] 52)).heap.size:=by simp
     have R16:=zg wr (.cells #[.string d.name,.string d.text] 52) wr.heap.size rfl;have hb16:=(Below.refl wr.heap.size wr).alloc (Nat.le_refl _) (.cells #[.string d.name,.string d.text] 52);have lpb:=block_lt_of_cell p0;have BL:=BL.trans (hb16.mono BL.size);have R6:=(hb16.block _ (zl R6)).trans R6;have lmb:=zl RM;have RM:=(hb16.block _ (zl RM)).trans RM;have hF:=hF.below hb16;have p0:=keep1 hb16 p0;obtain⟨d0,d1⟩:=two_cells R16;have hc1:=zz (HCO.out d.name _ BL);clear hr hd R16 hb16 hw16
     go_wp2_with(first
      |refine wpList_load_mid rfl 52 _ rfl b2 (off2+q*2) rfl _ _ hrx Tryz.underlying52 rfl (by kernel_rfl) ?_)
     refine hc1.out.mono ?_;rintro e w5 ⟨rfl,rfl⟩
     cases hcb:Lib.containsS (kx.2.take kx.2.length) d.name with
     |false=>
      go_wp2_with(first|(refine wpList_store_row rfl 62 _ _ rfl w.heap.size _ _ R6 rfl rfl (by kernel_rfl) (by rfl) (by simp [Value.oneCell']) ?_;intro w9 h9 _ _ hb9))
      exact bodyPost_ret (results_cell_tmp Tryz.results59 _ _ w.heap.size 62 _ (0,0) _ (.int .i64 7) rfl rfl h9 Tryz.underlying62 rfl (by kernel_rfl)) rfl ⟨⟨z62,7,rfl,feRow_z62,fun h=>absurd h (by first|decide|assumption)⟩,BL.trans (hb9 _ (Nat.le_refl _))⟩
     |true=>
      have hmem:d.name∈eightN:=HKX.out.1.1 _ (by have:=(Lib.containsS_iff _ _).1 hcb;simpa using this);obtain⟨o,hso,hsl⟩:=slot_any hmem;have HSL:=zz hsl;have HSK:=zz hso;obtain⟨rr,hrr,hrv⟩:=findKey9 d.name es.toList HBM.out;have HRR:=zz hrr;clear hmem hsl hso hrr hcb hc1
      rcases hrv with rfl|⟨kk,rfl⟩
      ·go_wp2_with(first
        |(at_lookup;refine wpList_lookup_raw _ rfl _ _ 146 false rfl 9 4 und146 (.bool false) Tryz.zeroValue4 (pb+1) es cl rfl RM (.string d.name) rfl (ck9 _) none HRR.out (.bool false) rfl ?_))
       obtain⟨q16,hq16⟩:∃q16,q16=wr.heap.size:=⟨_,rfl⟩;rw [←hq16]at d0 d1⊢;have hne16:q10 < q16:=by omega
       clear hq16 hrx;generalize wr.alloc (.cells #[.string d.name,.string d.text] 52)=W5 at*
       have BL:Below w.heap.size w W5.drew:=BL.drew;have R6:W5.drew.heap[w.heap.size]? =_:=R6;have RM:W5.drew.heap[pb+1]? =_:=RM;have hF:FeM W5.drew q10 id:=hF.below (Below.refl _ _).drew;have p0:W5.drew.cell? ⟨pb,0,none⟩=some (.pointer (some ⟨q10,0,none⟩)):=p0;have d0:W5.drew.cell? ⟨q16,0,none⟩=some (.string d.name):=d0;have d1:W5.drew.cell? ⟨q16,1,none⟩=some (.string d.text):=d1;refine wp_region_held_drew (S:=fun w'=>w'.cell? ⟨q16,0,none⟩=some (.string d.name)∧w'.cell? ⟨q16,1,none⟩=some (.string d.text)) (by kernel_rfl) ⟨d0,d1⟩ (fun hH=>?_);refine tk 0 (.func (.func 140) #[] #[.pointer (some ⟨pb,0,none⟩)]) rfl hH ?_ (hy:=fun _ hSw=>by(obtain⟨h1,h2⟩:=hSw);go_simp);(try simp only [PU]);refine tk 1 (.pointer (some ⟨q16,0,none⟩)) rfl hH ?_ (hy:=fun _ hSw=>by(obtain⟨h1,h2⟩:=hSw);go_simp);(try simp only [PU]);refine tk 2 (.string d.name) rfl hH ?_ (hy:=fun _ hSw=>by(obtain⟨h1,h2⟩:=hSw);go_simp);(try simp only [PU]);refine tk 4 (.pointer (some ⟨q16,1,none⟩)) rfl hH ?_ (hy:=fun _ hSw=>by(obtain⟨h1,h2⟩:=hSw);go_simp);(try simp only [PU]);refine tk 5 (.string d.text) rfl hH ?_ (hy:=fun _ hSw=>by(obtain⟨h1,h2⟩:=hSw);go_simp);(try simp only [PU]);refine rd 3 rfl (fun K9 hK9=>?_);go_simp;refine(HSL.out q10 pb _ p0).mono ?_;rintro e w7 ⟨rfl,hb⟩;have BL:=BL.trans (hb.mono BL.size);have R6:=(hb.block _ (zl R6)).trans R6;have RM:=(hb.block _ (zl RM)).trans RM;have hF:=hF.below hb;have p0:=keep1 hb p0;have d0:=keep1 hb d0;have d1:=keep1 hb d1;clear hb;refine hK9.out _ _ ⟨d0,d1⟩ (fun hH=>?_);clear hK9;(try simp only [PU]);refine rd 6 rfl (fun K9 hK9=>?_);go_simp;refine(set_w q10 o id d.text _ HSK.out hF hdt (HGL.out _ BL)).mono ?_;rintro e w8 ⟨⟨b8,rfl⟩,hF,hbut,hbb⟩;have BL:=BL.trans (hbb w.heap.size (by omega));have R6:=(hbut.2 _ (zl R6) (by omega)).trans R6;have RM:=(hbut.2 _ (zl RM) (by omega)).trans RM;have p0:=(World.cell?_of_block (a:=⟨pb,0,none⟩) (hbut.2 pb (block_lt_of_cell p0) (by omega))).trans p0;have d0:=(World.cell?_of_block (a:=⟨q16,0,none⟩) (hbut.2 q16 (block_lt_of_cell d0) (by omega))).trans d0;have d1:=(World.cell?_of_block (a:=⟨q16,1,none⟩) (hbut.2 q16 (block_lt_of_cell d1) (by omega))).trans d1;clear hbut hbb;refine hK9.out _ _ ⟨d0,d1⟩ (fun hH=>?_);clear hK9;(try simp only [PU])
       cases b8 with
       |false=>
        refine tk 7 (.bool true) rfl hH ?_ (hy:=fun _ hSw=>by(obtain⟨h1,h2⟩:=hSw);go_simp);(try simp only [PU]);refine tk 8 (.bool true) rfl hH ?_ (hy:=fun _ hSw=>by(obtain⟨h1,h2⟩:=hSw);go_simp);(try simp only [PU]);refine wpAnyH_done (by kernel_rfl) ?_ _
        go_wp2_with(first|(refine wpList_store_row rfl 62 _ _ rfl w.heap.size _ _ R6 rfl rfl (by kernel_rfl) (by rfl) (by simp [Value.oneCell']) ?_;intro w9 h9 _ _ hb9))
        exact bodyPost_ret (results_cell_tmp Tryz.results59 _ _ w.heap.size 62 _ (0,0) _ (.int .i64 3) rfl rfl h9 Tryz.underlying62 rfl (by kernel_rfl)) rfl ⟨⟨z62,3,rfl,feRow_z62,fun h=>absurd h (by first|decide|assumption)⟩,BL.trans (hb9 _ (Nat.le_refl _))⟩
       |true=>
        refine tk 7 (.bool false) rfl hH ?_ (hy:=fun _ hSw=>by(obtain⟨h1,h2⟩:=hSw);go_simp);(try simp only [PU]);refine tk 8 (.bool false) rfl hH ?_ (hy:=fun _ hSw=>by(obtain⟨h1,h2⟩:=hSw);go_simp);(try simp only [PU]);refine wpAnyH_done (by kernel_rfl) ?_ _
        go_wp2_with(first
         |(refine wpList_update_raw _ rfl _ _ _ 146 (.inl rfl) 9 4 und146 (pb+1) es cl rfl RM (.string d.name) (.bool true) rfl rfl (ck9 _) HRR.out ?_;intro w10 hm10 hg10 hs10))
        have BL:=BL.trans (grown_below hg10 (by omega) BL.size);have R6:=(hg10.block w.heap.size (zl R6) (by simp;omega)).trans R6;have hF:=hF.grownMap RM hg10 (by omega);have p0:=(World.cell?_of_block (a:=⟨pb,0,none⟩) (hg10.block pb (block_lt_of_cell p0) (by simp))).trans p0;have HX:=zz (And.intro BL (And.intro R6 (And.intro hF (And.intro p0 hm10))));clear BL R6 hF p0 hm10 hg10 hs10 RM d0 d1
        go_wp2_with fail
        go_roundg (n - 1 - q)
        case rel=>exact⟨q+1,_,_,by have:=HQ.out;omega,by go_num,HX.out.1,HX.out.2.1,HX.out.2.2.1,HX.out.2.2.2.1,HX.out.2.2.2.2,fun e he=>by
         rw [Array.toList_push,List.mem_append]at he
         rcases he with he|he
         ·exact HBM.out e he
         ·rw [List.mem_singleton]at he;subst he;exact⟨⟨_,rfl⟩,rfl⟩,by simp;omega⟩
        case measure=>have:=HQ.out;omega
      ·go_wp2_with(first
        |(at_lookup;refine wpList_lookup_raw _ rfl _ _ 146 false rfl 9 4 und146 (.bool false) Tryz.zeroValue4 (pb+1) es cl rfl RM (.string d.name) rfl (ck9 _) (some (kk,.bool true)) HRR.out (.bool true) rfl ?_)
        |(refine wpList_store_row rfl 62 _ _ rfl w.heap.size _ _ R6 rfl rfl (by kernel_rfl) (by rfl) (by simp [Value.oneCell']) ?_;intro w9 h9 _ _ hb9))
       exact bodyPost_ret (results_cell_tmp Tryz.results59 _ _ w.heap.size 62 _ (0,0) _ (.int .i64 8) rfl rfl h9 Tryz.underlying62 rfl (by kernel_rfl)) rfl ⟨⟨z62,8,rfl,feRow_z62,fun h=>absurd h (by first|decide|assumption)⟩,BL.trans (hb9 _ (Nat.le_refl _))⟩
    ·obtain rfl:q=n:=by have:=HQ.out;omega
     cases hlen:decide (es.size < kx.2.length)with
     |true=>
      go_wp2_with(first
       |(at_len;refine wpList_len_raw _ rfl _ 146 rfl 9 4 und146 (pb+1) es cl rfl RM ?_)
       |(refine wpList_store_row rfl 62 _ _ rfl w.heap.size _ _ R6 rfl rfl (by kernel_rfl) (by rfl) (by simp [Value.oneCell']) ?_;intro w9 h9 _ _ hb9))
      exact bodyPost_ret (results_cell_tmp Tryz.results59 _ _ w.heap.size 62 _ (0,0) _ (.int .i64 9) rfl rfl h9 Tryz.underlying62 rfl (by kernel_rfl)) rfl ⟨⟨z62,9,rfl,feRow_z62,fun h=>absurd h (by first|decide|assumption)⟩,BL.trans (hb9 _ (Nat.le_refl _))⟩
     |false=>
      obtain⟨cs,hrow,hc⟩:=hF;have HCK:=zz (featCheck_w q10 id cs wr hc hid (HGL.out _ BL) (HKA.out _ BL));have HCC:=zz hc
      go_wp2_with(first
       |(at_len;refine wpList_len_raw _ rfl _ 146 rfl 9 4 und146 (pb+1) es cl rfl RM ?_)
       |refine wpList_load_row rfl 62 _ rfl q10 rfl 62 cs (0,0) _ hrow Tryz.underlying62 rfl (by rw [hc.sz];kernel_rfl) ?_)
      refine HCK.out.mono ?_;rintro e w7 ⟨⟨nn,rfl⟩,hb⟩;have BL:=BL.trans (hb.mono BL.size);have R6:=(hb.block _ (zl R6)).trans R6;have hrow:=(hb.block _ (zl hrow)).trans hrow;clear hb HCK RM p0
      by_cases h0:nn=0
      ·subst h0
       go_wp2_with(first
        |refine wpList_load_row rfl 62 _ rfl q10 rfl 62 cs (0,0) _ hrow Tryz.underlying62 rfl (by rw [hc.sz];kernel_rfl) ?_
        |(refine wpList_store_row rfl 62 _ _ rfl w.heap.size _ cs R6 rfl rfl (by rw [hc.sz];kernel_rfl) (by rw [hc.sz];rfl) (Array.all_eq_true_iff_forall_mem.2 (fun u hu=>hc.row.2 u (by simpa using hu))) ?_;intro w9 h9 _ _ hb9))
       exact bodyPost_ret (results_cell_tmp Tryz.results59 _ _ w.heap.size 62 _ (0,0) _ (.int .i64 0) rfl rfl h9 Tryz.underlying62 rfl (by rw [HCC.out.sz];kernel_rfl)) rfl ⟨⟨cs,0,rfl,HCC.out.row,fun _=>HCC.out.h0⟩,BL.trans (hb9 _ (Nat.le_refl _))⟩
      ·have HN0:=zz h0
       go_wp2_with(first|(refine wpList_store_row rfl 62 _ _ rfl w.heap.size _ _ R6 rfl rfl (by kernel_rfl) (by rfl) (by simp [Value.oneCell']) ?_;intro w9 h9 _ _ hb9))
       exact bodyPost_ret (results_cell_tmp Tryz.results59 _ _ w.heap.size 62 _ (0,0) _ (.int .i64 nn) rfl rfl h9 Tryz.underlying62 rfl (by kernel_rfl)) rfl ⟨⟨z62,nn,rfl,feRow_z62,fun h=>absurd h HN0.out⟩,BL.trans (hb9 _ (Nat.le_refl _))⟩
  ·exact absurd hbad (by have:=HK8.out;omega)
theorem validAuthor_eq (s:ByteArray) (hs:s.size≤1000000000000) (w:World):Calls Tryz.prog 138 #[.string s] w fun e w'=>e=.returned (.bool (authB s))∧w=w':=by
 obtain⟨R,hR⟩:∃R,R=authB s:=⟨_,rfl⟩;rw [←hR];have HR:=zz hR;clear hR;go_enter Tryz.func138,Tryz.ntmps138
 go_wp2
 go_loopg [7] s.size (fun gn t7 wr=>∃m:Nat,t7=.int .i64 m∧gn+m=s.size∧authF s gn m=R∧wr=w)
 case atStart=>exact⟨0,rfl,by omega,HR.out.symm,rfl⟩
 case round=>
  obtain⟨G,rfl⟩:∃G,G=gk:=⟨_,rfl⟩;obtain⟨m,rfl,hg,hF,rfl⟩:=hrel;have HF:=zz hF;clear hF
  by_cases h0:(m:Int) < (s.size:Int)
  ·have hl:m < s.size:=by omega
   obtain⟨G',rfl⟩:∃G',G=G'+1:=⟨G - 1,by omega⟩;have HC:=zz (atB_get hl)
   by_cases hm0:m=0
   ·subst hm0
    go_wp2_with fail
    all_goals first
     |(
       go_ret
       refine⟨?_,rfl⟩
       have hb:badA (s[0]).toNat (0)=true:=by
        first
         |(unfold badA;simp only [Bool.not_eq_true',Bool.not_eq_false',decide_eq_false_iff_not,decide_eq_true_eq,beq_iff_eq,beq_eq_false_iff_ne,ne_eq,Bool.and_eq_true,Bool.or_eq_true,Bool.and_eq_false_iff,Bool.or_eq_false_iff]at*;first|done|omega)
         |(simp [badA];omega)
         |(simp [badA];done)
       show Ending.returned (.bool false)=_
       rw [←HF.out,authF,←HC.out,if_pos hb])
     |(have hb:badA (s[0]).toNat (0)=false:=by
        first
         |(unfold badA;simp only [Bool.not_eq_true',Bool.not_eq_false',decide_eq_false_iff_not,decide_eq_true_eq,beq_iff_eq,beq_eq_false_iff_ne,ne_eq,Bool.and_eq_true,Bool.or_eq_true,Bool.and_eq_false_iff,Bool.or_eq_false_iff]at*;first|done|omega)
         |(simp [badA];omega)
         |(simp [badA];done)
       go_roundg G'
       case rel=>exact⟨0+1,by first|rfl|go_num,by omega,by rw [←HF.out,authF,←HC.out,hb];rfl,rfl⟩
       case measure=>omega)
   ·have hz:((m:Int)==0)=false:=by simpa using hm0
    go_wp2_with fail
    all_goals first
     |(
       go_ret
       refine⟨?_,rfl⟩
       have hb:badA (s[m]).toNat (m)=true:=by
        first
         |(unfold badA;simp only [Bool.not_eq_true',Bool.not_eq_false',decide_eq_false_iff_not,decide_eq_true_eq,beq_iff_eq,beq_eq_false_iff_ne,ne_eq,Bool.and_eq_true,Bool.or_eq_true,Bool.and_eq_false_iff,Bool.or_eq_false_iff]at*;first|done|omega)
         |(simp [badA];omega)
         |(simp [badA];done)
       show Ending.returned (.bool false)=_
       rw [←HF.out,authF,←HC.out,if_pos hb])
     |(have hb:badA (s[m]).toNat (m)=false:=by
        first
         |(unfold badA;simp only [Bool.not_eq_true',Bool.not_eq_false',decide_eq_false_iff_not,decide_eq_true_eq,beq_iff_eq,beq_eq_false_iff_ne,ne_eq,Bool.and_eq_true,Bool.or_eq_true,Bool.and_eq_false_iff,Bool.or_eq_false_iff]at*;first|done|omega)
         |(simp [badA];omega)
         |(simp [badA];done)
       go_roundg G'
       case rel=>exact⟨m+1,by first|rfl|go_num,by omega,by rw [←HF.out,authF,←HC.out,hb];rfl,rfl⟩
       case measure=>omega)
  ·obtain rfl:G=0:=by omega
   have hd:decide ((m:Int) < (s.size:Int))=false:=by simpa using h0
   have hR:R=(decide (0 < s.size)&&decide (s.size≤24)):=by rw [←HF.out,authF]
   have HR2:=zz hR;clear hR hg hd
   by_cases g1:1≤s.size
   ·have d1:decide ((1:Int)≤(s.size:Int))=true:=by rw [decide_eq_true_eq];omega
    by_cases g2:s.size≤24
    ·have d2:decide ((s.size:Int)≤24)=true:=by rw [decide_eq_true_eq];omega
     have e:R=true:=by rw [HR2.out];simp;omega
     have E:=zz e;clear e
     go_wp2_with fail
     go_ret
     exact⟨by rw [E.out];rfl,rfl⟩
    ·have d2:decide ((s.size:Int)≤24)=false:=by rw [decide_eq_false_iff_not];omega
     have e:R=false:=by rw [HR2.out];simp;omega
     have E:=zz e;clear e
     go_wp2_with fail
     go_ret
     exact⟨by rw [E.out];rfl,rfl⟩
   ·have d1:decide ((1:Int)≤(s.size:Int))=false:=by rw [decide_eq_false_iff_not];omega
    have e:R=false:=by rw [HR2.out];simp;omega
    have E:=zz e;clear e
    go_wp2_with fail
    go_ret
    exact⟨by rw [E.out];rfl,rfl⟩
theorem valid_eq (a:ByteArray) (n:Int) (ha:a.size≤1000000000) (hv:authB a=true) (h1:1≤n) (h9:n≤1000000000) (w:World):Calls Tryz.prog 95 #[.agg #[.string a,.int .i64 n]] w fun e w'=>e=.returned (.bool true)∧Below w.heap.size w w':=by
 have BL:=(Below.refl w.heap.size w).alloc (Nat.le_refl _) (.cells #[.string a,.int .i64 n] 38);have HA:=validAuthor_eq a (by omega);rw [hv]at HA;have HA:=zz HA;clear hv;go_enter Tryz.func95,Tryz.ntmps95
 go_wp2_with fail
 refine(HA.out _).mono ?_;rintro e w4 ⟨rfl,rfl⟩
 go_wp2_with fail
 go_ret
 exact⟨rfl,BL⟩
def nameF (x:IdD):ByteArray:=x.a++⟨#[46]⟩++⟨(Lib.itoa x.n).toArray⟩
theorem digit_at (u:Nat) (h:u < 10):(ByteArray.mk #[48,49,50,51,52,53,54,55,56,57]).extract u (u+1)=⟨(Lib.decDigits u).toArray⟩:=by
 rw [Lib.decDigits,dif_pos h]
 match u,h with
 |0,_=>rfl
 |1,_=>rfl
 |2,_=>rfl
 |3,_=>rfl
 |4,_=>rfl
 |5,_=>rfl
 |6,_=>rfl
 |7,_=>rfl
 |8,_=>rfl
 |9,_=>rfl
theorem dec_cat (u:Nat) (h:¬u < 10):(⟨(Lib.decDigits (u / 10)).toArray⟩:ByteArray)++⟨(Lib.decDigits (u%10)).toArray⟩=⟨(Lib.decDigits u).toArray⟩:=by
 have e:Lib.decDigits (u%10)= [UInt8.ofNat (48+u%10)]:=by rw [Lib.decDigits,dif_pos (by omega)]
 rw [e]
 conv=>rhs;rw [Lib.decDigits,dif_neg h]
 apply bytes_inj
 rw [ByteArray.toList_eq,ByteArray.toList_eq];simp
theorem dec_eq:∀(m u:Nat) (w:World),u≤m→u≤1000000000→Calls Tryz.prog 42 #[.int .i64 u] w fun e w'=>e=.returned (.string ⟨(Lib.decDigits u).toArray⟩)∧w=w':=by
 intro m
 induction m with
 |zero=>
  intro u w hu _;obtain rfl:u=0:=by omega
  go_enter Tryz.func42,Tryz.ntmps42
  go_wp2_with fail
  go_ret
  exact⟨by rw [←digit_at 0 (by omega)];rfl,rfl⟩
 |succ m ih=>
  intro u w hu hle;have IH:=zz ih;clear ih
  by_cases h:u < 10
  ·have hu0:¬(u:Int) < 0:=by omega
   have hu10:(u:Int) < 10:=by omega
   have hD:=zz (digit_at u h);go_enter Tryz.func42,Tryz.ntmps42
   go_wp2_with fail
   go_ret
   exact⟨by rw [←hD.out];rfl,rfl⟩
  ·have hu0:decide ((u:Int) < 0)=false:=by rw [decide_eq_false_iff_not];omega
   have hu10:decide ((u:Int) < 10)=false:=by rw [decide_eq_false_iff_not];omega
   have H1:=zz (fun W=>IH.out (u / 10) W (by omega) (by omega));have H2:=zz (fun W=>IH.out (u%10) W (by omega) (by omega));have hD:=zz (dec_cat u h);have e1:((u / 10:Nat):Int)=(u:Int) / 10:=by omega
   have e2:((u%10:Nat):Int)=(u:Int)%10:=by omega
   rw [e1]at H1;rw [e2]at H2;have hl1:(ByteArray.mk (Lib.decDigits (u / 10)).toArray).size≤21:=by rw [size_mk];have h9:=Lib.itoa_length_le ((u / 10:Nat):Int) (by omega) (by omega);rw [Lib.itoa_nonneg]at h9;exact h9
   have hl2:(ByteArray.mk (Lib.decDigits (u%10)).toArray).size≤21:=by rw [size_mk];have h9:=Lib.itoa_length_le ((u%10:Nat):Int) (by omega) (by omega);rw [Lib.itoa_nonneg]at h9;exact h9
   rw [←hD.out];generalize(ByteArray.mk (Lib.decDigits (u / 10)).toArray)=A at*
   generalize(ByteArray.mk (Lib.decDigits (u%10)).toArray)=B at*
   clear e1 e2;go_enter Tryz.func42,Tryz.ntmps42
   go_wp2_with fail
   refine(H1.out _).mono ?_;rintro e w4 ⟨rfl,rfl⟩
   go_wp2_with fail
   refine(H2.out _).mono ?_;rintro e w5 ⟨rfl,rfl⟩
   go_wp2_with fail
   go_ret
   exact⟨rfl,rfl⟩
theorem name_eq (x:IdD) (w:World) (ha:x.a.size≤1000000000) (hv:authB x.a=true) (h1:1≤x.n) (h9:x.n≤1000000000):Calls Tryz.prog 16 #[.agg #[.string x.a,.int .i64 x.n]] w fun e w'=>e=.returned (.string (nameF x))∧Below w.heap.size w w':=by
 obtain⟨a,n⟩:=x;simp only at ha hv h1 h9;have BL:=(Below.refl w.heap.size w).alloc (Nat.le_refl _) (.cells #[.string a,.int .i64 n] 38);have R1:(w.alloc (.cells #[.string a,.int .i64 n] 38)).heap[w.heap.size]? =_:=zg _ _ _ rfl;have HM:=rMay_eq a n (by omega);have hm:mayB a n=true:=by unfold mayB;rw [hv];simp;omega
 rw [hm]at HM;have HM:=zz HM;obtain⟨u,rfl⟩:∃u:Nat,n=(u:Int):=⟨n.toNat,by omega⟩;have HD:=zz (fun W=>dec_eq u u W (Nat.le_refl _) (by omega));have hl:(ByteArray.mk (Lib.decDigits u).toArray).size≤21:=by rw [size_mk];have h9:=Lib.itoa_length_le (u:Int) (by omega) (by omega);rw [Lib.itoa_nonneg]at h9;exact h9
 unfold nameF;simp only [Lib.itoa_nonneg];generalize(ByteArray.mk (Lib.decDigits u).toArray)=D at*
 have q1:¬(9223372036854775807 < a.size+1):=by omega
 have q2:¬(9223372036854775807≤a.size):=by omega
 have q3:¬(9223372036854775807 < a.size+1+D.size):=by omega
 have HB:=zz (And.intro BL R1);clear BL R1 hv hm;go_enter Tryz.func16,Tryz.ntmps16
 go_wp2_with fail
 refine(HM.out _).mono ?_;rintro e w4 ⟨rfl,hb⟩;have BL:=HB.out.1.trans (hb.mono HB.out.1.size);have R1:w4.drew.heap[w.heap.size]? =_:=(hb.block _ (zl HB.out.2)).trans HB.out.2;clear hb HM
 go_wp2_with fail
 go_region_held3 (fun w'=>w'.cell? ⟨w.heap.size,0,none⟩=some (.string a)∧w'.cell? ⟨w.heap.size,1,none⟩=some (.int .i64 u))
  (first
   |with_reducible exact two_cells R1
   |go_keep)
  (first
   |(go_at_call 42;with_reducible refine(HD.out _).mono ?_;rintro e w1 ⟨rfl,rfl⟩))
 all_goals go_wp2
 all_goals go_ret
 all_goals exact⟨rfl,BL.drew⟩
theorem formatId_eq (x:IdD) (w:World) (hG:Globs w) (ha:x.a.size≤1000000000) (hv:authB x.a=true) (h1:1≤x.n) (h9:x.n≤1000000000):Calls Tryz.prog 58 #[.agg #[.string x.a,.int .i64 x.n]] w fun e w'=>e=.returned (.string (nameF x))∧Below w.heap.size w w':=by
 obtain⟨a,n⟩:=x;simp only at ha hv h1 h9;have BL:=(Below.refl w.heap.size w).alloc (Nat.le_refl _) (.cells #[.string a,.int .i64 n] 38);have R1:(w.alloc (.cells #[.string a,.int .i64 n] 38)).heap[w.heap.size]? =_:=zg _ _ _ rfl;have HM:=zz (fun W=>valid_eq a n ha hv h1 h9 W);have HD:=zz (fun W (hb:Below w.heap.size w W)=>itoa_w n (by omega) (by omega) W (hG.below hb));have hl:(ByteArray.mk (Lib.itoa n).toArray).size≤21:=by rw [size_mk];exact Lib.itoa_length_le n (by omega) (by omega)
 unfold nameF;simp only;generalize(ByteArray.mk (Lib.itoa n).toArray)=D at*
 have q1:¬(9223372036854775807 < a.size+1):=by omega
 have q2:¬(9223372036854775807≤a.size):=by omega
 have q3:¬(9223372036854775807 < a.size+1+D.size):=by omega
 have HB:=zz (And.intro BL R1);clear BL R1 hv hG;go_enter Tryz.func58,Tryz.ntmps58
 go_wp2_with fail
 refine(HM.out _).mono ?_;rintro e w4 ⟨rfl,hb⟩;have BL:=(HB.out.1.trans (hb.mono HB.out.1.size)).drew;have R1:w4.drew.heap[w.heap.size]? =_:=(hb.block _ (zl HB.out.2)).trans HB.out.2;clear hb HM
 go_wp2_with fail
 go_region_held3 (fun w'=>w'.cell? ⟨w.heap.size,0,none⟩=some (.string a)∧w'.cell? ⟨w.heap.size,1,none⟩=some (.int .i64 n))
  (first
   |with_reducible exact two_cells R1
   |go_keep)
  (first
   |(go_at_call 96;with_reducible refine(HD.out _ BL).mono ?_;rintro e w1 ⟨rfl,hb⟩;have R1:=(hb.block _ (zl R1)).trans R1;have BL:=BL.trans (hb.mono BL.size)))
 all_goals go_wp2
 all_goals go_ret
 all_goals exact⟨rfl,BL⟩
end Go.Proofs.YteigcnamkfebgaaGreatDoor
