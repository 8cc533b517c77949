import Derived.Test.YteigcnamkfebgaaGreatDoorIH
set_option linter.all false
set_option maxHeartbeats 25600000
namespace Go.Proofs.YteigcnamkfebgaaGreatDoor
open Go.RowKit
theorem fields_w (k:Int) (w0 w:World) (KA:KAll w0) (hb0:Below w0.heap.size w0 w):Calls Tryz.prog 98 #[.int .i64 k] w fun e w'=>((∃(i:Nat) (x:ByteArray×List ByteArray),kindTab2[i]? =some x∧∃b o c,e=.returned (.tuple #[.slice (some ⟨b,o,none⟩) x.2.length c,.bool true])∧∀(j:Nat) (s:ByteArray),x.2[j]? =some s→w0.cell? ⟨b,o+j,none⟩=some (.string s))∨(e=.returned (.tuple #[.slice none 0 0,.bool false])∧(k < 1∨8 < k)))∧w=w':=by
 obtain⟨kb,ko,cap,g,hK⟩:=KA;have HK:=zz hK;have g:=keep1 hb0 g;clear hK
 by_cases h1:k < 1
 ·have d1:decide (k < 1)=true:=by simpa using h1
  go_enter Tryz.func98,Tryz.ntmps98
  go_wp2_with fail
  go_ret2
  exact⟨.inr ⟨rfl,.inl h1⟩,rfl⟩
 ·have d1:decide (k < 1)=false:=by simpa using h1
  by_cases h8:8 < k
  ·have d8:decide ((8:Int) < k)=true:=by simpa using h8
   have H8:=zz h8;clear h8;go_enter Tryz.func98,Tryz.ntmps98
   go_wp2_with fail
   go_ret2
   first
    |exact⟨.inr ⟨rfl,.inr H8.out⟩,rfl⟩
    |exact⟨.inr rfl,rfl⟩
  ·have d8:decide ((8:Int) < k)=false:=by simpa using h8
   obtain⟨i,hi⟩:∃i:Nat,k=(i:Int)+1:=⟨(k - 1).toNat,by omega⟩;have hi8:i < 8:=by omega
   obtain⟨x,hx⟩:∃x,kindTab2[i]? =some x:=⟨_,List.getElem?_eq_getElem (by show i < 8;exact hi8)⟩;obtain⟨_,b,o,c,h2,h3⟩:=HK.out i x hx;have h2:=keep1 hb0 h2;have HX:=zz (And.intro hx h3);have hw:IntKind.i64.wrap (k - 1)=(i:Int):=by rw [IntKind.wrap_i64];omega
   have hiZ:(i:Int) < 8:=by omega
   clear hx h3 hi h1 h8;go_enter Tryz.func98,Tryz.ntmps98
   go_wp2_with fail
   go_ret2
   exact⟨.inl ⟨i,x,HX.out.1,b,o,c,rfl,HX.out.2⟩,rfl⟩
theorem equalS_w (ss tt:List ByteArray) (a1 a2:Option Addr) (n1 c1 n2 c2:Nat) (w:World) (h1:strY.Rd w (.slice a1 n1 c1) ss) (h2:strY.Rd w (.slice a2 n2 c2) tt) (hn:ss.length≤1000000000):Calls Tryz.prog 183 #[.slice a1 n1 c1,.slice a2 n2 c2] w fun e w'=>IsB e∧∃m,w'=w.drewN m:=by
 have hn1:n1=ss.length:=h1.len;have hn2:n2=tt.length:=h2.len;have H1:=zz (And.intro h1 hn1);have H2:=zz (And.intro h2 hn2);have hle:n1≤1000000000:=by omega
 clear h1 h2 hn1 hn2 hn
 by_cases hne:n1=n2
 ·subst hne;have d0:decide (n1=n1)=true:=by simp
  go_enter Tryz.func183,Tryz.ntmps183
  go_wp2
  go_loopg [5,13] n1 (fun gn t5 t13 wr=>∃k m:Nat,k+gn=n1∧t13=.int .i64 k∧wr=w.drewN m)
  case atStart=>exact⟨0,0,by omega,rfl,rfl⟩
  case round=>
   obtain⟨G,rfl⟩:∃G,G=gk:=⟨_,rfl⟩;obtain⟨k,m,hk,rfl,rfl⟩:=hrel;have HK:=zz hk;clear hk
   by_cases hlt:k < n1
   ·obtain⟨x,hx⟩:∃x,ss[k]? =some x:=⟨_,List.getElem?_eq_getElem (by rw [←H1.out.2];exact hlt)⟩;obtain⟨y,hy⟩:∃y,tt[k]? =some y:=⟨_,List.getElem?_eq_getElem (by rw [←H2.out.2];exact hlt)⟩
    obtain⟨b,off,rfl,hr⟩:∃b off,a1=some ⟨b,off,none⟩∧w.rangeAt b off (strY.flat ss):=by
     rcases H1.out.1 with⟨h1,h2⟩|⟨b,off,cap,h1,h2,h3⟩
     ·rw [h2]at hx;cases hx
     ·simp at h1;exact⟨b,off,h1.1,h3⟩
    obtain⟨b',off',rfl,hr'⟩:∃b off,a2=some ⟨b,off,none⟩∧w.rangeAt b off (strY.flat tt):=by
     rcases H2.out.1 with⟨h1,h2⟩|⟨b,off,cap,h1,h2,h3⟩
     ·rw [h2]at hy;cases hy
     ·simp at h1;exact⟨b,off,h1.1,h3⟩
    have q0:w.cell? ⟨b,off+k,none⟩=some (.string x):=by
     have h:w.cell? ⟨b,off+k*1+0,none⟩=some (.string x):=strY.elem hr k x hx 0 _ rfl
     simpa using h
    have q1:w.cell? ⟨b',off'+k,none⟩=some (.string y):=by
     have h:w.cell? ⟨b',off'+k*1+0,none⟩=some (.string y):=strY.elem hr' k y hy 0 _ rfl
     simpa using h
    have hltZ:(k:Int) < (n1:Int):=by omega
    clear hr hr' hx hy
    cases he:(x.toList==y.toList)with
    |true=>
     go_wp2_with fail
     go_quiet (fail)
     go_wp2_with fail
     go_roundg (n1 - 1 - k)
     case rel=>exact⟨k+1,m+nq,by have:=HK.out;omega,by go_num,by first|rfl|exact World.drewN_drewN _ _ _⟩
     case measure=>have:=HK.out;omega
    |false=>
     go_wp2_with fail
     go_quiet (fail)
     go_wp2_with fail
     go_ret
     exact⟨isB _,m+nq,by first|rfl|exact World.drewN_drewN _ _ _⟩
   ·obtain rfl:k=n1:=by have:=HK.out;omega
    go_wp2_with fail
    go_ret
    exact⟨isB _,_,rfl⟩
 ·have hneZ:¬(n1:Int)=(n2:Int):=by omega
  go_enter Tryz.func183,Tryz.ntmps183
  go_wp2_with fail
  go_ret
  exact⟨isB _,0,rfl⟩
set_option maxRecDepth 100000 in
theorem sound_w (fb o:Nat) (id:ByteArray) (cs:Array Value) (k:Int) (field:ByteArray) (w:World) (ho:SlotOk o) (hF:FeM w fb id) (h0:cs[0]? =some (.string id)) (h1:cs[1]? =some (.int .i64 k)) (hid:id.size≤1000000000) (hG:Globs w):
  Calls Tryz.prog 145 #[.agg cs,.string field,.agg (slotV fb o)] w fun e w'=>IsI e∧Below w.heap.size w w':=by
 have B0:Below w.heap.size w ((w.alloc (.cells cs 62)).alloc (.cells (slotV fb o) 150)):=((Below.refl _ w).alloc (Nat.le_refl _) _).alloc (by simp) _;have R3:((w.alloc (.cells cs 62)).alloc (.cells (slotV fb o) 150)).heap[w.heap.size]? =_:=zo _ _ _ _ (zg _ _ _ rfl);have R5:((w.alloc (.cells cs 62)).alloc (.cells (slotV fb o) 150)).heap[w.heap.size+1]? =_:=zg _ _ _ (by simp);have HGT:=zz (get_w fb o id _ ho (hF.below B0));have HGL:=zz (fun(W:World) (hb:Below w.heap.size w W)=>hG.below hb);have HFM:=zz (fun(W:World) (hb:Below w.heap.size w W)=>hF.below hb);have HB:=zz (And.intro B0 (And.intro R3 R5));have i0:=(FeM.cell R3 h0);have i1:=(FeM.cell R3 h1);have HC:=zz (And.intro h0 h1);clear hF hG B0 R3 R5 h0 h1
 rcases(show(o=2∨o=4)∨(6≤o∧o≤11) by unfold SlotOk at ho;omega)with h|h
 ·rw [slotV_ref h]at HGT HB i0 i1⊢;obtain⟨b0,b1⟩:=two_cells HB.out.2.2;go_enter Tryz.func145,Tryz.ntmps145
  go_wp2_with fail
  refine HGT.out.mono ?_;rintro e w4 ⟨⟨text,rfl,htx⟩,hb⟩;have BL:=HB.out.1.trans (hb.mono HB.out.1.size);have R3:=(hb.block _ (zl HB.out.2.1)).trans HB.out.2.1;have R5:=(hb.block _ (zl HB.out.2.2)).trans HB.out.2.2;clear hb HGT b0 b1 i0 i1;obtain⟨b0,b1⟩:=two_cells R5;have HP:=zz (resParse_w text (by omega) w4 (HGL.out _ BL));have HBR:=zz (And.intro BL (And.intro R3 R5));clear BL R3 R5
  go_wp2_with fail
  with_reducible refine HP.out.mono ?_
  rintro e w5 ⟨⟨t,a,n,c,ss,bo,rfl,hrd,hsz,_⟩,hb⟩;have BL:=HBR.out.1.trans (hb.mono HBR.out.1.size);have R3:=(hb.block _ (zl HBR.out.2.1)).trans HBR.out.2.1;have R5:=(hb.block _ (zl HBR.out.2.2)).trans HBR.out.2.2;clear hb HP b0 b1;have BL:=BL.alloc BL.size (.cells #[.string t,.slice a n c] 59);have R3:=zo _ _ (.cells #[.string t,.slice a n c] 59) _ R3;have R5:=zo _ _ (.cells #[.string t,.slice a n c] 59) _ R5;have R8:(w5.alloc (.cells #[.string t,.slice a n c] 59)).heap[w5.heap.size]? =_:=zg _ _ _ rfl;have hrd:=hrd.alloc (.cells #[.string t,.slice a n c] 59);obtain⟨cs2,hrow,hc⟩:=HFM.out _ BL;obtain⟨t2,a2,n2,c2,ss2,g1,g2,g3⟩:=hc.rf o h;have HEQ:=zz (fun(W:World) (hb:Below (w5.alloc (.cells #[.string t,.slice a n c] 59)).heap.size (w5.alloc (.cells #[.string t,.slice a n c] 59)) W)=>equalS_w ss ss2 a a2 n c n2 c2 W (hrd.below hb) (g3.1.below hb) (by omega));obtain⟨k2,_⟩:=two_cells R5;obtain⟨k0,k1⟩:=two_cells R8;have k3:=FeM.cell hrow g1;have k4:=FeM.cell hrow g2;have i0:=FeM.cell R3 HC.out.1;have i1:=FeM.cell R3 HC.out.2;have HBL:=zz BL;have HNW:=zz (fun(W:World) (hb:Below w.heap.size w W)=>newTerm_w id text 0 hid (by omega) W (HGL.out W hb));clear BL R3 R5 R8 hrd hrow hc g1 g2 g3 hsz HGL HFM HBR HB
  cases bo with
  |false=>
   go_wp2_with fail
   go_quiet (fail)
   go_wp2_with fail
   go_ret
   exact⟨isI _,Below_drewN HBL.out _⟩
  |true=>
   cases ht:(t.toList==t2.toList)with
   |false=>
    go_wp2_with fail
    go_quiet (fail)
    go_wp2_with fail
    go_ret
    exact⟨isI _,Below_drewN HBL.out _⟩
   |true=>
    go_wp2_with fail
    refine wp_region_held_drew (S:=fun w'=>w'.cell? ⟨w5.heap.size,0,none⟩=some (.string t)∧w'.cell? ⟨w5.heap.size,1,none⟩=some (.slice a n c)∧w'.cell? ⟨w.heap.size+1,0,none⟩=some (.pointer (some ⟨fb,o,none⟩))∧w'.cell? ⟨fb,o,none⟩=some (.string t2)∧w'.cell? ⟨fb,o+1,none⟩=some (.slice a2 n2 c2)) (by kernel_rfl) ⟨k0,k1,k2,k3,k4⟩ (fun hH=>?_);refine tk 0 (.bool true) rfl hH ?_ (hy:=fun _ hSw=>by(obtain⟨h1,h2,h3,h4,h5⟩:=hSw);go_simp);(try simp only [PU]);refine tk 1 (.bool false) rfl hH ?_ (hy:=fun _ hSw=>by(obtain⟨h1,h2,h3,h4,h5⟩:=hSw);go_simp);(try simp only [PU]);refine tk 2 (.bool false) rfl hH ?_ (hy:=fun _ hSw=>by(obtain⟨h1,h2,h3,h4,h5⟩:=hSw);go_simp);(try simp only [PU]);refine tk 3 (.pointer (some ⟨w5.heap.size,0,none⟩)) rfl hH ?_ (hy:=fun _ hSw=>by(obtain⟨h1,h2,h3,h4,h5⟩:=hSw);go_simp);(try simp only [PU]);refine tk 4 (.string t) rfl hH ?_ (hy:=fun _ hSw=>by(obtain⟨h1,h2,h3,h4,h5⟩:=hSw);go_simp);(try simp only [PU]);refine tk 5 (.pointer (some ⟨w.heap.size+1,0,none⟩)) rfl hH ?_ (hy:=fun _ hSw=>by(obtain⟨h1,h2,h3,h4,h5⟩:=hSw);go_simp);(try simp only [PU]);refine tk 6 (.pointer (some ⟨fb,o,none⟩)) rfl hH ?_ (hy:=fun _ hSw=>by(obtain⟨h1,h2,h3,h4,h5⟩:=hSw);go_simp);(try simp only [PU]);refine tk 7 (.pointer (some ⟨fb,o,none⟩)) rfl hH ?_ (hy:=fun _ hSw=>by(obtain⟨h1,h2,h3,h4,h5⟩:=hSw);go_simp);(try simp only [PU]);refine tk 8 (.pointer (some ⟨fb,o,none⟩)) rfl hH ?_ (hy:=fun _ hSw=>by(obtain⟨h1,h2,h3,h4,h5⟩:=hSw);go_simp);(try simp only [PU]);refine tk 9 (.string t2) rfl hH ?_ (hy:=fun _ hSw=>by(obtain⟨h1,h2,h3,h4,h5⟩:=hSw);go_simp);(try simp only [PU]);refine tk 10 (.bool false) rfl hH ?_ (hy:=fun _ hSw=>by(obtain⟨h1,h2,h3,h4,h5⟩:=hSw);go_simp);(try simp only [PU]);refine tk 11 (.bool false) rfl hH ?_ (hy:=fun _ hSw=>by(obtain⟨h1,h2,h3,h4,h5⟩:=hSw);go_simp);(try simp only [PU]);refine tk 12 (.bool false) rfl hH ?_ (hy:=fun _ hSw=>by(obtain⟨h1,h2,h3,h4,h5⟩:=hSw);go_simp);(try simp only [PU]);refine tk 13 (.pointer (some ⟨w5.heap.size,1,none⟩)) rfl hH ?_ (hy:=fun _ hSw=>by(obtain⟨h1,h2,h3,h4,h5⟩:=hSw);go_simp);(try simp only [PU]);refine tk 14 (.slice a n c) rfl hH ?_ (hy:=fun _ hSw=>by(obtain⟨h1,h2,h3,h4,h5⟩:=hSw);go_simp);(try simp only [PU]);refine tk 15 (.pointer (some ⟨w.heap.size+1,0,none⟩)) rfl hH ?_ (hy:=fun _ hSw=>by(obtain⟨h1,h2,h3,h4,h5⟩:=hSw);go_simp);(try simp only [PU]);refine tk 16 (.pointer (some ⟨fb,o,none⟩)) rfl hH ?_ (hy:=fun _ hSw=>by(obtain⟨h1,h2,h3,h4,h5⟩:=hSw);go_simp);(try simp only [PU]);refine tk 17 (.pointer (some ⟨fb,o,none⟩)) rfl hH ?_ (hy:=fun _ hSw=>by(obtain⟨h1,h2,h3,h4,h5⟩:=hSw);go_simp);(try simp only [PU]);refine tk 18 (.pointer (some ⟨fb,o+1,none⟩)) rfl hH ?_ (hy:=fun _ hSw=>by(obtain⟨h1,h2,h3,h4,h5⟩:=hSw);go_simp);(try simp only [PU]);refine tk 19 (.slice a2 n2 c2) rfl hH ?_ (hy:=fun _ hSw=>by(obtain⟨h1,h2,h3,h4,h5⟩:=hSw);go_simp);(try simp only [PU]);refine rd 20 rfl (fun K9 hK9=>?_);go_simp;refine(HEQ.out _ (by first|exact(Below.refl _ _).drew|exact Below_drewN (Below.refl _ _) _)).mono ?_;rintro e w9 ⟨⟨be,rfl⟩,m9,rfl⟩;refine hK9.out _ _ ⟨k0,k1,k2,k3,k4⟩ (fun hH=>?_);clear hK9;(try simp only [PU])
    cases be with
    |false=>
     refine tk 21 (.bool true) rfl hH ?_ (hy:=fun _ hSw=>by(obtain⟨h1,h2,h3,h4,h5⟩:=hSw);go_simp);(try simp only [PU]);refine tk 22 (.bool true) rfl hH ?_ (hy:=fun _ hSw=>by(obtain⟨h1,h2,h3,h4,h5⟩:=hSw);go_simp);(try simp only [PU]);refine wpAnyH_done (by kernel_rfl) ?_ _
     go_wp2_with fail
     go_ret
     exact⟨isI _,by first|exact Below_drewN HBL.out _|exact Below_drewN HBL.out.drew _⟩
    |true=>
     refine tk 21 (.bool false) rfl hH ?_ (hy:=fun _ hSw=>by(obtain⟨h1,h2,h3,h4,h5⟩:=hSw);go_simp);(try simp only [PU]);refine tk 22 (.bool false) rfl hH ?_ (hy:=fun _ hSw=>by(obtain⟨h1,h2,h3,h4,h5⟩:=hSw);go_simp);(try simp only [PU]);refine wpAnyH_done (by kernel_rfl) ?_ _;have HBL:RowKit.Hid (Below w.heap.size w ((w5.alloc (.cells #[.string t,.slice a n c] 59)).drewN (1+m9))):=zz (Below_drewN HBL.out _)
     cases e0:text.toList.isEmpty with
     |true=>
      go_wp2_with fail
      go_ret
      exact⟨isI _,HBL.out⟩
     |false=>
      cases e1:decide ((2000:Int) < (text.size:Int))with
      |true=>
       go_wp2_with fail
       go_ret
       exact⟨isI _,HBL.out⟩
      |false=>
       go_wp2_with fail
       all_goals first
        |(go_ret;exact⟨isI _,HBL.out⟩)
        |(
          refine(HNW.out _ HBL.out).mono ?_;rintro e w9 ⟨⟨r9,n9,rfl⟩,hb9⟩;have BL9:=HBL.out.trans (hb9.mono HBL.out.size)
          go_wp2_with fail
          all_goals (go_ret;exact⟨isI _,BL9⟩))
 ·rw [slotV_str h.1]at HGT HB i0 i1⊢;obtain⟨b0,b1⟩:=two_cells HB.out.2.2;go_enter Tryz.func145,Tryz.ntmps145
  go_wp2_with fail
  refine HGT.out.mono ?_;rintro e w4 ⟨⟨text,rfl,htx⟩,hb⟩;have BL:=HB.out.1.trans (hb.mono HB.out.1.size);have R3:=(hb.block _ (zl HB.out.2.1)).trans HB.out.2.1;have R5:=(hb.block _ (zl HB.out.2.2)).trans HB.out.2.2;clear hb HGT b0 b1 i0 i1;obtain⟨b0,b1⟩:=two_cells R5;have i0:=FeM.cell R3 HC.out.1;have i1:=FeM.cell R3 HC.out.2;have HBL:=zz BL;have HNW:=zz (fun(W:World) (hb:Below w.heap.size w W)=>newTerm_w id text 0 hid (by omega) W (HGL.out W hb));clear BL R3 R5 HGL HFM HB
  cases e0:text.toList.isEmpty with
  |true=>
   go_wp2_with fail
   go_ret
   exact⟨isI _,HBL.out⟩
  |false=>
   cases e1:decide ((2000:Int) < (text.size:Int))with
   |true=>
    go_wp2_with fail
    go_ret
    exact⟨isI _,HBL.out⟩
   |false=>
    go_wp2_with fail
    all_goals first
     |(go_ret;exact⟨isI _,HBL.out⟩)
     |(
       refine(HNW.out _ HBL.out).mono ?_;rintro e w9 ⟨⟨r9,n9,rfl⟩,hb9⟩;have BL9:=HBL.out.trans (hb9.mono HBL.out.size)
       go_wp2_with fail
       all_goals (go_ret;exact⟨isI _,BL9⟩))
theorem places_eq (b:Nat) (w:World):Calls Tryz.prog 99 #[.pointer (some ⟨b,0,none⟩)] w fun e w'=>e=.returned (.func (.func 140) #[] #[.pointer (some ⟨w.heap.size,0,none⟩)])∧w'=w.alloc (.cells #[.pointer (some ⟨b,0,none⟩)] 145):=by
 go_enter Tryz.func99,Tryz.ntmps99
 go_wp2;go_ret
 exact⟨rfl,rfl⟩
theorem FeC.to {w w':World} {fb fb':Nat} {id:ByteArray} {cs:Array Value} (h:FeC w fb id cs) (hb:Below w.heap.size w w') (hf:w.heap.size≤fb'):FeC w' fb' id cs:=
 ⟨h.sz,h.h0,h.h1,fun o ho=>by
  obtain⟨t,a,n,c,ss,g1,g2,g3,g4,g5,g6⟩:=h.rf o ho
  exact⟨t,a,n,c,ss,g1,g2,g3.below hb,g4,g5,fun ad hd=>⟨by have:=(g6 ad hd).2;omega,Nat.lt_of_lt_of_le (g6 ad hd).2 hb.size⟩⟩,h.st⟩
set_option maxRecDepth 100000 in
theorem featCheck_w (fb:Nat) (id:ByteArray) (cs:Array Value) (w:World) (hc:FeC w fb id cs) (hid:id.size≤1000000000) (hG:Globs w) (KA:KAll w):Calls Tryz.prog 102 #[.agg cs] w fun e w'=>IsI e∧Below w.heap.size w w':=by
 obtain⟨k,h1⟩:=hc.h1;have B0:Below w.heap.size w (w.alloc (.cells cs 62)):=(Below.refl _ w).alloc (Nat.le_refl _) _;have R1:(w.alloc (.cells cs 62)).heap[w.heap.size]? =_:=zg _ _ _ rfl;have HC:=zz hc;have HFM:=zz (fun(W:World) (hb:Below w.heap.size w W) (hr:W.heap[w.heap.size]? =some (.cells cs 62 (0,0)))=>(show FeM W w.heap.size id from⟨cs,hr,hc.to hb (Nat.le_refl _)⟩));have HN:=zz (newTerm_w id ⟨#[115,105,100,101]⟩ 0 hid (by decide) _ (hG.below B0));have HFD:=zz (fun(W:World) (hb:Below w.heap.size w W)=>fields_w k w W KA hb);have HSO:=zz (fun(o:Nat) (x:ByteArray) (W:World) (ho:SlotOk o) (hb:Below w.heap.size w W) (hr:W.heap[w.heap.size]? =some (.cells cs 62 (0,0)))=>sound_w w.heap.size o id cs k x W ho ⟨cs,hr,hc.to hb (Nat.le_refl _)⟩ hc.h0 h1 hid (hG.below hb));have HH:=zz (And.intro hc.h0 h1);have i0:=FeM.cell R1 hc.h0;have HB0:=zz (And.intro B0 R1);clear hc hG KA B0 R1 h1;go_enter Tryz.func102,Tryz.ntmps102
 go_wp2_with fail
 refine HN.out.mono ?_;rintro e w2 ⟨⟨r2,m2,rfl⟩,hb⟩;have BL:=HB0.out.1.trans (hb.mono HB0.out.1.size);have R1:=(hb.block _ (zl HB0.out.2)).trans HB0.out.2;clear hb HN i0
 by_cases hm:m2=0
 ·subst hm;have i1:=FeM.cell R1 HH.out.2
  go_wp2_with fail
  refine(HFD.out _ BL).mono ?_;rintro e w3 ⟨he,rfl⟩;clear HFD
  rcases he with⟨i,kx,hkx,bo,oo,co,rfl,hown⟩|⟨rfl,_⟩
  ·have HKX:=zz (And.intro (kindTab2_sub kx (List.mem_of_getElem? hkx)) hown);have hl4:kx.2.length≤4:=(kindTab2_sub kx (List.mem_of_getElem? hkx)).2.2;have W2eq:Below w2.heap.size w2 w2:=Below.refl _ _;clear hkx hown
   go_wp2_with fail
   refine(places_eq w.heap.size _).mono ?_;rintro e w4 ⟨rfl,rfl⟩;obtain⟨pb,hpb⟩:∃pb,pb=w2.heap.size:=⟨_,rfl⟩;have p0:(w2.alloc (.cells #[.pointer (some ⟨w.heap.size,0,none⟩)] 145)).cell? ⟨w2.heap.size,0,none⟩=some (.pointer (some ⟨w.heap.size,0,none⟩)):=zc _ _ 0 _ _ _ (zg _ _ _ rfl);rw [←hpb]at p0⊢;have hsz2:(w2.alloc (.cells #[.pointer (some ⟨w.heap.size,0,none⟩)] 145)).heap.size=pb+1:=by simp [hpb]
   have BL:=BL.alloc BL.size (.cells #[.pointer (some ⟨w.heap.size,0,none⟩)] 145);have R1:=zo _ _ (.cells #[.pointer (some ⟨w.heap.size,0,none⟩)] 145) _ R1;have B3:Below w2.heap.size w2 (w2.alloc (.cells #[.pointer (some ⟨w.heap.size,0,none⟩)] 145)):=(Below.refl _ _).alloc (Nat.le_refl _) _;clear i1 W2eq hpb;generalize w2.alloc (.cells #[.pointer (some ⟨w.heap.size,0,none⟩)] 145)=W3 at*
   have BE:=BL.alloc BL.size (.cells #[.string ⟨#[111,110]⟩,.string ⟨#[97,110,100]⟩,.string ⟨#[115,107,101,116,99,104]⟩,.string ⟨#[97,109,111,117,110,116]⟩,.string ⟨#[99,111,117,110,116]⟩,.string ⟨#[120]⟩,.string ⟨#[121]⟩,.string ⟨#[122]⟩] 9);have RE:=zg W3 (.cells #[.string ⟨#[111,110]⟩,.string ⟨#[97,110,100]⟩,.string ⟨#[115,107,101,116,99,104]⟩,.string ⟨#[97,109,111,117,110,116]⟩,.string ⟨#[99,111,117,110,116]⟩,.string ⟨#[120]⟩,.string ⟨#[121]⟩,.string ⟨#[122]⟩] 9) (pb+1) hsz2.symm;have R1:=zo _ _ (.cells #[.string ⟨#[111,110]⟩,.string ⟨#[97,110,100]⟩,.string ⟨#[115,107,101,116,99,104]⟩,.string ⟨#[97,109,111,117,110,116]⟩,.string ⟨#[99,111,117,110,116]⟩,.string ⟨#[120]⟩,.string ⟨#[121]⟩,.string ⟨#[122]⟩] 9) _ R1;have p0:=keep1 ((Below.refl _ W3).alloc (Nat.le_refl _) (.cells #[.string ⟨#[111,110]⟩,.string ⟨#[97,110,100]⟩,.string ⟨#[115,107,101,116,99,104]⟩,.string ⟨#[97,109,111,117,110,116]⟩,.string ⟨#[99,111,117,110,116]⟩,.string ⟨#[120]⟩,.string ⟨#[121]⟩,.string ⟨#[122]⟩] 9)) p0;have B3:=B3.alloc B3.size (.cells #[.string ⟨#[111,110]⟩,.string ⟨#[97,110,100]⟩,.string ⟨#[115,107,101,116,99,104]⟩,.string ⟨#[97,109,111,117,110,116]⟩,.string ⟨#[99,111,117,110,116]⟩,.string ⟨#[120]⟩,.string ⟨#[121]⟩,.string ⟨#[122]⟩] 9);have HI:=zz (And.intro BE (And.intro R1 (And.intro RE (And.intro p0 B3))));have l8:(8:Nat)≤8:=Nat.le_refl _;clear BL BE R1 RE p0 B3
   go_wp2_with fail
   generalize W3.alloc (.cells #[.string ⟨#[111,110]⟩,.string ⟨#[97,110,100]⟩,.string ⟨#[115,107,101,116,99,104]⟩,.string ⟨#[97,109,111,117,110,116]⟩,.string ⟨#[99,111,117,110,116]⟩,.string ⟨#[120]⟩,.string ⟨#[121]⟩,.string ⟨#[122]⟩] 9)=W4 at*
   have HCO:=zz (fun(x:ByteArray) (W:World) (hb2:Below w.heap.size w W)=>Tryz.slices_Contains_string bo oo kx.2.length co kx.2 x W (Nat.le_refl _) (by omega) (fun j hj=>by
    have h:=keep1 hb2 (HKX.out.2 j _ (List.getElem?_eq_getElem hj))
    rw [h];simp [List.getD_eq_getElem?_getD,List.getElem?_eq_getElem hj]))
   have hE:(#[.string ⟨#[111,110]⟩,.string ⟨#[97,110,100]⟩,.string ⟨#[115,107,101,116,99,104]⟩,.string ⟨#[97,109,111,117,110,116]⟩,.string ⟨#[99,111,117,110,116]⟩,.string ⟨#[120]⟩,.string ⟨#[121]⟩,.string ⟨#[122]⟩]:Array Value)=(eightN.map Value.string).toArray:=rfl
   go_loopg [9,32] 8 (fun gn t9 t32 wr=>∃k:Nat,k+gn=8∧t32=.int .i64 k∧Below w.heap.size w wr∧Below W4.heap.size W4 wr)
   case atStart=>exact⟨0,rfl,rfl,HI.out.1,Below.refl _ _⟩
   case round=>
    obtain⟨G,rfl⟩:∃G,G=gk:=⟨_,rfl⟩;obtain⟨q,hq,rfl,BL,B4⟩:=hrel;have HQ:=zz hq;clear hq;have R1:=(B4.block _ (zl HI.out.2.1)).trans HI.out.2.1;have p0:=keep1 B4 HI.out.2.2.2.1
    by_cases hlt:q < 8
    ·obtain⟨x,hx⟩:∃x,eightN[q]? =some x:=⟨_,List.getElem?_eq_getElem (by show q < 8;exact hlt)⟩;obtain⟨o,hso,hsl⟩:=slot_any (List.mem_of_getElem? hx);have HSL:=zz hsl;have HSK:=zz hso
     have q0:wr.cell? ⟨pb+1,q,none⟩=some (.string x):=by
      refine keep1 B4 ?_;rw [zc _ _ q _ _ _ HI.out.2.2.1,hE];simp [hx]
     have hltZ:(q:Int) < 8:=by omega
     have HC2:=zz (HCO.out x wr BL);have HBL:=zz (And.intro BL B4);clear hx hso hsl BL B4 HCO;generalize Lib.containsS (kx.2.take kx.2.length) x=cb at*
     go_wp2_with fail
     refine HC2.out.mono ?_;rintro e w5 ⟨rfl,rfl⟩
     cases cb with
     |true=>
      go_wp2_with fail
      go_roundg (8 - 1 - q)
      case rel=>exact⟨q+1,by have:=HQ.out;omega,by go_num,HBL.out.1,HBL.out.2⟩
      case measure=>have:=HQ.out;omega
     |false=>
      go_wp2_with fail
      refine(HSL.out w.heap.size pb _ p0).mono ?_;rintro e w6 ⟨rfl,hb⟩;have BL:=HBL.out.1.trans (hb.mono HBL.out.1.size);have B4:=HBL.out.2.trans (hb.mono HBL.out.2.size);have R1:=(hb.block _ (zl R1)).trans R1;clear hb q0
      go_wp2_with fail
      refine(empty_w w.heap.size o id _ HSK.out (HFM.out _ BL R1)).mono ?_;rintro e w7 ⟨⟨be,rfl⟩,hb⟩;have BL:=BL.trans (hb.mono BL.size);have B4:=B4.trans (hb.mono B4.size);clear hb
      cases be with
      |false=>
       go_wp2_with fail
       go_ret
       exact⟨isI _,BL⟩
      |true=>
       go_wp2_with fail
       go_roundg (8 - 1 - q)
       case rel=>exact⟨q+1,by have:=HQ.out;omega,by go_num,BL,B4⟩
       case measure=>have:=HQ.out;omega
    ·obtain rfl:q=8:=by have:=HQ.out;omega
     have HBL:=zz (And.intro BL B4);have hlk:kx.2.length≤4:=hl4;clear R1 p0 BL B4 HCO HFM
     go_wp2_with fail
     go_loopg [11,12,50] kx.2.length (fun gn t11 t12 t50 wz=>∃j:Nat,j+gn=kx.2.length∧t50=.int .i64 j∧Below w.heap.size w wz∧Below W4.heap.size W4 wz)
     case atStart=>exact⟨0,by omega,rfl,HBL.out.1,HBL.out.2⟩
     case round=>
      obtain⟨G2,rfl⟩:∃G2,G2=gk:=⟨_,rfl⟩;obtain⟨wz,rfl⟩:∃wz,wz=wr:=⟨_,rfl⟩;obtain⟨j,hj,rfl,BL,B4⟩:=hrel;have HJ:=zz hj;clear hj
      by_cases hlt2:j < kx.2.length
      ·obtain⟨x,hx⟩:∃x,kx.2[j]? =some x:=⟨_,List.getElem?_eq_getElem hlt2⟩;obtain⟨o,hso,hsl⟩:=slot_any (HKX.out.1.1 x (List.mem_of_getElem? hx));have HSL:=zz hsl;have HSK:=zz hso;have q0:=keep1 BL (HKX.out.2 j x hx);have R1:wz.drew.heap[w.heap.size]? =_:=(B4.block _ (zl HI.out.2.1)).trans HI.out.2.1;have p0:wz.drew.cell? ⟨pb,0,none⟩=some (.pointer (some ⟨w.heap.size,0,none⟩)):=keep1 B4.drew HI.out.2.2.2.1;have hltZ:(j:Int) < (kx.2.length:Int):=by omega
       have HB2:=zz B4;have BL:=BL.drew;clear hx hso hsl B4;have HZ:RowKit.Hid (Below wz.heap.size wz wz.drew):=zz (Below.refl _ _).drew
       go_wp2_with fail
       refine wp_region_held_drew (S:=fun w'=>w'.heap[w.heap.size]? =some (.cells cs 62 (0,0))) (by kernel_rfl) R1 (fun hH=>?_);refine tk 0 (.agg cs) rfl hH ?_ (hy:=fun _ hSw=>by(try dsimp only at hSw);exact exec_load_row 62 _ rfl w.heap.size 62 cs (0,0) _ rfl hSw rfl Tryz.underlying62 (by rw [HC.out.sz];kernel_rfl));(try simp only [PU]);refine tk 1 (.string x) rfl hH ?_;(try simp only [PU]);refine tk 2 (.func (.func 140) #[] #[.pointer (some ⟨pb,0,none⟩)]) rfl hH ?_;(try simp only [PU]);refine tk 3 (.string x) rfl hH ?_;(try simp only [PU]);refine rd 4 rfl (fun K9 hK9=>?_);go_simp;refine(HSL.out w.heap.size pb _ p0).mono ?_;rintro e w7 ⟨rfl,hb⟩;have HZ:=zz (HZ.out.trans (hb.mono HZ.out.size));have R1:=(hb.block _ (zl R1)).trans R1;have BL:=BL.trans (hb.mono BL.size);have p0:=keep1 hb p0;clear hb;refine hK9.out _ _ R1 (fun hH=>?_);clear hK9;(try simp only [PU]);refine rd 5 rfl (fun K9 hK9=>?_);go_simp;refine(HSO.out _ x _ (HSK.out) BL R1).mono ?_;rintro e w8 ⟨⟨n8,rfl⟩,hb⟩;have HZ:=zz (HZ.out.trans (hb.mono HZ.out.size));have R1:=(hb.block _ (zl R1)).trans R1;have BL:=BL.trans (hb.mono BL.size);have p0:=keep1 hb p0;clear hb;refine hK9.out _ _ R1 (fun hH=>?_);clear hK9;(try simp only [PU]);refine tk 6 (.int .i64 n8) rfl hH ?_;(try simp only [PU]);refine wpAnyH_done (by kernel_rfl) ?_ _;have hz4:Below W4.heap.size W4 w8:=HB2.out.trans (HZ.out.mono HB2.out.size)
       by_cases h0:n8=0
       ·subst h0
        go_wp2_with fail
        go_roundg (kx.2.length - 1 - j)
        case rel=>exact⟨j+1,by have:=HJ.out;omega,by go_num,BL,hz4⟩
        case measure=>have:=HJ.out;omega
       ·go_wp2_with fail
        go_ret
        exact⟨isI _,BL⟩
      ·obtain rfl:j=kx.2.length:=by have:=HJ.out;omega
       go_wp2_with fail
       go_ret
       exact⟨isI _,BL⟩
  ·go_wp2_with fail
   go_ret
   exact⟨isI _,BL⟩
 ·go_wp2_with fail
  go_ret
  exact⟨isI _,BL⟩
def BoolMap (es:List MapEntry):Prop:=∀e∈es,(∃s,e.key=.string s)∧e.val=.bool true
theorem find9 (s:ByteArray):∀(es:List MapEntry) (i:Nat),BoolMap es→∃r,Instr.findNow .string (.string s) es i=some r∧(r=none∨∃k,r=some (k,.bool true))
 | [],i,_=>⟨none,rfl,.inl rfl⟩
 |e::es,i,h=>by
  obtain⟨⟨t,ht⟩,hv⟩:=h e List.mem_cons_self;obtain⟨r,h1,h2⟩:=find9 s es (i+1) (fun x hx=>h x (List.mem_cons_of_mem _ hx));unfold Instr.findNow;rw [ht]
  by_cases he:s==t
  ·exact⟨some (i,.bool true),by simp [Instr.sameNow,he,hv],.inr ⟨i,rfl⟩⟩
  ·exact⟨r,by simp [Instr.sameNow,he,h1],h2⟩
theorem findKey9 (s:ByteArray) (es:List MapEntry) (h:BoolMap es):∃r,(∀w,(Instr.findKey 9 (.string s) es).run Tryz.prog w=.ok r w)∧(r=none∨∃k,r=some (k,.bool true)):=by
 obtain⟨r,h1,h2⟩:=find9 s es 0 h;exact⟨r,fun w=>MapKept.run_findKey Tryz.underlying9 h1,h2⟩
def FeRow (cs:Array Value):Prop:=cs.size=12∧∀u∈cs.toList,u.oneCell'=true
def IsFF (id:ByteArray) (e:Ending):Prop:=∃(cs:Array Value) (n:Int),e=.returned (.tuple #[.agg cs,.int .i64 n])∧FeRow cs∧(n=0→cs[0]? =some (.string id))
theorem feRow_z62:FeRow z62:=⟨rfl,by intro u hu;simp [z62]at hu;rcases hu with rfl|rfl|rfl|rfl|rfl|rfl|rfl <;>rfl⟩
theorem FeC.row {w:World} {fb:Nat} {id:ByteArray} {cs:Array Value} (h:FeC w fb id cs):FeRow cs:=by
 refine⟨h.sz,fun u hu=>?_⟩;obtain⟨i,hi⟩:=List.mem_iff_getElem?.1 hu;rw [Array.getElem?_toList]at hi;have hlt:i < 12:=by have:=(Array.getElem?_eq_some_iff.1 hi).1;rw [h.sz]at this;exact this
 have key:∀v,cs[i]? =some v→v.oneCell'=true→u.oneCell'=true:=fun v h1 h2=>by rw [hi]at h1;cases h1;exact h2
 rcases(show i=0∨i=1∨i=2∨i=3∨i=4∨i=5∨(6≤i∧i≤11) by omega)with rfl|rfl|rfl|rfl|rfl|rfl|⟨h6,h11⟩
 ·exact key _ h.h0 rfl
 ·obtain⟨k,hk⟩:=h.h1;exact key _ hk rfl
 ·obtain⟨t,a,n,c,ss,g1,_⟩:=h.rf 2 (.inl rfl);exact key _ g1 rfl
 ·obtain⟨t,a,n,c,ss,_,g2,_⟩:=h.rf 2 (.inl rfl);exact key _ g2 rfl
 ·obtain⟨t,a,n,c,ss,g1,_⟩:=h.rf 4 (.inr rfl);exact key _ g1 rfl
 ·obtain⟨t,a,n,c,ss,_,g2,_⟩:=h.rf 4 (.inr rfl);exact key _ g2 rfl
 ·obtain⟨s,g1,_⟩:=h.st i h6 h11;exact key _ g1 rfl
theorem feC_new (w:World) (fb:Nat) (id:ByteArray) (k:Int):FeC w fb id #[.string id,.int .i64 k,.string ⟨#[]⟩,.slice none 0 0,.string ⟨#[]⟩,.slice none 0 0,.string ⟨#[]⟩,.string ⟨#[]⟩,.string ⟨#[]⟩,.string ⟨#[]⟩,.string ⟨#[]⟩,.string ⟨#[]⟩]:=by
 have hr:RefAt w fb ⟨#[]⟩ none 0 0 []:=⟨.inl ⟨rfl,rfl⟩,by simp [sumS];decide,by simp,fun ad h=>by cases h⟩;refine⟨rfl,rfl,⟨k,rfl⟩,fun o ho=>?_,fun o h6 h11=>⟨⟨#[]⟩,?_,by decide⟩⟩
 ·rcases ho with rfl|rfl
  ·exact⟨_,_,_,_, [],rfl,rfl,hr⟩
  ·exact⟨_,_,_,_, [],rfl,rfl,hr⟩
 ·rcases(show o=6∨o=7∨o=8∨o=9∨o=10∨o=11 by omega)with rfl|rfl|rfl|rfl|rfl|rfl <;>rfl
end Go.Proofs.YteigcnamkfebgaaGreatDoor
