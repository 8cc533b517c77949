import Derived.Test.YteigcnamkfebgaaGreatDoorDF
set_option linter.all false
set_option maxHeartbeats 25600000
namespace Go.Proofs.YteigcnamkfebgaaGreatDoor
open Go.RowKit
def EdOk (x:EdD):Prop:=authB x.id.a=true∧1≤x.id.n∧x.id.n≤1000000000
structure EdSm (x:EdD):Prop where
 s1:x.id.a.size≤1000000000
 s2:x.node.a.size≤1000000000
 s3:x.parent.a.size≤1000000000
 s4:x.target.a.size≤1000000000
 s5:x.num.size≤10000000
 s6:x.den.size≤10000000
 s7:x.field.size≤1000000000
 s8:x.value.size≤1000000000
 s9:x.who.size≤100000000
attribute [local go_sem high] eql38 eql43 eql207
set_option maxRecDepth 100000 in
theorem sorted_any (E:List EdP) (v:Value) (w:World) (hv:EditsW w v E) (hl:E.length≤100000000) (hs:∀x∈E,EdSm x.d) (hd:∀x∈E,∀y∈x.ids,y.a.size≤1000000000):
  Calls Tryz.prog 8 #[v] w fun e w'=>(∃n:Int,e=.returned (.int .i64 n)∧(n≠0→E.length≤40∧∀x∈E,EdOk x.d))∧Below w.heap.size w w':=by
 obtain⟨a1,n,c,rfl⟩:=hv.1.form;have hn:n=E.length:=by have:=hv.1.len;rw [this];simp
 have HV:=zz hv;have HN:=zz hn;have HS:=zz hs;have HDD:=zz hd;have hle:n≤100000000:=by omega
 clear hv hn hl hs hd
 by_cases h40:40 < n
 ·have dl:decide ((40:Int) < (n:Int))=true:=by rw [decide_eq_true_eq];omega
  go_enter Tryz.func8,Tryz.ntmps8
  go_wp2;go_ret
  exact⟨⟨0,rfl,fun h=>absurd rfl h⟩,Below.refl _ _⟩
 have dl:decide ((40:Int) < (n:Int))=false:=by rw [decide_eq_false_iff_not];omega
 go_enter Tryz.func8,Tryz.ntmps8
 go_wp2;clear dl
 go_loopg [3] n (fun gn t3 wr=>∃k:Nat,k+gn=n∧t3=.int .i64 k∧Below w.heap.size w wr∧∀(i:Nat) (z:EdP),i < k→E[i]? =some z→EdOk z.d)
 case atStart=>exact⟨0,by omega,rfl,Below.refl _ _,fun i z h _=>absurd h (by omega)⟩
 case round=>
  obtain⟨G,rfl⟩:∃G,G=gk:=⟨_,rfl⟩;obtain⟨k,hk,rfl,BL,hdo⟩:=hrel;have HK:=zz hk;have HD:=zz hdo;clear hk hdo
  by_cases hlt:k < n
  ·obtain⟨x,hx⟩:∃x,E[k]? =some x:=⟨_,List.getElem?_eq_getElem (by rw [←HN.out];exact hlt)⟩;obtain⟨j,hj⟩:∃j,j=k - 1:=⟨_,rfl⟩;obtain⟨y,hy⟩:∃y,E[j]? =some y:=⟨_,List.getElem?_eq_getElem (by rw [←HN.out];omega)⟩;have HJ:=zz hj;have hxm:(E.map (·.d))[k]? =some x.d:=by rw [List.getElem?_map,hx];rfl
   have hym:(E.map (·.d))[j]? =some y.d:=by rw [List.getElem?_map,hy];rfl
   obtain⟨b,off,rfl,hr⟩:∃b off,a1=some ⟨b,off,none⟩∧w.rangeAt b off (edY.flat (E.map (·.d))):=by
    rcases HV.out.1 with⟨h1,h2⟩|⟨b,off,cap,h1,h2,h3⟩
    ·rw [h2]at hxm;cases hxm
    ·simp at h1;exact⟨b,off,h1.1,h3⟩
   have hXY:wr.drew.rangeAt b (off+k*18) (edV x.d)∧(j+1=k→wr.drew.rangeAt b (off+j*18) (edV y.d)):=⟨rangeAt_below (edY.elem hr k x.d hxm) BL.drew,fun _=>rangeAt_below (edY.elem hr j y.d hym) BL.drew⟩;have hxE:=List.mem_of_getElem? hx;have hDe:=HV.out.2 x hxE;have hSm:=HS.out x hxE;have hDd:=HDD.out x hxE;have HCH:=zz (fun(W:World) (hb:Below w.heap.size w W)=>rCheck37_any x.d x.ids W hSm.s1 hSm.s2 hSm.s3 hSm.s4 (by have:=hSm.s5;omega) (by have:=hSm.s6;omega) hSm.s7 hSm.s8 hSm.s9 hDe.2 hDd (hDe.1.below hb));have HX:=zz hx;have BL:=BL.drew;have hltZ:(k:Int) < (n:Int):=by omega
   clear hr hDe hSm hDd hxE hxm hym hx hy hj
   go_wp2_with fail
   refine wp_region_held_drew (S:=fun w'=>w'.rangeAt b (off+k*18) (edV x.d)∧(j+1=k→w'.rangeAt b (off+j*18) (edV y.d))) (by kernel_rfl) hXY (fun hH=>?_);refine tk 0 (.slice (some ⟨b,off,none⟩) n c) rfl hH ?_;(try simp only [PU]);refine tk 1 (.int .i64 k) rfl hH ?_;(try simp only [PU]);refine tk 2 (.pointer (some ⟨b,off+k*18,none⟩)) rfl hH ?_;(try simp only [PU]);refine tk 3 (.pointer (some ⟨b,off+k*18+14,none⟩)) rfl hH ?_;(try simp only [PU]);refine tk 4 (.string x.d.value) rfl hH ?_ (hy:=fun w' hSw=>by(try dsimp only at hSw);have hl:w'.cell? ⟨b,off+k*18+14,none⟩=_:=hSw.1 14 _ rfl;go_simp);(try simp only [PU]);refine tk 5 (.int .i64 x.d.value.size) rfl hH ?_;(try simp only [PU])
   cases d1:decide ((300:Int) < (x.d.value.size:Int))with
   |true=>
    refine tk 6 (.bool true) rfl hH ?_;(try simp only [PU]);refine tk 7 (.bool true) rfl hH ?_;(try simp only [PU]);refine tu 8 rfl hH ?_;(try simp only [PU]);refine tu 9 rfl hH ?_;(try simp only [PU]);refine tu 10 rfl hH ?_;(try simp only [PU]);refine tu 11 rfl hH ?_;(try simp only [PU]);refine tu 12 rfl hH ?_;(try simp only [PU]);refine tu 13 rfl hH ?_;(try simp only [PU]);refine tu 14 rfl hH ?_;(try simp only [PU]);refine tk 15 (.bool true) rfl hH ?_;(try simp only [PU]);refine tk 16 (.bool true) rfl hH ?_;(try simp only [PU]);refine tu 17 rfl hH ?_;(try simp only [PU]);refine tu 18 rfl hH ?_;(try simp only [PU]);refine tu 19 rfl hH ?_;(try simp only [PU]);refine tu 20 rfl hH ?_;(try simp only [PU]);refine tu 21 rfl hH ?_;(try simp only [PU]);refine tu 22 rfl hH ?_;(try simp only [PU]);refine tu 23 rfl hH ?_;(try simp only [PU]);refine tk 24 (.bool true) rfl hH ?_;(try simp only [PU]);refine tk 25 (.bool true) rfl hH ?_;(try simp only [PU]);refine tu 26 rfl hH ?_;(try simp only [PU]);refine tu 27 rfl hH ?_;(try simp only [PU]);refine tu 28 rfl hH ?_;(try simp only [PU]);refine tu 29 rfl hH ?_;(try simp only [PU]);refine tu 30 rfl hH ?_;(try simp only [PU]);refine tu 31 rfl hH ?_;(try simp only [PU]);refine tk 32 (.bool true) rfl hH ?_;(try simp only [PU]);refine tk 33 (.bool true) rfl hH ?_;(try simp only [PU]);refine tu 34 rfl hH ?_;(try simp only [PU]);refine tu 35 rfl hH ?_;(try simp only [PU]);refine tu 36 rfl hH ?_;(try simp only [PU]);refine tu 37 rfl hH ?_;(try simp only [PU]);refine tu 38 rfl hH ?_;(try simp only [PU]);refine tu 39 rfl hH ?_;(try simp only [PU]);refine tu 40 rfl hH ?_;(try simp only [PU]);refine tu 41 rfl hH ?_;(try simp only [PU]);refine tu 42 rfl hH ?_;(try simp only [PU]);refine tu 43 rfl hH ?_;(try simp only [PU]);refine tu 44 rfl hH ?_;(try simp only [PU]);refine tu 45 rfl hH ?_;(try simp only [PU]);refine tu 46 rfl hH ?_;(try simp only [PU]);refine tu 47 rfl hH ?_;(try simp only [PU]);refine tu 48 rfl hH ?_;(try simp only [PU]);refine tk 49 (.bool true) rfl hH ?_;(try simp only [PU]);refine wpAnyH_done (by kernel_rfl) ?_ _
    go_wp2_with fail
    go_ret
    exact⟨⟨0,rfl,fun h=>absurd rfl h⟩,BL⟩
   |false=>
   refine tk 6 (.bool false) rfl hH ?_;(try simp only [PU]);refine tk 7 (.bool false) rfl hH ?_;(try simp only [PU]);refine tk 8 (.slice (some ⟨b,off,none⟩) n c) rfl hH ?_;(try simp only [PU]);refine tk 9 (.int .i64 k) rfl hH ?_;(try simp only [PU]);refine tk 10 (.pointer (some ⟨b,off+k*18,none⟩)) rfl hH ?_;(try simp only [PU]);refine tk 11 (.pointer (some ⟨b,off+k*18+13,none⟩)) rfl hH ?_;(try simp only [PU]);refine tk 12 (.string x.d.field) rfl hH ?_ (hy:=fun w' hSw=>by(try dsimp only at hSw);have hl:w'.cell? ⟨b,off+k*18+13,none⟩=_:=hSw.1 13 _ rfl;go_simp);(try simp only [PU]);refine tk 13 (.int .i64 x.d.field.size) rfl hH ?_;(try simp only [PU])
   cases d2:decide ((300:Int) < (x.d.field.size:Int))with
   |true=>
    refine tk 14 (.bool true) rfl hH ?_;(try simp only [PU]);refine tk 15 (.bool true) rfl hH ?_;(try simp only [PU]);refine tk 16 (.bool true) rfl hH ?_;(try simp only [PU]);refine tu 17 rfl hH ?_;(try simp only [PU]);refine tu 18 rfl hH ?_;(try simp only [PU]);refine tu 19 rfl hH ?_;(try simp only [PU]);refine tu 20 rfl hH ?_;(try simp only [PU]);refine tu 21 rfl hH ?_;(try simp only [PU]);refine tu 22 rfl hH ?_;(try simp only [PU]);refine tu 23 rfl hH ?_;(try simp only [PU]);refine tk 24 (.bool true) rfl hH ?_;(try simp only [PU]);refine tk 25 (.bool true) rfl hH ?_;(try simp only [PU]);refine tu 26 rfl hH ?_;(try simp only [PU]);refine tu 27 rfl hH ?_;(try simp only [PU]);refine tu 28 rfl hH ?_;(try simp only [PU]);refine tu 29 rfl hH ?_;(try simp only [PU]);refine tu 30 rfl hH ?_;(try simp only [PU]);refine tu 31 rfl hH ?_;(try simp only [PU]);refine tk 32 (.bool true) rfl hH ?_;(try simp only [PU]);refine tk 33 (.bool true) rfl hH ?_;(try simp only [PU]);refine tu 34 rfl hH ?_;(try simp only [PU]);refine tu 35 rfl hH ?_;(try simp only [PU]);refine tu 36 rfl hH ?_;(try simp only [PU]);refine tu 37 rfl hH ?_;(try simp only [PU]);refine tu 38 rfl hH ?_;(try simp only [PU]);refine tu 39 rfl hH ?_;(try simp only [PU]);refine tu 40 rfl hH ?_;(try simp only [PU]);refine tu 41 rfl hH ?_;(try simp only [PU]);refine tu 42 rfl hH ?_;(try simp only [PU]);refine tu 43 rfl hH ?_;(try simp only [PU]);refine tu 44 rfl hH ?_;(try simp only [PU]);refine tu 45 rfl hH ?_;(try simp only [PU]);refine tu 46 rfl hH ?_;(try simp only [PU]);refine tu 47 rfl hH ?_;(try simp only [PU]);refine tu 48 rfl hH ?_;(try simp only [PU]);refine tk 49 (.bool true) rfl hH ?_;(try simp only [PU]);refine wpAnyH_done (by kernel_rfl) ?_ _
    go_wp2_with fail
    go_ret
    exact⟨⟨0,rfl,fun h=>absurd rfl h⟩,BL⟩
   |false=>
   refine tk 14 (.bool false) rfl hH ?_;(try simp only [PU]);refine tk 15 (.bool false) rfl hH ?_;(try simp only [PU]);refine tk 16 (.bool false) rfl hH ?_;(try simp only [PU]);refine tk 17 (.slice (some ⟨b,off,none⟩) n c) rfl hH ?_;(try simp only [PU]);refine tk 18 (.int .i64 k) rfl hH ?_;(try simp only [PU]);refine tk 19 (.pointer (some ⟨b,off+k*18,none⟩)) rfl hH ?_;(try simp only [PU]);refine tk 20 (.pointer (some ⟨b,off+k*18+4,none⟩)) rfl hH ?_;(try simp only [PU]);refine tk 21 (.slice x.d.deps.a x.d.deps.len x.d.deps.cap) rfl hH ?_ (hy:=fun w' hSw=>by(try dsimp only at hSw);have hl:w'.cell? ⟨b,off+k*18+4,none⟩=_:=hSw.1 4 _ rfl;go_simp);(try simp only [PU]);refine tk 22 (.int .i64 x.d.deps.len) rfl hH ?_;(try simp only [PU])
   cases d3:decide ((20:Int) < (x.d.deps.len:Int))with
   |true=>
    refine tk 23 (.bool true) rfl hH ?_;(try simp only [PU]);refine tk 24 (.bool true) rfl hH ?_;(try simp only [PU]);refine tk 25 (.bool true) rfl hH ?_;(try simp only [PU]);refine tu 26 rfl hH ?_;(try simp only [PU]);refine tu 27 rfl hH ?_;(try simp only [PU]);refine tu 28 rfl hH ?_;(try simp only [PU]);refine tu 29 rfl hH ?_;(try simp only [PU]);refine tu 30 rfl hH ?_;(try simp only [PU]);refine tu 31 rfl hH ?_;(try simp only [PU]);refine tk 32 (.bool true) rfl hH ?_;(try simp only [PU]);refine tk 33 (.bool true) rfl hH ?_;(try simp only [PU]);refine tu 34 rfl hH ?_;(try simp only [PU]);refine tu 35 rfl hH ?_;(try simp only [PU]);refine tu 36 rfl hH ?_;(try simp only [PU]);refine tu 37 rfl hH ?_;(try simp only [PU]);refine tu 38 rfl hH ?_;(try simp only [PU]);refine tu 39 rfl hH ?_;(try simp only [PU]);refine tu 40 rfl hH ?_;(try simp only [PU]);refine tu 41 rfl hH ?_;(try simp only [PU]);refine tu 42 rfl hH ?_;(try simp only [PU]);refine tu 43 rfl hH ?_;(try simp only [PU]);refine tu 44 rfl hH ?_;(try simp only [PU]);refine tu 45 rfl hH ?_;(try simp only [PU]);refine tu 46 rfl hH ?_;(try simp only [PU]);refine tu 47 rfl hH ?_;(try simp only [PU]);refine tu 48 rfl hH ?_;(try simp only [PU]);refine tk 49 (.bool true) rfl hH ?_;(try simp only [PU]);refine wpAnyH_done (by kernel_rfl) ?_ _
    go_wp2_with fail
    go_ret
    exact⟨⟨0,rfl,fun h=>absurd rfl h⟩,BL⟩
   |false=>
   refine tk 23 (.bool false) rfl hH ?_;(try simp only [PU]);refine tk 24 (.bool false) rfl hH ?_;(try simp only [PU]);refine tk 25 (.bool false) rfl hH ?_;(try simp only [PU]);refine tk 26 (.slice (some ⟨b,off,none⟩) n c) rfl hH ?_;(try simp only [PU]);refine tk 27 (.int .i64 k) rfl hH ?_;(try simp only [PU]);refine tk 28 (.pointer (some ⟨b,off+k*18,none⟩)) rfl hH ?_;(try simp only [PU]);refine tk 29 (.agg (edV x.d).toArray) rfl hH ?_ (hy:=fun _ hSw=>by(try dsimp only at hSw);exact exec_load_mid 45 _ rfl b (off+k*18) (edV x.d) rfl hSw.1 _ Tryz.underlying45 rfl (by kernel_rfl));(try simp only [PU]);refine rd 30 rfl (fun K9 hK9=>?_);go_simp
   with_reducible refine(HCH.out _ BL).mono ?_
   rintro e w4 ⟨⟨n5,rfl,hn5⟩,hb⟩;have BL:=BL.trans (hb.mono BL.size);have hXY:=And.intro (rangeAt_below hXY.1 hb) (fun h=>rangeAt_below (hXY.2 h) hb);clear hb;have HP:=zz hn5;clear hn5;refine hK9.out _ _ hXY (fun hH=>?_);clear hK9;(try simp only [PU])
   rcases Decidable.em (¬n5=0)with h5|h5
   ·refine tk 31 (.bool true) rfl hH ?_;(try simp only [PU]);refine tk 32 (.bool true) rfl hH ?_;(try simp only [PU]);refine tk 33 (.bool true) rfl hH ?_;(try simp only [PU]);refine tu 34 rfl hH ?_;(try simp only [PU]);refine tu 35 rfl hH ?_;(try simp only [PU]);refine tu 36 rfl hH ?_;(try simp only [PU]);refine tu 37 rfl hH ?_;(try simp only [PU]);refine tu 38 rfl hH ?_;(try simp only [PU]);refine tu 39 rfl hH ?_;(try simp only [PU]);refine tu 40 rfl hH ?_;(try simp only [PU]);refine tu 41 rfl hH ?_;(try simp only [PU]);refine tu 42 rfl hH ?_;(try simp only [PU]);refine tu 43 rfl hH ?_;(try simp only [PU]);refine tu 44 rfl hH ?_;(try simp only [PU]);refine tu 45 rfl hH ?_;(try simp only [PU]);refine tu 46 rfl hH ?_;(try simp only [PU]);refine tu 47 rfl hH ?_;(try simp only [PU]);refine tu 48 rfl hH ?_;(try simp only [PU]);refine tk 49 (.bool true) rfl hH ?_;(try simp only [PU]);refine wpAnyH_done (by kernel_rfl) ?_ _
    go_wp2_with fail
    go_ret
    exact⟨⟨0,rfl,fun h=>absurd rfl h⟩,BL⟩
   have h5:n5=0:=Decidable.not_not.1 h5;refine tk 31 (.bool false) rfl hH ?_;(try simp only [PU]);refine tk 32 (.bool false) rfl hH ?_;(try simp only [PU]);refine tk 33 (.bool false) rfl hH ?_;(try simp only [PU]);refine tk 34 (.int .i64 k) rfl hH ?_;(try simp only [PU])
   by_cases h0:0 < k
   ·have dz:decide ((0:Int) < (k:Int))=true:=by rw [decide_eq_true_eq];omega
    obtain⟨j',hj'⟩:∃j',j'=j:=⟨_,rfl⟩;have hjk:j+1=k:=by rw [HJ.out];omega
    have hw1:IntKind.i64.wrap ((k:Int) - 1)=(j:Int):=by rw [IntKind.wrap_i64];omega
    have hjn:(j:Int) < (n:Int):=by omega
    have hjn2:j < n:=by omega
    clear hj';refine tk 35 (.bool true) rfl hH ?_;(try simp only [PU]);refine tk 36 (.bool true) rfl hH ?_;(try simp only [PU]);refine tk 37 (.slice (some ⟨b,off,none⟩) n c) rfl hH ?_;(try simp only [PU]);refine tk 38 (.int .i64 k) rfl hH ?_;(try simp only [PU]);refine tk 39 (.int .i64 j) rfl hH ?_;(try simp only [PU]);refine tk 40 (.pointer (some ⟨b,off+j*18,none⟩)) rfl hH ?_;(try simp only [PU]);refine tk 41 (.agg (edV y.d).toArray) rfl hH ?_ (hy:=fun _ hSw=>by(try dsimp only at hSw);exact exec_load_mid 45 _ rfl b (off+j*18) (edV y.d) rfl (hSw.2 hjk) _ Tryz.underlying45 rfl (by kernel_rfl));(try simp only [PU]);refine tk 42 (.slice (some ⟨b,off,none⟩) n c) rfl hH ?_;(try simp only [PU]);refine tk 43 (.int .i64 k) rfl hH ?_;(try simp only [PU]);refine tk 44 (.pointer (some ⟨b,off+k*18,none⟩)) rfl hH ?_;(try simp only [PU]);refine tk 45 (.agg (edV x.d).toArray) rfl hH ?_ (hy:=fun _ hSw=>by(try dsimp only at hSw);exact exec_load_mid 45 _ rfl b (off+k*18) (edV x.d) rfl hSw.1 _ Tryz.underlying45 rfl (by kernel_rfl));(try simp only [PU]);refine rd 46 rfl (fun K9 hK9=>?_);go_simp
    with_reducible refine(rCmpE_any y.d x.d _).mono ?_
    rintro e w4 ⟨⟨n6,rfl⟩,hb⟩;have BL:=BL.trans (hb.mono BL.size);have hXY:=And.intro (rangeAt_below hXY.1 hb) (fun h=>rangeAt_below (hXY.2 h) hb);clear hb;refine hK9.out _ _ hXY (fun hH=>?_);clear hK9;(try simp only [PU])
    cases d6:decide (0≤n6)with
    |true=>
     refine tk 47 (.bool true) rfl hH ?_;(try simp only [PU]);refine tk 48 (.bool true) rfl hH ?_;(try simp only [PU]);refine tk 49 (.bool true) rfl hH ?_;(try simp only [PU]);refine wpAnyH_done (by kernel_rfl) ?_ _
     go_wp2_with fail
     go_ret
     exact⟨⟨0,rfl,fun h=>absurd rfl h⟩,BL⟩
    |false=>
     refine tk 47 (.bool false) rfl hH ?_;(try simp only [PU]);refine tk 48 (.bool false) rfl hH ?_;(try simp only [PU]);refine tk 49 (.bool false) rfl hH ?_;(try simp only [PU]);refine wpAnyH_done (by kernel_rfl) ?_ _
     go_wp2_with fail
     go_roundg (n - 1 - k)
     case rel=>exact⟨k+1,by have:=HK.out;omega,by go_num,BL,fun i z hi hz=>by
    rcases Nat.lt_succ_iff_lt_or_eq.1 hi with h|h
    ·exact HD.out i z h hz
    ·subst h;rw [HX.out]at hz;cases hz;exact HP.out h5⟩
     case measure=>have:=HK.out;omega
   ·have dz:decide ((0:Int) < (k:Int))=false:=by rw [decide_eq_false_iff_not];omega
    refine tk 35 (.bool false) rfl hH ?_;(try simp only [PU]);refine tk 36 (.bool false) rfl hH ?_;(try simp only [PU]);refine tu 37 rfl hH ?_;(try simp only [PU]);refine tu 38 rfl hH ?_;(try simp only [PU]);refine tu 39 rfl hH ?_;(try simp only [PU]);refine tu 40 rfl hH ?_;(try simp only [PU]);refine tu 41 rfl hH ?_;(try simp only [PU]);refine tu 42 rfl hH ?_;(try simp only [PU]);refine tu 43 rfl hH ?_;(try simp only [PU]);refine tu 44 rfl hH ?_;(try simp only [PU]);refine tu 45 rfl hH ?_;(try simp only [PU]);refine tu 46 rfl hH ?_;(try simp only [PU]);refine tu 47 rfl hH ?_;(try simp only [PU]);refine tk 48 (.bool false) rfl hH ?_;(try simp only [PU]);refine tk 49 (.bool false) rfl hH ?_;(try simp only [PU]);refine wpAnyH_done (by kernel_rfl) ?_ _
    go_wp2_with fail
    go_roundg (n - 1 - k)
    case rel=>exact⟨k+1,by have:=HK.out;omega,by go_num,BL,fun i z hi hz=>by
    rcases Nat.lt_succ_iff_lt_or_eq.1 hi with h|h
    ·exact HD.out i z h hz
    ·subst h;rw [HX.out]at hz;cases hz;exact HP.out h5⟩
    case measure=>have:=HK.out;omega
  ·have hltZ:decide ((k:Int) < (n:Int))=false:=by rw [decide_eq_false_iff_not];omega
   go_wp2_with fail
   go_ret
   refine⟨⟨1,rfl,fun _=>⟨by rw [←HN.out];omega,fun x hx=>?_⟩⟩,BL⟩;obtain⟨i,hi⟩:=List.mem_iff_getElem?.1 hx;have hil:i < E.length:=(List.getElem?_eq_some_iff.1 hi).1;exact HD.out i x (by have:=HN.out;omega) hi
end Go.Proofs.YteigcnamkfebgaaGreatDoor
