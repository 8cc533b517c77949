import Derived.Test.YteigcnamkfebgaaGreatDoorCF
import Derived.Laws.StructEq
set_option linter.all false
set_option maxHeartbeats 25600000
namespace Go.Proofs.YteigcnamkfebgaaGreatDoor
open Go.RowKit
def iV (neg:Bool) (n:Nat):Value:=.agg #[.bool neg,.string (ofL (enc n))]
theorem rOf_any (neg:Bool) (s:ByteArray) (hs:s.size≤1000000000000) (w:World):Calls Tryz.prog 234 #[.bool neg,.string s] w fun e w'=>e=.returned (iV (neg&&decide (v8 (bl s)≠0)) (v8 (bl s)))∧Below w.heap.size w w':=by
 have BL:=zz ((Below.refl w.heap.size w).alloc (Nat.le_refl _) (.cells #[.bool false,.string ⟨#[]⟩] 207));go_enter Tryz.func234,Tryz.ntmps234
 go_wp2_with fail
 with_reducible refine(rNorm_any s hs _).mono ?_
 rintro e w1 ⟨rfl,rfl⟩;rw [trimZ_enc];obtain⟨n,hn⟩:∃n,n=v8 (bl s):=⟨_,rfl⟩;rw [←hn];have HN:=zz hn;clear hn;have BF:∀v:Array Value,Below w.heap.size w (w.alloc (.cells v 207)):=fun v=>(Below.refl _ _).alloc (Nat.le_refl _) _
 have HBF:=zz BF;clear BF
 by_cases h0:n=0
 ·subst h0;have he:=enc_empty;cases neg <;>(go_wp2;refine bodyPost_ret (v:=iV false 0) (by simp [results,Tryz.results234,go_sem];rfl) rfl ⟨?_,HBF.out _⟩;rw [←HN.out];simp [iV])
 ·have he:=ofL_noempty h0;cases neg
  ·go_wp2;refine bodyPost_ret (v:=iV false n) (by simp [results,Tryz.results234,go_sem];rfl) rfl ⟨?_,HBF.out _⟩;rw [←HN.out];simp [iV]
  ·go_wp2;refine bodyPost_ret (v:=iV true n) (by simp [results,Tryz.results234,go_sem];rfl) rfl ⟨?_,HBF.out _⟩;rw [←HN.out];simp [iV,h0]
theorem rINorm_any (neg:Bool) (s:ByteArray) (hs:s.size≤1000000000000) (w:World):Calls Tryz.prog 207 #[.agg #[.bool neg,.string s]] w fun e w'=>e=.returned (iV (neg&&decide (v8 (bl s)≠0)) (v8 (bl s)))∧Below w.heap.size w w':=by
 go_enter Tryz.func207,Tryz.ntmps207
 go_wp2_with fail
 with_reducible refine(rOf_any neg s hs _).mono ?_
 rintro e w1 ⟨rfl,hb⟩;unfold iV;have r1:=(hb.block (w.heap.size+1) (by simp)).trans box2.2;obtain⟨r2,r3⟩:=two_cells r1;obtain⟨r4,r5⟩:=two_free r1;have HBB:=zz ((below2 w _ _).trans (hb.mono (by simp <;>omega)));have HR:=zz (set2 r1 (x':=.bool (neg&&decide (v8 (bl s)≠0))) (y':=.string (ofL (enc (v8 (bl s))))));clear r1 hb;obtain⟨B,hB⟩:∃B,B=(neg&&decide (v8 (bl s)≠0)):=⟨_,rfl⟩;rw [←hB]at HR⊢;have HBq:=zz hB;clear hB;go_wp2;exact bodyPost_ret (results_cell_row Tryz.results207 _ _ (w.heap.size+1) 207 _ (0,0) _ rfl HR.out Tryz.underlying207 rfl (by kernel_rfl)) rfl ⟨by unfold iV;rw [HBq.out],(HBB.out.setCell (by simp) _).setCell (by simp) _⟩
def sgn (neg:Bool) (n:Nat):Int:=if n=0 then 0 else if neg then -1 else 1
theorem rSign_any (neg:Bool) (s:ByteArray) (hs:s.size≤1000000000000) (w:World):Calls Tryz.prog 237 #[.agg #[.bool neg,.string s]] w fun e w'=>e=.returned (.int .i64 (sgn neg (v8 (bl s))))∧Below w.heap.size w w':=by
 have BF:Below w.heap.size w (w.alloc (.cells #[.bool neg,.string s] 207)):=(Below.refl _ _).alloc (Nat.le_refl _) _;have HBF:=zz BF;clear BF;go_enter Tryz.func237,Tryz.ntmps237
 go_wp2_with fail
 with_reducible refine(rNorm_any s hs _).mono ?_
 rintro e w1 ⟨rfl,rfl⟩;rw [trimZ_enc]
 by_cases h0:v8 (bl s)=0
 ·have he:(ofL (enc (v8 (bl s)))).toList.isEmpty=true:=by rw [h0];exact enc_empty
  have HZ:=zz h0;clear h0;go_wp2;go_ret
  exact⟨by unfold sgn;rw [if_pos HZ.out];rfl,HBF.out⟩
 ·have he:=ofL_noempty h0;have HZ:=zz h0;clear h0;cases neg
  ·go_wp2;go_ret
   exact⟨by unfold sgn;rw [if_neg HZ.out];rfl,HBF.out⟩
  ·go_wp2;go_ret
   exact⟨by unfold sgn;rw [if_neg HZ.out];rfl,HBF.out⟩
theorem rOfU_any (n:Nat) (hn:n < 4611686018427387904) (w:World):Calls Tryz.prog 270 #[.int .u64 n] w fun e w'=>e=.returned (.string (ofL (enc n)))∧Below w.heap.size w w':=by
 go_enter Tryz.func270,Tryz.ntmps270
 go_wp2_with fail
 go_loopg [0,3] n (fun gn t0 t3 wr=>∃(m:Nat) (l:List UInt8) (s:SlV),t0=.int .u64 m∧gn=m∧m≤n∧t3=.slice s.a s.len s.cap∧ownB wr w.heap.size (.slice s.a s.len s.cap) l∧l++enc m=enc n∧Below w.heap.size w wr)
 case atStart=>exact⟨n, [],⟨some ⟨w.heap.size,0,none⟩,0,0⟩,rfl,rfl,Nat.le_refl _,rfl,own_new _ _ (Nat.le_refl _),rfl,(Below.refl _ _).alloc (Nat.le_refl _) _⟩
 case round=>
  obtain⟨G,rfl⟩:∃G,G=gk:=⟨_,rfl⟩;obtain⟨m,l,s,rfl,hg,hm,rfl,hown,he,hbel⟩:=hrel;subst hg;have HO:=zz hown;have HE:=zz he;have HBL:=zz hbel
  have HLL:=zz (show l.length≤8 by
   have h1:=congrArg List.length he;have h2:(enc n).length≤8:=enc_length (by omega);rw [List.length_append]at h1
   omega)
  clear hown he hbel
  by_cases h0:G=0
  ·subst h0;have hcv:=conv_own HO.out;go_wp2;go_ret
   refine⟨?_,HBL.out⟩;have h1:=HE.out;rw [enc_zero,List.append_nil]at h1;rw [←h1];rfl
  ·have h0Z:(0:Int) < (G:Int):=by omega
   obtain⟨r,hr⟩:∃r,r=G%256:=⟨_,rfl⟩;obtain⟨d,hd⟩:∃d,d=G / 256:=⟨_,rfl⟩;have hrem:(G:Int).tmod 256=(r:Int):=by rw [hr,Int.tmod_eq_emod_of_nonneg (by omega)];simp
   have hquo:(G:Int).tdiv 256=(d:Int):=by rw [hd,Int.tdiv_eq_ediv_of_nonneg (by omega)];simp
   have hrem2:(G:Int)%256=(r:Int):=by rw [hr];simp
   have hquo2:(G:Int) / 256=(d:Int):=by rw [hd];simp
   have hr1:r < 256:=by omega
   have hd1:d < G:=by omega
   have HRD:=zz (And.intro hr (And.intro hd h0));clear hr hd
   go_wp2_with(first
    |(at_builtin;refine step_push rfl _ _ rfl w.heap.size (.slice s.a s.len s.cap) l rfl (World.ownsRow.alloc HO.out _) wr.heap.size (r:Int) (UInt8.ofNat G) (by rw [u8of,HRD.out.1]) rfl (zg _ _ _ rfl) (by have:=HLL.out;omega) (by have:=HBL.out.size;simp;omega) ?_;intro v9 w9 hown9 hg9;have HO9:=zz hown9;have HG9:=zz hg9;obtain⟨s9,hs9⟩:=ownsForm hown9;subst hs9;clear hown9 hg9))
   go_roundg d
   case rel=>exact⟨d,l++ [UInt8.ofNat G],s9,rfl,rfl,by omega,rfl,HO9.out,by rw [←HE.out,enc_pos HRD.out.2.2,←HRD.out.2.1,List.append_assoc];rfl,(HBL.out.alloc HBL.out.size _).grown HG9.out (by have:=HBL.out.size;simp;omega) (fun j hj=>(HO.out.lt j hj).1)⟩
   case measure=>omega
theorem rFrom_any (n:Nat) (hn:n < 4611686018427387904) (w:World):Calls Tryz.prog 240 #[.int .i64 n] w fun e w'=>e=.returned (iV false n)∧Below w.heap.size w w':=by
 have r0:=zg w (.cells #[.bool false,.string ⟨#[]⟩] 207) w.heap.size rfl;have hd:decide ((n:Int) < 0)=false:=by simp
 go_enter Tryz.func240,Tryz.ntmps240
 go_wp2_with fail
 with_reducible refine(rOfU_any n hn _).mono ?_
 rintro e w1 ⟨rfl,hb1⟩;have hsz:(ofL (enc n)).size≤8:=enc_size (by omega);have r1:=(hb1.block _ (by simp)).trans r0;have BL1:=((Below.refl w.heap.size w).alloc (Nat.le_refl _) (.cells #[.bool false,.string ⟨#[]⟩] 207)).trans (hb1.mono (by simp));clear r0 hb1
 go_wp2_with fail
 with_reducible refine(rOf_any false (ofL (enc n)) (by omega) _).mono ?_
 rintro e w2 ⟨rfl,hb2⟩;rw [v8_ofL,Bool.false_and];have r2:=(hb2.block _ (zl r1)).trans r1;have BL2:=BL1.trans (hb2.mono BL1.size);obtain⟨c1,c2⟩:=two_cells r2;obtain⟨f1,f2⟩:=two_free r2;have HBL:=zz BL2;have HR:=zz (set2 r2 (x':=.bool false) (y':=.string (ofL (enc n))));clear r1 hb2 r2 BL1 BL2;unfold iV;go_wp2;exact bodyPost_ret (results_cell_row Tryz.results240 _ _ w.heap.size 207 _ (0,0) _ rfl HR.out Tryz.underlying207 rfl (by kernel_rfl)) rfl ⟨rfl,(HBL.out.setCell (Nat.le_refl _) _).setCell (Nat.le_refl _) _⟩
theorem rOne_any (w:World):Calls Tryz.prog 210 #[] w fun e w'=>e=.returned (iV false 1)∧Below w.heap.size w w':=by
 have r0:=zg w (.cells #[.bool false,.string ⟨#[]⟩] 207) w.heap.size rfl;go_enter Tryz.func210,Tryz.ntmps210
 go_wp2_with fail
 refine(show Calls Tryz.prog 240 #[.int .i64 1] _ _ from rFrom_any 1 (by omega) _).mono ?_;rintro e w2 ⟨rfl,hb2⟩;have r2:=(hb2.block _ (by simp)).trans r0;have BL2:=((Below.refl w.heap.size w).alloc (Nat.le_refl _) (.cells #[.bool false,.string ⟨#[]⟩] 207)).trans (hb2.mono (by simp));obtain⟨c1,c2⟩:=two_cells r2;obtain⟨f1,f2⟩:=two_free r2;have HBL:=zz BL2;have HR:=zz (set2 r2 (x':=.bool false) (y':=.string (ofL (enc 1))));clear hb2 r2 BL2 r0;unfold iV;go_wp2;exact bodyPost_ret (results_cell_row Tryz.results210 _ _ w.heap.size 207 _ (0,0) _ rfl HR.out Tryz.underlying207 rfl (by kernel_rfl)) rfl ⟨rfl,(HBL.out.setCell (Nat.le_refl _) _).setCell (Nat.le_refl _) _⟩
theorem gcd_size (s1 s2:ByteArray) (M:Nat) (h1:s1.size≤M) (h2:s2.size≤M):(ofL (enc (Nat.gcd (v8 (bl s1)) (v8 (bl s2))))).size≤M:=by
 refine enc_size ?_;have a1:=v8_lt (bl s1);have a2:=v8_lt (bl s2);rw [bl_size]at a1 a2;have e1:256^s1.size≤256^M:=Nat.pow_le_pow_right (by omega) h1;have e2:256^s2.size≤256^M:=Nat.pow_le_pow_right (by omega) h2
 by_cases hz:v8 (bl s1)=0
 ·rw [hz,Nat.gcd_zero_left];exact Nat.lt_of_lt_of_le a2 e2
 ·exact Nat.lt_of_le_of_lt (Nat.gcd_le_left _ (by omega)) (Nat.lt_of_lt_of_le a1 e1)
theorem rIGcd_any (g:Nat) (b1 b2:Bool) (s1 s2:ByteArray) (h1:s1.size≤1000000000) (h2:s2.size≤1000000000) (w:World) (hg:w.heap[g]? =some (.cells #[.bool b1,.string s1,.bool b2,.string s2] 207 (0,0))):
  Calls Tryz.prog 208 #[.slice (some ⟨g,0,none⟩) 2 2] w fun e w'=>e=.returned (iV false (Nat.gcd (v8 (bl s1)) (v8 (bl s2))))∧Below w.heap.size w w':=by
 have r0:=zg w (.cells #[.bool false,.string ⟨#[]⟩] 207) w.heap.size rfl;have g0:(w.alloc (.cells #[.bool false,.string ⟨#[]⟩] 207)).heap[g]? =_:=zo _ _ _ _ hg;have lg:=zl hg;have c1:=zc _ g 1 _ _ _ g0;have BL0:=(Below.refl w.heap.size w).alloc (Nat.le_refl _) (.cells #[.bool false,.string ⟨#[]⟩] 207);go_enter Tryz.func208,Tryz.ntmps208
 go_wp2_with fail
 refine wp_loop_rounds 3 ?_;rw [rounds_succ]
 go_wp2_with fail
 with_reducible refine(rGcd_any ⟨#[]⟩ s1 (by decide) h1 _).mono ?_
 rintro e w1 ⟨rfl,hb1⟩;rw [show v8 (bl ⟨#[]⟩)=0 from rfl,Nat.gcd_zero_left];have r1:=(hb1.block _ (by simp)).trans r0;have g1:=(hb1.block _ (zl g0)).trans g0;have BL1:=BL0.trans (hb1.mono BL0.size);have c3:=zc _ g 3 _ _ _ g1;have hsz:(ofL (enc (v8 (bl s1)))).size≤1000000000:=Nat.le_trans (enc_size (by have:=v8_lt (bl s1);rwa [bl_size]at this)) h1;clear r0 g0 hb1 c1;go_wp2;rw [rounds_succ]
 go_wp2_with fail
 with_reducible refine(rGcd_any (ofL (enc (v8 (bl s1)))) s2 hsz h2 _).mono ?_
 rintro e w2 ⟨rfl,hb2⟩;rw [v8_ofL];have r2:=(hb2.block _ (zl r1)).trans r1;have BL2:=BL1.trans (hb2.mono BL1.size);have hsz2:=gcd_size s1 s2 1000000000 h1 h2;clear r1 g1 hb2 BL1 c3;go_wp2;rw [rounds_succ]
 go_wp2_with fail
 with_reducible refine(rOf_any false (ofL (enc (Nat.gcd (v8 (bl s1)) (v8 (bl s2))))) (by omega) _).mono ?_
 rintro e w3 ⟨rfl,hb3⟩;rw [v8_ofL,Bool.false_and];have r3:=(hb3.block _ (zl r2)).trans r2;have BL3:=BL2.trans (hb3.mono BL2.size);obtain⟨d1,d2⟩:=two_cells r3;obtain⟨f1,f2⟩:=two_free r3;have HBL:=zz BL3;have HR:=zz (set2 r3 (x':=.bool false) (y':=.string (ofL (enc (Nat.gcd (v8 (bl s1)) (v8 (bl s2)))))));clear r2 hb3 BL2 r3 BL3;unfold iV;go_wp2;exact bodyPost_ret (results_cell_row Tryz.results208 _ _ w.heap.size 207 _ (0,0) _ rfl HR.out Tryz.underlying207 rfl (by kernel_rfl)) rfl ⟨rfl,(HBL.out.setCell (Nat.le_refl _) _).setCell (Nat.le_refl _) _⟩
theorem enc_le {a b M:Nat} (h:(ofL (enc a)).size≤M) (hb:b≤a):(ofL (enc b)).size≤M:=by
 refine enc_size (Nat.lt_of_le_of_lt hb ?_);have h1:=v8_lt (enc a);rw [v8_enc,show(enc a).length=(ofL (enc a)).size by rw [←bl_size,bl_ofL]]at h1;exact Nat.lt_of_lt_of_le h1 (Nat.pow_le_pow_right (by omega) h)
theorem enc_div_size {a b M:Nat} (h:(ofL (enc a)).size≤M):(ofL (enc (a / b))).size≤M:=enc_le h (Nat.div_le_self _ _)
theorem enc_mod_size {a b M:Nat} (h:(ofL (enc a)).size≤M):(ofL (enc (a%b))).size≤M:=enc_le h (Nat.mod_le _ _)
theorem sgn_nn (n:Nat):decide (sgn false n < 0)=false:=by
 unfold sgn
 split <;>simp
theorem results_cct {P:Program} {fn:Func} {p q t:Tmp} {ty:TypeId} (h:fn.results=#[.cell p ty,.cell q ty,.tmp t]) (tmps:Array Value) (w:World) (g g':Nat) (tt:TypeId) (cs ds:Array Value) (fr fr':Nat×Nat) (d:TypeDesc) (v:Value)
  (hp:tmps.getD p undef=.pointer (some ⟨g,0,none⟩)) (hq:tmps.getD q undef=.pointer (some ⟨g',0,none⟩)) (ht:tmps.getD t undef=v) (hg:w.heap[g]? =some (.cells cs tt fr)) (hg':w.heap[g']? =some (.cells ds tt fr'))
  (hu:P.underlying ty=some d) (hd:(match d with| .struct _| .array _ _=>true|_=>false)=true) (hi:(P.info? ty).map (·.size)=some cs.size) (hi':(P.info? ty).map (·.size)=some ds.size):
  (results fn tmps).run P w=.ok (.tuple #[.agg cs,.agg ds,v]) w:=by
 have hp':tmps[p]?.getD undef=.pointer (some ⟨g,0,none⟩):=by simpa using hp
 have hq':tmps[q]?.getD undef=.pointer (some ⟨g',0,none⟩):=by simpa using hq
 have ht':tmps[t]?.getD undef=v:=by simpa using ht
 simp [results,h,hp',hq',ht',asAddr,run_loadVar_row w g tt ty cs fr d hg hu hd hi,run_loadVar_row w g' tt ty ds fr' d hg' hu hd hi']
theorem below4 (w:World) (a b c d:Obj):Below w.heap.size w ((((w.alloc a).alloc b).alloc c).alloc d):=
 ((((Below.refl _ _).alloc (Nat.le_refl _) _).alloc (by simp) _).alloc (by simp <;>omega) _).alloc (by simp <;>omega) _
theorem box4 (w:World) (a b c d:Obj):((((w.alloc a).alloc b).alloc c).alloc d).heap[w.heap.size]? =some a∧((((w.alloc a).alloc b).alloc c).alloc d).heap[w.heap.size+1]? =some b∧((((w.alloc a).alloc b).alloc c).alloc d).heap[w.heap.size+1+1]? =some c∧((((w.alloc a).alloc b).alloc c).alloc d).heap[w.heap.size+1+1+1]? =some d:=
 ⟨zo _ _ _ _ (zo _ _ _ _ (zo _ _ _ _ (zg _ _ _ rfl))),zo _ _ _ _ (zo _ _ _ _ (zg _ _ _ (by simp))),zo _ _ _ _ (zg _ _ _ (by simp)),zg _ _ _ (by simp)⟩
set_option maxRecDepth 100000 in
theorem rIDiv_any (a b:Nat) (ha:(ofL (enc a)).size≤1000000000) (hb:(ofL (enc b)).size≤1000000000) (h0:b≠0) (w:World):
  Calls Tryz.prog 209 #[iV false a,iV false b] w fun e w'=>e=.returned (.tuple #[iV false (a / b),iV false (a%b),.bool true])∧Below w.heap.size w w':=by
 obtain⟨x0,x1,x2,x3⟩:=box4 w (.cells #[.bool false,.string (ofL (enc a))] 207) (.cells #[.bool false,.string (ofL (enc b))] 207) (.cells #[.bool false,.string ⟨#[]⟩] 207) (.cells #[.bool false,.string ⟨#[]⟩] 207);have BL:=below4 w (.cells #[.bool false,.string (ofL (enc a))] 207) (.cells #[.bool false,.string (ofL (enc b))] 207) (.cells #[.bool false,.string ⟨#[]⟩] 207) (.cells #[.bool false,.string ⟨#[]⟩] 207);have H0:=zz h0;have hsq:(ofL (enc (a / b))).size≤1000000000:=enc_div_size ha;have hsr:(ofL (enc (a%b))).size≤1000000000:=enc_mod_size ha;clear h0;unfold iV;go_enter Tryz.func209,Tryz.ntmps209
 go_wp2_with fail
 with_reducible refine(rDiv_any (ofL (enc a)) (ofL (enc b)) ha hb (by rw [v8_ofL];exact H0.out) _).mono ?_
 rintro e w1 ⟨rfl,hb1⟩;rw [v8_ofL,v8_ofL];have x0:=(hb1.block _ (zl x0)).trans x0;have x1:=(hb1.block _ (zl x1)).trans x1;have x2:=(hb1.block _ (zl x2)).trans x2;have x3:=(hb1.block _ (zl x3)).trans x3;have BL:=BL.trans (hb1.mono BL.size);obtain⟨c0,c1⟩:=two_cells x0;obtain⟨c2,c3⟩:=two_cells x1;clear hb1;obtain⟨q,hq⟩:∃q,q=a / b:=⟨_,rfl⟩;obtain⟨r,hr⟩:∃r,r=a%b:=⟨_,rfl⟩;rw [←hq,←hr];rw [←hq]at hsq;rw [←hr]at hsr;have HQR:=zz (And.intro hq hr);clear hq hr
 go_wp2_with fail
 with_reducible refine(rOf_any false (ofL (enc r)) (by omega) _).mono ?_
 rintro e w2 ⟨rfl,hb2⟩;rw [v8_ofL,Bool.false_and];have x0:=(hb2.block _ (zl x0)).trans x0;have x1:=(hb2.block _ (zl x1)).trans x1;have x2:=(hb2.block _ (zl x2)).trans x2;have x3:=(hb2.block _ (zl x3)).trans x3;have BL:=BL.trans (hb2.mono BL.size);clear hb2 c0 c1 c2 c3;obtain⟨c0,c1⟩:=two_cells x0;obtain⟨c2,c3⟩:=two_cells x1;have l3:=zl x3;have x0a:(w2.alloc (.cells #[.bool false,.string (ofL (enc r))] 207)).heap[w.heap.size]? =_:=zo _ _ _ _ x0;have x1a:(w2.alloc (.cells #[.bool false,.string (ofL (enc r))] 207)).heap[w.heap.size+1]? =_:=zo _ _ _ _ x1;have x2a:(w2.alloc (.cells #[.bool false,.string (ofL (enc r))] 207)).heap[w.heap.size+1+1]? =_:=zo _ _ _ _ x2;have x3a:(w2.alloc (.cells #[.bool false,.string (ofL (enc r))] 207)).heap[w.heap.size+1+1+1]? =_:=zo _ _ _ _ x3;have x4a:(w2.alloc (.cells #[.bool false,.string (ofL (enc r))] 207)).heap[w2.heap.size]? =_:=zg _ _ _ rfl;have BL:=BL.alloc BL.size (.cells #[.bool false,.string (ofL (enc r))] 207);obtain⟨k0,k1⟩:=two_cells x0a;obtain⟨k2,k3⟩:=two_cells x1a;clear c0 c1 c2 c3 x0 x1 x2 x3;unfold iV
 go_wp2_with fail
 with_reducible refine(rOf_any false (ofL (enc q)) (by omega) _).mono ?_
 rintro e w3 ⟨rfl,hb3⟩;rw [v8_ofL,Bool.false_and];clear k0 k1 k2 k3 x0a x1a;have x2a:=(hb3.block _ (zl x2a)).trans x2a;have x3a:=(hb3.block _ (zl x3a)).trans x3a;have x4a:=(hb3.block _ (zl x4a)).trans x4a;have BL:=BL.trans (hb3.mono BL.size);clear hb3;obtain⟨c4,c5⟩:=two_cells x4a;have l4:=zl x4a;have x2b:(w3.alloc (.cells #[.bool false,.string (ofL (enc q))] 207)).heap[w.heap.size+1+1]? =_:=zo _ _ _ _ x2a;have x3b:(w3.alloc (.cells #[.bool false,.string (ofL (enc q))] 207)).heap[w.heap.size+1+1+1]? =_:=zo _ _ _ _ x3a;have x4b:(w3.alloc (.cells #[.bool false,.string (ofL (enc q))] 207)).heap[w2.heap.size]? =_:=zo _ _ _ _ x4a;have x5b:(w3.alloc (.cells #[.bool false,.string (ofL (enc q))] 207)).heap[w3.heap.size]? =_:=zg _ _ _ rfl;have BL:=BL.alloc BL.size (.cells #[.bool false,.string (ofL (enc q))] 207);obtain⟨k0,k1⟩:=two_cells x4b;clear c4 c5 x4a x2a x3a;unfold iV
 go_wp2_with fail
 with_reducible refine(rSign_any false (ofL (enc r)) (by omega) _).mono ?_
 rintro e w4 ⟨rfl,hb4⟩;rw [v8_ofL];have hsg:=sgn_nn r;have x2b:=(hb4.block _ (zl x2b)).trans x2b;have x3b:=(hb4.block _ (zl x3b)).trans x3b;have x4b:=(hb4.block _ (zl x4b)).trans x4b;have x5b:=(hb4.block _ (zl x5b)).trans x5b;have BL:=BL.trans (hb4.mono BL.size);clear hb4 k0 k1;obtain⟨k0,k1⟩:=two_cells x4b;obtain⟨k2,k3⟩:=two_cells x5b;obtain⟨k4,k5⟩:=two_cells x2b;obtain⟨k6,k7⟩:=two_cells x3b;obtain⟨f0,f1⟩:=two_free x2b;obtain⟨f2,f3⟩:=two_free x3b
 go_wp2_with fail
 go_region
 go_wp2;have y2:=set2 x2b (x':=.bool false) (y':=.string (ofL (enc q)));have y3:=setOther (j:=1) (v:=.string (ofL (enc q))) (setOther (j:=0) (v:=.bool false) x3b (show w.heap.size+1+1+1≠w.heap.size+1+1 by omega)) (show w.heap.size+1+1+1≠w.heap.size+1+1 by omega);have z3:=set2 y3 (x':=.bool false) (y':=.string (ofL (enc r)));have z2:=setOther (j:=1) (v:=.string (ofL (enc r))) (setOther (j:=0) (v:=.bool false) y2 (show w.heap.size+1+1≠w.heap.size+1+1+1 by omega)) (show w.heap.size+1+1≠w.heap.size+1+1+1 by omega);refine bodyPost_ret (results_cct Tryz.results209 _ _ (w.heap.size+1+1) (w.heap.size+1+1+1) 207 _ _ (0,0) (0,0) _ (.bool true) rfl rfl rfl z2 z3 Tryz.underlying207 rfl (by kernel_rfl) (by kernel_rfl)) rfl ⟨?_,((((BL.setCell (by simp <;>omega) _).setCell (by simp <;>omega) _).setCell (by simp <;>omega) _).setCell (by simp <;>omega) _).drew⟩;rw [HQR.out.1,HQR.out.2]
theorem rINorm_same (s:Bool) (n:Nat) (hs:(s&&decide (n≠0))=s) (hn:(ofL (enc n)).size≤1000000000) (w:World):Calls Tryz.prog 207 #[.agg #[.bool s,.string (ofL (enc n))]] w fun e w'=>e=.returned (.agg #[.bool s,.string (ofL (enc n))])∧Below w.heap.size w w':=by
 have h:=rINorm_any s (ofL (enc n)) (by omega) w;rw [v8_ofL,hs]at h;exact h
@[go_sem] theorem eql207 (w:World) (b b':Bool) (s s':ByteArray):(binOp .eql 207 (.agg #[.bool b,.string s]) (.agg #[.bool b',.string s'])).run Tryz.prog w=.ok (.bool (b==b'&&s.toList==s'.toList)) w:=by
 have u4:=Tryz.underlying4;have u9:=Tryz.underlying9;have a4:=Tryz.isAgg4;have a9:=Tryz.isAgg9;have z4:=Tryz.sizeOf4;have z9:=Tryz.sizeOf9;have hS:Tryz.prog.underlying 207=some (.struct (Tryz.prog.fieldsOf 207)):=by kernel_rfl
 have hP:Tryz.prog.stoodInHeld 207=false:=by kernel_rfl
 rw [run_eql_struct,run_equalIn_agg w 9999 207 _ _ hS hP];simp only [Program.fieldsOf,Tryz.underlying207];go_simp;cases hb:(b==b') <;>cases hs:(s.toList==s'.toList) <;>simp_all
@[go_sem] theorem guard207 (op:BinOp) (x y:Operand) (xs ys:Array Value) (w:World):(eqGuard op 207 x y (.agg xs) (.agg ys)).run Tryz.prog w=.ok () w:=run_eqGuard_agg w op 207 x y xs ys (by kernel_rfl)
theorem three_free {W:World} {k:Nat} {x y z:Value} {t:TypeId} (h:W.heap[k]? =some (.cells #[x,y,z] t (0,0))):W.frozen? ⟨k,0,none⟩=false∧W.frozen? ⟨k,1,none⟩=false∧W.frozen? ⟨k,2,none⟩=false:=by
 refine⟨?_,?_,?_⟩ <;>simp [World.frozen?,h]
theorem set3 {W:World} {k:Nat} {x y z x' y' z':Value} {t:TypeId} (h:W.heap[k]? =some (.cells #[x,y,z] t (0,0))):(((W.setCell ⟨k,0,none⟩ x').setCell ⟨k,1,none⟩ y').setCell ⟨k,2,none⟩ z').heap[k]? =some (.cells #[x',y',z'] t (0,0)):=row_set (j:=2) (row_set (j:=1) (row_set (j:=0) h))
theorem ofL_beq (a b:Nat):((ofL (enc a)).toList==(ofL (enc b)).toList)=decide (a=b):=by
 rw [ByteArray.toList_eq,ByteArray.toList_eq]
 show(enc a==enc b)=decide (a=b)
 by_cases h:a=b
 ·subst h;simp
 ·rw [decide_eq_false h,beq_eq_false_iff_ne];exact fun e=>h (enc_inj e)
theorem ofL_isEmpty {n:Nat} (h:(ofL (enc n)).toList.isEmpty=true):n=0:=by
 by_cases h0:n=0
 ·exact h0
 ·rw [ofL_noempty h0]at h;cases h
theorem results_ct {P:Program} {fn:Func} {p t:Tmp} {ty:TypeId} (h:fn.results=#[.cell p ty,.tmp t]) (tmps:Array Value) (w:World) (g:Nat) (tt:TypeId) (cs:Array Value) (fr:Nat×Nat) (d:TypeDesc) (v:Value)
  (hp:tmps.getD p undef=.pointer (some ⟨g,0,none⟩)) (ht:tmps.getD t undef=v) (hg:w.heap[g]? =some (.cells cs tt fr))
  (hu:P.underlying ty=some d) (hd:(match d with| .struct _| .array _ _=>true|_=>false)=true) (hi:(P.info? ty).map (·.size)=some cs.size):
  (results fn tmps).run P w=.ok (.tuple #[.agg cs,v]) w:=by
 have hp':tmps[p]?.getD undef=.pointer (some ⟨g,0,none⟩):=by simpa using hp
 have ht':tmps[t]?.getD undef=v:=by simpa using ht
 simp [results,h,hp',ht',asAddr,run_loadVar_row w g tt ty cs fr d hg hu hd hi]
def qDen (d:Nat):ByteArray:=if d=1 then⟨#[]⟩else ofL (enc d)
def qV (s:Bool) (n d:Nat):Value:=.agg #[.bool (s&&decide (n≠0)),.string (ofL (enc (n / Nat.gcd n d))),.string (qDen (d / Nat.gcd n d))]
set_option maxRecDepth 100000 in
theorem rMake_any (s:Bool) (n d:Nat) (hs:(s&&decide (n≠0))=s) (hd:d≠0) (hsn:(ofL (enc n)).size≤1000000000) (hsd:(ofL (enc d)).size≤1000000000) (w:World):
  Calls Tryz.prog 174 #[iV s n,iV false d] w fun e w'=>e=.returned (.tuple #[qV s n d,.bool true])∧Below w.heap.size w w':=by
 have HA:=zz (rINorm_same s n hs hsn);have HB:=zz (rINorm_same false d rfl hsd);have R2:((((w.alloc (.cells #[.bool s,.string (ofL (enc n))] 207)).alloc (.cells #[.bool false,.string (ofL (enc d))] 207)).alloc (.cells #[.bool false,.string ⟨#[]⟩,.string ⟨#[]⟩] 43)).drew).heap[w.heap.size]? =_:=zo _ _ _ _ (zo _ _ _ _ (zg _ _ _ rfl));have R3:((((w.alloc (.cells #[.bool s,.string (ofL (enc n))] 207)).alloc (.cells #[.bool false,.string (ofL (enc d))] 207)).alloc (.cells #[.bool false,.string ⟨#[]⟩,.string ⟨#[]⟩] 43)).drew).heap[w.heap.size+1]? =_:=zo _ _ _ _ (zg _ _ _ (by simp));have R4:((((w.alloc (.cells #[.bool s,.string (ofL (enc n))] 207)).alloc (.cells #[.bool false,.string (ofL (enc d))] 207)).alloc (.cells #[.bool false,.string ⟨#[]⟩,.string ⟨#[]⟩] 43)).drew).heap[w.heap.size+1+1]? =_:=zg _ _ _ (by simp);have BL:Below w.heap.size w ((((w.alloc (.cells #[.bool s,.string (ofL (enc n))] 207)).alloc (.cells #[.bool false,.string (ofL (enc d))] 207)).alloc (.cells #[.bool false,.string ⟨#[]⟩,.string ⟨#[]⟩] 43)).drew):=((((Below.refl _ _).alloc (Nat.le_refl _) _).alloc (by simp) _).alloc (by simp <;>omega) _).drew;have HH:=zz (And.intro hs hd);have he:=ofL_noempty hd;clear hs hd;unfold iV;go_enter Tryz.func174,Tryz.ntmps174
 go_wp2_with fail
 go_region_held3 (fun w'=>w'.cell? ⟨w.heap.size,0,none⟩=some (.bool s)∧w'.cell? ⟨w.heap.size,1,none⟩=some (.string (ofL (enc n)))∧w'.cell? ⟨w.heap.size+1,0,none⟩=some (.bool false)∧w'.cell? ⟨w.heap.size+1,1,none⟩=some (.string (ofL (enc d))))
  (first
   |with_reducible exact rows4 R2 R3
   |with_reducible exact same4 (by assumption) (.inl ⟨rfl,rfl,rfl⟩)
   |with_reducible exact same4 (by assumption) (.inr ⟨rfl,rfl,rfl⟩)
   |go_keep)
  (first
   |(go_at_call 207;with_reducible refine(HA.out _).mono ?_;rintro e w4 ⟨rfl,hb⟩;have R2:=(hb.block _ (zl R2)).trans R2;have R3:=(hb.block _ (zl R3)).trans R3;have R4:=(hb.block _ (zl R4)).trans R4;have BL:=BL.trans (hb.mono BL.size);obtain⟨s1,s2⟩:=two_cells R2;obtain⟨s3,s4⟩:=two_free R2;obtain⟨s5,s6⟩:=two_cells R3;obtain⟨s7,s8⟩:=two_free R3)
   |(go_at_call 207;with_reducible refine(HB.out _).mono ?_;rintro e w4 ⟨rfl,hb⟩;have R2:=(hb.block _ (zl R2)).trans R2;have R3:=(hb.block _ (zl R3)).trans R3;have R4:=(hb.block _ (zl R4)).trans R4;have BL:=BL.trans (hb.mono BL.size);obtain⟨s1,s2⟩:=two_cells R2;obtain⟨s3,s4⟩:=two_free R2;obtain⟨s5,s6⟩:=two_cells R3;obtain⟨s7,s8⟩:=two_free R3))
 clear s1 s2 s3 s4 s5 s6 s7 s8;have Q2:=setOther (v:=.string (ofL (enc d))) (j:=1) (g:=w.heap.size+1) (setOther (v:=.bool false) (j:=0) (g:=w.heap.size+1) (set2 (x':=.bool s) (y':=.string (ofL (enc n))) R2) (by omega)) (by omega);have Q3:=set2 (x':=.bool false) (y':=.string (ofL (enc d))) (setOther (v:=.string (ofL (enc n))) (j:=1) (g:=w.heap.size) (setOther (v:=.bool s) (j:=0) (g:=w.heap.size) R3 (by omega)) (by omega));have Q4:=setOther (v:=.string (ofL (enc d))) (j:=1) (g:=w.heap.size+1) (setOther (v:=.bool false) (j:=0) (g:=w.heap.size+1) (setOther (v:=.string (ofL (enc n))) (j:=1) (g:=w.heap.size) (setOther (v:=.bool s) (j:=0) (g:=w.heap.size) R4 (by omega)) (by omega)) (by omega)) (by omega);have BQ:=(((BL.setCell (p:=⟨w.heap.size,0,none⟩) (Nat.le_refl _) (.bool s)).setCell (p:=⟨w.heap.size,1,none⟩) (Nat.le_refl _) (.string (ofL (enc n)))).setCell (p:=⟨w.heap.size+1,0,none⟩) (by simp) (.bool false)).setCell (p:=⟨w.heap.size+1,1,none⟩) (by simp) (.string (ofL (enc d)));generalize((((w4.setCell ⟨w.heap.size,0,none⟩ (.bool s)).setCell ⟨w.heap.size,1,none⟩ (.string (ofL (enc n)))).setCell ⟨w.heap.size+1,0,none⟩ (.bool false)).setCell ⟨w.heap.size+1,1,none⟩ (.string (ofL (enc d))))=w5 at*
 clear R2 R3 R4 BL;obtain⟨s1,s2⟩:=two_cells Q2;obtain⟨s3,s4⟩:=two_free Q2;obtain⟨s5,s6⟩:=two_cells Q3;obtain⟨s7,s8⟩:=two_free Q3
 go_wp2_with fail
 have P2:=setOther (v:=.bool false) (j:=0) (g:=w.heap.size+1) (row_set (j:=0) (v:=.bool false) Q2) (show w.heap.size≠w.heap.size+1 by omega);have P3:=row_set (j:=0) (v:=.bool false) (setOther (v:=.bool false) (j:=0) (g:=w.heap.size) Q3 (by omega));have P4:=setOther (v:=.bool false) (j:=0) (g:=w.heap.size+1) (setOther (v:=.bool false) (j:=0) (g:=w.heap.size) Q4 (by omega)) (by omega);have BP:=(BQ.setCell (p:=⟨w.heap.size,0,none⟩) (Nat.le_refl _) (.bool false)).setCell (p:=⟨w.heap.size+1,0,none⟩) (by simp) (.bool false);have P2:((w5.setCell ⟨w.heap.size,0,none⟩ (.bool false)).setCell ⟨w.heap.size+1,0,none⟩ (.bool false)).heap[w.heap.size]? =some (.cells #[.bool false,.string (ofL (enc n))] 207 (0,0)):=P2;have P3:((w5.setCell ⟨w.heap.size,0,none⟩ (.bool false)).setCell ⟨w.heap.size+1,0,none⟩ (.bool false)).heap[w.heap.size+1]? =some (.cells #[.bool false,.string (ofL (enc d))] 207 (0,0)):=P3;have hs6:((w5.setCell ⟨w.heap.size,0,none⟩ (.bool false)).setCell ⟨w.heap.size+1,0,none⟩ (.bool false)).heap.size=w5.heap.size:=by simp
 rw [←hs6];generalize((w5.setCell ⟨w.heap.size,0,none⟩ (.bool false)).setCell ⟨w.heap.size+1,0,none⟩ (.bool false))=w6 at*
 clear hs6 s1 s2 s3 s4 s5 s6 s7 s8 Q2 Q3 Q4 BQ;obtain⟨G,hG⟩:∃G,G=Nat.gcd n d:=⟨_,rfl⟩;have hG0:G≠0:=by rw [hG];exact Nat.gcd_ne_zero_right HH.out.2
 have hsG:(ofL (enc G)).size≤1000000000:=enc_le hsd (by rw [hG];exact Nat.gcd_le_right _ (by have:=HH.out.2;omega));have a2:(w6.alloc (.cells #[.bool false,.string (ofL (enc n)),.bool false,.string (ofL (enc d))] 207)).heap[w.heap.size]? =_:=zo _ _ _ _ P2;have a3:(w6.alloc (.cells #[.bool false,.string (ofL (enc n)),.bool false,.string (ofL (enc d))] 207)).heap[w.heap.size+1]? =_:=zo _ _ _ _ P3;have a4:(w6.alloc (.cells #[.bool false,.string (ofL (enc n)),.bool false,.string (ofL (enc d))] 207)).heap[w.heap.size+1+1]? =_:=zo _ _ _ _ P4;have BA:=BP.alloc BP.size (.cells #[.bool false,.string (ofL (enc n)),.bool false,.string (ofL (enc d))] 207)
 with_reducible refine(rIGcd_any w6.heap.size false false (ofL (enc n)) (ofL (enc d)) hsn hsd _ (zg _ _ _ rfl)).mono ?_
 rintro e w7 ⟨rfl,hb⟩;rw [v8_ofL,v8_ofL,←hG];have HG:=zz hG;have a2:=(hb.block _ (zl a2)).trans a2;have a3:=(hb.block _ (zl a3)).trans a3;have a4:=(hb.block _ (zl a4)).trans a4;have BA:=BA.trans (hb.mono BA.size);clear hb P2 P3 P4 BP hG;have b2:(w7.alloc (.cells #[.bool false,.string (ofL (enc G))] 207)).heap[w.heap.size]? =_:=zo _ _ _ _ a2;have b3:(w7.alloc (.cells #[.bool false,.string (ofL (enc G))] 207)).heap[w.heap.size+1]? =_:=zo _ _ _ _ a3;have b4:(w7.alloc (.cells #[.bool false,.string (ofL (enc G))] 207)).heap[w.heap.size+1+1]? =_:=zo _ _ _ _ a4;have b7:(w7.alloc (.cells #[.bool false,.string (ofL (enc G))] 207)).heap[w7.heap.size]? =_:=zg _ _ _ rfl;have lA:=zl a2;have lB:=zl a3;have lR:=zl a4;have BB:=BA.alloc BA.size (.cells #[.bool false,.string (ofL (enc G))] 207);obtain⟨s1,s2⟩:=two_cells b2;clear a2 a3 a4 BA;unfold iV
 go_wp2_with fail
 have HD:=rIDiv_any n G hsn hsG hG0;have HE:=rIDiv_any d G hsd hsG hG0;unfold iV at HD HE;replace HD:=zz HD;replace HE:=zz HE
 with_reducible refine(HD.out _).mono ?_
 rintro e w8 ⟨rfl,hb⟩;have b2:=(hb.block _ (zl b2)).trans b2;have b3:=(hb.block _ (zl b3)).trans b3;have b4:=(hb.block _ (zl b4)).trans b4;have b7:=(hb.block _ (zl b7)).trans b7;have BB:=BB.trans (hb.mono BB.size);clear hb s1 s2;obtain⟨s1,s2⟩:=two_cells b2;obtain⟨s3,s4⟩:=two_free b2;obtain⟨s5,s6⟩:=two_cells b3;obtain⟨s7,s8⟩:=two_cells b7
 go_wp2_with fail
 have c2:=set2 (x':=.bool false) (y':=.string (ofL (enc (n / G)))) b2;have c3:=setOther (v:=.string (ofL (enc (n / G)))) (j:=1) (g:=w.heap.size) (setOther (v:=.bool false) (j:=0) (g:=w.heap.size) b3 (by omega)) (by omega);have c4:=setOther (v:=.string (ofL (enc (n / G)))) (j:=1) (g:=w.heap.size) (setOther (v:=.bool false) (j:=0) (g:=w.heap.size) b4 (by omega)) (by omega);have c7:=setOther (v:=.string (ofL (enc (n / G)))) (j:=1) (g:=w.heap.size) (setOther (v:=.bool false) (j:=0) (g:=w.heap.size) b7 (by omega)) (by omega);have BC:=((BB.setCell (p:=⟨w.heap.size,0,none⟩) (Nat.le_refl _) (.bool false)).setCell (p:=⟨w.heap.size,1,none⟩) (Nat.le_refl _) (.string (ofL (enc (n / G)))));generalize((w8.setCell ⟨w.heap.size,0,none⟩ (.bool false)).setCell ⟨w.heap.size,1,none⟩ (.string (ofL (enc (n / G)))))=wa at*
 clear s1 s2 s3 s4 s5 s6 s7 s8 b2 b3 b4 b7 BB
 with_reducible refine(HE.out _).mono ?_
 rintro e w9 ⟨rfl,hb⟩;have c2:=(hb.block _ (zl c2)).trans c2;have c3:=(hb.block _ (zl c3)).trans c3;have c4:=(hb.block _ (zl c4)).trans c4;have BC:=BC.trans (hb.mono BC.size);clear hb c7;obtain⟨s1,s2⟩:=two_cells c2;obtain⟨s5,s6⟩:=two_cells c3;obtain⟨s3,s4⟩:=two_free c3
 go_wp2_with fail
 ·have hz:s=false:=by
   have h0:=ofL_isEmpty (n:=n / G) (by assumption)
   have hn:n=0:=by
    have:=Nat.div_mul_cancel (show G∣n by rw [HG.out];exact Nat.gcd_dvd_left n d);rw [h0,Nat.zero_mul]at this;exact this.symm
   have:=HH.out.1;rw [hn]at this
   simpa using this.symm
  have d3:(((w9.setCell ⟨w.heap.size+1,0,none⟩ (.bool false)).setCell ⟨w.heap.size+1,1,none⟩ (.string (ofL (enc (d / G))))).alloc (.cells #[.bool false,.string (ofL (enc (n / G))),.string (ofL (enc (d / G)))] 43)).drew.heap[w.heap.size+1]? =_:=zo _ _ _ _ (set2 (x':=.bool false) (y':=.string (ofL (enc (d / G)))) c3);have d4:(((w9.setCell ⟨w.heap.size+1,0,none⟩ (.bool false)).setCell ⟨w.heap.size+1,1,none⟩ (.string (ofL (enc (d / G))))).alloc (.cells #[.bool false,.string (ofL (enc (n / G))),.string (ofL (enc (d / G)))] 43)).drew.heap[w.heap.size+1+1]? =_:=zo _ _ _ _ (setOther (v:=.string (ofL (enc (d / G)))) (j:=1) (g:=w.heap.size+1) (setOther (v:=.bool false) (j:=0) (g:=w.heap.size+1) c4 (by omega)) (by omega));have d8:(((w9.setCell ⟨w.heap.size+1,0,none⟩ (.bool false)).setCell ⟨w.heap.size+1,1,none⟩ (.string (ofL (enc (d / G))))).alloc (.cells #[.bool false,.string (ofL (enc (n / G))),.string (ofL (enc (d / G)))] 43)).drew.heap[w9.heap.size]? =_:=zg _ _ _ (by simp);have BD:=((BC.setCell (p:=⟨w.heap.size+1,0,none⟩) (by simp) (.bool false)).setCell (p:=⟨w.heap.size+1,1,none⟩) (by simp) (.string (ofL (enc (d / G)))));have BE:=(BD.alloc BD.size (.cells #[.bool false,.string (ofL (enc (n / G))),.string (ofL (enc (d / G)))] 43)).drew;have lR:=zl c4;generalize(((w9.setCell ⟨w.heap.size+1,0,none⟩ (.bool false)).setCell ⟨w.heap.size+1,1,none⟩ (.string (ofL (enc (d / G))))).alloc (.cells #[.bool false,.string (ofL (enc (n / G))),.string (ofL (enc (d / G)))] 43))=wz at*
  clear s1 s2 s3 s4 s5 s6 c2 c3 c4 BC BD;obtain⟨b,hb0⟩:∃b,b=decide (d / G=1):=⟨_,rfl⟩;have hx:((ofL (enc (d / G))).toList==(ofL (enc 1)).toList)=b:=by rw [ofL_beq,hb0]
  have hb1:=zz hb0;clear hb0;cases b
  ·go_region_held3 (fun w'=>w'.cell? ⟨w.heap.size+1,0,none⟩=some (.bool false)∧w'.cell? ⟨w.heap.size+1,1,none⟩=some (.string (ofL (enc (d / G)))))
    (first
     |with_reducible exact two_cells d3
     |go_keep)
    (first
     |(go_at_call 210;with_reducible refine(rOne_any _).mono ?_;rintro e w10 ⟨rfl,hb⟩;unfold iV;have d3:=(hb.block _ (zl d3)).trans d3;have d4:=(hb.block _ (zl d4)).trans d4;have d8:=(hb.block _ (zl d8)).trans d8;have BE:=BE.trans (hb.mono BE.size);obtain⟨s1,s2⟩:=two_cells d3))
   obtain⟨c0,c1,c2⟩:=three_cells d8;obtain⟨c3,c4,c5⟩:=three_cells d4;obtain⟨e0,e1,e2⟩:=three_free d8;obtain⟨e3,e4,e5⟩:=three_free d4
   go_wp2_with fail
   refine bodyPost_ret (results_ct Tryz.results174 _ _ (w.heap.size+1+1) 43 #[.bool false,.string (ofL (enc (n / G))),.string (ofL (enc (d / G)))] (0,0) _ (.bool true) rfl rfl (set3 d4) Tryz.underlying43 rfl (by kernel_rfl)) rfl ⟨?_,(((BE.setCell (by simp <;>omega) _).setCell (by simp <;>omega) _).setCell (by simp <;>omega) _)⟩;rw [qV,←HG.out,qDen,if_neg (of_decide_eq_false hb1.out.symm),HH.out.1,hz]
  ·go_region_held3 (fun w'=>w'.cell? ⟨w.heap.size+1,0,none⟩=some (.bool false)∧w'.cell? ⟨w.heap.size+1,1,none⟩=some (.string (ofL (enc (d / G)))))
    (first
     |with_reducible exact two_cells d3
     |go_keep)
    (first
     |(go_at_call 210;with_reducible refine(rOne_any _).mono ?_;rintro e w10 ⟨rfl,hb⟩;unfold iV;have d3:=(hb.block _ (zl d3)).trans d3;have d4:=(hb.block _ (zl d4)).trans d4;have d8:=(hb.block _ (zl d8)).trans d8;have BE:=BE.trans (hb.mono BE.size);obtain⟨s1,s2⟩:=two_cells d3))
   obtain⟨c0,c1,c2⟩:=three_cells d8;obtain⟨c3,c4,c5⟩:=three_cells d4;obtain⟨e0,e1,e2⟩:=three_free d8;obtain⟨e3,e4,e5⟩:=three_free d4
   go_wp2_with fail
   refine bodyPost_ret (results_ct Tryz.results174 _ _ (w.heap.size+1+1) 43 #[.bool false,.string (ofL (enc (n / G))),.string ⟨#[]⟩] (0,0) _ (.bool true) rfl rfl (set3 (setOther (v:=.string ⟨#[]⟩) (j:=2) (g:=w9.heap.size) d4 (by omega))) Tryz.underlying43 rfl (by kernel_rfl)) rfl ⟨?_,((((BE.setCell (by simp <;>omega) _).setCell (by simp <;>omega) _).setCell (by simp <;>omega) _).setCell (by simp <;>omega) _)⟩;rw [qV,←HG.out,qDen,if_pos (of_decide_eq_true hb1.out.symm),HH.out.1,hz]
 ·have d3:(((w9.setCell ⟨w.heap.size+1,0,none⟩ (.bool false)).setCell ⟨w.heap.size+1,1,none⟩ (.string (ofL (enc (d / G))))).alloc (.cells #[.bool s,.string (ofL (enc (n / G))),.string (ofL (enc (d / G)))] 43)).drew.heap[w.heap.size+1]? =_:=zo _ _ _ _ (set2 (x':=.bool false) (y':=.string (ofL (enc (d / G)))) c3);have d4:(((w9.setCell ⟨w.heap.size+1,0,none⟩ (.bool false)).setCell ⟨w.heap.size+1,1,none⟩ (.string (ofL (enc (d / G))))).alloc (.cells #[.bool s,.string (ofL (enc (n / G))),.string (ofL (enc (d / G)))] 43)).drew.heap[w.heap.size+1+1]? =_:=zo _ _ _ _ (setOther (v:=.string (ofL (enc (d / G)))) (j:=1) (g:=w.heap.size+1) (setOther (v:=.bool false) (j:=0) (g:=w.heap.size+1) c4 (by omega)) (by omega));have d8:(((w9.setCell ⟨w.heap.size+1,0,none⟩ (.bool false)).setCell ⟨w.heap.size+1,1,none⟩ (.string (ofL (enc (d / G))))).alloc (.cells #[.bool s,.string (ofL (enc (n / G))),.string (ofL (enc (d / G)))] 43)).drew.heap[w9.heap.size]? =_:=zg _ _ _ (by simp);have BD:=((BC.setCell (p:=⟨w.heap.size+1,0,none⟩) (by simp) (.bool false)).setCell (p:=⟨w.heap.size+1,1,none⟩) (by simp) (.string (ofL (enc (d / G)))));have BE:=(BD.alloc BD.size (.cells #[.bool s,.string (ofL (enc (n / G))),.string (ofL (enc (d / G)))] 43)).drew;have lR:=zl c4;generalize(((w9.setCell ⟨w.heap.size+1,0,none⟩ (.bool false)).setCell ⟨w.heap.size+1,1,none⟩ (.string (ofL (enc (d / G))))).alloc (.cells #[.bool s,.string (ofL (enc (n / G))),.string (ofL (enc (d / G)))] 43))=wz at*
  clear s1 s2 s3 s4 s5 s6 c2 c3 c4 BC BD;obtain⟨b,hb0⟩:∃b,b=decide (d / G=1):=⟨_,rfl⟩;have hx:((ofL (enc (d / G))).toList==(ofL (enc 1)).toList)=b:=by rw [ofL_beq,hb0]
  have hb1:=zz hb0;clear hb0;cases b
  ·go_region_held3 (fun w'=>w'.cell? ⟨w.heap.size+1,0,none⟩=some (.bool false)∧w'.cell? ⟨w.heap.size+1,1,none⟩=some (.string (ofL (enc (d / G)))))
    (first
     |with_reducible exact two_cells d3
     |go_keep)
    (first
     |(go_at_call 210;with_reducible refine(rOne_any _).mono ?_;rintro e w10 ⟨rfl,hb⟩;unfold iV;have d3:=(hb.block _ (zl d3)).trans d3;have d4:=(hb.block _ (zl d4)).trans d4;have d8:=(hb.block _ (zl d8)).trans d8;have BE:=BE.trans (hb.mono BE.size);obtain⟨s1,s2⟩:=two_cells d3))
   obtain⟨c0,c1,c2⟩:=three_cells d8;obtain⟨c3,c4,c5⟩:=three_cells d4;obtain⟨e0,e1,e2⟩:=three_free d8;obtain⟨e3,e4,e5⟩:=three_free d4
   go_wp2_with fail
   refine bodyPost_ret (results_ct Tryz.results174 _ _ (w.heap.size+1+1) 43 #[.bool s,.string (ofL (enc (n / G))),.string (ofL (enc (d / G)))] (0,0) _ (.bool true) rfl rfl (set3 d4) Tryz.underlying43 rfl (by kernel_rfl)) rfl ⟨?_,(((BE.setCell (by simp <;>omega) _).setCell (by simp <;>omega) _).setCell (by simp <;>omega) _)⟩;rw [qV,←HG.out,qDen,if_neg (of_decide_eq_false hb1.out.symm),HH.out.1]
  ·go_region_held3 (fun w'=>w'.cell? ⟨w.heap.size+1,0,none⟩=some (.bool false)∧w'.cell? ⟨w.heap.size+1,1,none⟩=some (.string (ofL (enc (d / G)))))
    (first
     |with_reducible exact two_cells d3
     |go_keep)
    (first
     |(go_at_call 210;with_reducible refine(rOne_any _).mono ?_;rintro e w10 ⟨rfl,hb⟩;unfold iV;have d3:=(hb.block _ (zl d3)).trans d3;have d4:=(hb.block _ (zl d4)).trans d4;have d8:=(hb.block _ (zl d8)).trans d8;have BE:=BE.trans (hb.mono BE.size);obtain⟨s1,s2⟩:=two_cells d3))
   obtain⟨c0,c1,c2⟩:=three_cells d8;obtain⟨c3,c4,c5⟩:=three_cells d4;obtain⟨e0,e1,e2⟩:=three_free d8;obtain⟨e3,e4,e5⟩:=three_free d4
   go_wp2_with fail
   refine bodyPost_ret (results_ct Tryz.results174 _ _ (w.heap.size+1+1) 43 #[.bool s,.string (ofL (enc (n / G))),.string ⟨#[]⟩] (0,0) _ (.bool true) rfl rfl (set3 (setOther (v:=.string ⟨#[]⟩) (j:=2) (g:=w9.heap.size) d4 (by omega))) Tryz.underlying43 rfl (by kernel_rfl)) rfl ⟨?_,((((BE.setCell (by simp <;>omega) _).setCell (by simp <;>omega) _).setCell (by simp <;>omega) _).setCell (by simp <;>omega) _)⟩;rw [qV,←HG.out,qDen,if_pos (of_decide_eq_true hb1.out.symm),HH.out.1]
set_option maxHeartbeats 3200000
theorem rAbove_any (s:Bool) (a c:ByteArray) (ha:a.size≤1000000000) (w:World):Calls Tryz.prog 175 #[.agg #[.bool s,.string a,.string c]] w fun e w'=>e=.returned (iV (s&&decide (v8 (bl a)≠0)) (v8 (bl a)))∧Below w.heap.size w w':=by
 have r1:((w.alloc (.cells #[.bool s,.string a,.string c] 43)).alloc (.cells #[.bool false,.string ⟨#[]⟩] 207)).heap[w.heap.size+1]? =_:=zg _ _ _ (by simp);have BL:=((Below.refl w.heap.size w).alloc (Nat.le_refl _) (.cells #[.bool s,.string a,.string c] 43)).alloc (by simp) (.cells #[.bool false,.string ⟨#[]⟩] 207);go_enter Tryz.func175,Tryz.ntmps175
 go_wp2_with fail
 with_reducible refine(rINorm_any s a (by omega) _).mono ?_
 rintro e w2 ⟨rfl,hb2⟩;have r1:=(hb2.block _ (zl r1)).trans r1;have BL:=BL.trans (hb2.mono BL.size);obtain⟨c1,c2⟩:=two_cells r1;obtain⟨f1,f2⟩:=two_free r1;obtain⟨s',hs'⟩:∃s',s'=(s&&decide (v8 (bl a)≠0)):=⟨_,rfl⟩;obtain⟨a',ha'⟩:∃a',a'=ofL (enc (v8 (bl a))):=⟨_,rfl⟩;have HS:=zz (And.intro hs' ha');have HBL:=zz BL;have HR:=zz (set2 r1 (x':=.bool s') (y':=.string a'));clear hb2 BL r1;unfold iV;rw [←hs',←ha'];clear hs' ha';go_wp2;exact bodyPost_ret (results_cell_row Tryz.results175 _ _ (w.heap.size+1) 207 _ (0,0) _ rfl HR.out Tryz.underlying207 rfl (by kernel_rfl)) rfl ⟨by rw [iV,←HS.out.1,←HS.out.2],(HBL.out.setCell (by simp) _).setCell (by simp) _⟩
def den0 (n:Nat):Nat:=if n=0 then 1 else n
theorem rBelow_any (s:Bool) (a c:ByteArray) (hc:c.size≤1000000000) (w:World):Calls Tryz.prog 176 #[.agg #[.bool s,.string a,.string c]] w fun e w'=>e=.returned (iV false (den0 (v8 (bl c))))∧Below w.heap.size w w':=by
 have r1:((w.alloc (.cells #[.bool s,.string a,.string c] 43)).alloc (.cells #[.bool false,.string ⟨#[]⟩] 207)).heap[w.heap.size+1]? =_:=zg _ _ _ (by simp);have BL:=((Below.refl w.heap.size w).alloc (Nat.le_refl _) (.cells #[.bool s,.string a,.string c] 43)).alloc (by simp) (.cells #[.bool false,.string ⟨#[]⟩] 207);go_enter Tryz.func176,Tryz.ntmps176
 go_wp2_with fail
 with_reducible refine(rINorm_any false c (by omega) _).mono ?_
 rintro e w2 ⟨rfl,hb2⟩;have r1:=(hb2.block _ (zl r1)).trans r1;have lt1:=zl r1;have BL:=BL.trans (hb2.mono BL.size);rw [Bool.false_and];unfold iV;obtain⟨n,hn'⟩:∃n,n=v8 (bl c):=⟨_,rfl⟩;rw [←hn'];have HN:=zz hn';clear hn';have d1:(w2.alloc (.cells #[.bool false,.string (ofL (enc n))] 207)).heap[w.heap.size+1]? =_:=zo _ _ _ _ r1;have BW:=BL;have BL:=BL.alloc BL.size (.cells #[.bool false,.string (ofL (enc n))] 207);obtain⟨c1,c2⟩:=two_cells r1;obtain⟨f1,f2⟩:=two_free r1;clear hb2
 by_cases hn:n=0
 ·subst hn;have he:=enc_empty
  go_wp2_with fail
  with_reducible refine(rOne_any _).mono ?_
  rintro e w3 ⟨rfl,hb⟩;have d1:=(hb.block _ (zl d1)).trans d1;have BL:=BL.trans (hb.mono BL.size);clear c1 c2 f1 f2;obtain⟨c1,c2⟩:=two_cells d1;obtain⟨f1,f2⟩:=two_free d1;unfold iV;go_wp2;exact bodyPost_ret (results_cell_row Tryz.results176 _ _ (w.heap.size+1) 207 _ (0,0) _ rfl (set2 d1 (x':=.bool false) (y':=.string (ofL (enc 1)))) Tryz.underlying207 rfl (by kernel_rfl)) rfl ⟨by rw [den0,←HN.out,if_pos rfl,iV],(BL.setCell (by simp) _).setCell (by simp) _⟩
 ·have he:=ofL_noempty hn;have r2:=set2 r1 (x':=.bool false) (y':=.string (ofL (enc n)));have d2:(((w2.setCell ⟨w.heap.size+1,0,none⟩ (.bool false)).setCell ⟨w.heap.size+1,1,none⟩ (.string (ofL (enc n)))).alloc (.cells #[.bool false,.string (ofL (enc n))] 207)).heap[w.heap.size+1]? =_:=zo _ _ _ _ r2;have BM:=((BW.setCell (p:=⟨w.heap.size+1,0,none⟩) (by simp) (.bool false)).setCell (p:=⟨w.heap.size+1,1,none⟩) (by simp) (.string (ofL (enc n)))).alloc (by simp;exact BW.size) (.cells #[.bool false,.string (ofL (enc n))] 207)
  go_wp2_with fail
  refine bodyPost_ret (results_cell_row Tryz.results176 _ _ (w.heap.size+1) 207 _ (0,0) _ rfl d2 Tryz.underlying207 rfl (by kernel_rfl)) rfl ⟨by rw [den0,←HN.out,if_neg hn,iV],BM⟩
theorem set3_keep {W:World} {k g:Nat} {o:Obj} {x y z x' y' z':Value} {t:TypeId} (_h3:W.heap[g]? =some (.cells #[x,y,z] t (0,0))) (h2:W.heap[k]? =some o) (hne:k≠g):(((W.setCell ⟨g,0,none⟩ x').setCell ⟨g,1,none⟩ y').setCell ⟨g,2,none⟩ z').heap[k]? =some o:=setOther (setOther (setOther h2 hne) hne) hne
theorem den0_pos (n:Nat):den0 n≠0:=by unfold den0;split <;>omega
theorem enc_own {a:ByteArray} {M:Nat} (h:a.size≤M):(ofL (enc (v8 (bl a)))).size≤M:=by
 refine enc_size ?_;have a1:=v8_lt (bl a);rw [bl_size]at a1;exact Nat.lt_of_lt_of_le a1 (Nat.pow_le_pow_right (by omega) h)
theorem den0_size {c:ByteArray} (h:c.size≤1000000000):(ofL (enc (den0 (v8 (bl c))))).size≤1000000000:=by
 unfold den0
 split
 ·have:enc 1= [1]:=by rw [enc,if_neg (by omega),show 1 / 256=0 by omega,enc_zero];rfl
  rw [this]
  show 1≤1000000000
  omega
 ·exact enc_own h
set_option maxRecDepth 100000 in
theorem rNorm3_any (s:Bool) (a c:ByteArray) (ha:a.size≤1000000000) (hc:c.size≤1000000000) (w:World):
  Calls Tryz.prog 132 #[.agg #[.bool s,.string a,.string c]] w fun e w'=>e=.returned (qV s (v8 (bl a)) (den0 (v8 (bl c))))∧Below w.heap.size w w':=by
 have HA:=rAbove_any s a c ha;have HB:=rBelow_any s a c hc;have HM:=rMake_any (s&&decide (v8 (bl a)≠0)) (v8 (bl a)) (den0 (v8 (bl c))) (by simp) (den0_pos _) (enc_own ha) (den0_size hc);obtain⟨g,hg⟩:∃g,g=(s&&decide (v8 (bl a)≠0)):=⟨_,rfl⟩;obtain⟨n,hn⟩:∃n,n=v8 (bl a):=⟨_,rfl⟩;obtain⟨m,hm⟩:∃m,m=den0 (v8 (bl c)):=⟨_,rfl⟩;rw [←hg,←hn]at HA;rw [←hm]at HB;rw [←hg,←hn,←hm]at HM
 have hgg:(g&&!decide (n=0))=(s&&decide (n≠0)):=by
  rw [hg,←hn]
  by_cases h:n=0 <;>simp [h]
 have HE:=zz (And.intro hgg (And.intro hn hm));clear hgg;clear hg hn hm;unfold iV at HA HB HM;replace HA:=zz HA;replace HB:=zz HB;replace HM:=zz HM;have R1:(((w.alloc (.cells #[.bool s,.string a,.string c] 43)).alloc (.cells #[.bool false,.string ⟨#[]⟩,.string ⟨#[]⟩] 43)).drew).heap[w.heap.size]? =_:=zo _ _ _ _ (zg _ _ _ rfl);have R2:(((w.alloc (.cells #[.bool s,.string a,.string c] 43)).alloc (.cells #[.bool false,.string ⟨#[]⟩,.string ⟨#[]⟩] 43)).drew).heap[w.heap.size+1]? =_:=zg _ _ _ (by simp);have BL:Below w.heap.size w (((w.alloc (.cells #[.bool s,.string a,.string c] 43)).alloc (.cells #[.bool false,.string ⟨#[]⟩,.string ⟨#[]⟩] 43)).drew):=(((Below.refl _ _).alloc (Nat.le_refl _) _).alloc (by simp) _).drew;have hs1:(((w.alloc (.cells #[.bool s,.string a,.string c] 43)).alloc (.cells #[.bool false,.string ⟨#[]⟩,.string ⟨#[]⟩] 43)).drew).heap.size=w.heap.size+1+1:=by simp
 have hs2:(((w.alloc (.cells #[.bool s,.string a,.string c] 43)).alloc (.cells #[.bool false,.string ⟨#[]⟩,.string ⟨#[]⟩] 43))).heap.size=w.heap.size+1+1:=by simp
 go_enter Tryz.func132,Tryz.ntmps132
 go_wp2_with fail
 go_region_held3 (fun w'=>w'.cell? ⟨w.heap.size,0,none⟩=some (.bool s)∧w'.cell? ⟨w.heap.size,1,none⟩=some (.string a)∧w'.cell? ⟨w.heap.size,2,none⟩=some (.string c))
  (first
   |with_reducible exact three_cells R1
   |with_reducible exact three_cells (setOther (setOther (setOther R1 (by omega)) (by omega)) (by omega))
   |go_keep)
  (first
   |(go_at_call 175;with_reducible refine(HA.out _).mono ?_;rintro e w4 ⟨rfl,hb⟩;(first|(have R1:=(hb.block _ (zl R1)).trans R1;have R2:=(hb.block _ (zl R2)).trans R2;have BL:=BL.trans (hb.mono BL.size);have R3:=(hb.block _ (zl R3)).trans R3;obtain⟨c4,c5,c6⟩:=three_cells R3;obtain⟨e4,e5,e6⟩:=three_free R3)|(have R1:=(hb.block _ (zl R1)).trans R1;have R2:=(hb.block _ (zl R2)).trans R2;have BL:=BL.trans (hb.mono BL.size))|(have lR1:=zl R1;have lR2:=zl R2;have R1:=(hb.block _ (zl (zo _ _ (.cells #[.bool false,.string ⟨#[]⟩,.string ⟨#[]⟩] 43) _ R1))).trans (zo _ _ (.cells #[.bool false,.string ⟨#[]⟩,.string ⟨#[]⟩] 43) _ R1);have R2:=(hb.block _ (zl (zo _ _ (.cells #[.bool false,.string ⟨#[]⟩,.string ⟨#[]⟩] 43) _ R2))).trans (zo _ _ (.cells #[.bool false,.string ⟨#[]⟩,.string ⟨#[]⟩] 43) _ R2);have R3:=(hb.block _ (zl (zg _ (.cells #[.bool false,.string ⟨#[]⟩,.string ⟨#[]⟩] 43) _ rfl))).trans (zg _ (.cells #[.bool false,.string ⟨#[]⟩,.string ⟨#[]⟩] 43) _ rfl);(try rw [hs1]at R3);(try rw [hs2]at R3);have BL:=(BL.alloc BL.size (.cells #[.bool false,.string ⟨#[]⟩,.string ⟨#[]⟩] 43)).trans (hb.mono (BL.alloc BL.size (.cells #[.bool false,.string ⟨#[]⟩,.string ⟨#[]⟩] 43)).size);obtain⟨c4,c5,c6⟩:=three_cells R3;obtain⟨e4,e5,e6⟩:=three_free R3));obtain⟨c1,c2,c3⟩:=three_cells R1)
   |(go_at_call 176;with_reducible refine(HB.out _).mono ?_;rintro e w4 ⟨rfl,hb⟩;(first|(have R1:=(hb.block _ (zl R1)).trans R1;have R2:=(hb.block _ (zl R2)).trans R2;have BL:=BL.trans (hb.mono BL.size);have R3:=(hb.block _ (zl R3)).trans R3;obtain⟨c4,c5,c6⟩:=three_cells R3;obtain⟨e4,e5,e6⟩:=three_free R3)|(have R1:=(hb.block _ (zl R1)).trans R1;have R2:=(hb.block _ (zl R2)).trans R2;have BL:=BL.trans (hb.mono BL.size))|(have lR1:=zl R1;have lR2:=zl R2;have R1:=(hb.block _ (zl (zo _ _ (.cells #[.bool false,.string ⟨#[]⟩,.string ⟨#[]⟩] 43) _ R1))).trans (zo _ _ (.cells #[.bool false,.string ⟨#[]⟩,.string ⟨#[]⟩] 43) _ R1);have R2:=(hb.block _ (zl (zo _ _ (.cells #[.bool false,.string ⟨#[]⟩,.string ⟨#[]⟩] 43) _ R2))).trans (zo _ _ (.cells #[.bool false,.string ⟨#[]⟩,.string ⟨#[]⟩] 43) _ R2);have R3:=(hb.block _ (zl (zg _ (.cells #[.bool false,.string ⟨#[]⟩,.string ⟨#[]⟩] 43) _ rfl))).trans (zg _ (.cells #[.bool false,.string ⟨#[]⟩,.string ⟨#[]⟩] 43) _ rfl);(try rw [hs1]at R3);(try rw [hs2]at R3);have BL:=(BL.alloc BL.size (.cells #[.bool false,.string ⟨#[]⟩,.string ⟨#[]⟩] 43)).trans (hb.mono (BL.alloc BL.size (.cells #[.bool false,.string ⟨#[]⟩,.string ⟨#[]⟩] 43)).size);obtain⟨c4,c5,c6⟩:=three_cells R3;obtain⟨e4,e5,e6⟩:=three_free R3));obtain⟨c1,c2,c3⟩:=three_cells R1)
   |(go_at_call 174;with_reducible refine(HM.out _).mono ?_;rintro e w4 ⟨rfl,hb⟩;(first|(have R1:=(hb.block _ (zl R1)).trans R1;have R2:=(hb.block _ (zl R2)).trans R2;have BL:=BL.trans (hb.mono BL.size);have R3:=(hb.block _ (zl R3)).trans R3;obtain⟨c4,c5,c6⟩:=three_cells R3;obtain⟨e4,e5,e6⟩:=three_free R3)|(have R1:=(hb.block _ (zl R1)).trans R1;have R2:=(hb.block _ (zl R2)).trans R2;have BL:=BL.trans (hb.mono BL.size))|(have lR1:=zl R1;have lR2:=zl R2;have R1:=(hb.block _ (zl (zo _ _ (.cells #[.bool false,.string ⟨#[]⟩,.string ⟨#[]⟩] 43) _ R1))).trans (zo _ _ (.cells #[.bool false,.string ⟨#[]⟩,.string ⟨#[]⟩] 43) _ R1);have R2:=(hb.block _ (zl (zo _ _ (.cells #[.bool false,.string ⟨#[]⟩,.string ⟨#[]⟩] 43) _ R2))).trans (zo _ _ (.cells #[.bool false,.string ⟨#[]⟩,.string ⟨#[]⟩] 43) _ R2);have R3:=(hb.block _ (zl (zg _ (.cells #[.bool false,.string ⟨#[]⟩,.string ⟨#[]⟩] 43) _ rfl))).trans (zg _ (.cells #[.bool false,.string ⟨#[]⟩,.string ⟨#[]⟩] 43) _ rfl);(try rw [hs1]at R3);(try rw [hs2]at R3);have BL:=(BL.alloc BL.size (.cells #[.bool false,.string ⟨#[]⟩,.string ⟨#[]⟩] 43)).trans (hb.mono (BL.alloc BL.size (.cells #[.bool false,.string ⟨#[]⟩,.string ⟨#[]⟩] 43)).size);obtain⟨c4,c5,c6⟩:=three_cells R3;obtain⟨e4,e5,e6⟩:=three_free R3));obtain⟨c1,c2,c3⟩:=three_cells R1;unfold qV))
 all_goals (first
  |(
    have K3:=set3 R3 (x':=.bool (g&&!decide (n=0))) (y':=.string (ofL (enc (n / n.gcd m)))) (z':=.string (qDen (m / n.gcd m)));have K2:=set3_keep (x':=.bool (g&&!decide (n=0))) (y':=.string (ofL (enc (n / n.gcd m)))) (z':=.string (qDen (m / n.gcd m))) R3 R2 (by omega);obtain⟨d1,d2,d3⟩:=three_cells K3;obtain⟨d4,d5,d6⟩:=three_cells K2;obtain⟨f4,f5,f6⟩:=three_free K2
    go_wp2_with fail
    refine bodyPost_ret (results_cell_row Tryz.results132 _ _ (w.heap.size+1) 43 #[.bool (g&&!decide (n=0)),.string (ofL (enc (n / n.gcd m))),.string (qDen (m / n.gcd m))] (0,0) _ rfl (set3 K2) Tryz.underlying43 rfl (by kernel_rfl)) rfl ⟨?_,(((((BL.setCell (by simp <;>omega) _).setCell (by simp <;>omega) _).setCell (by simp <;>omega) _).setCell (by simp) _).setCell (by simp) _).setCell (by simp) _⟩
    simp only [qV,←HE.out.2.1,←HE.out.2.2,HE.out.1])
  |(
    obtain⟨d4,d5,d6⟩:=three_cells R2;obtain⟨f4,f5,f6⟩:=three_free R2;have lR2:=zl R2
    go_wp2_with fail
    have K2:=set3 R2 (x':=.bool (g&&!decide (n=0))) (y':=.string (ofL (enc (n / n.gcd m)))) (z':=.string (qDen (m / n.gcd m)));have BK:=((BL.setCell (p:=⟨w.heap.size+1,0,none⟩) (by simp) (.bool (g&&!decide (n=0)))).setCell (p:=⟨w.heap.size+1,1,none⟩) (by simp) (.string (ofL (enc (n / n.gcd m))))).setCell (p:=⟨w.heap.size+1,2,none⟩) (by simp) (.string (qDen (m / n.gcd m)));refine bodyPost_ret (results_cell_row Tryz.results132 _ _ (w.heap.size+1) 43 #[.bool (g&&!decide (n=0)),.string (ofL (enc (n / n.gcd m))),.string (qDen (m / n.gcd m))] (0,0) _ rfl (zo _ _ _ _ K2) Tryz.underlying43 rfl (by kernel_rfl)) rfl ⟨?_,BK.alloc BK.size _⟩
    simp only [qV,←HE.out.2.1,←HE.out.2.2,HE.out.1]))
end Go.Proofs.YteigcnamkfebgaaGreatDoor
