import Derived.Test.YteigcnamkfebgaaGreatDoorEE
import Derived.Test.YteigcnamkfebgaaGreatDoorCJ
set_option linter.all false
set_option maxHeartbeats 25600000
namespace Go.Proofs.YteigcnamkfebgaaGreatDoor
open Go.RowKit
def zB (z:Int):Bool:=decide (z < 0)
def zS (z:Int):ByteArray:=ofL (enc z.natAbs)
def sg (b:Bool) (n:Nat):Int:=if b then -(n:Int)else n
theorem sg_abs (b:Bool) (n:Nat):(sg b n).natAbs=n:=by unfold sg;split <;>omega
theorem zS_sg (b:Bool) (n:Nat):zS (sg b n)=ofL (enc n):=by unfold zS;rw [sg_abs]
theorem zB_sg (b:Bool) (n:Nat):zB (sg b n)=(b&&decide (n≠0)):=by
 unfold zB sg;cases b
 ·simp
 ·by_cases h:n=0
  ·subst h;simp
  ·simp [h];omega
theorem sg_z (z:Int):sg (zB z) z.natAbs=z:=by
 unfold sg zB
 by_cases h:z < 0
 ·rw [decide_eq_true h,if_pos rfl];omega
 ·rw [decide_eq_false h,if_neg (by simp)];omega
theorem v8_zS (z:Int):v8 (bl (zS z))=z.natAbs:=v8_ofL _
theorem norm_enc (s:ByteArray) (hs:s.size≤1000000000000) (w:World):Calls Tryz.prog 200 #[.string s] w fun e w'=>e=.returned (.string (ofL (enc (v8 (bl s)))))∧w=w':=
 (norm_any s hs w).mono fun e w' h=>⟨by rw [h.1,trimZ_enc],h.2⟩
theorem set2_same {W:World} {k:Nat} {x y:Value} {t:TypeId} (h:W.heap[k]? =some (.cells #[x,y] t (0,0))):((W.setCell ⟨k,0,none⟩ x).setCell ⟨k,1,none⟩ y).heap[k]? =some (.cells #[x,y] t (0,0)):=set2 h
set_option maxRecDepth 100000 in
theorem of_any (b:Bool) (n:Nat) (w:World):Calls Tryz.prog 205 #[.bool b,.string (ofL (enc n))] w fun e w'=>e=.returned (.agg #[.bool (zB (sg b n)),.string (zS (sg b n))])∧Below w.heap.size w w':=by
 rw [zS_sg,zB_sg];have BF:∀v:Array Value,Below w.heap.size w (w.alloc (.cells v 207)):=fun v=>(Below.refl _ _).alloc (Nat.le_refl _) _
 have HBF:=zz BF;clear BF
 by_cases h0:n=0
 ·subst h0;have he:=enc_empty;cases b <;>(go_enter Tryz.func205,Tryz.ntmps205;go_wp2;exact bodyPost_ret (v:=.agg #[.bool false,.string (ofL (enc 0))]) (by simp [results,Tryz.results205,go_sem]) rfl ⟨by simp,HBF.out _⟩)
 ·have he:=ofL_noempty h0;cases b
  ·go_enter Tryz.func205,Tryz.ntmps205
   go_wp2;exact bodyPost_ret (v:=.agg #[.bool false,.string (ofL (enc n))]) (by simp [results,Tryz.results205,go_sem]) rfl ⟨by simp,HBF.out _⟩
  ·go_enter Tryz.func205,Tryz.ntmps205
   go_wp2;exact bodyPost_ret (v:=.agg #[.bool true,.string (ofL (enc n))]) (by simp [results,Tryz.results205,go_sem]) rfl ⟨by simp [h0],HBF.out _⟩
set_option maxRecDepth 100000 in
theorem normS (b:Bool) (s:ByteArray) (hs:s.size≤1000000000000) (w:World):Calls Tryz.prog 202 #[.agg #[.bool b,.string s]] w fun e w'=>e=.returned (.agg #[.bool (zB (sg b (v8 (bl s)))),.string (zS (sg b (v8 (bl s))))])∧Below w.heap.size w w':=by
 have HN:=zz (fun W=>norm_enc s hs W);obtain⟨n,hn⟩:∃n,n=v8 (bl s):=⟨_,rfl⟩;rw [←hn]at HN⊢;have HOF:=zz (fun W=>of_any b n W);obtain⟨z,hz⟩:∃z,z=sg b n:=⟨_,rfl⟩;rw [←hz]at HOF⊢;clear hz hn;go_enter Tryz.func202,Tryz.ntmps202
 go_wp2_with fail
 have c0:=two_cells (show((((w.alloc (.cells #[.bool b,.string s] 207)).alloc (.cells #[.bool false,.string ⟨#[]⟩] 207)).drew).heap[w.heap.size]?)=_ from box2.1);have k1:((((w.alloc (.cells #[.bool b,.string s] 207)).alloc (.cells #[.bool false,.string ⟨#[]⟩] 207)).drew).heap[w.heap.size+1]?)=_:=box2.2
 go_region_held3 (fun w'=>w'.cell? ⟨w.heap.size,0,none⟩=some (.bool b)∧w'.cell? ⟨w.heap.size,1,none⟩=some (.string s))
  (first
   |go_keep
   |exact keep2 hb1 c0)
  (first
   |(go_at_call 200;with_reducible refine(HN.out _).mono ?_;rintro e w1 ⟨rfl,rfl⟩)
   |(go_at_call 205;with_reducible refine(HOF.out _).mono ?_;rintro e w1 ⟨rfl,hb1⟩;have r1:=(hb1.block (w.heap.size+1) (by simp)).trans k1;obtain⟨r2,r3⟩:=two_cells r1;obtain⟨r4,r5⟩:=two_free r1))
 go_wp2;exact bodyPost_ret (results_cell_row Tryz.results202 _ _ (w.heap.size+1) 207 _ (0,0) _ rfl (set2 r1) Tryz.underlying207 rfl (by kernel_rfl)) rfl ⟨rfl,(((below2 w _ _).trans ((Below_drew_left' hb1).mono (by simp <;>omega))).setCell (by simp) _).setCell (by simp) _⟩
theorem normZ (z:Int) (hz:(zS z).size≤1000000000) (w:World):Calls Tryz.prog 202 #[.agg #[.bool (zB z),.string (zS z)]] w fun e w'=>e=.returned (.agg #[.bool (zB z),.string (zS z)])∧Below w.heap.size w w':=by
 have h:=normS (zB z) (zS z) (by omega) w;rw [v8_zS,sg_z]at h;exact h
set_option maxRecDepth 100000 in
theorem negZ (z:Int) (hz:(zS z).size≤1000000000) (w:World):Calls Tryz.prog 231 #[.agg #[.bool (zB z),.string (zS z)]] w fun e w'=>e=.returned (.agg #[.bool (zB (-z)),.string (zS (-z))])∧Below w.heap.size w w':=by
 have R0:((w.alloc (.cells #[.bool (zB z),.string (zS z)] 207)).alloc (.cells #[.bool false,.string ⟨#[]⟩] 207)).heap[w.heap.size]? =_:=box2.1;have R1:((w.alloc (.cells #[.bool (zB z),.string (zS z)] 207)).alloc (.cells #[.bool false,.string ⟨#[]⟩] 207)).heap[w.heap.size+1]? =_:=box2.2;have BL:=below2 w (.cells #[.bool (zB z),.string (zS z)] 207) (.cells #[.bool false,.string ⟨#[]⟩] 207)
 have hof:∀W,Calls Tryz.prog 205 #[.bool (!zB z),.string (zS z)] W fun e w'=>e=.returned (.agg #[.bool (zB (-z)),.string (zS (-z))])∧Below W.heap.size W w':=fun W=>by
  have h:=of_any (!zB z) z.natAbs W
  have e:sg (!zB z) z.natAbs= -z:=by
   unfold sg zB
   by_cases h:z < 0
   ·rw [decide_eq_true h];simp;omega
   ·rw [decide_eq_false h];simp;omega
  rw [e]at h;exact h
 have HOF:=zz hof;clear hof;have HNZ:=zz (fun W=>normZ z hz W);go_enter Tryz.func231,Tryz.ntmps231
 go_wp2_with fail
 refine(HNZ.out _).mono ?_;rintro e w1 ⟨rfl,hb⟩;have Q0:=(hb.block _ (zl R0)).trans R0;have Q1:=(hb.block _ (zl R1)).trans R1;have BQ:=BL.trans (hb.mono BL.size);obtain⟨s1,s2⟩:=two_cells Q0;obtain⟨s3,s4⟩:=two_free Q0;have P0:=set2 (x':=.bool (zB z)) (y':=.string (zS z)) Q0;have P1:=setOther (v:=.string (zS z)) (j:=1) (g:=w.heap.size) (setOther (v:=.bool (zB z)) (j:=0) (g:=w.heap.size) Q1 (by omega)) (by omega);obtain⟨s5,s6⟩:=two_cells P0
 go_wp2_with fail
 refine(HOF.out _).mono ?_;rintro e w2 ⟨rfl,hb2⟩;have U1:=(hb2.block _ (zl P1)).trans P1;obtain⟨u1,u2⟩:=two_cells U1;obtain⟨u3,u4⟩:=two_free U1;have BU:=((BQ.setCell (p:=⟨w.heap.size,0,none⟩) (Nat.le_refl _) (.bool (zB z))).setCell (p:=⟨w.heap.size,1,none⟩) (Nat.le_refl _) (.string (zS z))).trans (hb2.mono (by have:=BQ.size;simp <;>omega));clear s1 s2 s3 s4 s5 s6;go_wp2;exact bodyPost_ret (results_cell_row Tryz.results231 _ _ (w.heap.size+1) 207 _ (0,0) _ rfl (set2 U1) Tryz.underlying207 rfl (by kernel_rfl)) rfl ⟨rfl,(BU.setCell (by simp <;>omega) _).setCell (by simp <;>omega) _⟩
set_option maxRecDepth 100000 in
theorem signZ (z:Int) (hz:(zS z).size≤1000000000) (w:World):Calls Tryz.prog 203 #[.agg #[.bool (zB z),.string (zS z)]] w fun e w'=>e=.returned (.int .i64 z.sign)∧Below w.heap.size w w':=by
 have R0:=zg w (.cells #[.bool (zB z),.string (zS z)] 207) w.heap.size rfl;have BL:=(Below.refl w.heap.size w).alloc (Nat.le_refl _) (.cells #[.bool (zB z),.string (zS z)] 207);have HNZ:=zz (fun W=>normZ z hz W);obtain⟨b,hb⟩:∃b,b=zB z:=⟨_,rfl⟩;obtain⟨s,hs⟩:∃s,s=zS z:=⟨_,rfl⟩;rw [←hb,←hs]at HNZ R0 BL⊢;have HBS:=zz (And.intro hb hs)
 have HE:(b=true∧z.sign= -1)∨(b=false∧s.toList.isEmpty=true∧z.sign=0)∨(b=false∧s.toList.isEmpty=false∧z.sign=1):=by
  by_cases h1:z < 0
  ·exact .inl ⟨by rw [hb];exact decide_eq_true h1,Int.sign_eq_neg_one_of_neg h1⟩
  ·have hbf:b=false:=by rw [hb];exact decide_eq_false h1
   by_cases h2:z=0
   ·refine .inr (.inl ⟨hbf,?_,by rw [h2];rfl⟩);rw [hs,h2];exact enc_empty
   ·refine .inr (.inr ⟨hbf,?_,Int.sign_eq_one_of_pos (by omega)⟩);rw [hs];exact ofL_noempty (by omega)
 clear hb hs
 rcases HE with⟨rfl,hz0⟩|⟨rfl,he,hz0⟩|⟨rfl,he,hz0⟩
 all_goals
  have HZ0:=zz hz0;clear hz0;go_enter Tryz.func203,Tryz.ntmps203
  go_wp2_with fail
  refine(HNZ.out _).mono ?_;rintro e w1 ⟨rfl,hb⟩;have Q0:=(hb.block _ (zl R0)).trans R0;have BQ:=BL.trans (hb.mono BL.size);obtain⟨s1,s2⟩:=two_cells Q0;obtain⟨s3,s4⟩:=two_free Q0;have P0:=set2_same Q0;obtain⟨s5,s6⟩:=two_cells P0;go_wp2;go_ret
  exact⟨by rw [HZ0.out];rfl,(BQ.setCell (by simp <;>omega) _).setCell (by simp <;>omega) _⟩
theorem mul_sg (x y:Int):sg (zB x !=zB y) (x.natAbs*y.natAbs)=x*y:=by
 unfold sg zB;rw [Int.natCast_mul]
 by_cases h1:x < 0 <;>by_cases h2:y < 0 <;>simp only [h1,h2,decide_true,decide_false,bne_self_eq_false,Bool.false_eq_true,if_false,if_true,Bool.true_bne,Bool.false_bne,Bool.not_false,Bool.not_true]
 ·rw [show(x.natAbs:Int)= -x by omega,show(y.natAbs:Int)= -y by omega,Int.neg_mul_neg]
 ·rw [show(x.natAbs:Int)= -x by omega,show(y.natAbs:Int)=y by omega,Int.neg_mul,Int.neg_neg]
 ·rw [show(x.natAbs:Int)=x by omega,show(y.natAbs:Int)= -y by omega,Int.mul_neg,Int.neg_neg]
 ·rw [show(x.natAbs:Int)=x by omega,show(y.natAbs:Int)=y by omega]
set_option maxRecDepth 100000 in
theorem mulZ (x y:Int) (hx:(zS x).size≤100000000) (hy:(zS y).size≤100000000) (w:World):
  Calls Tryz.prog 173 #[.agg #[.bool (zB x),.string (zS x)],.agg #[.bool (zB y),.string (zS y)]] w fun e w'=>e=.returned (.agg #[.bool (zB (x*y)),.string (zS (x*y))])∧Below w.heap.size w w':=by
 have hM:∀W:World,Calls Tryz.prog 206 #[.string (zS x),.string (zS y)] W fun e w'=>e=.returned (.string (ofL (enc (x.natAbs*y.natAbs))))∧Below W.heap.size W w':=fun W=>by
  have h:=nMul_any (zS x) (zS y) hx hy W
  rwa [v8_zS,v8_zS]at h
 have hO:∀W:World,Calls Tryz.prog 205 #[.bool (!(zB x==zB y)),.string (ofL (enc (x.natAbs*y.natAbs)))] W fun e w'=>e=.returned (.agg #[.bool (zB (x*y)),.string (zS (x*y))])∧Below W.heap.size W w':=fun W=>by
  have h:=of_any (zB x !=zB y) (x.natAbs*y.natAbs) W;rw [mul_sg]at h;exact h
 replace hx:(zS x).size≤1000000000:=by omega
 replace hy:(zS y).size≤1000000000:=by omega
 have HM:=zz hM;have HO:=zz hO;clear hM hO;generalize x*y=xy at*
 generalize ofL (enc (x.natAbs*y.natAbs))=r at*
 have HA:=zz (fun W=>normZ x hx W);have HB:=zz (fun W=>normZ y hy W);have R2:(((((w.alloc (.cells #[.bool (zB x),.string (zS x)] 207)).alloc (.cells #[.bool (zB y),.string (zS y)] 207)).alloc (.cells #[.bool false,.string ⟨#[]⟩] 207)).drew)).heap[w.heap.size]? =_:=zo _ _ _ _ (zo _ _ _ _ (zg _ _ _ rfl));have R3:(((((w.alloc (.cells #[.bool (zB x),.string (zS x)] 207)).alloc (.cells #[.bool (zB y),.string (zS y)] 207)).alloc (.cells #[.bool false,.string ⟨#[]⟩] 207)).drew)).heap[w.heap.size+1]? =_:=zo _ _ _ _ (zg _ _ _ (by simp));have R4:(((((w.alloc (.cells #[.bool (zB x),.string (zS x)] 207)).alloc (.cells #[.bool (zB y),.string (zS y)] 207)).alloc (.cells #[.bool false,.string ⟨#[]⟩] 207)).drew)).heap[w.heap.size+1+1]? =_:=zg _ _ _ (by simp);have BL:Below w.heap.size w (((((w.alloc (.cells #[.bool (zB x),.string (zS x)] 207)).alloc (.cells #[.bool (zB y),.string (zS y)] 207)).alloc (.cells #[.bool false,.string ⟨#[]⟩] 207)).drew)):=((((Below.refl _ _).alloc (Nat.le_refl _) _).alloc (by simp) _).alloc (by simp <;>omega) _).drew;go_enter Tryz.func173,Tryz.ntmps173
 go_wp2_with fail
 go_region_held3 (fun w'=>w'.cell? ⟨w.heap.size,0,none⟩=some (.bool (zB x))∧w'.cell? ⟨w.heap.size,1,none⟩=some (.string (zS x))∧w'.cell? ⟨w.heap.size+1,0,none⟩=some (.bool (zB y))∧w'.cell? ⟨w.heap.size+1,1,none⟩=some (.string (zS y)))
  (first
   |with_reducible exact rows4 R2 R3
   |with_reducible exact same4 (by assumption) (.inl ⟨rfl,rfl,rfl⟩)
   |with_reducible exact same4 (by assumption) (.inr ⟨rfl,rfl,rfl⟩)
   |go_keep)
  (first
   |(go_at_call 202;with_reducible refine(HA.out _).mono ?_;rintro e w4 ⟨rfl,hb⟩;have R2:=(hb.block _ (zl R2)).trans R2;have R3:=(hb.block _ (zl R3)).trans R3;have R4:=(hb.block _ (zl R4)).trans R4;have BL:=BL.trans (hb.mono BL.size);obtain⟨s1,s2⟩:=two_cells R2;obtain⟨s3,s4⟩:=two_free R2;obtain⟨s5,s6⟩:=two_cells R3;obtain⟨s7,s8⟩:=two_free R3)
   |(go_at_call 202;with_reducible refine(HB.out _).mono ?_;rintro e w4 ⟨rfl,hb⟩;have R2:=(hb.block _ (zl R2)).trans R2;have R3:=(hb.block _ (zl R3)).trans R3;have R4:=(hb.block _ (zl R4)).trans R4;have BL:=BL.trans (hb.mono BL.size);obtain⟨s1,s2⟩:=two_cells R2;obtain⟨s3,s4⟩:=two_free R2;obtain⟨s5,s6⟩:=two_cells R3;obtain⟨s7,s8⟩:=two_free R3))
 clear s1 s2 s3 s4 s5 s6 s7 s8;have Q2:=setOther (v:=.string (zS y)) (j:=1) (g:=w.heap.size+1) (setOther (v:=.bool (zB y)) (j:=0) (g:=w.heap.size+1) (set2 (x':=.bool (zB x)) (y':=.string (zS x)) R2) (by omega)) (by omega);have Q3:=set2 (x':=.bool (zB y)) (y':=.string (zS y)) (setOther (v:=.string (zS x)) (j:=1) (g:=w.heap.size) (setOther (v:=.bool (zB x)) (j:=0) (g:=w.heap.size) R3 (by omega)) (by omega));have Q4:=setOther (v:=.string (zS y)) (j:=1) (g:=w.heap.size+1) (setOther (v:=.bool (zB y)) (j:=0) (g:=w.heap.size+1) (setOther (v:=.string (zS x)) (j:=1) (g:=w.heap.size) (setOther (v:=.bool (zB x)) (j:=0) (g:=w.heap.size) R4 (by omega)) (by omega)) (by omega)) (by omega);have BQ:=(((BL.setCell (p:=⟨w.heap.size,0,none⟩) (Nat.le_refl _) (.bool (zB x))).setCell (p:=⟨w.heap.size,1,none⟩) (Nat.le_refl _) (.string (zS x))).setCell (p:=⟨w.heap.size+1,0,none⟩) (by simp) (.bool (zB y))).setCell (p:=⟨w.heap.size+1,1,none⟩) (by simp) (.string (zS y));generalize((((w4.setCell ⟨w.heap.size,0,none⟩ (.bool (zB x))).setCell ⟨w.heap.size,1,none⟩ (.string (zS x))).setCell ⟨w.heap.size+1,0,none⟩ (.bool (zB y))).setCell ⟨w.heap.size+1,1,none⟩ (.string (zS y)))=w5 at*
 clear R2 R3 R4 BL;have R2:w5.drew.heap[w.heap.size]? =_:=Q2;have R3:w5.drew.heap[w.heap.size+1]? =_:=Q3;have R4:w5.drew.heap[w.heap.size+1+1]? =_:=Q4;have BL:=BQ.drew;clear Q2 Q3 Q4 BQ
 go_wp2_with fail
 go_region_held3 (fun w'=>w'.cell? ⟨w.heap.size,0,none⟩=some (.bool (zB x))∧w'.cell? ⟨w.heap.size,1,none⟩=some (.string (zS x))∧w'.cell? ⟨w.heap.size+1,0,none⟩=some (.bool (zB y))∧w'.cell? ⟨w.heap.size+1,1,none⟩=some (.string (zS y)))
  (first
   |with_reducible exact rows4 R2 R3
   |with_reducible exact far4 (by assumption) (by omega) (by omega)
   |go_keep)
  (first
   |(go_at_call 206;with_reducible refine(HM.out _).mono ?_;rintro e w6 ⟨rfl,hb⟩;have R2:=(hb.block _ (zl R2)).trans R2;have R3:=(hb.block _ (zl R3)).trans R3;have R4:=(hb.block _ (zl R4)).trans R4;have BL:=BL.trans (hb.mono BL.size))
   |(go_at_call 205;with_reducible refine(HO.out _).mono ?_;rintro e w7 ⟨rfl,hb⟩;have R2:=(hb.block _ (zl R2)).trans R2;have R3:=(hb.block _ (zl R3)).trans R3;have R4:=(hb.block _ (zl R4)).trans R4;have BL:=BL.trans (hb.mono BL.size);obtain⟨s1,s2⟩:=two_cells R4;obtain⟨s3,s4⟩:=two_free R4))
 go_wp2;exact bodyPost_ret (results_cell_row Tryz.results173 _ _ (w.heap.size+1+1) 207 _ (0,0) _ rfl (set2 R4) Tryz.underlying207 rfl (by kernel_rfl)) rfl ⟨rfl,(BL.setCell (by simp <;>omega) _).setCell (by simp <;>omega) _⟩
theorem add_same {x y:Int} (h:zB x=zB y):sg (zB x) (x.natAbs+y.natAbs)=x+y:=by
 unfold zB at h;unfold sg zB;have h2:x < 0↔y < 0:=by simpa using h
 by_cases h1:x < 0
 ·rw [decide_eq_true h1,if_pos rfl];have:=h2.1 h1;omega
 ·rw [decide_eq_false h1,if_neg (by simp)];have h3:¬y < 0:=fun h=>h1 (h2.2 h);omega
theorem add_ge {x y:Int} (h:zB x≠zB y) (hg:y.natAbs≤x.natAbs):sg (zB x) (x.natAbs - y.natAbs)=x+y:=by
 unfold zB at h;unfold sg zB;have h2:¬(x < 0↔y < 0):=fun h3=>h (by simpa using h3)
 by_cases h1:x < 0
 ·rw [decide_eq_true h1,if_pos rfl];have h3:¬y < 0:=fun h=>h2 ⟨fun _=>h,fun _=>h1⟩;omega
 ·rw [decide_eq_false h1,if_neg (by simp)]
  have h3:y < 0:=by
   by_cases h3:y < 0
   ·exact h3
   ·exact absurd ⟨fun h=>absurd h h1,fun h=>absurd h h3⟩ h2
  omega
theorem add_lt {x y:Int} (h:zB x≠zB y) (hg:x.natAbs < y.natAbs):sg (zB y) (y.natAbs - x.natAbs)=x+y:=by
 rw [Int.add_comm];exact add_ge (fun e=>h e.symm) (by omega)
set_option maxRecDepth 100000 in
theorem addZ (x y:Int) (hx:(zS x).size≤100000000) (hy:(zS y).size≤100000000) (w:World):
  Calls Tryz.prog 230 #[.agg #[.bool (zB x),.string (zS x)],.agg #[.bool (zB y),.string (zS y)]] w fun e w'=>e=.returned (.agg #[.bool (zB (x+y)),.string (zS (x+y))])∧Below w.heap.size w w':=by
 have hx8:=v8_zS x;have hy8:=v8_zS y
 by_cases hxy:zB x=zB y
 ·have hM:∀W:World,Calls Tryz.prog 262 #[.string (zS x),.string (zS y)] W fun e w'=>e=.returned (.string (ofL (enc (x.natAbs+y.natAbs))))∧Below W.heap.size W w':=fun W=>by
   have h:=nAdd_any (zS x) (zS y) hx hy W
   rwa [v8_zS,v8_zS]at h
  have hO:∀W:World,Calls Tryz.prog 205 #[.bool (zB x),.string (ofL (enc (x.natAbs+y.natAbs)))] W fun e w'=>e=.returned (.agg #[.bool (zB (x+y)),.string (zS (x+y))])∧Below W.heap.size W w':=fun W=>by
   have h:=of_any (zB x) (x.natAbs+y.natAbs) W;rw [add_same hxy]at h;exact h
  replace hx:(zS x).size≤1000000000:=by omega
  replace hy:(zS y).size≤1000000000:=by omega
  have HM:=zz hM;have HO:=zz hO;have d:(zB x==zB y)=true:=by simp [hxy]
  clear hM hO hx8 hy8 hxy;generalize x+y=xy at*
  generalize ofL (enc (x.natAbs+y.natAbs))=r at*
  have HA:=zz (fun W=>normZ x hx W);have HB:=zz (fun W=>normZ y hy W);have R2:(((((w.alloc (.cells #[.bool (zB x),.string (zS x)] 207)).alloc (.cells #[.bool (zB y),.string (zS y)] 207)).alloc (.cells #[.bool false,.string ⟨#[]⟩] 207)).drew)).heap[w.heap.size]? =_:=zo _ _ _ _ (zo _ _ _ _ (zg _ _ _ rfl));have R3:(((((w.alloc (.cells #[.bool (zB x),.string (zS x)] 207)).alloc (.cells #[.bool (zB y),.string (zS y)] 207)).alloc (.cells #[.bool false,.string ⟨#[]⟩] 207)).drew)).heap[w.heap.size+1]? =_:=zo _ _ _ _ (zg _ _ _ (by simp));have R4:(((((w.alloc (.cells #[.bool (zB x),.string (zS x)] 207)).alloc (.cells #[.bool (zB y),.string (zS y)] 207)).alloc (.cells #[.bool false,.string ⟨#[]⟩] 207)).drew)).heap[w.heap.size+1+1]? =_:=zg _ _ _ (by simp);have BL:Below w.heap.size w (((((w.alloc (.cells #[.bool (zB x),.string (zS x)] 207)).alloc (.cells #[.bool (zB y),.string (zS y)] 207)).alloc (.cells #[.bool false,.string ⟨#[]⟩] 207)).drew)):=((((Below.refl _ _).alloc (Nat.le_refl _) _).alloc (by simp) _).alloc (by simp <;>omega) _).drew;go_enter Tryz.func230,Tryz.ntmps230
  go_wp2_with fail
  go_region_held3 (fun w'=>w'.cell? ⟨w.heap.size,0,none⟩=some (.bool (zB x))∧w'.cell? ⟨w.heap.size,1,none⟩=some (.string (zS x))∧w'.cell? ⟨w.heap.size+1,0,none⟩=some (.bool (zB y))∧w'.cell? ⟨w.heap.size+1,1,none⟩=some (.string (zS y)))
   (first
    |with_reducible exact rows4 R2 R3
    |with_reducible exact same4 (by assumption) (.inl ⟨rfl,rfl,rfl⟩)
    |with_reducible exact same4 (by assumption) (.inr ⟨rfl,rfl,rfl⟩)
    |go_keep)
   (first
    |(go_at_call 202;with_reducible refine(HA.out _).mono ?_;rintro e w4 ⟨rfl,hb⟩;have R2:=(hb.block _ (zl R2)).trans R2;have R3:=(hb.block _ (zl R3)).trans R3;have R4:=(hb.block _ (zl R4)).trans R4;have BL:=BL.trans (hb.mono BL.size);obtain⟨s1,s2⟩:=two_cells R2;obtain⟨s3,s4⟩:=two_free R2;obtain⟨s5,s6⟩:=two_cells R3;obtain⟨s7,s8⟩:=two_free R3)
    |(go_at_call 202;with_reducible refine(HB.out _).mono ?_;rintro e w4 ⟨rfl,hb⟩;have R2:=(hb.block _ (zl R2)).trans R2;have R3:=(hb.block _ (zl R3)).trans R3;have R4:=(hb.block _ (zl R4)).trans R4;have BL:=BL.trans (hb.mono BL.size);obtain⟨s1,s2⟩:=two_cells R2;obtain⟨s3,s4⟩:=two_free R2;obtain⟨s5,s6⟩:=two_cells R3;obtain⟨s7,s8⟩:=two_free R3))
  clear s1 s2 s3 s4 s5 s6 s7 s8;have Q2:=setOther (v:=.string (zS y)) (j:=1) (g:=w.heap.size+1) (setOther (v:=.bool (zB y)) (j:=0) (g:=w.heap.size+1) (set2 (x':=.bool (zB x)) (y':=.string (zS x)) R2) (by omega)) (by omega);have Q3:=set2 (x':=.bool (zB y)) (y':=.string (zS y)) (setOther (v:=.string (zS x)) (j:=1) (g:=w.heap.size) (setOther (v:=.bool (zB x)) (j:=0) (g:=w.heap.size) R3 (by omega)) (by omega));have Q4:=setOther (v:=.string (zS y)) (j:=1) (g:=w.heap.size+1) (setOther (v:=.bool (zB y)) (j:=0) (g:=w.heap.size+1) (setOther (v:=.string (zS x)) (j:=1) (g:=w.heap.size) (setOther (v:=.bool (zB x)) (j:=0) (g:=w.heap.size) R4 (by omega)) (by omega)) (by omega)) (by omega);have BQ:=(((BL.setCell (p:=⟨w.heap.size,0,none⟩) (Nat.le_refl _) (.bool (zB x))).setCell (p:=⟨w.heap.size,1,none⟩) (Nat.le_refl _) (.string (zS x))).setCell (p:=⟨w.heap.size+1,0,none⟩) (by simp) (.bool (zB y))).setCell (p:=⟨w.heap.size+1,1,none⟩) (by simp) (.string (zS y));generalize((((w4.setCell ⟨w.heap.size,0,none⟩ (.bool (zB x))).setCell ⟨w.heap.size,1,none⟩ (.string (zS x))).setCell ⟨w.heap.size+1,0,none⟩ (.bool (zB y))).setCell ⟨w.heap.size+1,1,none⟩ (.string (zS y)))=w5 at*
  clear R2 R3 R4 BL;have R2:w5.drew.heap[w.heap.size]? =_:=Q2;have R3:w5.drew.heap[w.heap.size+1]? =_:=Q3;have R4:w5.drew.heap[w.heap.size+1+1]? =_:=Q4;have BL:=BQ.drew;obtain⟨t1,t2⟩:=two_cells Q2;obtain⟨t3,t4⟩:=two_cells Q3;clear Q2 Q3 Q4 BQ
  go_wp2_with fail
  clear t1 t2 t3 t4
  go_region_held3 (fun w'=>w'.cell? ⟨w.heap.size,0,none⟩=some (.bool (zB x))∧w'.cell? ⟨w.heap.size,1,none⟩=some (.string (zS x))∧w'.cell? ⟨w.heap.size+1,0,none⟩=some (.bool (zB y))∧w'.cell? ⟨w.heap.size+1,1,none⟩=some (.string (zS y)))
   (first
    |with_reducible exact rows4 R2 R3
    |with_reducible exact far4 (by assumption) (by omega) (by omega)
    |go_keep)
   (first
    |(go_at_call 262;with_reducible refine(HM.out _).mono ?_;rintro e w6 ⟨rfl,hb⟩;have R2:=(hb.block _ (zl R2)).trans R2;have R3:=(hb.block _ (zl R3)).trans R3;have R4:=(hb.block _ (zl R4)).trans R4;have BL:=BL.trans (hb.mono BL.size))
    |(go_at_call 205;with_reducible refine(HO.out _).mono ?_;rintro e w7 ⟨rfl,hb⟩;have R2:=(hb.block _ (zl R2)).trans R2;have R3:=(hb.block _ (zl R3)).trans R3;have R4:=(hb.block _ (zl R4)).trans R4;have BL:=BL.trans (hb.mono BL.size);obtain⟨s1,s2⟩:=two_cells R4;obtain⟨s3,s4⟩:=two_free R4))
  go_wp2;exact bodyPost_ret (results_cell_row Tryz.results230 _ _ (w.heap.size+1+1) 207 _ (0,0) _ rfl (set2 R4) Tryz.underlying207 rfl (by kernel_rfl)) rfl ⟨rfl,(BL.setCell (by simp <;>omega) _).setCell (by simp <;>omega) _⟩
 have hne:=hxy;have d:(zB x==zB y)=false:=by simp [hxy]
 by_cases hg:y.natAbs≤x.natAbs
 ·have hM:∀W:World,Calls Tryz.prog 263 #[.string (zS x),.string (zS y)] W fun e w'=>e=.returned (.tuple #[.string (ofL (enc (x.natAbs - y.natAbs))),.bool true])∧Below W.heap.size W w':=fun W=>by
   have h:=nSub_ge (zS x) (zS y) hx hy (by omega) W
   rwa [v8_zS,v8_zS]at h
  have hO:∀W:World,Calls Tryz.prog 205 #[.bool (zB x),.string (ofL (enc (x.natAbs - y.natAbs)))] W fun e w'=>e=.returned (.agg #[.bool (zB (x+y)),.string (zS (x+y))])∧Below W.heap.size W w':=fun W=>by
   have h:=of_any (zB x) (x.natAbs - y.natAbs) W;rw [add_ge hne hg]at h;exact h
  replace hx:(zS x).size≤1000000000:=by omega
  replace hy:(zS y).size≤1000000000:=by omega
  have HM:=zz hM;have HO:=zz hO;clear hM hO hx8 hy8 hxy hne;generalize x+y=xy at*
  generalize ofL (enc (x.natAbs - y.natAbs))=r at*
  have HA:=zz (fun W=>normZ x hx W);have HB:=zz (fun W=>normZ y hy W);have R2:(((((w.alloc (.cells #[.bool (zB x),.string (zS x)] 207)).alloc (.cells #[.bool (zB y),.string (zS y)] 207)).alloc (.cells #[.bool false,.string ⟨#[]⟩] 207)).drew)).heap[w.heap.size]? =_:=zo _ _ _ _ (zo _ _ _ _ (zg _ _ _ rfl));have R3:(((((w.alloc (.cells #[.bool (zB x),.string (zS x)] 207)).alloc (.cells #[.bool (zB y),.string (zS y)] 207)).alloc (.cells #[.bool false,.string ⟨#[]⟩] 207)).drew)).heap[w.heap.size+1]? =_:=zo _ _ _ _ (zg _ _ _ (by simp));have R4:(((((w.alloc (.cells #[.bool (zB x),.string (zS x)] 207)).alloc (.cells #[.bool (zB y),.string (zS y)] 207)).alloc (.cells #[.bool false,.string ⟨#[]⟩] 207)).drew)).heap[w.heap.size+1+1]? =_:=zg _ _ _ (by simp);have BL:Below w.heap.size w (((((w.alloc (.cells #[.bool (zB x),.string (zS x)] 207)).alloc (.cells #[.bool (zB y),.string (zS y)] 207)).alloc (.cells #[.bool false,.string ⟨#[]⟩] 207)).drew)):=((((Below.refl _ _).alloc (Nat.le_refl _) _).alloc (by simp) _).alloc (by simp <;>omega) _).drew;go_enter Tryz.func230,Tryz.ntmps230
  go_wp2_with fail
  go_region_held3 (fun w'=>w'.cell? ⟨w.heap.size,0,none⟩=some (.bool (zB x))∧w'.cell? ⟨w.heap.size,1,none⟩=some (.string (zS x))∧w'.cell? ⟨w.heap.size+1,0,none⟩=some (.bool (zB y))∧w'.cell? ⟨w.heap.size+1,1,none⟩=some (.string (zS y)))
   (first
    |with_reducible exact rows4 R2 R3
    |with_reducible exact same4 (by assumption) (.inl ⟨rfl,rfl,rfl⟩)
    |with_reducible exact same4 (by assumption) (.inr ⟨rfl,rfl,rfl⟩)
    |go_keep)
   (first
    |(go_at_call 202;with_reducible refine(HA.out _).mono ?_;rintro e w4 ⟨rfl,hb⟩;have R2:=(hb.block _ (zl R2)).trans R2;have R3:=(hb.block _ (zl R3)).trans R3;have R4:=(hb.block _ (zl R4)).trans R4;have BL:=BL.trans (hb.mono BL.size);obtain⟨s1,s2⟩:=two_cells R2;obtain⟨s3,s4⟩:=two_free R2;obtain⟨s5,s6⟩:=two_cells R3;obtain⟨s7,s8⟩:=two_free R3)
    |(go_at_call 202;with_reducible refine(HB.out _).mono ?_;rintro e w4 ⟨rfl,hb⟩;have R2:=(hb.block _ (zl R2)).trans R2;have R3:=(hb.block _ (zl R3)).trans R3;have R4:=(hb.block _ (zl R4)).trans R4;have BL:=BL.trans (hb.mono BL.size);obtain⟨s1,s2⟩:=two_cells R2;obtain⟨s3,s4⟩:=two_free R2;obtain⟨s5,s6⟩:=two_cells R3;obtain⟨s7,s8⟩:=two_free R3))
  clear s1 s2 s3 s4 s5 s6 s7 s8;have Q2:=setOther (v:=.string (zS y)) (j:=1) (g:=w.heap.size+1) (setOther (v:=.bool (zB y)) (j:=0) (g:=w.heap.size+1) (set2 (x':=.bool (zB x)) (y':=.string (zS x)) R2) (by omega)) (by omega);have Q3:=set2 (x':=.bool (zB y)) (y':=.string (zS y)) (setOther (v:=.string (zS x)) (j:=1) (g:=w.heap.size) (setOther (v:=.bool (zB x)) (j:=0) (g:=w.heap.size) R3 (by omega)) (by omega));have Q4:=setOther (v:=.string (zS y)) (j:=1) (g:=w.heap.size+1) (setOther (v:=.bool (zB y)) (j:=0) (g:=w.heap.size+1) (setOther (v:=.string (zS x)) (j:=1) (g:=w.heap.size) (setOther (v:=.bool (zB x)) (j:=0) (g:=w.heap.size) R4 (by omega)) (by omega)) (by omega)) (by omega);have BQ:=(((BL.setCell (p:=⟨w.heap.size,0,none⟩) (Nat.le_refl _) (.bool (zB x))).setCell (p:=⟨w.heap.size,1,none⟩) (Nat.le_refl _) (.string (zS x))).setCell (p:=⟨w.heap.size+1,0,none⟩) (by simp) (.bool (zB y))).setCell (p:=⟨w.heap.size+1,1,none⟩) (by simp) (.string (zS y));generalize((((w4.setCell ⟨w.heap.size,0,none⟩ (.bool (zB x))).setCell ⟨w.heap.size,1,none⟩ (.string (zS x))).setCell ⟨w.heap.size+1,0,none⟩ (.bool (zB y))).setCell ⟨w.heap.size+1,1,none⟩ (.string (zS y)))=w5 at*
  clear R2 R3 R4 BL;have R2:=Q2;have R3:=Q3;have R4:=Q4;have BL:=BQ;obtain⟨t1,t2⟩:=two_cells Q2;obtain⟨t3,t4⟩:=two_cells Q3;clear Q2 Q3 Q4 BQ
  go_wp2_with fail
  with_reducible refine(HM.out _).mono ?_
  rintro e w6 ⟨rfl,hb⟩;have R2:=(hb.block _ (zl R2)).trans R2;have R3:=(hb.block _ (zl R3)).trans R3;have R4:=(hb.block _ (zl R4)).trans R4;have BL:=BL.trans (hb.mono BL.size);obtain⟨t1,t2⟩:=two_cells R2;obtain⟨t3,t4⟩:=two_cells R3
  go_wp2_with fail
  with_reducible refine(HO.out _).mono ?_
  rintro e w7 ⟨rfl,hb⟩;have R2:=(hb.block _ (zl R2)).trans R2;have R3:=(hb.block _ (zl R3)).trans R3;have R4:=(hb.block _ (zl R4)).trans R4;have BL:=BL.trans (hb.mono BL.size);obtain⟨s1,s2⟩:=two_cells R4;obtain⟨s3,s4⟩:=two_free R4;clear t1 t2 t3 t4;go_wp2;exact bodyPost_ret (results_cell_row Tryz.results230 _ _ (w.heap.size+1+1) 207 _ (0,0) _ rfl (set2 R4) Tryz.underlying207 rfl (by kernel_rfl)) rfl ⟨rfl,(BL.setCell (by simp <;>omega) _).setCell (by simp <;>omega) _⟩
 ·have hM:∀W:World,Calls Tryz.prog 263 #[.string (zS x),.string (zS y)] W fun e w'=>e=.returned (.tuple #[.string ⟨#[]⟩,.bool false])∧Below W.heap.size W w':=fun W=>nSub_lt (zS x) (zS y) hx hy (by omega) W
  have hM2:∀W:World,Calls Tryz.prog 263 #[.string (zS y),.string (zS x)] W fun e w'=>e=.returned (.tuple #[.string (ofL (enc (y.natAbs - x.natAbs))),.bool true])∧Below W.heap.size W w':=fun W=>by
   have h:=nSub_ge (zS y) (zS x) hy hx (by omega) W
   rwa [v8_zS,v8_zS]at h
  have hO:∀W:World,Calls Tryz.prog 205 #[.bool (zB y),.string (ofL (enc (y.natAbs - x.natAbs)))] W fun e w'=>e=.returned (.agg #[.bool (zB (x+y)),.string (zS (x+y))])∧Below W.heap.size W w':=fun W=>by
   have h:=of_any (zB y) (y.natAbs - x.natAbs) W;rw [add_lt hne (by omega)]at h;exact h
  replace hx:(zS x).size≤1000000000:=by omega
  replace hy:(zS y).size≤1000000000:=by omega
  have HM:=zz hM;have HM2:=zz hM2;have HO:=zz hO;clear hM hM2 hO hx8 hy8 hxy hne;generalize x+y=xy at*
  generalize ofL (enc (y.natAbs - x.natAbs))=r at*
  have HA:=zz (fun W=>normZ x hx W);have HB:=zz (fun W=>normZ y hy W);have R2:(((((w.alloc (.cells #[.bool (zB x),.string (zS x)] 207)).alloc (.cells #[.bool (zB y),.string (zS y)] 207)).alloc (.cells #[.bool false,.string ⟨#[]⟩] 207)).drew)).heap[w.heap.size]? =_:=zo _ _ _ _ (zo _ _ _ _ (zg _ _ _ rfl));have R3:(((((w.alloc (.cells #[.bool (zB x),.string (zS x)] 207)).alloc (.cells #[.bool (zB y),.string (zS y)] 207)).alloc (.cells #[.bool false,.string ⟨#[]⟩] 207)).drew)).heap[w.heap.size+1]? =_:=zo _ _ _ _ (zg _ _ _ (by simp));have R4:(((((w.alloc (.cells #[.bool (zB x),.string (zS x)] 207)).alloc (.cells #[.bool (zB y),.string (zS y)] 207)).alloc (.cells #[.bool false,.string ⟨#[]⟩] 207)).drew)).heap[w.heap.size+1+1]? =_:=zg _ _ _ (by simp);have BL:Below w.heap.size w (((((w.alloc (.cells #[.bool (zB x),.string (zS x)] 207)).alloc (.cells #[.bool (zB y),.string (zS y)] 207)).alloc (.cells #[.bool false,.string ⟨#[]⟩] 207)).drew)):=((((Below.refl _ _).alloc (Nat.le_refl _) _).alloc (by simp) _).alloc (by simp <;>omega) _).drew;go_enter Tryz.func230,Tryz.ntmps230
  go_wp2_with fail
  go_region_held3 (fun w'=>w'.cell? ⟨w.heap.size,0,none⟩=some (.bool (zB x))∧w'.cell? ⟨w.heap.size,1,none⟩=some (.string (zS x))∧w'.cell? ⟨w.heap.size+1,0,none⟩=some (.bool (zB y))∧w'.cell? ⟨w.heap.size+1,1,none⟩=some (.string (zS y)))
   (first
    |with_reducible exact rows4 R2 R3
    |with_reducible exact same4 (by assumption) (.inl ⟨rfl,rfl,rfl⟩)
    |with_reducible exact same4 (by assumption) (.inr ⟨rfl,rfl,rfl⟩)
    |go_keep)
   (first
    |(go_at_call 202;with_reducible refine(HA.out _).mono ?_;rintro e w4 ⟨rfl,hb⟩;have R2:=(hb.block _ (zl R2)).trans R2;have R3:=(hb.block _ (zl R3)).trans R3;have R4:=(hb.block _ (zl R4)).trans R4;have BL:=BL.trans (hb.mono BL.size);obtain⟨s1,s2⟩:=two_cells R2;obtain⟨s3,s4⟩:=two_free R2;obtain⟨s5,s6⟩:=two_cells R3;obtain⟨s7,s8⟩:=two_free R3)
    |(go_at_call 202;with_reducible refine(HB.out _).mono ?_;rintro e w4 ⟨rfl,hb⟩;have R2:=(hb.block _ (zl R2)).trans R2;have R3:=(hb.block _ (zl R3)).trans R3;have R4:=(hb.block _ (zl R4)).trans R4;have BL:=BL.trans (hb.mono BL.size);obtain⟨s1,s2⟩:=two_cells R2;obtain⟨s3,s4⟩:=two_free R2;obtain⟨s5,s6⟩:=two_cells R3;obtain⟨s7,s8⟩:=two_free R3))
  clear s1 s2 s3 s4 s5 s6 s7 s8;have Q2:=setOther (v:=.string (zS y)) (j:=1) (g:=w.heap.size+1) (setOther (v:=.bool (zB y)) (j:=0) (g:=w.heap.size+1) (set2 (x':=.bool (zB x)) (y':=.string (zS x)) R2) (by omega)) (by omega);have Q3:=set2 (x':=.bool (zB y)) (y':=.string (zS y)) (setOther (v:=.string (zS x)) (j:=1) (g:=w.heap.size) (setOther (v:=.bool (zB x)) (j:=0) (g:=w.heap.size) R3 (by omega)) (by omega));have Q4:=setOther (v:=.string (zS y)) (j:=1) (g:=w.heap.size+1) (setOther (v:=.bool (zB y)) (j:=0) (g:=w.heap.size+1) (setOther (v:=.string (zS x)) (j:=1) (g:=w.heap.size) (setOther (v:=.bool (zB x)) (j:=0) (g:=w.heap.size) R4 (by omega)) (by omega)) (by omega)) (by omega);have BQ:=(((BL.setCell (p:=⟨w.heap.size,0,none⟩) (Nat.le_refl _) (.bool (zB x))).setCell (p:=⟨w.heap.size,1,none⟩) (Nat.le_refl _) (.string (zS x))).setCell (p:=⟨w.heap.size+1,0,none⟩) (by simp) (.bool (zB y))).setCell (p:=⟨w.heap.size+1,1,none⟩) (by simp) (.string (zS y));generalize((((w4.setCell ⟨w.heap.size,0,none⟩ (.bool (zB x))).setCell ⟨w.heap.size,1,none⟩ (.string (zS x))).setCell ⟨w.heap.size+1,0,none⟩ (.bool (zB y))).setCell ⟨w.heap.size+1,1,none⟩ (.string (zS y)))=w5 at*
  clear R2 R3 R4 BL;have R2:=Q2;have R3:=Q3;have R4:=Q4;have BL:=BQ;obtain⟨t1,t2⟩:=two_cells Q2;obtain⟨t3,t4⟩:=two_cells Q3;clear Q2 Q3 Q4 BQ
  go_wp2_with fail
  with_reducible refine(HM.out _).mono ?_
  rintro e w6 ⟨rfl,hb⟩;have R2:=(hb.block _ (zl R2)).trans R2;have R3:=(hb.block _ (zl R3)).trans R3;have R4:=(hb.block _ (zl R4)).trans R4;have BL:=BL.trans (hb.mono BL.size);obtain⟨t1,t2⟩:=two_cells R2;obtain⟨t3,t4⟩:=two_cells R3
  go_wp2_with fail
  with_reducible refine(HM2.out _).mono ?_
  rintro e w6 ⟨rfl,hb⟩;have R2:=(hb.block _ (zl R2)).trans R2;have R3:=(hb.block _ (zl R3)).trans R3;have R4:=(hb.block _ (zl R4)).trans R4;have BL:=BL.trans (hb.mono BL.size);obtain⟨t1,t2⟩:=two_cells R2;obtain⟨t3,t4⟩:=two_cells R3
  go_wp2_with fail
  with_reducible refine(HO.out _).mono ?_
  rintro e w7 ⟨rfl,hb⟩;have R2:=(hb.block _ (zl R2)).trans R2;have R3:=(hb.block _ (zl R3)).trans R3;have R4:=(hb.block _ (zl R4)).trans R4;have BL:=BL.trans (hb.mono BL.size);obtain⟨s1,s2⟩:=two_cells R4;obtain⟨s3,s4⟩:=two_free R4;clear t1 t2 t3 t4;go_wp2;exact bodyPost_ret (results_cell_row Tryz.results230 _ _ (w.heap.size+1+1) 207 _ (0,0) _ rfl (set2 R4) Tryz.underlying207 rfl (by kernel_rfl)) rfl ⟨rfl,(BL.setCell (by simp <;>omega) _).setCell (by simp <;>omega) _⟩
theorem zS_size (z:Int):(zS z).size=(enc z.natAbs).length:=by rw [←bl_size];rfl
theorem zS_neg (z:Int):zS (-z)=zS z:=by unfold zS;rw [Int.natAbs_neg]
theorem abs_lt (z:Int):z.natAbs < 256^(zS z).size:=by
 have h:=v8_lt (bl (zS z))
 rwa [v8_zS,bl_size]at h
theorem zS_sum (x y:Int):(zS (x+y)).size≤(zS x).size+(zS y).size+1:=by
 rw [zS_size (x+y)];apply enc_length
 have h1:=abs_lt x;have h2:=abs_lt y;have h3:256^(zS x).size≤256^((zS x).size+(zS y).size):=Nat.pow_le_pow_right (by decide) (by omega);have h4:256^(zS y).size≤256^((zS x).size+(zS y).size):=Nat.pow_le_pow_right (by decide) (by omega);have h5:(x+y).natAbs≤x.natAbs+y.natAbs:=Int.natAbs_add_le x y;rw [Nat.pow_succ];omega
theorem zS_prod (x y:Int):(zS (x*y)).size≤(zS x).size+(zS y).size:=by
 rw [zS_size (x*y)];apply enc_length
 rw [Int.natAbs_mul,Nat.pow_add];have h1:=abs_lt x;have h2:=abs_lt y;exact Nat.mul_lt_mul'' h1 h2
set_option maxRecDepth 100000 in
theorem subZ (x y:Int) (hx:(zS x).size≤100000000) (hy:(zS y).size≤100000000) (w:World):
  Calls Tryz.prog 204 #[.agg #[.bool (zB x),.string (zS x)],.agg #[.bool (zB y),.string (zS y)]] w fun e w'=>e=.returned (.agg #[.bool (zB (x - y)),.string (zS (x - y))])∧Below w.heap.size w w':=by
 have hN:∀W:World,Calls Tryz.prog 231 #[.agg #[.bool (zB y),.string (zS y)]] W fun e w'=>e=.returned (.agg #[.bool (zB (-y)),.string (zS (-y))])∧Below W.heap.size W w':=fun W=>negZ y (by omega) W
 have hA:∀W:World,Calls Tryz.prog 230 #[.agg #[.bool (zB x),.string (zS x)],.agg #[.bool (zB (-y)),.string (zS (-y))]] W fun e w'=>e=.returned (.agg #[.bool (zB (x - y)),.string (zS (x - y))])∧Below W.heap.size W w':=fun W=>addZ x (-y) hx (by rw [zS_neg];exact hy) W
 have HN:=zz hN;have HA:=zz hA;clear hN hA;generalize x - y=xy at*
 generalize -y=ny at*
 have R2:(((((w.alloc (.cells #[.bool (zB x),.string (zS x)] 207)).alloc (.cells #[.bool (zB y),.string (zS y)] 207)).alloc (.cells #[.bool false,.string ⟨#[]⟩] 207)).drew)).heap[w.heap.size]? =_:=zo _ _ _ _ (zo _ _ _ _ (zg _ _ _ rfl));have R3:(((((w.alloc (.cells #[.bool (zB x),.string (zS x)] 207)).alloc (.cells #[.bool (zB y),.string (zS y)] 207)).alloc (.cells #[.bool false,.string ⟨#[]⟩] 207)).drew)).heap[w.heap.size+1]? =_:=zo _ _ _ _ (zg _ _ _ (by simp));have R4:(((((w.alloc (.cells #[.bool (zB x),.string (zS x)] 207)).alloc (.cells #[.bool (zB y),.string (zS y)] 207)).alloc (.cells #[.bool false,.string ⟨#[]⟩] 207)).drew)).heap[w.heap.size+1+1]? =_:=zg _ _ _ (by simp);have BL:Below w.heap.size w (((((w.alloc (.cells #[.bool (zB x),.string (zS x)] 207)).alloc (.cells #[.bool (zB y),.string (zS y)] 207)).alloc (.cells #[.bool false,.string ⟨#[]⟩] 207)).drew)):=((((Below.refl _ _).alloc (Nat.le_refl _) _).alloc (by simp) _).alloc (by simp <;>omega) _).drew;go_enter Tryz.func204,Tryz.ntmps204
 go_wp2_with fail
 go_region_held3 (fun w'=>w'.cell? ⟨w.heap.size,0,none⟩=some (.bool (zB x))∧w'.cell? ⟨w.heap.size,1,none⟩=some (.string (zS x))∧w'.cell? ⟨w.heap.size+1,0,none⟩=some (.bool (zB y))∧w'.cell? ⟨w.heap.size+1,1,none⟩=some (.string (zS y)))
  (first
   |with_reducible exact rows4 R2 R3
   |with_reducible exact far4 (by assumption) (by omega) (by omega)
   |go_keep)
  (first
   |(go_at_call 231;with_reducible refine(HN.out _).mono ?_;rintro e w4 ⟨rfl,hb⟩;have R2:=(hb.block _ (zl R2)).trans R2;have R3:=(hb.block _ (zl R3)).trans R3;have R4:=(hb.block _ (zl R4)).trans R4;have BL:=BL.trans (hb.mono BL.size))
   |(go_at_call 230;with_reducible refine(HA.out _).mono ?_;rintro e w7 ⟨rfl,hb⟩;have R2:=(hb.block _ (zl R2)).trans R2;have R3:=(hb.block _ (zl R3)).trans R3;have R4:=(hb.block _ (zl R4)).trans R4;have BL:=BL.trans (hb.mono BL.size);obtain⟨s1,s2⟩:=two_cells R4;obtain⟨s3,s4⟩:=two_free R4))
 go_wp2;exact bodyPost_ret (results_cell_row Tryz.results204 _ _ (w.heap.size+1+1) 207 _ (0,0) _ rfl (set2 R4) Tryz.underlying207 rfl (by kernel_rfl)) rfl ⟨rfl,(BL.setCell (by simp <;>omega) _).setCell (by simp <;>omega) _⟩
set_option maxRecDepth 100000 in
theorem cmpZ (x y:Int) (hx:(zS x).size≤100000000) (hy:(zS y).size≤100000000) (w:World):
  Calls Tryz.prog 172 #[.agg #[.bool (zB x),.string (zS x)],.agg #[.bool (zB y),.string (zS y)]] w fun e w'=>e=.returned (.int .i64 (x - y).sign)∧Below w.heap.size w w':=by
 have hsz:(zS (x - y)).size≤1000000000:=by
  have:=zS_sum x (-y);rw [zS_neg,←Int.sub_eq_add_neg]at this;omega
 have HS:=zz (fun W=>subZ x y hx hy W);have HG:=zz (fun W=>signZ (x - y) hsz W);clear hsz;generalize x - y=xy at*
 generalize xy.sign=sg at*
 go_enter Tryz.func172,Tryz.ntmps172
 go_wp2_with fail
 with_reducible refine(HS.out _).mono ?_
 rintro e w1 ⟨rfl,hb1⟩
 go_wp2_with fail
 with_reducible refine(HG.out _).mono ?_
 rintro e w2 ⟨rfl,hb2⟩;go_wp2;go_ret
 exact⟨rfl,((below2 w _ _).trans (hb1.mono (by simp <;>omega))).trans (hb2.mono (by have:=hb1.size;simp at this;omega))⟩
end Go.Proofs.YteigcnamkfebgaaGreatDoor
