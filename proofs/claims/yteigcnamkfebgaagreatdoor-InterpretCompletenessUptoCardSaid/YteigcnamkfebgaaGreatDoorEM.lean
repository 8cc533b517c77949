import Derived.Test.YteigcnamkfebgaaGreatDoorEI
set_option linter.all false
set_option maxHeartbeats 25600000
namespace Go.Proofs.YteigcnamkfebgaaGreatDoor
open Go.RowKit
theorem enc_one:enc 1= [1]:=enc_byte 1 (by decide)
theorem zB_nat (n:Nat):zB (n:Int)=false:=by unfold zB;simp
theorem zS_nat (n:Nat):zS (n:Int)=ofL (enc n):=by unfold zS;rw [Int.natAbs_natCast]
set_option maxRecDepth 100000 in
theorem partsZ (g:Bool) (a c:ByteArray) (ha:a.size≤10000000) (hc:c.size≤10000000) (w:World):
  Calls Tryz.prog 171 #[.agg #[.bool g,.string a,.string c]] w fun e w'=>e=.returned (.tuple #[.agg #[.bool (zB (sg g (v8 (bl a)))),.string (zS (sg g (v8 (bl a))))],.agg #[.bool (zB (den0 (v8 (bl c)):Int)),.string (zS (den0 (v8 (bl c)):Int))]])∧Below w.heap.size w w':=by
 have HNI:=zz (fun W=>normS g a (by omega) W);have hN:=fun W=>norm_enc c (by omega) W
 obtain⟨n,hn⟩:∃n,n=sg g (v8 (bl a)):=⟨_,rfl⟩;rw [←hn]at HNI⊢;clear hn
 by_cases hd:v8 (bl c)=0
 ·have he:ofL (enc (v8 (bl c)))=⟨#[]⟩:=by rw [hd,enc_zero];rfl
  rw [he]at hN;have HN:=zz hN;have HQ:=zz (show zB (den0 (v8 (bl c)):Int)=false∧zS (den0 (v8 (bl c)):Int)=⟨#[1]⟩from⟨zB_nat _,by rw [zS_nat,hd];show ofL (enc 1)=_;rw [enc_one];rfl⟩);clear hN he hd;have h0:((((w.alloc (.cells #[.bool g,.string a,.string c] 43)).alloc (.cells #[.bool false,.string ⟨#[]⟩] 207)).alloc (.cells #[.bool false,.string ⟨#[]⟩] 207)).alloc (.cells #[.bool false,.string ⟨#[]⟩] 207)).heap[w.heap.size]? =_:=zo _ _ _ _ (zo _ _ _ _ (zo _ _ _ _ (zg _ _ _ rfl)));have h1:((((w.alloc (.cells #[.bool g,.string a,.string c] 43)).alloc (.cells #[.bool false,.string ⟨#[]⟩] 207)).alloc (.cells #[.bool false,.string ⟨#[]⟩] 207)).alloc (.cells #[.bool false,.string ⟨#[]⟩] 207)).heap[w.heap.size+1]? =_:=zo _ _ _ _ (zo _ _ _ _ (zg _ _ _ (by simp)));have h2:((((w.alloc (.cells #[.bool g,.string a,.string c] 43)).alloc (.cells #[.bool false,.string ⟨#[]⟩] 207)).alloc (.cells #[.bool false,.string ⟨#[]⟩] 207)).alloc (.cells #[.bool false,.string ⟨#[]⟩] 207)).heap[w.heap.size+1+1]? =_:=zo _ _ _ _ (zg _ _ _ (by simp));have h3:((((w.alloc (.cells #[.bool g,.string a,.string c] 43)).alloc (.cells #[.bool false,.string ⟨#[]⟩] 207)).alloc (.cells #[.bool false,.string ⟨#[]⟩] 207)).alloc (.cells #[.bool false,.string ⟨#[]⟩] 207)).heap[w.heap.size+1+1+1]? =_:=zg _ _ _ (by simp);go_enter Tryz.func171,Tryz.ntmps171
  go_wp2_with(first|(go_at_call 200;with_reducible refine(HN.out _).mono ?_;rintro e w1 ⟨rfl,rfl⟩)|(go_at_call 201;with_reducible refine(fromI1 _).mono ?_;rintro e w2 ⟨rfl,hb2⟩;have r0:=(hb2.block w.heap.size (by simp <;>omega)).trans h0;have r1:=(hb2.block (w.heap.size+1) (by simp <;>omega)).trans h1;have r2:=(hb2.block (w.heap.size+1+1) (by simp <;>omega)).trans h2;have r3:=(hb2.block (w.heap.size+1+1+1) (by simp <;>omega)).trans h3;obtain⟨s1,s2⟩:=two_cells r3;obtain⟨s3,s4⟩:=two_free r3))
  have u0:=setOther (v:=.string ⟨#[1]⟩) (j:=1) (g:=w.heap.size+1+1+1) (setOther (v:=.bool false) (j:=0) (g:=w.heap.size+1+1+1) r0 (by omega)) (by omega);have u1:=setOther (v:=.string ⟨#[1]⟩) (j:=1) (g:=w.heap.size+1+1+1) (setOther (v:=.bool false) (j:=0) (g:=w.heap.size+1+1+1) r1 (by omega)) (by omega);have u2:=setOther (v:=.string ⟨#[1]⟩) (j:=1) (g:=w.heap.size+1+1+1) (setOther (v:=.bool false) (j:=0) (g:=w.heap.size+1+1+1) r2 (by omega)) (by omega);have u3:=set2 (x':=.bool false) (y':=.string ⟨#[1]⟩) r3;have hbl:Below w.heap.size w ((w2.setCell ⟨w.heap.size+1+1+1,0,none⟩ (.bool false)).setCell ⟨w.heap.size+1+1+1,1,none⟩ (.string ⟨#[1]⟩)):=(((((((Below.refl _ _).alloc (Nat.le_refl _) _).alloc (by simp) _).alloc (by simp <;>omega) _).alloc (by simp <;>omega) _).trans (hb2.mono (by simp <;>omega))).setCell (by simp <;>omega) _).setCell (by simp <;>omega) _;generalize((w2.setCell ⟨w.heap.size+1+1+1,0,none⟩ (.bool false)).setCell ⟨w.heap.size+1+1+1,1,none⟩ (.string ⟨#[1]⟩))=w3 at*
  clear r0 r1 r2 r3 s1 s2 s3 s4 h0 h1 h2 h3 hb2;have l0:=zl u0;have l1:=zl u1;have l2:=zl u2;have l3:=zl u3;obtain⟨c0,c1, -⟩:=three_cells (show w3.drew.heap[w.heap.size]? =_ from u0);obtain⟨c2,c3⟩:=two_cells (show w3.drew.heap[w.heap.size+1+1+1]? =_ from u3);clear u0 u3
  go_region_held3 (fun w'=>w'.cell? ⟨w.heap.size,0,none⟩=some (.bool g)∧w'.cell? ⟨w.heap.size,1,none⟩=some (.string a)∧w'.cell? ⟨w.heap.size+1+1+1,0,none⟩=some (.bool false)∧w'.cell? ⟨w.heap.size+1+1+1,1,none⟩=some (.string ⟨#[1]⟩))
   (first
    |exact far4 (by assumption) (by omega) (by omega)
    |go_keep
    |exact⟨keep1 hb4 c0,keep1 hb4 c1,keep1 hb4 c2,keep1 hb4 c3⟩)
   (first
    |(go_at_call 202;refine(HNI.out _).mono ?_;rintro e w4 ⟨rfl,hb4⟩;have q1:=(hb4.block (w.heap.size+1) l1).trans u1;have q2:=(hb4.block (w.heap.size+1+1) l2).trans u2;obtain⟨s1,s2⟩:=two_cells q1;obtain⟨s3,s4⟩:=two_free q1;obtain⟨s5,s6⟩:=two_cells q2;obtain⟨s7,s8⟩:=two_free q2))
  go_wp2
  exact bodyPost_ret (results_two Tryz.results171 _ _ (w.heap.size+1) (w.heap.size+1+1) 207 _ _ (0,0) (0,0) _ rfl rfl (setOther (setOther (set2 q1) (by omega)) (by omega)) (set2 (setOther (setOther q2 (by omega)) (by omega))) Tryz.underlying207 rfl (by kernel_rfl) (by kernel_rfl)) rfl
   ⟨by rw [HQ.out.1,HQ.out.2],(((((hbl.trans ((Below_drew_left' hb4).mono (by simp <;>omega))).setCell (by simp <;>omega) _).setCell (by simp <;>omega) _).setCell (by simp <;>omega) _).setCell (by simp <;>omega) _)⟩
 ·have he:=ofL_noempty hd;have HQ:=zz (show zB (den0 (v8 (bl c)):Int)=false∧zS (den0 (v8 (bl c)):Int)=ofL (enc (v8 (bl c)))from⟨zB_nat _,by rw [zS_nat,den0,if_neg hd]⟩);generalize ofL (enc (v8 (bl c)))=t at*
  have HN:=zz hN;clear hN hd;have h0:((((w.alloc (.cells #[.bool g,.string a,.string c] 43)).alloc (.cells #[.bool false,.string ⟨#[]⟩] 207)).alloc (.cells #[.bool false,.string ⟨#[]⟩] 207)).alloc (.cells #[.bool false,.string t] 207)).heap[w.heap.size]? =_:=zo _ _ _ _ (zo _ _ _ _ (zo _ _ _ _ (zg _ _ _ rfl)));have h1:((((w.alloc (.cells #[.bool g,.string a,.string c] 43)).alloc (.cells #[.bool false,.string ⟨#[]⟩] 207)).alloc (.cells #[.bool false,.string ⟨#[]⟩] 207)).alloc (.cells #[.bool false,.string t] 207)).heap[w.heap.size+1]? =_:=zo _ _ _ _ (zo _ _ _ _ (zg _ _ _ (by simp)));have h2:((((w.alloc (.cells #[.bool g,.string a,.string c] 43)).alloc (.cells #[.bool false,.string ⟨#[]⟩] 207)).alloc (.cells #[.bool false,.string ⟨#[]⟩] 207)).alloc (.cells #[.bool false,.string t] 207)).heap[w.heap.size+1+1]? =_:=zo _ _ _ _ (zg _ _ _ (by simp));have h3:((((w.alloc (.cells #[.bool g,.string a,.string c] 43)).alloc (.cells #[.bool false,.string ⟨#[]⟩] 207)).alloc (.cells #[.bool false,.string ⟨#[]⟩] 207)).alloc (.cells #[.bool false,.string t] 207)).heap[w.heap.size+1+1+1]? =_:=zg _ _ _ (by simp);have hbl:Below w.heap.size w ((((w.alloc (.cells #[.bool g,.string a,.string c] 43)).alloc (.cells #[.bool false,.string ⟨#[]⟩] 207)).alloc (.cells #[.bool false,.string ⟨#[]⟩] 207)).alloc (.cells #[.bool false,.string t] 207)):=((((Below.refl _ _).alloc (Nat.le_refl _) _).alloc (by simp) _).alloc (by simp <;>omega) _).alloc (by simp <;>omega) _;have s0:=two_cells h3;obtain⟨s1,s2⟩:=s0;go_enter Tryz.func171,Tryz.ntmps171
  go_wp2_with(first|(go_at_call 200;with_reducible refine(HN.out _).mono ?_;rintro e w1 ⟨rfl,rfl⟩))
  generalize((((w.alloc (.cells #[.bool g,.string a,.string c] 43)).alloc (.cells #[.bool false,.string ⟨#[]⟩] 207)).alloc (.cells #[.bool false,.string ⟨#[]⟩] 207)).alloc (.cells #[.bool false,.string t] 207))=w3 at*
  have l0:=zl h0;have l1:=zl h1;have l2:=zl h2;have l3:=zl h3;have u1:=h1;have u2:=h2;obtain⟨c0,c1, -⟩:=three_cells (show w3.drew.heap[w.heap.size]? =_ from h0);obtain⟨c2,c3⟩:=two_cells (show w3.drew.heap[w.heap.size+1+1+1]? =_ from h3);clear h0 h3 h1 h2 s1 s2
  go_region_held3 (fun w'=>w'.cell? ⟨w.heap.size,0,none⟩=some (.bool g)∧w'.cell? ⟨w.heap.size,1,none⟩=some (.string a)∧w'.cell? ⟨w.heap.size+1+1+1,0,none⟩=some (.bool false)∧w'.cell? ⟨w.heap.size+1+1+1,1,none⟩=some (.string t))
   (first
    |exact far4 (by assumption) (by omega) (by omega)
    |go_keep
    |exact⟨keep1 hb4 c0,keep1 hb4 c1,keep1 hb4 c2,keep1 hb4 c3⟩)
   (first
    |(go_at_call 202;refine(HNI.out _).mono ?_;rintro e w4 ⟨rfl,hb4⟩;have q1:=(hb4.block (w.heap.size+1) l1).trans u1;have q2:=(hb4.block (w.heap.size+1+1) l2).trans u2;obtain⟨s1,s2⟩:=two_cells q1;obtain⟨s3,s4⟩:=two_free q1;obtain⟨s5,s6⟩:=two_cells q2;obtain⟨s7,s8⟩:=two_free q2))
  go_wp2
  exact bodyPost_ret (results_two Tryz.results171 _ _ (w.heap.size+1) (w.heap.size+1+1) 207 _ _ (0,0) (0,0) _ rfl rfl (setOther (setOther (set2 q1) (by omega)) (by omega)) (set2 (setOther (setOther q2 (by omega)) (by omega))) Tryz.underlying207 rfl (by kernel_rfl) (by kernel_rfl)) rfl
   ⟨by rw [HQ.out.1,HQ.out.2],(((((hbl.trans ((Below_drew_left' hb4).mono (by simp <;>omega))).setCell (by simp <;>omega) _).setCell (by simp <;>omega) _).setCell (by simp <;>omega) _).setCell (by simp <;>omega) _)⟩
def rN (g:Bool) (a:ByteArray):Int:=sg g (v8 (bl a))
def rD (c:ByteArray):Int:=(den0 (v8 (bl c)):Nat)
theorem rN_size (g:Bool) (a:ByteArray):(zS (rN g a)).size≤a.size:=by
 unfold rN;rw [zS_sg,←bl_size,bl_ofL,←bl_size a];exact enc_length (v8_lt _)
theorem rD_size (c:ByteArray):(zS (rD c)).size≤c.size+1:=by
 unfold rD;rw [zS_nat,←bl_size,bl_ofL];have h:=v8_lt (bl c);rw [bl_size]at h;apply enc_length
 have h1:256^c.size≤256^(c.size+1):=Nat.pow_le_pow_right (by decide) (by omega);have h2:0 < 256^c.size:=Nat.pow_pos (by decide);unfold den0
 split
 ·rw [Nat.pow_succ];omega
 ·omega
def ratCmpF (g:Bool) (a c:ByteArray) (h:Bool) (b d:ByteArray):Int:=(rN g a*rD d - rN h b*rD c).sign
set_option maxRecDepth 100000 in
theorem ratCmp_any (g:Bool) (a c:ByteArray) (h:Bool) (b d:ByteArray) (ha:a.size≤10000000) (hc:c.size≤10000000) (hb0:b.size≤10000000) (hd:d.size≤10000000) (w:World):
  Calls Tryz.prog 131 #[.agg #[.bool g,.string a,.string c],.agg #[.bool h,.string b,.string d]] w fun e w'=>e=.returned (.int .i64 (ratCmpF g a c h b d))∧Below w.heap.size w w':=by
 have sp:=rN_size g a;have sq:=rD_size c;have sp2:=rN_size h b;have sq2:=rD_size d;have H1:=zz (fun W=>partsZ g a c ha hc W);have H2:=zz (fun W=>partsZ h b d hb0 hd W);obtain⟨p,hp⟩:∃p,p=rN g a:=⟨_,rfl⟩;obtain⟨q,hq⟩:∃q,q=rD c:=⟨_,rfl⟩;obtain⟨p2,hp2⟩:∃p2,p2=rN h b:=⟨_,rfl⟩;obtain⟨q2,hq2⟩:∃q2,q2=rD d:=⟨_,rfl⟩;have hR:ratCmpF g a c h b d=(p*q2 - p2*q).sign:=by rw [hp,hq,hp2,hq2];rfl
 rw [←hp]at sp;rw [←hq]at sq;rw [←hp2]at sp2;rw [←hq2]at sq2;have e1:sg g (v8 (bl a))=p:=hp.symm;have e2:((den0 (v8 (bl c)):Nat):Int)=q:=hq.symm;have e3:sg h (v8 (bl b))=p2:=hp2.symm;have e4:((den0 (v8 (bl d)):Nat):Int)=q2:=hq2.symm;rw [e1,e2]at H1;rw [e3,e4]at H2;rw [hR];have z1:=zS_prod p q2;have z2:=zS_prod p2 q;have M1:=zz (fun W=>mulZ p q2 (by omega) (by omega) W);have M2:=zz (fun W=>mulZ p2 q (by omega) (by omega) W);have CM:=zz (fun W=>cmpZ (p*q2) (p2*q) (by omega) (by omega) W);clear z1 z2 sp sq sp2 sq2 hp hq hp2 hq2 hR e1 e2 e3 e4;generalize p*q2=u at*
 generalize p2*q=v at*
 generalize(u - v).sign=res at*
 have R0:(((w.alloc (.cells #[.bool g,.string a,.string c] 43)).alloc (.cells #[.bool h,.string b,.string d] 43))).heap[w.heap.size]? =_:=zo _ _ _ _ (zg _ _ _ rfl);have R1:(((w.alloc (.cells #[.bool g,.string a,.string c] 43)).alloc (.cells #[.bool h,.string b,.string d] 43))).heap[w.heap.size+1]? =_:=zg _ _ _ (by simp);have BL:=below2 w (.cells #[.bool g,.string a,.string c] 43) (.cells #[.bool h,.string b,.string d] 43);go_enter Tryz.func131,Tryz.ntmps131
 go_wp2_with fail
 refine(H1.out _).mono ?_;rintro e w1 ⟨rfl,hb1⟩;have Q1:=zo _ _ (.cells #[.bool (zB q),.string (zS q)] 207) _ (zo _ _ (.cells #[.bool (zB p),.string (zS p)] 207) _ ((hb1.block _ (zl R1)).trans R1));obtain⟨t1,t2,t3⟩:=three_cells Q1;have BQ:=BL.trans (hb1.mono BL.size);have BZ:=(BQ.alloc BQ.size (.cells #[.bool (zB p),.string (zS p)] 207)).alloc (by have:=BQ.size;simp <;>omega) (.cells #[.bool (zB q),.string (zS q)] 207);have A5:((w1.alloc (.cells #[.bool (zB p),.string (zS p)] 207)).alloc (.cells #[.bool (zB q),.string (zS q)] 207)).heap[w1.heap.size]? =_:=box2.1;have A6:((w1.alloc (.cells #[.bool (zB p),.string (zS p)] 207)).alloc (.cells #[.bool (zB q),.string (zS q)] 207)).heap[w1.heap.size+1]? =_:=box2.2;clear R0 R1 BL hb1 BQ
 go_wp2_with fail
 refine(H2.out _).mono ?_;rintro e w2 ⟨rfl,hb2⟩;have A5:=(hb2.block _ (zl A5)).trans A5;have A6:=(hb2.block _ (zl A6)).trans A6;have BL:=BZ.trans (hb2.mono BZ.size);have l5:=zl A5;have l6:=zl A6;have R5:(((w2.alloc (.cells #[.bool (zB p2),.string (zS p2)] 207)).alloc (.cells #[.bool (zB q2),.string (zS q2)] 207)).drew).heap[w1.heap.size]? =_:=zo _ _ _ _ (zo _ _ _ _ A5);have R6:(((w2.alloc (.cells #[.bool (zB p2),.string (zS p2)] 207)).alloc (.cells #[.bool (zB q2),.string (zS q2)] 207)).drew).heap[w1.heap.size+1]? =_:=zo _ _ _ _ (zo _ _ _ _ A6);have R7:(((w2.alloc (.cells #[.bool (zB p2),.string (zS p2)] 207)).alloc (.cells #[.bool (zB q2),.string (zS q2)] 207)).drew).heap[w2.heap.size]? =_:=box2.1;have R8:(((w2.alloc (.cells #[.bool (zB p2),.string (zS p2)] 207)).alloc (.cells #[.bool (zB q2),.string (zS q2)] 207)).drew).heap[w2.heap.size+1]? =_:=box2.2;have BL:=((BL.alloc BL.size (.cells #[.bool (zB p2),.string (zS p2)] 207)).alloc (by have:=BL.size;simp <;>omega) (.cells #[.bool (zB q2),.string (zS q2)] 207)).drew;clear A5 A6 t1 t2 t3 Q1 hb2 BZ
 go_wp2_with fail
 go_region_held3 (fun w'=>w'.cell? ⟨w1.heap.size,0,none⟩=some (.bool (zB p))∧w'.cell? ⟨w1.heap.size,1,none⟩=some (.string (zS p))∧w'.cell? ⟨w1.heap.size+1,0,none⟩=some (.bool (zB q))∧w'.cell? ⟨w1.heap.size+1,1,none⟩=some (.string (zS q))∧w'.cell? ⟨w2.heap.size,0,none⟩=some (.bool (zB p2))∧w'.cell? ⟨w2.heap.size,1,none⟩=some (.string (zS p2))∧w'.cell? ⟨w2.heap.size+1,0,none⟩=some (.bool (zB q2))∧w'.cell? ⟨w2.heap.size+1,1,none⟩=some (.string (zS q2)))
  (first
   |with_reducible exact rows8 R5 R6 R7 R8
   |go_keep)
  (first
   |(go_at_call 173;with_reducible refine(M1.out _).mono ?_;rintro e w4 ⟨rfl,hb⟩;have R5:=(hb.block _ (zl R5)).trans R5;have R6:=(hb.block _ (zl R6)).trans R6;have R7:=(hb.block _ (zl R7)).trans R7;have R8:=(hb.block _ (zl R8)).trans R8;have BL:=BL.trans (hb.mono BL.size))
   |(go_at_call 173;with_reducible refine(M2.out _).mono ?_;rintro e w5 ⟨rfl,hb⟩;have R5:=(hb.block _ (zl R5)).trans R5;have R6:=(hb.block _ (zl R6)).trans R6;have R7:=(hb.block _ (zl R7)).trans R7;have R8:=(hb.block _ (zl R8)).trans R8;have BL:=BL.trans (hb.mono BL.size))
   |(go_at_call 172;with_reducible refine(CM.out _).mono ?_;rintro e w7 ⟨rfl,hb⟩;have R5:=(hb.block _ (zl R5)).trans R5;have R6:=(hb.block _ (zl R6)).trans R6;have R7:=(hb.block _ (zl R7)).trans R7;have R8:=(hb.block _ (zl R8)).trans R8;have BL:=BL.trans (hb.mono BL.size)))
 go_wp2;go_ret
 exact⟨rfl,BL⟩
def sibC (x y:TnD):Int:=or2 (ratCmpF x.neg x.num x.den y.neg y.num y.den) (cmpId x.node y.node)
structure TnSm (x:TnD):Prop where
 num:x.num.size≤10000000
 den:x.den.size≤10000000
set_option maxRecDepth 100000 in
theorem sibCmp_any (x y:TnD) (hx:TnSm x) (hy:TnSm y) (w:World):Calls Tryz.prog 130 #[.agg (tnV x).toArray,.agg (tnV y).toArray] w fun e w'=>e=.returned (.int .i64 (sibC x y))∧Below w.heap.size w w':=by
 have HC:=zz (fun W=>ratCmp_any x.neg x.num x.den y.neg y.num y.den hx.num hx.den hy.num hy.den W);have HL:=zz (fun W=>less_any x.node y.node W);unfold sibC;generalize ratCmpF x.neg x.num x.den y.neg y.num y.den=r at*
 generalize cmpId x.node y.node=l at*
 clear hx hy;obtain⟨⟨xa,xn⟩,⟨xpa,xpn⟩,g,a,c,xk⟩:=x;obtain⟨⟨ya,yn⟩,⟨ypa,ypn⟩,h,b,d,yk⟩:=y;obtain⟨m2,m3⟩:=box2 (w:=w) (o:=.cells (tnV ⟨⟨xa,xn⟩,⟨xpa,xpn⟩,g,a,c,xk⟩).toArray 55) (o':=.cells (tnV ⟨⟨ya,yn⟩,⟨ypa,ypn⟩,h,b,d,yk⟩).toArray 55);have BL:=(below2 w (.cells (tnV ⟨⟨xa,xn⟩,⟨xpa,xpn⟩,g,a,c,xk⟩).toArray 55) (.cells (tnV ⟨⟨ya,yn⟩,⟨ypa,ypn⟩,h,b,d,yk⟩).toArray 55)).drew;have R2:(((w.alloc (.cells (tnV ⟨⟨xa,xn⟩,⟨xpa,xpn⟩,g,a,c,xk⟩).toArray 55)).alloc (.cells (tnV ⟨⟨ya,yn⟩,⟨ypa,ypn⟩,h,b,d,yk⟩).toArray 55)).drew).heap[w.heap.size]? =_:=m2;have R3:(((w.alloc (.cells (tnV ⟨⟨xa,xn⟩,⟨xpa,xpn⟩,g,a,c,xk⟩).toArray 55)).alloc (.cells (tnV ⟨⟨ya,yn⟩,⟨ypa,ypn⟩,h,b,d,yk⟩).toArray 55)).drew).heap[w.heap.size+1]? =_:=m3;clear m2 m3;unfold tnV at*
 simp only at HC HL;go_enter Tryz.func130,Tryz.ntmps130
 go_wp2_with fail
 go_region_held3 (fun w'=>w'.cell? ⟨w.heap.size,0,none⟩=some (.string xa)∧w'.cell? ⟨w.heap.size,1,none⟩=some (.int .i64 xn)∧w'.cell? ⟨w.heap.size,4,none⟩=some (.bool g)∧w'.cell? ⟨w.heap.size,5,none⟩=some (.string a)∧w'.cell? ⟨w.heap.size,6,none⟩=some (.string c)∧w'.cell? ⟨w.heap.size+1,0,none⟩=some (.string ya)∧w'.cell? ⟨w.heap.size+1,1,none⟩=some (.int .i64 yn)∧w'.cell? ⟨w.heap.size+1,4,none⟩=some (.bool h)∧w'.cell? ⟨w.heap.size+1,5,none⟩=some (.string b)∧w'.cell? ⟨w.heap.size+1,6,none⟩=some (.string d))
  (first
   |with_reducible exact cells10 R2 R3
   |go_keep)
  (first
   |(go_at_call 131;with_reducible refine(HC.out _).mono ?_;rintro e w4 ⟨rfl,hb⟩;have R2:=(hb.block _ (zl R2)).trans R2;have R3:=(hb.block _ (zl R3)).trans R3;have BL:=BL.trans (hb.mono BL.size))
   |(go_at_call 75;with_reducible refine(HL.out _).mono ?_;rintro e w5 ⟨rfl,hb⟩;have R2:=(hb.block _ (zl R2)).trans R2;have R3:=(hb.block _ (zl R3)).trans R3;have BL:=BL.trans (hb.mono BL.size))
   |(go_at_call 118;refine(or2_any r l _ 2 _ (arr2 _ _ _).1 (arr2 _ _ _).2).mono ?_;rintro e w6 ⟨rfl,rfl⟩))
 all_goals go_wp2
 all_goals go_ret
 all_goals exact⟨rfl,BL.alloc BL.size _⟩
end Go.Proofs.YteigcnamkfebgaaGreatDoor
