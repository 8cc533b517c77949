import Derived.Test.YteigcnamkfebgaaGreatDoorR
set_option linter.all false
set_option maxHeartbeats 25600000
namespace Go.Proofs.YteigcnamkfebgaaGreatDoor
open Go.RowKit
theorem below_drewN {B:Nat} {w w':World} (h:Below B w w') (n:Nat):Below B w (w'.drewN n):=⟨h.os,h.tape,h.output,h.size,h.block⟩
set_option maxRecDepth 100000 in
theorem mulE1 (w:World):Calls Tryz.prog 206 #[.string ⟨#[]⟩,.string ⟨#[1]⟩] w fun e w'=>e=.returned (.string ⟨#[]⟩)∧Below w.heap.size w w':=by
 have hmk:=mk32_1;go_enter Tryz.func206,Tryz.ntmps206
 go_wp2_with fail
 refine(limbsE _).mono ?_;rintro e w1 ⟨rfl,hb1⟩
 go_wp2_with fail
 refine(limbs1 _).mono ?_;rintro e w2 ⟨rfl,hc2,hb2⟩;have k0:=cell_of_one (zg w2 (.cells #[.int .u32 0] 197) w2.heap.size rfl);have hM:=mag0 w2.heap.size 1 _ k0;clear hc2 k0;go_wp2;refine wp_loop_rounds 1 ?_;rw [rounds_succ]
 go_wp2_with(first|(go_at_call 233;refine hM.mono ?_;rintro e w3 ⟨rfl,hb3⟩))
 go_ret
 exact⟨rfl,((hb1.trans (hb2.mono hb1.size)).alloc (by have:=hb1.size;have:=hb2.size;omega) _).trans (hb3.mono (by have:=hb1.size;have:=hb2.size;simp <;>omega))⟩
set_option maxRecDepth 100000 in
theorem mul11 (w:World):Calls Tryz.prog 206 #[.string ⟨#[1]⟩,.string ⟨#[1]⟩] w fun e w'=>e=.returned (.string ⟨#[1]⟩)∧Below w.heap.size w w':=by
 have hmk:=mk32_2;go_enter Tryz.func206,Tryz.ntmps206
 go_wp2_with fail
 refine(limbs1 _).mono ?_;rintro e w1 ⟨rfl,hc1,hb1⟩
 go_wp2_with fail
 refine(limbs1 _).mono ?_;rintro e w2 ⟨rfl,hc2,hb2⟩;have l1:=World.block_lt_of_cell? _ _ hc1;have l2:=World.block_lt_of_cell? _ _ hc2;have n1:=keep1 (hb2.alloc hb2.size (.cells #[.int .u32 0,.int .u32 0] 197)) hc1;have n2:(w2.alloc (.cells #[.int .u32 0,.int .u32 0] 197)).cell? ⟨w1.heap.size,0,none⟩=some (.int .u32 1):=keep1 ((Below.refl _ _).alloc (Nat.le_refl _) _) hc2;have r0:=zg w2 (.cells #[.int .u32 0,.int .u32 0] 197) w2.heap.size rfl;obtain⟨n3,n4⟩:=two_cells r0;obtain⟨f3,f4⟩:=two_free r0;clear hc1 hc2;go_wp2;clear hmk;refine wp_loop_rounds 2 ?_;rw [rounds_succ];go_wp2;refine wp_loop_rounds 2 ?_;rw [rounds_succ];go_wp2_with fail;go_quiet (fail)
 go_wp2;rw [rounds_succ];go_wp2;rw [rounds_succ];go_wp2_with fail;have hc:=two_cells (set2 (x':=.int .u32 1) (y':=.int .u32 0) (show((w2.alloc (.cells #[.int .u32 0,.int .u32 0] 197)).drewN nq).heap[w2.heap.size]? =_ from r0));refine(mag10 _ 2 _ hc.1 hc.2).mono ?_;rintro e w3 ⟨rfl,hb3⟩;go_wp2;go_ret
 exact⟨rfl,(((below_drewN ((hb1.trans (hb2.mono hb1.size)).alloc (by omega) _) nq).setCell (by simp <;>omega) _).setCell (by simp <;>omega) _).trans (hb3.mono (by simp <;>omega))⟩
theorem add32 (w:World):Calls Tryz.prog 288 #[.int .u32 1,.int .u32 0,.int .u32 0] w fun e w'=>e=.returned (.tuple #[.int .u32 1,.int .u32 0])∧w=w':=by
 go_enter Tryz.func288,Tryz.ntmps288
 go_wp2;exact bodyPost_ret (v:=.tuple #[.int .u32 1,.int .u32 0]) (by simp [results,Tryz.results288,go_sem]) rfl ⟨rfl,rfl⟩
set_option maxRecDepth 100000 in
theorem add1E (w:World):Calls Tryz.prog 262 #[.string ⟨#[1]⟩,.string ⟨#[]⟩] w fun e w'=>e=.returned (.string ⟨#[1]⟩)∧Below w.heap.size w w':=by
 have hmk:=mk32_2;go_enter Tryz.func262,Tryz.ntmps262
 go_wp2_with fail
 refine(limbs1 _).mono ?_;rintro e w1 ⟨rfl,hc1,hb1⟩
 go_wp2_with fail
 refine(limbsE _).mono ?_;rintro e w2 ⟨rfl,hb2⟩;have l1:=World.block_lt_of_cell? _ _ hc1;have l2:=hb2.size;have n1:=keep1 (hb2.alloc hb2.size (.cells #[.int .u32 0,.int .u32 0] 197)) hc1;have r0:=zg w2 (.cells #[.int .u32 0,.int .u32 0] 197) w2.heap.size rfl;obtain⟨n3,n4⟩:=two_cells r0;obtain⟨f3,f4⟩:=two_free r0;clear hc1;go_wp2;clear hmk;refine wp_loop_rounds 2 ?_;rw [rounds_succ];go_wp2_with(go_at_call 288;refine(add32 _).mono ?_;rintro e w3 ⟨rfl,rfl⟩);rw [rounds_succ];go_wp2_with fail;have hc:=two_cells (zg w2 (.cells #[.int .u32 1,.int .u32 0] 197) w2.heap.size rfl);refine(mag10 _ 2 _ hc.1 hc.2).mono ?_;rintro e w3 ⟨rfl,hb3⟩;go_wp2;go_ret
 exact⟨rfl,(((hb1.trans (hb2.mono hb1.size)).alloc (by omega) _)).trans (hb3.mono (by simp <;>omega))⟩
theorem rows4 {W:World} {k m:Nat} {a b c d:Value} {t:TypeId} (h:W.heap[k]? =some (.cells #[a,b] t (0,0))) (h':W.heap[m]? =some (.cells #[c,d] t (0,0))):W.cell? ⟨k,0,none⟩=some a∧W.cell? ⟨k,1,none⟩=some b∧W.cell? ⟨m,0,none⟩=some c∧W.cell? ⟨m,1,none⟩=some d:=
 ⟨(two_cells h).1,(two_cells h).2,(two_cells h').1,(two_cells h').2⟩
theorem sameC {W:World} {k b o:Nat} {v x y:Value} (hx:W.cell? ⟨k,0,none⟩=some x) (hy:W.cell? ⟨k,1,none⟩=some y) (h:W.cell? ⟨b,o,none⟩=some v):((W.setCell ⟨k,0,none⟩ x).setCell ⟨k,1,none⟩ y).cell? ⟨b,o,none⟩=some v:=by
 have one:∀ {U:World} {p q:Addr} {u u':Value},U.cell? p=some u→U.cell? q=some u'→(U.setCell p u).cell? q=some u':=by
  intro U p q u u' h1 h2
  by_cases e:p=q
  ·subst e;rw [World.cell?_setCell_same _ _ _ h1,←h2,h1]
  ·rw [World.cell?_setCell_other _ _ _ _ e];exact h2
 exact one (one hx hy) (one hx h)
theorem same4 {W:World} {k n m:Nat} {a b c d x y:Value} (h:W.cell? ⟨n,0,none⟩=some a∧W.cell? ⟨n,1,none⟩=some b∧W.cell? ⟨m,0,none⟩=some c∧W.cell? ⟨m,1,none⟩=some d) (he:k=n∧x=a∧y=b∨k=m∧x=c∧y=d):
  ((W.setCell ⟨k,0,none⟩ x).setCell ⟨k,1,none⟩ y).cell? ⟨n,0,none⟩=some a∧((W.setCell ⟨k,0,none⟩ x).setCell ⟨k,1,none⟩ y).cell? ⟨n,1,none⟩=some b∧((W.setCell ⟨k,0,none⟩ x).setCell ⟨k,1,none⟩ y).cell? ⟨m,0,none⟩=some c∧((W.setCell ⟨k,0,none⟩ x).setCell ⟨k,1,none⟩ y).cell? ⟨m,1,none⟩=some d:=by
 obtain⟨h1,h2,h3,h4⟩:=h
 rcases he with⟨rfl,rfl,rfl⟩|⟨rfl,rfl,rfl⟩
 ·exact⟨sameC h1 h2 h1,sameC h1 h2 h2,sameC h1 h2 h3,sameC h1 h2 h4⟩
 ·exact⟨sameC h3 h4 h1,sameC h3 h4 h2,sameC h3 h4 h3,sameC h3 h4 h4⟩
set_option maxRecDepth 100000 in
theorem mulI (a b r:ByteArray) (hNa:∀w:World,Calls Tryz.prog 200 #[.string a] w fun e w'=>e=.returned (.string a)∧w=w') (hNb:∀w:World,Calls Tryz.prog 200 #[.string b] w fun e w'=>e=.returned (.string b)∧w=w')
  (hM:∀w:World,Calls Tryz.prog 206 #[.string a,.string b] w fun e w'=>e=.returned (.string r)∧Below w.heap.size w w') (w:World):
  Calls Tryz.prog 173 #[.agg #[.bool false,.string a],.agg #[.bool false,.string b]] w fun e w'=>e=.returned (.agg #[.bool false,.string r])∧Below w.heap.size w w':=by
 have hNa':∀W:World,Calls Tryz.prog 202 #[.agg #[.bool false,.string a]] W fun e w'=>e=.returned (.agg #[.bool false,.string a])∧Below W.heap.size W w':=fun W=>normI a hNa W
 have hNb':∀W:World,Calls Tryz.prog 202 #[.agg #[.bool false,.string b]] W fun e w'=>e=.returned (.agg #[.bool false,.string b])∧Below W.heap.size W w':=fun W=>normI b hNb W
 have HA:=zz hNa';have HB:=zz hNb';have HM:=zz hM;clear hNa hNb hNa' hNb' hM;have R2:((((w.alloc (.cells #[.bool false,.string a] 207)).alloc (.cells #[.bool false,.string b] 207)).alloc (.cells #[.bool false,.string ⟨#[]⟩] 207)).drew).heap[w.heap.size]? =_:=zo _ _ _ _ (zo _ _ _ _ (zg _ _ _ rfl));have R3:((((w.alloc (.cells #[.bool false,.string a] 207)).alloc (.cells #[.bool false,.string b] 207)).alloc (.cells #[.bool false,.string ⟨#[]⟩] 207)).drew).heap[w.heap.size+1]? =_:=zo _ _ _ _ (zg _ _ _ (by simp));have R4:((((w.alloc (.cells #[.bool false,.string a] 207)).alloc (.cells #[.bool false,.string b] 207)).alloc (.cells #[.bool false,.string ⟨#[]⟩] 207)).drew).heap[w.heap.size+1+1]? =_:=zg _ _ _ (by simp);have BL:Below w.heap.size w ((((w.alloc (.cells #[.bool false,.string a] 207)).alloc (.cells #[.bool false,.string b] 207)).alloc (.cells #[.bool false,.string ⟨#[]⟩] 207)).drew):=((((Below.refl _ _).alloc (Nat.le_refl _) _).alloc (by simp) _).alloc (by simp <;>omega) _).drew;go_enter Tryz.func173,Tryz.ntmps173
 go_wp2_with fail
 go_region_held3 (fun w'=>w'.cell? ⟨w.heap.size,0,none⟩=some (.bool false)∧w'.cell? ⟨w.heap.size,1,none⟩=some (.string a)∧w'.cell? ⟨w.heap.size+1,0,none⟩=some (.bool false)∧w'.cell? ⟨w.heap.size+1,1,none⟩=some (.string b))
  (first
   |with_reducible exact rows4 R2 R3
   |with_reducible exact same4 (by assumption) (.inl ⟨rfl,rfl,rfl⟩)
   |with_reducible exact same4 (by assumption) (.inr ⟨rfl,rfl,rfl⟩)
   |go_keep)
  (first
   |(go_at_call 202;refine(HA.out _).mono ?_;rintro e w4 ⟨rfl,hb⟩;have R2:=(hb.block _ (zl R2)).trans R2;have R3:=(hb.block _ (zl R3)).trans R3;have R4:=(hb.block _ (zl R4)).trans R4;have BL:=BL.trans (hb.mono BL.size);obtain⟨s1,s2⟩:=two_cells R2;obtain⟨s3,s4⟩:=two_free R2;obtain⟨s5,s6⟩:=two_cells R3;obtain⟨s7,s8⟩:=two_free R3)
   |(go_at_call 202;refine(HB.out _).mono ?_;rintro e w4 ⟨rfl,hb⟩;have R2:=(hb.block _ (zl R2)).trans R2;have R3:=(hb.block _ (zl R3)).trans R3;have R4:=(hb.block _ (zl R4)).trans R4;have BL:=BL.trans (hb.mono BL.size);obtain⟨s1,s2⟩:=two_cells R2;obtain⟨s3,s4⟩:=two_free R2;obtain⟨s5,s6⟩:=two_cells R3;obtain⟨s7,s8⟩:=two_free R3))
 clear s1 s2 s3 s4 s5 s6 s7 s8;have Q2:=setOther (v:=.string b) (j:=1) (g:=w.heap.size+1) (setOther (v:=.bool false) (j:=0) (g:=w.heap.size+1) (set2 (x':=.bool false) (y':=.string a) R2) (by omega)) (by omega);have Q3:=set2 (x':=.bool false) (y':=.string b) (setOther (v:=.string a) (j:=1) (g:=w.heap.size) (setOther (v:=.bool false) (j:=0) (g:=w.heap.size) R3 (by omega)) (by omega));have Q4:=setOther (v:=.string b) (j:=1) (g:=w.heap.size+1) (setOther (v:=.bool false) (j:=0) (g:=w.heap.size+1) (setOther (v:=.string a) (j:=1) (g:=w.heap.size) (setOther (v:=.bool false) (j:=0) (g:=w.heap.size) R4 (by omega)) (by omega)) (by omega)) (by omega);have BQ:=(((BL.setCell (p:=⟨w.heap.size,0,none⟩) (Nat.le_refl _) (.bool false)).setCell (p:=⟨w.heap.size,1,none⟩) (Nat.le_refl _) (.string a)).setCell (p:=⟨w.heap.size+1,0,none⟩) (by simp) (.bool false)).setCell (p:=⟨w.heap.size+1,1,none⟩) (by simp) (.string b);generalize((((w4.setCell ⟨w.heap.size,0,none⟩ (.bool false)).setCell ⟨w.heap.size,1,none⟩ (.string a)).setCell ⟨w.heap.size+1,0,none⟩ (.bool false)).setCell ⟨w.heap.size+1,1,none⟩ (.string b))=w5 at*
 clear R2 R3 R4 BL;have R2:w5.drew.heap[w.heap.size]? =_:=Q2;have R3:w5.drew.heap[w.heap.size+1]? =_:=Q3;have R4:w5.drew.heap[w.heap.size+1+1]? =_:=Q4;have BL:=BQ.drew;clear Q2 Q3 Q4 BQ
 go_wp2_with fail
 go_region_held3 (fun w'=>w'.cell? ⟨w.heap.size,0,none⟩=some (.bool false)∧w'.cell? ⟨w.heap.size,1,none⟩=some (.string a)∧w'.cell? ⟨w.heap.size+1,0,none⟩=some (.bool false)∧w'.cell? ⟨w.heap.size+1,1,none⟩=some (.string b))
  (first
   |with_reducible exact rows4 R2 R3
   |with_reducible exact far4 (by assumption) (by omega) (by omega)
   |go_keep)
  (first
   |(go_at_call 206;refine(HM.out _).mono ?_;rintro e w6 ⟨rfl,hb⟩;have R2:=(hb.block _ (zl R2)).trans R2;have R3:=(hb.block _ (zl R3)).trans R3;have R4:=(hb.block _ (zl R4)).trans R4;have BL:=BL.trans (hb.mono BL.size))
   |(go_at_call 205;refine(of_false _ _).mono ?_;rintro e w7 ⟨rfl,hb⟩;have R2:=(hb.block _ (zl R2)).trans R2;have R3:=(hb.block _ (zl R3)).trans R3;have R4:=(hb.block _ (zl R4)).trans R4;have BL:=BL.trans (hb.mono BL.size);obtain⟨s1,s2⟩:=two_cells R4;obtain⟨s3,s4⟩:=two_free R4))
 go_wp2;exact bodyPost_ret (results_cell_row Tryz.results173 _ _ (w.heap.size+1+1) 207 _ (0,0) _ rfl (set2 R4) Tryz.underlying207 rfl (by kernel_rfl)) rfl ⟨rfl,(BL.setCell (by simp <;>omega) _).setCell (by simp <;>omega) _⟩
set_option maxRecDepth 100000 in
theorem addI (a b r:ByteArray) (hNa:∀w:World,Calls Tryz.prog 200 #[.string a] w fun e w'=>e=.returned (.string a)∧w=w') (hNb:∀w:World,Calls Tryz.prog 200 #[.string b] w fun e w'=>e=.returned (.string b)∧w=w')
  (hM:∀w:World,Calls Tryz.prog 262 #[.string a,.string b] w fun e w'=>e=.returned (.string r)∧Below w.heap.size w w') (w:World):
  Calls Tryz.prog 230 #[.agg #[.bool false,.string a],.agg #[.bool false,.string b]] w fun e w'=>e=.returned (.agg #[.bool false,.string r])∧Below w.heap.size w w':=by
 have hNa':∀W:World,Calls Tryz.prog 202 #[.agg #[.bool false,.string a]] W fun e w'=>e=.returned (.agg #[.bool false,.string a])∧Below W.heap.size W w':=fun W=>normI a hNa W
 have hNb':∀W:World,Calls Tryz.prog 202 #[.agg #[.bool false,.string b]] W fun e w'=>e=.returned (.agg #[.bool false,.string b])∧Below W.heap.size W w':=fun W=>normI b hNb W
 have HA:=zz hNa';have HB:=zz hNb';have HM:=zz hM;clear hNa hNb hNa' hNb' hM;have R2:((((w.alloc (.cells #[.bool false,.string a] 207)).alloc (.cells #[.bool false,.string b] 207)).alloc (.cells #[.bool false,.string ⟨#[]⟩] 207)).drew).heap[w.heap.size]? =_:=zo _ _ _ _ (zo _ _ _ _ (zg _ _ _ rfl));have R3:((((w.alloc (.cells #[.bool false,.string a] 207)).alloc (.cells #[.bool false,.string b] 207)).alloc (.cells #[.bool false,.string ⟨#[]⟩] 207)).drew).heap[w.heap.size+1]? =_:=zo _ _ _ _ (zg _ _ _ (by simp));have R4:((((w.alloc (.cells #[.bool false,.string a] 207)).alloc (.cells #[.bool false,.string b] 207)).alloc (.cells #[.bool false,.string ⟨#[]⟩] 207)).drew).heap[w.heap.size+1+1]? =_:=zg _ _ _ (by simp);have BL:Below w.heap.size w ((((w.alloc (.cells #[.bool false,.string a] 207)).alloc (.cells #[.bool false,.string b] 207)).alloc (.cells #[.bool false,.string ⟨#[]⟩] 207)).drew):=((((Below.refl _ _).alloc (Nat.le_refl _) _).alloc (by simp) _).alloc (by simp <;>omega) _).drew;go_enter Tryz.func230,Tryz.ntmps230
 go_wp2_with fail
 go_region_held3 (fun w'=>w'.cell? ⟨w.heap.size,0,none⟩=some (.bool false)∧w'.cell? ⟨w.heap.size,1,none⟩=some (.string a)∧w'.cell? ⟨w.heap.size+1,0,none⟩=some (.bool false)∧w'.cell? ⟨w.heap.size+1,1,none⟩=some (.string b))
  (first
   |with_reducible exact rows4 R2 R3
   |with_reducible exact same4 (by assumption) (.inl ⟨rfl,rfl,rfl⟩)
   |with_reducible exact same4 (by assumption) (.inr ⟨rfl,rfl,rfl⟩)
   |go_keep)
  (first
   |(go_at_call 202;refine(HA.out _).mono ?_;rintro e w4 ⟨rfl,hb⟩;have R2:=(hb.block _ (zl R2)).trans R2;have R3:=(hb.block _ (zl R3)).trans R3;have R4:=(hb.block _ (zl R4)).trans R4;have BL:=BL.trans (hb.mono BL.size);obtain⟨s1,s2⟩:=two_cells R2;obtain⟨s3,s4⟩:=two_free R2;obtain⟨s5,s6⟩:=two_cells R3;obtain⟨s7,s8⟩:=two_free R3)
   |(go_at_call 202;refine(HB.out _).mono ?_;rintro e w4 ⟨rfl,hb⟩;have R2:=(hb.block _ (zl R2)).trans R2;have R3:=(hb.block _ (zl R3)).trans R3;have R4:=(hb.block _ (zl R4)).trans R4;have BL:=BL.trans (hb.mono BL.size);obtain⟨s1,s2⟩:=two_cells R2;obtain⟨s3,s4⟩:=two_free R2;obtain⟨s5,s6⟩:=two_cells R3;obtain⟨s7,s8⟩:=two_free R3))
 clear s1 s2 s3 s4 s5 s6 s7 s8;have Q2:=setOther (v:=.string b) (j:=1) (g:=w.heap.size+1) (setOther (v:=.bool false) (j:=0) (g:=w.heap.size+1) (set2 (x':=.bool false) (y':=.string a) R2) (by omega)) (by omega);have Q3:=set2 (x':=.bool false) (y':=.string b) (setOther (v:=.string a) (j:=1) (g:=w.heap.size) (setOther (v:=.bool false) (j:=0) (g:=w.heap.size) R3 (by omega)) (by omega));have Q4:=setOther (v:=.string b) (j:=1) (g:=w.heap.size+1) (setOther (v:=.bool false) (j:=0) (g:=w.heap.size+1) (setOther (v:=.string a) (j:=1) (g:=w.heap.size) (setOther (v:=.bool false) (j:=0) (g:=w.heap.size) R4 (by omega)) (by omega)) (by omega)) (by omega);have BQ:=(((BL.setCell (p:=⟨w.heap.size,0,none⟩) (Nat.le_refl _) (.bool false)).setCell (p:=⟨w.heap.size,1,none⟩) (Nat.le_refl _) (.string a)).setCell (p:=⟨w.heap.size+1,0,none⟩) (by simp) (.bool false)).setCell (p:=⟨w.heap.size+1,1,none⟩) (by simp) (.string b);generalize((((w4.setCell ⟨w.heap.size,0,none⟩ (.bool false)).setCell ⟨w.heap.size,1,none⟩ (.string a)).setCell ⟨w.heap.size+1,0,none⟩ (.bool false)).setCell ⟨w.heap.size+1,1,none⟩ (.string b))=w5 at*
 clear R2 R3 R4 BL;have R2:w5.drew.heap[w.heap.size]? =_:=Q2;have R3:w5.drew.heap[w.heap.size+1]? =_:=Q3;have R4:w5.drew.heap[w.heap.size+1+1]? =_:=Q4;have BL:=BQ.drew;obtain⟨t1,t2⟩:=two_cells Q2;obtain⟨t3,t4⟩:=two_cells Q3;clear Q2 Q3 Q4 BQ
 go_wp2_with fail
 clear t1 t2 t3 t4
 go_region_held3 (fun w'=>w'.cell? ⟨w.heap.size,0,none⟩=some (.bool false)∧w'.cell? ⟨w.heap.size,1,none⟩=some (.string a)∧w'.cell? ⟨w.heap.size+1,0,none⟩=some (.bool false)∧w'.cell? ⟨w.heap.size+1,1,none⟩=some (.string b))
  (first
   |with_reducible exact rows4 R2 R3
   |with_reducible exact far4 (by assumption) (by omega) (by omega)
   |go_keep)
  (first
   |(go_at_call 262;refine(HM.out _).mono ?_;rintro e w6 ⟨rfl,hb⟩;have R2:=(hb.block _ (zl R2)).trans R2;have R3:=(hb.block _ (zl R3)).trans R3;have R4:=(hb.block _ (zl R4)).trans R4;have BL:=BL.trans (hb.mono BL.size))
   |(go_at_call 205;refine(of_false _ _).mono ?_;rintro e w7 ⟨rfl,hb⟩;have R2:=(hb.block _ (zl R2)).trans R2;have R3:=(hb.block _ (zl R3)).trans R3;have R4:=(hb.block _ (zl R4)).trans R4;have BL:=BL.trans (hb.mono BL.size);obtain⟨s1,s2⟩:=two_cells R4;obtain⟨s3,s4⟩:=two_free R4))
 go_wp2;exact bodyPost_ret (results_cell_row Tryz.results230 _ _ (w.heap.size+1+1) 207 _ (0,0) _ rfl (set2 R4) Tryz.underlying207 rfl (by kernel_rfl)) rfl ⟨rfl,(BL.setCell (by simp <;>omega) _).setCell (by simp <;>omega) _⟩
set_option maxRecDepth 100000 in
theorem negE (w:World):Calls Tryz.prog 231 #[.agg #[.bool false,.string ⟨#[]⟩]] w fun e w'=>e=.returned (.agg #[.bool false,.string ⟨#[]⟩])∧Below w.heap.size w w':=by
 have R0:((w.alloc (.cells #[.bool false,.string ⟨#[]⟩] 207)).alloc (.cells #[.bool false,.string ⟨#[]⟩] 207)).heap[w.heap.size]? =_:=box2.1;have R1:((w.alloc (.cells #[.bool false,.string ⟨#[]⟩] 207)).alloc (.cells #[.bool false,.string ⟨#[]⟩] 207)).heap[w.heap.size+1]? =_:=box2.2;have BL:=below2 w (.cells #[.bool false,.string ⟨#[]⟩] 207) (.cells #[.bool false,.string ⟨#[]⟩] 207);go_enter Tryz.func231,Tryz.ntmps231
 go_wp2_with fail
 refine(normI ⟨#[]⟩ normE _).mono ?_;rintro e w1 ⟨rfl,hb⟩;have Q0:=(hb.block _ (zl R0)).trans R0;have Q1:=(hb.block _ (zl R1)).trans R1;have BQ:=BL.trans (hb.mono BL.size);obtain⟨s1,s2⟩:=two_cells Q0;obtain⟨s3,s4⟩:=two_free Q0;have P0:=set2 (x':=.bool false) (y':=.string ⟨#[]⟩) Q0;have P1:=setOther (v:=.string ⟨#[]⟩) (j:=1) (g:=w.heap.size) (setOther (v:=.bool false) (j:=0) (g:=w.heap.size) Q1 (by omega)) (by omega);obtain⟨s5,s6⟩:=two_cells P0
 go_wp2_with fail
 refine(of_trueE _).mono ?_;rintro e w2 ⟨rfl,hb2⟩;have U1:=(hb2.block _ (zl P1)).trans P1;obtain⟨u1,u2⟩:=two_cells U1;obtain⟨u3,u4⟩:=two_free U1;have BU:=((BQ.setCell (p:=⟨w.heap.size,0,none⟩) (Nat.le_refl _) (.bool false)).setCell (p:=⟨w.heap.size,1,none⟩) (Nat.le_refl _) (.string ⟨#[]⟩)).trans (hb2.mono (by have:=BQ.size;simp <;>omega));clear s1 s2 s3 s4 s5 s6;go_wp2;exact bodyPost_ret (results_cell_row Tryz.results231 _ _ (w.heap.size+1) 207 _ (0,0) _ rfl (set2 U1) Tryz.underlying207 rfl (by kernel_rfl)) rfl ⟨rfl,(BU.setCell (by simp <;>omega) _).setCell (by simp <;>omega) _⟩
set_option maxRecDepth 100000 in
theorem subI10 (w:World):Calls Tryz.prog 204 #[.agg #[.bool false,.string ⟨#[1]⟩],.agg #[.bool false,.string ⟨#[]⟩]] w fun e w'=>e=.returned (.agg #[.bool false,.string ⟨#[1]⟩])∧Below w.heap.size w w':=by
 have R2:((((w.alloc (.cells #[.bool false,.string ⟨#[1]⟩] 207)).alloc (.cells #[.bool false,.string ⟨#[]⟩] 207)).alloc (.cells #[.bool false,.string ⟨#[]⟩] 207)).drew).heap[w.heap.size]? =_:=zo _ _ _ _ (zo _ _ _ _ (zg _ _ _ rfl));have R3:((((w.alloc (.cells #[.bool false,.string ⟨#[1]⟩] 207)).alloc (.cells #[.bool false,.string ⟨#[]⟩] 207)).alloc (.cells #[.bool false,.string ⟨#[]⟩] 207)).drew).heap[w.heap.size+1]? =_:=zo _ _ _ _ (zg _ _ _ (by simp));have R4:((((w.alloc (.cells #[.bool false,.string ⟨#[1]⟩] 207)).alloc (.cells #[.bool false,.string ⟨#[]⟩] 207)).alloc (.cells #[.bool false,.string ⟨#[]⟩] 207)).drew).heap[w.heap.size+1+1]? =_:=zg _ _ _ (by simp);have BL:Below w.heap.size w ((((w.alloc (.cells #[.bool false,.string ⟨#[1]⟩] 207)).alloc (.cells #[.bool false,.string ⟨#[]⟩] 207)).alloc (.cells #[.bool false,.string ⟨#[]⟩] 207)).drew):=((((Below.refl _ _).alloc (Nat.le_refl _) _).alloc (by simp) _).alloc (by simp <;>omega) _).drew;go_enter Tryz.func204,Tryz.ntmps204
 go_wp2_with fail
 go_region_held3 (fun w'=>w'.cell? ⟨w.heap.size,0,none⟩=some (.bool false)∧w'.cell? ⟨w.heap.size,1,none⟩=some (.string ⟨#[1]⟩)∧w'.cell? ⟨w.heap.size+1,0,none⟩=some (.bool false)∧w'.cell? ⟨w.heap.size+1,1,none⟩=some (.string ⟨#[]⟩))
  (first
   |with_reducible exact rows4 R2 R3
   |with_reducible exact far4 (by assumption) (by omega) (by omega)
   |go_keep)
  (first
   |(go_at_call 231;refine(negE _).mono ?_;rintro e w4 ⟨rfl,hb⟩;have R2:=(hb.block _ (zl R2)).trans R2;have R3:=(hb.block _ (zl R3)).trans R3;have R4:=(hb.block _ (zl R4)).trans R4;have BL:=BL.trans (hb.mono BL.size))
   |(go_at_call 230;refine(addI ⟨#[1]⟩ ⟨#[]⟩ ⟨#[1]⟩ norm1 normE add1E _).mono ?_;rintro e w7 ⟨rfl,hb⟩;have R2:=(hb.block _ (zl R2)).trans R2;have R3:=(hb.block _ (zl R3)).trans R3;have R4:=(hb.block _ (zl R4)).trans R4;have BL:=BL.trans (hb.mono BL.size);obtain⟨s1,s2⟩:=two_cells R4;obtain⟨s3,s4⟩:=two_free R4))
 go_wp2;exact bodyPost_ret (results_cell_row Tryz.results204 _ _ (w.heap.size+1+1) 207 _ (0,0) _ rfl (set2 R4) Tryz.underlying207 rfl (by kernel_rfl)) rfl ⟨rfl,(BL.setCell (by simp <;>omega) _).setCell (by simp <;>omega) _⟩
set_option maxRecDepth 100000 in
theorem signI1 (w:World):Calls Tryz.prog 203 #[.agg #[.bool false,.string ⟨#[1]⟩]] w fun e w'=>e=.returned (.int .i64 1)∧Below w.heap.size w w':=by
 have R0:=zg w (.cells #[.bool false,.string ⟨#[1]⟩] 207) w.heap.size rfl;have BL:=(Below.refl w.heap.size w).alloc (Nat.le_refl _) (.cells #[.bool false,.string ⟨#[1]⟩] 207);go_enter Tryz.func203,Tryz.ntmps203
 go_wp2_with fail
 refine(normI ⟨#[1]⟩ norm1 _).mono ?_;rintro e w1 ⟨rfl,hb⟩;have Q0:=(hb.block _ (zl R0)).trans R0;have BQ:=BL.trans (hb.mono BL.size);obtain⟨s1,s2⟩:=two_cells Q0;obtain⟨s3,s4⟩:=two_free Q0;have P0:=set2 (x':=.bool false) (y':=.string ⟨#[1]⟩) Q0;obtain⟨s5,s6⟩:=two_cells P0;go_wp2;go_ret
 exact⟨rfl,(BQ.setCell (by simp <;>omega) _).setCell (by simp <;>omega) _⟩
set_option maxRecDepth 100000 in
theorem cmpI10 (w:World):Calls Tryz.prog 172 #[.agg #[.bool false,.string ⟨#[1]⟩],.agg #[.bool false,.string ⟨#[]⟩]] w fun e w'=>e=.returned (.int .i64 1)∧Below w.heap.size w w':=by
 go_enter Tryz.func172,Tryz.ntmps172
 go_wp2_with fail
 refine(subI10 _).mono ?_;rintro e w1 ⟨rfl,hb1⟩
 go_wp2_with fail
 refine(signI1 _).mono ?_;rintro e w2 ⟨rfl,hb2⟩;go_wp2;go_ret
 exact⟨rfl,((below2 w _ _).trans (hb1.mono (by simp <;>omega))).trans (hb2.mono (by have:=hb1.size;simp at this;omega))⟩
theorem rows8 {W:World} {k m p q:Nat} {a b c d e f g h:Value} {t:TypeId} (h1:W.heap[k]? =some (.cells #[a,b] t (0,0))) (h2:W.heap[m]? =some (.cells #[c,d] t (0,0))) (h3:W.heap[p]? =some (.cells #[e,f] t (0,0))) (h4:W.heap[q]? =some (.cells #[g,h] t (0,0))):
  W.cell? ⟨k,0,none⟩=some a∧W.cell? ⟨k,1,none⟩=some b∧W.cell? ⟨m,0,none⟩=some c∧W.cell? ⟨m,1,none⟩=some d∧W.cell? ⟨p,0,none⟩=some e∧W.cell? ⟨p,1,none⟩=some f∧W.cell? ⟨q,0,none⟩=some g∧W.cell? ⟨q,1,none⟩=some h:=
 ⟨(two_cells h1).1,(two_cells h1).2,(two_cells h2).1,(two_cells h2).2,(two_cells h3).1,(two_cells h3).2,(two_cells h4).1,(two_cells h4).2⟩
set_option maxRecDepth 100000 in
theorem ratCmp10 (w:World):Calls Tryz.prog 131 #[.agg #[.bool false,.string ⟨#[1]⟩,.string ⟨#[]⟩],.agg #[.bool false,.string ⟨#[]⟩,.string ⟨#[]⟩]] w fun e w'=>e=.returned (.int .i64 1)∧Below w.heap.size w w':=by
 have R0:(((w.alloc (.cells #[.bool false,.string ⟨#[1]⟩,.string ⟨#[]⟩] 43)).alloc (.cells #[.bool false,.string ⟨#[]⟩,.string ⟨#[]⟩] 43))).heap[w.heap.size]? =_:=zo _ _ _ _ (zg _ _ _ rfl);have R1:(((w.alloc (.cells #[.bool false,.string ⟨#[1]⟩,.string ⟨#[]⟩] 43)).alloc (.cells #[.bool false,.string ⟨#[]⟩,.string ⟨#[]⟩] 43))).heap[w.heap.size+1]? =_:=zg _ _ _ (by simp);have BL:=below2 w (.cells #[.bool false,.string ⟨#[1]⟩,.string ⟨#[]⟩] 43) (.cells #[.bool false,.string ⟨#[]⟩,.string ⟨#[]⟩] 43);go_enter Tryz.func131,Tryz.ntmps131
 go_wp2_with fail
 refine(parts_any ⟨#[1]⟩ norm1 _).mono ?_;rintro e w1 ⟨rfl,hb1⟩;have Q1:=zo _ _ (.cells #[.bool false,.string ⟨#[1]⟩] 207) _ (zo _ _ (.cells #[.bool false,.string ⟨#[1]⟩] 207) _ ((hb1.block _ (zl R1)).trans R1));obtain⟨t1,t2,t3⟩:=three_cells Q1;have BQ:=BL.trans (hb1.mono BL.size);have BZ:=(BQ.alloc BQ.size (.cells #[.bool false,.string ⟨#[1]⟩] 207)).alloc (by have:=BQ.size;simp <;>omega) (.cells #[.bool false,.string ⟨#[1]⟩] 207);have A5:((w1.alloc (.cells #[.bool false,.string ⟨#[1]⟩] 207)).alloc (.cells #[.bool false,.string ⟨#[1]⟩] 207)).heap[w1.heap.size]? =_:=box2.1;have A6:((w1.alloc (.cells #[.bool false,.string ⟨#[1]⟩] 207)).alloc (.cells #[.bool false,.string ⟨#[1]⟩] 207)).heap[w1.heap.size+1]? =_:=box2.2;clear R0 R1 BL hb1 BQ
 go_wp2_with fail
 refine(parts_any ⟨#[]⟩ normE _).mono ?_;rintro e w2 ⟨rfl,hb2⟩;have A5:=(hb2.block _ (zl A5)).trans A5;have A6:=(hb2.block _ (zl A6)).trans A6;have BL:=BZ.trans (hb2.mono BZ.size);have l5:=zl A5;have l6:=zl A6;have R5:(((w2.alloc (.cells #[.bool false,.string ⟨#[]⟩] 207)).alloc (.cells #[.bool false,.string ⟨#[1]⟩] 207)).drew).heap[w1.heap.size]? =_:=zo _ _ _ _ (zo _ _ _ _ A5);have R6:(((w2.alloc (.cells #[.bool false,.string ⟨#[]⟩] 207)).alloc (.cells #[.bool false,.string ⟨#[1]⟩] 207)).drew).heap[w1.heap.size+1]? =_:=zo _ _ _ _ (zo _ _ _ _ A6);have R7:(((w2.alloc (.cells #[.bool false,.string ⟨#[]⟩] 207)).alloc (.cells #[.bool false,.string ⟨#[1]⟩] 207)).drew).heap[w2.heap.size]? =_:=box2.1;have R8:(((w2.alloc (.cells #[.bool false,.string ⟨#[]⟩] 207)).alloc (.cells #[.bool false,.string ⟨#[1]⟩] 207)).drew).heap[w2.heap.size+1]? =_:=box2.2;have BL:=((BL.alloc BL.size (.cells #[.bool false,.string ⟨#[]⟩] 207)).alloc (by have:=BL.size;simp <;>omega) (.cells #[.bool false,.string ⟨#[1]⟩] 207)).drew;clear A5 A6 t1 t2 t3 Q1 hb2 BZ
 go_wp2_with fail
 go_region_held3 (fun w'=>w'.cell? ⟨w1.heap.size,0,none⟩=some (.bool false)∧w'.cell? ⟨w1.heap.size,1,none⟩=some (.string ⟨#[1]⟩)∧w'.cell? ⟨w1.heap.size+1,0,none⟩=some (.bool false)∧w'.cell? ⟨w1.heap.size+1,1,none⟩=some (.string ⟨#[1]⟩)∧w'.cell? ⟨w2.heap.size,0,none⟩=some (.bool false)∧w'.cell? ⟨w2.heap.size,1,none⟩=some (.string ⟨#[]⟩)∧w'.cell? ⟨w2.heap.size+1,0,none⟩=some (.bool false)∧w'.cell? ⟨w2.heap.size+1,1,none⟩=some (.string ⟨#[1]⟩))
  (first
   |with_reducible exact rows8 R5 R6 R7 R8
   |go_keep)
  (first
   |(go_at_call 173;with_reducible refine(mulI ⟨#[1]⟩ ⟨#[1]⟩ ⟨#[1]⟩ norm1 norm1 mul11 _).mono ?_;rintro e w4 ⟨rfl,hb⟩;have R5:=(hb.block _ (zl R5)).trans R5;have R6:=(hb.block _ (zl R6)).trans R6;have R7:=(hb.block _ (zl R7)).trans R7;have R8:=(hb.block _ (zl R8)).trans R8;have BL:=BL.trans (hb.mono BL.size))
   |(go_at_call 173;with_reducible refine(mulI ⟨#[]⟩ ⟨#[1]⟩ ⟨#[]⟩ normE norm1 mulE1 _).mono ?_;rintro e w5 ⟨rfl,hb⟩;have R5:=(hb.block _ (zl R5)).trans R5;have R6:=(hb.block _ (zl R6)).trans R6;have R7:=(hb.block _ (zl R7)).trans R7;have R8:=(hb.block _ (zl R8)).trans R8;have BL:=BL.trans (hb.mono BL.size))
   |(go_at_call 172;with_reducible refine(cmpI10 _).mono ?_;rintro e w7 ⟨rfl,hb⟩;have R5:=(hb.block _ (zl R5)).trans R5;have R6:=(hb.block _ (zl R6)).trans R6;have R7:=(hb.block _ (zl R7)).trans R7;have R8:=(hb.block _ (zl R8)).trans R8;have BL:=BL.trans (hb.mono BL.size)))
 go_wp2;go_ret
 exact⟨rfl,BL⟩
end Go.Proofs.YteigcnamkfebgaaGreatDoor
