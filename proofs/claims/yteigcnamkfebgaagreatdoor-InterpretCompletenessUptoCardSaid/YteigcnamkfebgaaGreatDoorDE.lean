import Derived.Test.YteigcnamkfebgaaGreatDoorCW
set_option linter.all false
set_option maxHeartbeats 25600000
namespace Go.Proofs.YteigcnamkfebgaaGreatDoor
open Go.RowKit
section
attribute [local go_sem high] eql38 eql43 eql207
theorem has_cells {w:World} {b c:Nat} {e:Nat×Nat} {ty ty2:TypeId} {e2:Nat×Nat} {v0 v1 v2 v3 v4 v5 na nn pa pn g nu de v13 v14 v15 v16 v17 z0 z1:Value}
  (h:w.heap[b]? =some (.cells #[v0,v1,v2,v3,v4,v5,na,nn,pa,pn,g,nu,de,v13,v14,v15,v16,v17] ty e)) (h2:w.heap[c]? =some (.cells #[z0,z1] ty2 e2)):
  (w.cell? ⟨b,6,none⟩=some na∧w.cell? ⟨b,7,none⟩=some nn∧w.cell? ⟨b,8,none⟩=some pa∧w.cell? ⟨b,9,none⟩=some pn)∧(w.cell? ⟨b,10,none⟩=some g∧w.cell? ⟨b,11,none⟩=some nu∧w.cell? ⟨b,12,none⟩=some de)∧w.cell? ⟨c,0,none⟩=some z0∧w.cell? ⟨c,1,none⟩=some z1:=
 ⟨⟨zc _ _ 6 _ _ _ h,zc _ _ 7 _ _ _ h,zc _ _ 8 _ _ _ h,zc _ _ 9 _ _ _ h⟩,⟨zc _ _ 10 _ _ _ h,zc _ _ 11 _ _ _ h,zc _ _ 12 _ _ _ h⟩,zc _ _ 0 _ _ _ h2,zc _ _ 1 _ _ _ h2⟩
set_option maxRecDepth 100000 in
theorem has2_a (ia na pa num den field value ta who:ByteArray) (im clock floor nn pn tn:Int) (deps:SlV) (neg:Bool) (f mp:Bool) (w:World)
  (HM:RowKit.Hid (∀w0,Calls Tryz.prog 41 #[.agg #[.string na,.int .i64 nn]] w0 fun e w'=>e=.returned (.bool false)∧Below w0.heap.size w0 w')):
  Calls Tryz.prog 49 #[.agg #[.string ia,.int .i64 im,.int .i64 clock,.int .i64 floor,.slice deps.a deps.len deps.cap,.int .i64 2,.string na,.int .i64 nn,.string pa,.int .i64 pn,.bool neg,.string num,.string den,.string field,.string value,.string ta,.int .i64 tn,.string who]] w fun e w'=>IsB e∧Below w.heap.size w w':=by
 have R1:((w.alloc (.cells #[.string ia,.int .i64 im,.int .i64 clock,.int .i64 floor,.slice deps.a deps.len deps.cap,.int .i64 2,.string na,.int .i64 nn,.string pa,.int .i64 pn,.bool neg,.string num,.string den,.string field,.string value,.string ta,.int .i64 tn,.string who] 45)).alloc (.cells #[.string ⟨#[]⟩,.int .i64 0] 38)).drew.heap[w.heap.size]? =_:=zo _ _ _ _ (zg _ _ _ rfl);have R2:((w.alloc (.cells #[.string ia,.int .i64 im,.int .i64 clock,.int .i64 floor,.slice deps.a deps.len deps.cap,.int .i64 2,.string na,.int .i64 nn,.string pa,.int .i64 pn,.bool neg,.string num,.string den,.string field,.string value,.string ta,.int .i64 tn,.string who] 45)).alloc (.cells #[.string ⟨#[]⟩,.int .i64 0] 38)).drew.heap[w.heap.size+1]? =_:=zg _ _ _ (by simp);have BL:Below w.heap.size w ((w.alloc (.cells #[.string ia,.int .i64 im,.int .i64 clock,.int .i64 floor,.slice deps.a deps.len deps.cap,.int .i64 2,.string na,.int .i64 nn,.string pa,.int .i64 pn,.bool neg,.string num,.string den,.string field,.string value,.string ta,.int .i64 tn,.string who] 45)).alloc (.cells #[.string ⟨#[]⟩,.int .i64 0] 38)).drew:=(((Below.refl w.heap.size w).alloc (Nat.le_refl _) _).alloc (by simp) _).drew;go_enter Tryz.func49,Tryz.ntmps49
 go_wp2_with fail
 refine wp_region_held_drew (S:=(fun w'=>(w'.cell? ⟨w.heap.size,6,none⟩=some (.string na)∧w'.cell? ⟨w.heap.size,7,none⟩=some (.int .i64 nn)∧w'.cell? ⟨w.heap.size,8,none⟩=some (.string pa)∧w'.cell? ⟨w.heap.size,9,none⟩=some (.int .i64 pn))∧(w'.cell? ⟨w.heap.size,10,none⟩=some (.bool neg)∧w'.cell? ⟨w.heap.size,11,none⟩=some (.string num)∧w'.cell? ⟨w.heap.size,12,none⟩=some (.string den))∧w'.cell? ⟨w.heap.size+1,0,none⟩=some (.string ⟨#[]⟩)∧w'.cell? ⟨w.heap.size+1,1,none⟩=some (.int .i64 0))) (by kernel_rfl) (has_cells R1 R2) (fun hH=>?_);refine tk 0 (.pointer (some ⟨w.heap.size,6,none⟩)) rfl hH ?_;(try simp only [PU]);refine tk 1 (.agg #[.string na,.int .i64 nn]) rfl hH ?_;(try simp only [PU]);refine rd 2 rfl (fun K9 hK9=>?_);go_simp
 with_reducible refine(HM.out _).mono ?_
 rintro e w4 ⟨rfl,hb⟩;have R1:=(hb.block _ (zl R1)).trans R1;have R2:=(hb.block _ (zl R2)).trans R2;have BL:=BL.trans (hb.mono BL.size);obtain⟨⟨c6,c7,c8,c9⟩,⟨c10,c11,c12⟩,z0,z1⟩:=has_cells R1 R2
 go_wp2_with fail
 refine hK9.out _ _ (has_cells R1 R2) (fun hH=>?_);clear hK9;(try simp only [PU]);refine tk 3 (.bool false) rfl hH ?_;(try simp only [PU]);refine tu 4 rfl hH ?_;(try simp only [PU]);refine tu 5 rfl hH ?_;(try simp only [PU]);refine tu 6 rfl hH ?_;(try simp only [PU]);refine tu 7 rfl hH ?_;(try simp only [PU]);refine tu 8 rfl hH ?_;(try simp only [PU]);refine tu 9 rfl hH ?_;(try simp only [PU]);refine tu 10 rfl hH ?_;(try simp only [PU]);refine tu 11 rfl hH ?_;(try simp only [PU]);refine tu 12 rfl hH ?_;(try simp only [PU]);refine tu 13 rfl hH ?_;(try simp only [PU]);refine tu 14 rfl hH ?_;(try simp only [PU]);refine tu 15 rfl hH ?_;(try simp only [PU]);refine tu 16 rfl hH ?_;(try simp only [PU]);refine tu 17 rfl hH ?_;(try simp only [PU]);refine tu 18 rfl hH ?_;(try simp only [PU]);refine tk 19 (.bool false) rfl hH ?_;(try simp only [PU]);refine tk 20 (.bool false) rfl hH ?_;(try simp only [PU]);refine tu 21 rfl hH ?_;(try simp only [PU]);refine tu 22 rfl hH ?_;(try simp only [PU]);refine tu 23 rfl hH ?_;(try simp only [PU]);refine tk 24 (.bool false) rfl hH ?_;(try simp only [PU]);refine tk 25 (.bool false) rfl hH ?_;(try simp only [PU]);refine wpAnyH_done (by kernel_rfl) ?_ _
 go_wp2_with fail
 go_ret
 exact⟨isB _,BL⟩
set_option maxRecDepth 100000 in
theorem has2_b (ia na pa num den field value ta who:ByteArray) (im clock floor nn pn tn:Int) (deps:SlV) (neg:Bool) (f mp:Bool) (w:World)
  (HM:RowKit.Hid (∀w0,Calls Tryz.prog 41 #[.agg #[.string na,.int .i64 nn]] w0 fun e w'=>e=.returned (.bool true)∧Below w0.heap.size w0 w'))
  (hs1:same38 pa pn ⟨#[]⟩ 0=true)
  (HF:RowKit.Hid (∀w0,Calls Tryz.prog 82 #[.agg #[.bool neg,.string num,.string den]] w0 fun e w'=>e=.returned (.bool f)∧Below w0.heap.size w0 w')):
  Calls Tryz.prog 49 #[.agg #[.string ia,.int .i64 im,.int .i64 clock,.int .i64 floor,.slice deps.a deps.len deps.cap,.int .i64 2,.string na,.int .i64 nn,.string pa,.int .i64 pn,.bool neg,.string num,.string den,.string field,.string value,.string ta,.int .i64 tn,.string who]] w fun e w'=>IsB e∧Below w.heap.size w w':=by
 have R1:((w.alloc (.cells #[.string ia,.int .i64 im,.int .i64 clock,.int .i64 floor,.slice deps.a deps.len deps.cap,.int .i64 2,.string na,.int .i64 nn,.string pa,.int .i64 pn,.bool neg,.string num,.string den,.string field,.string value,.string ta,.int .i64 tn,.string who] 45)).alloc (.cells #[.string ⟨#[]⟩,.int .i64 0] 38)).drew.heap[w.heap.size]? =_:=zo _ _ _ _ (zg _ _ _ rfl);have R2:((w.alloc (.cells #[.string ia,.int .i64 im,.int .i64 clock,.int .i64 floor,.slice deps.a deps.len deps.cap,.int .i64 2,.string na,.int .i64 nn,.string pa,.int .i64 pn,.bool neg,.string num,.string den,.string field,.string value,.string ta,.int .i64 tn,.string who] 45)).alloc (.cells #[.string ⟨#[]⟩,.int .i64 0] 38)).drew.heap[w.heap.size+1]? =_:=zg _ _ _ (by simp);have BL:Below w.heap.size w ((w.alloc (.cells #[.string ia,.int .i64 im,.int .i64 clock,.int .i64 floor,.slice deps.a deps.len deps.cap,.int .i64 2,.string na,.int .i64 nn,.string pa,.int .i64 pn,.bool neg,.string num,.string den,.string field,.string value,.string ta,.int .i64 tn,.string who] 45)).alloc (.cells #[.string ⟨#[]⟩,.int .i64 0] 38)).drew:=(((Below.refl w.heap.size w).alloc (Nat.le_refl _) _).alloc (by simp) _).drew;go_enter Tryz.func49,Tryz.ntmps49
 go_wp2_with fail
 refine wp_region_held_drew (S:=(fun w'=>(w'.cell? ⟨w.heap.size,6,none⟩=some (.string na)∧w'.cell? ⟨w.heap.size,7,none⟩=some (.int .i64 nn)∧w'.cell? ⟨w.heap.size,8,none⟩=some (.string pa)∧w'.cell? ⟨w.heap.size,9,none⟩=some (.int .i64 pn))∧(w'.cell? ⟨w.heap.size,10,none⟩=some (.bool neg)∧w'.cell? ⟨w.heap.size,11,none⟩=some (.string num)∧w'.cell? ⟨w.heap.size,12,none⟩=some (.string den))∧w'.cell? ⟨w.heap.size+1,0,none⟩=some (.string ⟨#[]⟩)∧w'.cell? ⟨w.heap.size+1,1,none⟩=some (.int .i64 0))) (by kernel_rfl) (has_cells R1 R2) (fun hH=>?_);refine tk 0 (.pointer (some ⟨w.heap.size,6,none⟩)) rfl hH ?_;(try simp only [PU]);refine tk 1 (.agg #[.string na,.int .i64 nn]) rfl hH ?_;(try simp only [PU]);refine rd 2 rfl (fun K9 hK9=>?_);go_simp
 with_reducible refine(HM.out _).mono ?_
 rintro e w4 ⟨rfl,hb⟩;have R1:=(hb.block _ (zl R1)).trans R1;have R2:=(hb.block _ (zl R2)).trans R2;have BL:=BL.trans (hb.mono BL.size);obtain⟨⟨c6,c7,c8,c9⟩,⟨c10,c11,c12⟩,z0,z1⟩:=has_cells R1 R2
 go_wp2_with fail
 refine hK9.out _ _ (has_cells R1 R2) (fun hH=>?_);clear hK9;(try simp only [PU]);refine tk 3 (.bool true) rfl hH ?_;(try simp only [PU]);refine tk 4 (.pointer (some ⟨w.heap.size,8,none⟩)) rfl hH ?_;(try simp only [PU]);refine tk 5 (.agg #[.string pa,.int .i64 pn]) rfl hH ?_;(try simp only [PU]);refine tk 6 (.agg #[.string ⟨#[]⟩,.int .i64 0]) rfl hH ?_;(try simp only [PU]);refine tk 7 (.bool true) rfl hH ?_;(try simp only [PU]);refine tk 8 (.bool true) rfl hH ?_;(try simp only [PU]);refine tu 9 rfl hH ?_;(try simp only [PU]);refine tu 10 rfl hH ?_;(try simp only [PU]);refine tu 11 rfl hH ?_;(try simp only [PU]);refine tu 12 rfl hH ?_;(try simp only [PU]);refine tk 13 (.bool true) rfl hH ?_;(try simp only [PU]);refine tk 14 (.bool true) rfl hH ?_;(try simp only [PU]);refine tu 15 rfl hH ?_;(try simp only [PU]);refine tu 16 rfl hH ?_;(try simp only [PU]);refine tu 17 rfl hH ?_;(try simp only [PU]);refine tk 18 (.bool true) rfl hH ?_;(try simp only [PU]);refine tk 19 (.bool true) rfl hH ?_;(try simp only [PU]);refine tk 20 (.bool true) rfl hH ?_;(try simp only [PU]);refine tk 21 (.pointer (some ⟨w.heap.size,10,none⟩)) rfl hH ?_;(try simp only [PU]);refine tk 22 (.agg #[.bool neg,.string num,.string den]) rfl hH ?_;(try simp only [PU]);refine rd 23 rfl (fun K9 hK9=>?_);go_simp
 with_reducible refine(HF.out _).mono ?_
 rintro e w4 ⟨rfl,hb⟩;have R1:=(hb.block _ (zl R1)).trans R1;have R2:=(hb.block _ (zl R2)).trans R2;have BL:=BL.trans (hb.mono BL.size);obtain⟨⟨c6,c7,c8,c9⟩,⟨c10,c11,c12⟩,z0,z1⟩:=has_cells R1 R2
 go_wp2_with fail
 refine hK9.out _ _ (has_cells R1 R2) (fun hH=>?_);clear hK9;(try simp only [PU]);refine tk 24 (.bool f) rfl hH ?_;(try simp only [PU]);refine tk 25 (.bool f) rfl hH ?_;(try simp only [PU]);refine wpAnyH_done (by kernel_rfl) ?_ _
 go_wp2_with fail
 go_ret
 exact⟨isB _,BL⟩
set_option maxRecDepth 100000 in
theorem has2_c (ia na pa num den field value ta who:ByteArray) (im clock floor nn pn tn:Int) (deps:SlV) (neg:Bool) (f mp:Bool) (w:World)
  (HM:RowKit.Hid (∀w0,Calls Tryz.prog 41 #[.agg #[.string na,.int .i64 nn]] w0 fun e w'=>e=.returned (.bool true)∧Below w0.heap.size w0 w'))
  (hs1:same38 pa pn ⟨#[]⟩ 0=false)
  (hs2:same38 pa pn ⟨#[45]⟩ 0=true)
  (HF:RowKit.Hid (∀w0,Calls Tryz.prog 82 #[.agg #[.bool neg,.string num,.string den]] w0 fun e w'=>e=.returned (.bool f)∧Below w0.heap.size w0 w')):
  Calls Tryz.prog 49 #[.agg #[.string ia,.int .i64 im,.int .i64 clock,.int .i64 floor,.slice deps.a deps.len deps.cap,.int .i64 2,.string na,.int .i64 nn,.string pa,.int .i64 pn,.bool neg,.string num,.string den,.string field,.string value,.string ta,.int .i64 tn,.string who]] w fun e w'=>IsB e∧Below w.heap.size w w':=by
 have R1:((w.alloc (.cells #[.string ia,.int .i64 im,.int .i64 clock,.int .i64 floor,.slice deps.a deps.len deps.cap,.int .i64 2,.string na,.int .i64 nn,.string pa,.int .i64 pn,.bool neg,.string num,.string den,.string field,.string value,.string ta,.int .i64 tn,.string who] 45)).alloc (.cells #[.string ⟨#[]⟩,.int .i64 0] 38)).drew.heap[w.heap.size]? =_:=zo _ _ _ _ (zg _ _ _ rfl);have R2:((w.alloc (.cells #[.string ia,.int .i64 im,.int .i64 clock,.int .i64 floor,.slice deps.a deps.len deps.cap,.int .i64 2,.string na,.int .i64 nn,.string pa,.int .i64 pn,.bool neg,.string num,.string den,.string field,.string value,.string ta,.int .i64 tn,.string who] 45)).alloc (.cells #[.string ⟨#[]⟩,.int .i64 0] 38)).drew.heap[w.heap.size+1]? =_:=zg _ _ _ (by simp);have BL:Below w.heap.size w ((w.alloc (.cells #[.string ia,.int .i64 im,.int .i64 clock,.int .i64 floor,.slice deps.a deps.len deps.cap,.int .i64 2,.string na,.int .i64 nn,.string pa,.int .i64 pn,.bool neg,.string num,.string den,.string field,.string value,.string ta,.int .i64 tn,.string who] 45)).alloc (.cells #[.string ⟨#[]⟩,.int .i64 0] 38)).drew:=(((Below.refl w.heap.size w).alloc (Nat.le_refl _) _).alloc (by simp) _).drew;go_enter Tryz.func49,Tryz.ntmps49
 go_wp2_with fail
 refine wp_region_held_drew (S:=(fun w'=>(w'.cell? ⟨w.heap.size,6,none⟩=some (.string na)∧w'.cell? ⟨w.heap.size,7,none⟩=some (.int .i64 nn)∧w'.cell? ⟨w.heap.size,8,none⟩=some (.string pa)∧w'.cell? ⟨w.heap.size,9,none⟩=some (.int .i64 pn))∧(w'.cell? ⟨w.heap.size,10,none⟩=some (.bool neg)∧w'.cell? ⟨w.heap.size,11,none⟩=some (.string num)∧w'.cell? ⟨w.heap.size,12,none⟩=some (.string den))∧w'.cell? ⟨w.heap.size+1,0,none⟩=some (.string ⟨#[]⟩)∧w'.cell? ⟨w.heap.size+1,1,none⟩=some (.int .i64 0))) (by kernel_rfl) (has_cells R1 R2) (fun hH=>?_);refine tk 0 (.pointer (some ⟨w.heap.size,6,none⟩)) rfl hH ?_;(try simp only [PU]);refine tk 1 (.agg #[.string na,.int .i64 nn]) rfl hH ?_;(try simp only [PU]);refine rd 2 rfl (fun K9 hK9=>?_);go_simp
 with_reducible refine(HM.out _).mono ?_
 rintro e w4 ⟨rfl,hb⟩;have R1:=(hb.block _ (zl R1)).trans R1;have R2:=(hb.block _ (zl R2)).trans R2;have BL:=BL.trans (hb.mono BL.size);obtain⟨⟨c6,c7,c8,c9⟩,⟨c10,c11,c12⟩,z0,z1⟩:=has_cells R1 R2
 go_wp2_with fail
 refine hK9.out _ _ (has_cells R1 R2) (fun hH=>?_);clear hK9;(try simp only [PU]);refine tk 3 (.bool true) rfl hH ?_;(try simp only [PU]);refine tk 4 (.pointer (some ⟨w.heap.size,8,none⟩)) rfl hH ?_;(try simp only [PU]);refine tk 5 (.agg #[.string pa,.int .i64 pn]) rfl hH ?_;(try simp only [PU]);refine tk 6 (.agg #[.string ⟨#[]⟩,.int .i64 0]) rfl hH ?_;(try simp only [PU]);refine tk 7 (.bool false) rfl hH ?_;(try simp only [PU]);refine tk 8 (.bool false) rfl hH ?_;(try simp only [PU]);refine tk 9 (.pointer (some ⟨w.heap.size,8,none⟩)) rfl hH ?_;(try simp only [PU]);refine tk 10 (.agg #[.string pa,.int .i64 pn]) rfl hH ?_;(try simp only [PU]);refine rd 11 rfl (fun K9 hK9=>?_);go_simp
 with_reducible refine(rBin37_any _).mono ?_
 rintro e w4 ⟨rfl,hb⟩;have R1:=(hb.block _ (zl R1)).trans R1;have R2:=(hb.block _ (zl R2)).trans R2;have BL:=BL.trans (hb.mono BL.size);obtain⟨⟨c6,c7,c8,c9⟩,⟨c10,c11,c12⟩,z0,z1⟩:=has_cells R1 R2
 go_wp2_with fail
 refine hK9.out _ _ (has_cells R1 R2) (fun hH=>?_);clear hK9;(try simp only [PU]);refine tk 12 (.bool true) rfl hH ?_;(try simp only [PU]);refine tk 13 (.bool true) rfl hH ?_;(try simp only [PU]);refine tk 14 (.bool true) rfl hH ?_;(try simp only [PU]);refine tu 15 rfl hH ?_;(try simp only [PU]);refine tu 16 rfl hH ?_;(try simp only [PU]);refine tu 17 rfl hH ?_;(try simp only [PU]);refine tk 18 (.bool true) rfl hH ?_;(try simp only [PU]);refine tk 19 (.bool true) rfl hH ?_;(try simp only [PU]);refine tk 20 (.bool true) rfl hH ?_;(try simp only [PU]);refine tk 21 (.pointer (some ⟨w.heap.size,10,none⟩)) rfl hH ?_;(try simp only [PU]);refine tk 22 (.agg #[.bool neg,.string num,.string den]) rfl hH ?_;(try simp only [PU]);refine rd 23 rfl (fun K9 hK9=>?_);go_simp
 with_reducible refine(HF.out _).mono ?_
 rintro e w4 ⟨rfl,hb⟩;have R1:=(hb.block _ (zl R1)).trans R1;have R2:=(hb.block _ (zl R2)).trans R2;have BL:=BL.trans (hb.mono BL.size);obtain⟨⟨c6,c7,c8,c9⟩,⟨c10,c11,c12⟩,z0,z1⟩:=has_cells R1 R2
 go_wp2_with fail
 refine hK9.out _ _ (has_cells R1 R2) (fun hH=>?_);clear hK9;(try simp only [PU]);refine tk 24 (.bool f) rfl hH ?_;(try simp only [PU]);refine tk 25 (.bool f) rfl hH ?_;(try simp only [PU]);refine wpAnyH_done (by kernel_rfl) ?_ _
 go_wp2_with fail
 go_ret
 exact⟨isB _,BL⟩
set_option maxRecDepth 100000 in
theorem has2_d (ia na pa num den field value ta who:ByteArray) (im clock floor nn pn tn:Int) (deps:SlV) (neg:Bool) (f mp:Bool) (w:World)
  (HM:RowKit.Hid (∀w0,Calls Tryz.prog 41 #[.agg #[.string na,.int .i64 nn]] w0 fun e w'=>e=.returned (.bool true)∧Below w0.heap.size w0 w'))
  (hs1:same38 pa pn ⟨#[]⟩ 0=false)
  (hs2:same38 pa pn ⟨#[45]⟩ 0=false)
  (HP:RowKit.Hid (∀w0,Calls Tryz.prog 41 #[.agg #[.string pa,.int .i64 pn]] w0 fun e w'=>e=.returned (.bool true)∧Below w0.heap.size w0 w'))
  (HF:RowKit.Hid (∀w0,Calls Tryz.prog 82 #[.agg #[.bool neg,.string num,.string den]] w0 fun e w'=>e=.returned (.bool f)∧Below w0.heap.size w0 w')):
  Calls Tryz.prog 49 #[.agg #[.string ia,.int .i64 im,.int .i64 clock,.int .i64 floor,.slice deps.a deps.len deps.cap,.int .i64 2,.string na,.int .i64 nn,.string pa,.int .i64 pn,.bool neg,.string num,.string den,.string field,.string value,.string ta,.int .i64 tn,.string who]] w fun e w'=>IsB e∧Below w.heap.size w w':=by
 have R1:((w.alloc (.cells #[.string ia,.int .i64 im,.int .i64 clock,.int .i64 floor,.slice deps.a deps.len deps.cap,.int .i64 2,.string na,.int .i64 nn,.string pa,.int .i64 pn,.bool neg,.string num,.string den,.string field,.string value,.string ta,.int .i64 tn,.string who] 45)).alloc (.cells #[.string ⟨#[]⟩,.int .i64 0] 38)).drew.heap[w.heap.size]? =_:=zo _ _ _ _ (zg _ _ _ rfl);have R2:((w.alloc (.cells #[.string ia,.int .i64 im,.int .i64 clock,.int .i64 floor,.slice deps.a deps.len deps.cap,.int .i64 2,.string na,.int .i64 nn,.string pa,.int .i64 pn,.bool neg,.string num,.string den,.string field,.string value,.string ta,.int .i64 tn,.string who] 45)).alloc (.cells #[.string ⟨#[]⟩,.int .i64 0] 38)).drew.heap[w.heap.size+1]? =_:=zg _ _ _ (by simp);have BL:Below w.heap.size w ((w.alloc (.cells #[.string ia,.int .i64 im,.int .i64 clock,.int .i64 floor,.slice deps.a deps.len deps.cap,.int .i64 2,.string na,.int .i64 nn,.string pa,.int .i64 pn,.bool neg,.string num,.string den,.string field,.string value,.string ta,.int .i64 tn,.string who] 45)).alloc (.cells #[.string ⟨#[]⟩,.int .i64 0] 38)).drew:=(((Below.refl w.heap.size w).alloc (Nat.le_refl _) _).alloc (by simp) _).drew;go_enter Tryz.func49,Tryz.ntmps49
 go_wp2_with fail
 refine wp_region_held_drew (S:=(fun w'=>(w'.cell? ⟨w.heap.size,6,none⟩=some (.string na)∧w'.cell? ⟨w.heap.size,7,none⟩=some (.int .i64 nn)∧w'.cell? ⟨w.heap.size,8,none⟩=some (.string pa)∧w'.cell? ⟨w.heap.size,9,none⟩=some (.int .i64 pn))∧(w'.cell? ⟨w.heap.size,10,none⟩=some (.bool neg)∧w'.cell? ⟨w.heap.size,11,none⟩=some (.string num)∧w'.cell? ⟨w.heap.size,12,none⟩=some (.string den))∧w'.cell? ⟨w.heap.size+1,0,none⟩=some (.string ⟨#[]⟩)∧w'.cell? ⟨w.heap.size+1,1,none⟩=some (.int .i64 0))) (by kernel_rfl) (has_cells R1 R2) (fun hH=>?_);refine tk 0 (.pointer (some ⟨w.heap.size,6,none⟩)) rfl hH ?_;(try simp only [PU]);refine tk 1 (.agg #[.string na,.int .i64 nn]) rfl hH ?_;(try simp only [PU]);refine rd 2 rfl (fun K9 hK9=>?_);go_simp
 with_reducible refine(HM.out _).mono ?_
 rintro e w4 ⟨rfl,hb⟩;have R1:=(hb.block _ (zl R1)).trans R1;have R2:=(hb.block _ (zl R2)).trans R2;have BL:=BL.trans (hb.mono BL.size);obtain⟨⟨c6,c7,c8,c9⟩,⟨c10,c11,c12⟩,z0,z1⟩:=has_cells R1 R2
 go_wp2_with fail
 refine hK9.out _ _ (has_cells R1 R2) (fun hH=>?_);clear hK9;(try simp only [PU]);refine tk 3 (.bool true) rfl hH ?_;(try simp only [PU]);refine tk 4 (.pointer (some ⟨w.heap.size,8,none⟩)) rfl hH ?_;(try simp only [PU]);refine tk 5 (.agg #[.string pa,.int .i64 pn]) rfl hH ?_;(try simp only [PU]);refine tk 6 (.agg #[.string ⟨#[]⟩,.int .i64 0]) rfl hH ?_;(try simp only [PU]);refine tk 7 (.bool false) rfl hH ?_;(try simp only [PU]);refine tk 8 (.bool false) rfl hH ?_;(try simp only [PU]);refine tk 9 (.pointer (some ⟨w.heap.size,8,none⟩)) rfl hH ?_;(try simp only [PU]);refine tk 10 (.agg #[.string pa,.int .i64 pn]) rfl hH ?_;(try simp only [PU]);refine rd 11 rfl (fun K9 hK9=>?_);go_simp
 with_reducible refine(rBin37_any _).mono ?_
 rintro e w4 ⟨rfl,hb⟩;have R1:=(hb.block _ (zl R1)).trans R1;have R2:=(hb.block _ (zl R2)).trans R2;have BL:=BL.trans (hb.mono BL.size);obtain⟨⟨c6,c7,c8,c9⟩,⟨c10,c11,c12⟩,z0,z1⟩:=has_cells R1 R2
 go_wp2_with fail
 refine hK9.out _ _ (has_cells R1 R2) (fun hH=>?_);clear hK9;(try simp only [PU]);refine tk 12 (.bool false) rfl hH ?_;(try simp only [PU]);refine tk 13 (.bool false) rfl hH ?_;(try simp only [PU]);refine tk 14 (.bool false) rfl hH ?_;(try simp only [PU]);refine tk 15 (.pointer (some ⟨w.heap.size,8,none⟩)) rfl hH ?_;(try simp only [PU]);refine tk 16 (.agg #[.string pa,.int .i64 pn]) rfl hH ?_;(try simp only [PU]);refine rd 17 rfl (fun K9 hK9=>?_);go_simp
 with_reducible refine(HP.out _).mono ?_
 rintro e w4 ⟨rfl,hb⟩;have R1:=(hb.block _ (zl R1)).trans R1;have R2:=(hb.block _ (zl R2)).trans R2;have BL:=BL.trans (hb.mono BL.size);obtain⟨⟨c6,c7,c8,c9⟩,⟨c10,c11,c12⟩,z0,z1⟩:=has_cells R1 R2
 go_wp2_with fail
 refine hK9.out _ _ (has_cells R1 R2) (fun hH=>?_);clear hK9;(try simp only [PU]);refine tk 18 (.bool true) rfl hH ?_;(try simp only [PU]);refine tk 19 (.bool true) rfl hH ?_;(try simp only [PU]);refine tk 20 (.bool true) rfl hH ?_;(try simp only [PU]);refine tk 21 (.pointer (some ⟨w.heap.size,10,none⟩)) rfl hH ?_;(try simp only [PU]);refine tk 22 (.agg #[.bool neg,.string num,.string den]) rfl hH ?_;(try simp only [PU]);refine rd 23 rfl (fun K9 hK9=>?_);go_simp
 with_reducible refine(HF.out _).mono ?_
 rintro e w4 ⟨rfl,hb⟩;have R1:=(hb.block _ (zl R1)).trans R1;have R2:=(hb.block _ (zl R2)).trans R2;have BL:=BL.trans (hb.mono BL.size);obtain⟨⟨c6,c7,c8,c9⟩,⟨c10,c11,c12⟩,z0,z1⟩:=has_cells R1 R2
 go_wp2_with fail
 refine hK9.out _ _ (has_cells R1 R2) (fun hH=>?_);clear hK9;(try simp only [PU]);refine tk 24 (.bool f) rfl hH ?_;(try simp only [PU]);refine tk 25 (.bool f) rfl hH ?_;(try simp only [PU]);refine wpAnyH_done (by kernel_rfl) ?_ _
 go_wp2_with fail
 go_ret
 exact⟨isB _,BL⟩
set_option maxRecDepth 100000 in
theorem has2_e (ia na pa num den field value ta who:ByteArray) (im clock floor nn pn tn:Int) (deps:SlV) (neg:Bool) (f mp:Bool) (w:World)
  (HM:RowKit.Hid (∀w0,Calls Tryz.prog 41 #[.agg #[.string na,.int .i64 nn]] w0 fun e w'=>e=.returned (.bool true)∧Below w0.heap.size w0 w'))
  (hs1:same38 pa pn ⟨#[]⟩ 0=false)
  (hs2:same38 pa pn ⟨#[45]⟩ 0=false)
  (HP:RowKit.Hid (∀w0,Calls Tryz.prog 41 #[.agg #[.string pa,.int .i64 pn]] w0 fun e w'=>e=.returned (.bool false)∧Below w0.heap.size w0 w')):
  Calls Tryz.prog 49 #[.agg #[.string ia,.int .i64 im,.int .i64 clock,.int .i64 floor,.slice deps.a deps.len deps.cap,.int .i64 2,.string na,.int .i64 nn,.string pa,.int .i64 pn,.bool neg,.string num,.string den,.string field,.string value,.string ta,.int .i64 tn,.string who]] w fun e w'=>IsB e∧Below w.heap.size w w':=by
 have R1:((w.alloc (.cells #[.string ia,.int .i64 im,.int .i64 clock,.int .i64 floor,.slice deps.a deps.len deps.cap,.int .i64 2,.string na,.int .i64 nn,.string pa,.int .i64 pn,.bool neg,.string num,.string den,.string field,.string value,.string ta,.int .i64 tn,.string who] 45)).alloc (.cells #[.string ⟨#[]⟩,.int .i64 0] 38)).drew.heap[w.heap.size]? =_:=zo _ _ _ _ (zg _ _ _ rfl);have R2:((w.alloc (.cells #[.string ia,.int .i64 im,.int .i64 clock,.int .i64 floor,.slice deps.a deps.len deps.cap,.int .i64 2,.string na,.int .i64 nn,.string pa,.int .i64 pn,.bool neg,.string num,.string den,.string field,.string value,.string ta,.int .i64 tn,.string who] 45)).alloc (.cells #[.string ⟨#[]⟩,.int .i64 0] 38)).drew.heap[w.heap.size+1]? =_:=zg _ _ _ (by simp);have BL:Below w.heap.size w ((w.alloc (.cells #[.string ia,.int .i64 im,.int .i64 clock,.int .i64 floor,.slice deps.a deps.len deps.cap,.int .i64 2,.string na,.int .i64 nn,.string pa,.int .i64 pn,.bool neg,.string num,.string den,.string field,.string value,.string ta,.int .i64 tn,.string who] 45)).alloc (.cells #[.string ⟨#[]⟩,.int .i64 0] 38)).drew:=(((Below.refl w.heap.size w).alloc (Nat.le_refl _) _).alloc (by simp) _).drew;go_enter Tryz.func49,Tryz.ntmps49
 go_wp2_with fail
 refine wp_region_held_drew (S:=(fun w'=>(w'.cell? ⟨w.heap.size,6,none⟩=some (.string na)∧w'.cell? ⟨w.heap.size,7,none⟩=some (.int .i64 nn)∧w'.cell? ⟨w.heap.size,8,none⟩=some (.string pa)∧w'.cell? ⟨w.heap.size,9,none⟩=some (.int .i64 pn))∧(w'.cell? ⟨w.heap.size,10,none⟩=some (.bool neg)∧w'.cell? ⟨w.heap.size,11,none⟩=some (.string num)∧w'.cell? ⟨w.heap.size,12,none⟩=some (.string den))∧w'.cell? ⟨w.heap.size+1,0,none⟩=some (.string ⟨#[]⟩)∧w'.cell? ⟨w.heap.size+1,1,none⟩=some (.int .i64 0))) (by kernel_rfl) (has_cells R1 R2) (fun hH=>?_);refine tk 0 (.pointer (some ⟨w.heap.size,6,none⟩)) rfl hH ?_;(try simp only [PU]);refine tk 1 (.agg #[.string na,.int .i64 nn]) rfl hH ?_;(try simp only [PU]);refine rd 2 rfl (fun K9 hK9=>?_);go_simp
 with_reducible refine(HM.out _).mono ?_
 rintro e w4 ⟨rfl,hb⟩;have R1:=(hb.block _ (zl R1)).trans R1;have R2:=(hb.block _ (zl R2)).trans R2;have BL:=BL.trans (hb.mono BL.size);obtain⟨⟨c6,c7,c8,c9⟩,⟨c10,c11,c12⟩,z0,z1⟩:=has_cells R1 R2
 go_wp2_with fail
 refine hK9.out _ _ (has_cells R1 R2) (fun hH=>?_);clear hK9;(try simp only [PU]);refine tk 3 (.bool true) rfl hH ?_;(try simp only [PU]);refine tk 4 (.pointer (some ⟨w.heap.size,8,none⟩)) rfl hH ?_;(try simp only [PU]);refine tk 5 (.agg #[.string pa,.int .i64 pn]) rfl hH ?_;(try simp only [PU]);refine tk 6 (.agg #[.string ⟨#[]⟩,.int .i64 0]) rfl hH ?_;(try simp only [PU]);refine tk 7 (.bool false) rfl hH ?_;(try simp only [PU]);refine tk 8 (.bool false) rfl hH ?_;(try simp only [PU]);refine tk 9 (.pointer (some ⟨w.heap.size,8,none⟩)) rfl hH ?_;(try simp only [PU]);refine tk 10 (.agg #[.string pa,.int .i64 pn]) rfl hH ?_;(try simp only [PU]);refine rd 11 rfl (fun K9 hK9=>?_);go_simp
 with_reducible refine(rBin37_any _).mono ?_
 rintro e w4 ⟨rfl,hb⟩;have R1:=(hb.block _ (zl R1)).trans R1;have R2:=(hb.block _ (zl R2)).trans R2;have BL:=BL.trans (hb.mono BL.size);obtain⟨⟨c6,c7,c8,c9⟩,⟨c10,c11,c12⟩,z0,z1⟩:=has_cells R1 R2
 go_wp2_with fail
 refine hK9.out _ _ (has_cells R1 R2) (fun hH=>?_);clear hK9;(try simp only [PU]);refine tk 12 (.bool false) rfl hH ?_;(try simp only [PU]);refine tk 13 (.bool false) rfl hH ?_;(try simp only [PU]);refine tk 14 (.bool false) rfl hH ?_;(try simp only [PU]);refine tk 15 (.pointer (some ⟨w.heap.size,8,none⟩)) rfl hH ?_;(try simp only [PU]);refine tk 16 (.agg #[.string pa,.int .i64 pn]) rfl hH ?_;(try simp only [PU]);refine rd 17 rfl (fun K9 hK9=>?_);go_simp
 with_reducible refine(HP.out _).mono ?_
 rintro e w4 ⟨rfl,hb⟩;have R1:=(hb.block _ (zl R1)).trans R1;have R2:=(hb.block _ (zl R2)).trans R2;have BL:=BL.trans (hb.mono BL.size);obtain⟨⟨c6,c7,c8,c9⟩,⟨c10,c11,c12⟩,z0,z1⟩:=has_cells R1 R2
 go_wp2_with fail
 refine hK9.out _ _ (has_cells R1 R2) (fun hH=>?_);clear hK9;(try simp only [PU]);refine tk 18 (.bool false) rfl hH ?_;(try simp only [PU]);refine tk 19 (.bool false) rfl hH ?_;(try simp only [PU]);refine tk 20 (.bool false) rfl hH ?_;(try simp only [PU]);refine tu 21 rfl hH ?_;(try simp only [PU]);refine tu 22 rfl hH ?_;(try simp only [PU]);refine tu 23 rfl hH ?_;(try simp only [PU]);refine tk 24 (.bool false) rfl hH ?_;(try simp only [PU]);refine tk 25 (.bool false) rfl hH ?_;(try simp only [PU]);refine wpAnyH_done (by kernel_rfl) ?_ _
 go_wp2_with fail
 go_ret
 exact⟨isB _,BL⟩
end
section
theorem rPlace_w (s:Bool) (a c:ByteArray) (ha:a.size≤1000000000) (hc:c.size≤1000000000) (w:World):Calls Tryz.prog 82 #[.agg #[.bool s,.string a,.string c]] w fun e w'=>IsB e∧Below w.heap.size w w':=
 (rPlace_any s a c ha hc w).mono fun e w' h=>⟨by rw [h.1];exact isB _,h.2⟩
theorem rWord_w (s:ByteArray) (hs:s.size≤1000000000000) (w:World):Calls Tryz.prog 83 #[.string s] w fun e w'=>IsB e∧Below w.heap.size w w':=
 (rWord_any s hs w).mono fun e w' h=>⟨h.1,by rw [←h.2];exact Below.refl _ _⟩
attribute [local go_sem high] eql38 eql43 eql207
set_option maxRecDepth 100000 in
theorem rHas37_any (x:EdD) (w:World) (s1:x.id.a.size≤1000000000) (s2:x.node.a.size≤1000000000) (s3:x.parent.a.size≤1000000000) (s4:x.target.a.size≤1000000000) (s5:x.num.size≤1000000000) (s6:x.den.size≤1000000000) (s7:x.field.size≤1000000000) (s8:x.value.size≤1000000000) (s9:x.who.size≤100000000):
  Calls Tryz.prog 49 #[.agg (edV x).toArray] w fun e w'=>IsB e∧Below w.heap.size w w':=by
 obtain⟨⟨ia,im⟩,clock,floor,deps,kind,⟨na,nn⟩,⟨pa,pn⟩,neg,num,den,field,value,⟨ta,tn⟩,who⟩:=x;simp only at s1 s2 s3 s4 s5 s6 s7 s8 s9;have BL:=((Below.refl w.heap.size w).alloc (Nat.le_refl _) (.cells #[.string ia,.int .i64 im,.int .i64 clock,.int .i64 floor,.slice deps.a deps.len deps.cap,.int .i64 kind,.string na,.int .i64 nn,.string pa,.int .i64 pn,.bool neg,.string num,.string den,.string field,.string value,.string ta,.int .i64 tn,.string who] 45)).alloc (by simp) (.cells #[.string ⟨#[]⟩,.int .i64 0] 38);have R1:((w.alloc (.cells #[.string ia,.int .i64 im,.int .i64 clock,.int .i64 floor,.slice deps.a deps.len deps.cap,.int .i64 kind,.string na,.int .i64 nn,.string pa,.int .i64 pn,.bool neg,.string num,.string den,.string field,.string value,.string ta,.int .i64 tn,.string who] 45)).alloc (.cells #[.string ⟨#[]⟩,.int .i64 0] 38)).heap[w.heap.size]? =_:=zo _ _ _ _ (zg _ _ _ rfl);change Calls Tryz.prog 49 #[.agg #[.string ia,.int .i64 im,.int .i64 clock,.int .i64 floor,.slice deps.a deps.len deps.cap,.int .i64 kind,.string na,.int .i64 nn,.string pa,.int .i64 pn,.bool neg,.string num,.string den,.string field,.string value,.string ta,.int .i64 tn,.string who]] w _
 by_cases k1:kind=1
 ·subst k1;obtain⟨b,hb1⟩:∃b,same38 pa pn ⟨#[]⟩ 0=b:=⟨_,rfl⟩;cases b
  ·go_enter Tryz.func49,Tryz.ntmps49
   go_wp2_with fail
   with_reducible refine(rMay_any pa pn (by omega) _).mono ?_
   rintro e w4 ⟨⟨b0,rfl⟩,hb⟩;have R1:=(hb.block _ (zl R1)).trans R1;have BL:=BL.trans (hb.mono BL.size);have c0:=zc _ _ 0 _ _ _ R1;have c1:=zc _ _ 1 _ _ _ R1;have c5:=zc _ _ 5 _ _ _ R1;have c10:=zc _ _ 10 _ _ _ R1;have c11:=zc _ _ 11 _ _ _ R1;have c12:=zc _ _ 12 _ _ _ R1;have c13:=zc _ _ 13 _ _ _ R1;have c14:=zc _ _ 14 _ _ _ R1;have c15:=zc _ _ 15 _ _ _ R1;have c16:=zc _ _ 16 _ _ _ R1;have c17:=zc _ _ 17 _ _ _ R1
   cases b0 with
   |false=>
    go_wp2_with fail
    all_goals (go_ret;exact⟨isB _,BL⟩)
   |true=>
    go_wp2_with fail
    with_reducible refine(rPlace_w neg num den s5 s6 _).mono ?_
    rintro e w4 ⟨⟨b0,rfl⟩,hb⟩;have R1:=(hb.block _ (zl R1)).trans R1;have BL:=BL.trans (hb.mono BL.size);have c0:=zc _ _ 0 _ _ _ R1;have c1:=zc _ _ 1 _ _ _ R1;have c5:=zc _ _ 5 _ _ _ R1;have c10:=zc _ _ 10 _ _ _ R1;have c11:=zc _ _ 11 _ _ _ R1;have c12:=zc _ _ 12 _ _ _ R1;have c13:=zc _ _ 13 _ _ _ R1;have c14:=zc _ _ 14 _ _ _ R1;have c15:=zc _ _ 15 _ _ _ R1;have c16:=zc _ _ 16 _ _ _ R1;have c17:=zc _ _ 17 _ _ _ R1
    cases b0 with
    |false=>
     go_wp2_with fail
     all_goals (go_ret;exact⟨isB _,BL⟩)
    |true=>
     go_wp2_with fail
     with_reducible refine(rWord_w value (by omega) _).mono ?_
     rintro e w4 ⟨⟨b0,rfl⟩,hb⟩;have R1:=(hb.block _ (zl R1)).trans R1;have BL:=BL.trans (hb.mono BL.size);have c0:=zc _ _ 0 _ _ _ R1;have c1:=zc _ _ 1 _ _ _ R1;have c5:=zc _ _ 5 _ _ _ R1;have c10:=zc _ _ 10 _ _ _ R1;have c11:=zc _ _ 11 _ _ _ R1;have c12:=zc _ _ 12 _ _ _ R1;have c13:=zc _ _ 13 _ _ _ R1;have c14:=zc _ _ 14 _ _ _ R1;have c15:=zc _ _ 15 _ _ _ R1;have c16:=zc _ _ 16 _ _ _ R1;have c17:=zc _ _ 17 _ _ _ R1
     cases b0 with
     |false=>
      go_wp2_with fail
      all_goals (go_ret;exact⟨isB _,BL⟩)
     |true=>
      go_wp2_with fail
      all_goals (go_ret;exact⟨isB _,BL⟩)
  ·go_enter Tryz.func49,Tryz.ntmps49
   go_wp2_with fail
   with_reducible refine(rPlace_w neg num den s5 s6 _).mono ?_
   rintro e w4 ⟨⟨b0,rfl⟩,hb⟩;have R1:=(hb.block _ (zl R1)).trans R1;have BL:=BL.trans (hb.mono BL.size);have c0:=zc _ _ 0 _ _ _ R1;have c1:=zc _ _ 1 _ _ _ R1;have c5:=zc _ _ 5 _ _ _ R1;have c10:=zc _ _ 10 _ _ _ R1;have c11:=zc _ _ 11 _ _ _ R1;have c12:=zc _ _ 12 _ _ _ R1;have c13:=zc _ _ 13 _ _ _ R1;have c14:=zc _ _ 14 _ _ _ R1;have c15:=zc _ _ 15 _ _ _ R1;have c16:=zc _ _ 16 _ _ _ R1;have c17:=zc _ _ 17 _ _ _ R1
   cases b0 with
   |false=>
    go_wp2_with fail
    all_goals (go_ret;exact⟨isB _,BL⟩)
   |true=>
    go_wp2_with fail
    with_reducible refine(rWord_w value (by omega) _).mono ?_
    rintro e w4 ⟨⟨b0,rfl⟩,hb⟩;have R1:=(hb.block _ (zl R1)).trans R1;have BL:=BL.trans (hb.mono BL.size);have c0:=zc _ _ 0 _ _ _ R1;have c1:=zc _ _ 1 _ _ _ R1;have c5:=zc _ _ 5 _ _ _ R1;have c10:=zc _ _ 10 _ _ _ R1;have c11:=zc _ _ 11 _ _ _ R1;have c12:=zc _ _ 12 _ _ _ R1;have c13:=zc _ _ 13 _ _ _ R1;have c14:=zc _ _ 14 _ _ _ R1;have c15:=zc _ _ 15 _ _ _ R1;have c16:=zc _ _ 16 _ _ _ R1;have c17:=zc _ _ 17 _ _ _ R1
    cases b0 with
    |false=>
     go_wp2_with fail
     all_goals (go_ret;exact⟨isB _,BL⟩)
    |true=>
     go_wp2_with fail
     all_goals (go_ret;exact⟨isB _,BL⟩)
 by_cases k2:kind=2
 ·subst k2;have HM:=rMay_eq na nn (by omega);generalize mayB na nn=m at HM;have HP:=rMay_eq pa pn (by omega);generalize mayB pa pn=mp at HP;have HF:=rPlace_any neg num den s5 s6;generalize placeB neg num den=f at HF
  cases m with
  |false=>exact has2_a ia na pa num den field value ta who im clock floor nn pn tn deps neg f false w HM
  |true=>
   cases h1:same38 pa pn ⟨#[]⟩ 0 with
   |true=>exact has2_b ia na pa num den field value ta who im clock floor nn pn tn deps neg f false w HM h1 HF
   |false=>
    cases h2:same38 pa pn ⟨#[45]⟩ 0 with
    |true=>exact has2_c ia na pa num den field value ta who im clock floor nn pn tn deps neg f false w HM h1 h2 HF
    |false=>
     cases mp with
     |true=>exact has2_d ia na pa num den field value ta who im clock floor nn pn tn deps neg f false w HM h1 h2 HP HF
     |false=>exact has2_e ia na pa num den field value ta who im clock floor nn pn tn deps neg f false w HM h1 h2 HP
 by_cases k3:kind=3
 ·subst k3;go_enter Tryz.func49,Tryz.ntmps49
  go_wp2_with fail
  with_reducible refine(rMay_any na nn (by omega) _).mono ?_
  rintro e w4 ⟨⟨b0,rfl⟩,hb⟩;have R1:=(hb.block _ (zl R1)).trans R1;have BL:=BL.trans (hb.mono BL.size);have c0:=zc _ _ 0 _ _ _ R1;have c1:=zc _ _ 1 _ _ _ R1;have c5:=zc _ _ 5 _ _ _ R1;have c10:=zc _ _ 10 _ _ _ R1;have c11:=zc _ _ 11 _ _ _ R1;have c12:=zc _ _ 12 _ _ _ R1;have c13:=zc _ _ 13 _ _ _ R1;have c14:=zc _ _ 14 _ _ _ R1;have c15:=zc _ _ 15 _ _ _ R1;have c16:=zc _ _ 16 _ _ _ R1;have c17:=zc _ _ 17 _ _ _ R1
  cases b0 with
  |false=>
   go_wp2_with fail
   all_goals (go_ret;exact⟨isB _,BL⟩)
  |true=>
   go_wp2_with fail
   with_reducible refine(rWord_w field (by omega) _).mono ?_
   rintro e w4 ⟨⟨b0,rfl⟩,hb⟩;have R1:=(hb.block _ (zl R1)).trans R1;have BL:=BL.trans (hb.mono BL.size);have c0:=zc _ _ 0 _ _ _ R1;have c1:=zc _ _ 1 _ _ _ R1;have c5:=zc _ _ 5 _ _ _ R1;have c10:=zc _ _ 10 _ _ _ R1;have c11:=zc _ _ 11 _ _ _ R1;have c12:=zc _ _ 12 _ _ _ R1;have c13:=zc _ _ 13 _ _ _ R1;have c14:=zc _ _ 14 _ _ _ R1;have c15:=zc _ _ 15 _ _ _ R1;have c16:=zc _ _ 16 _ _ _ R1;have c17:=zc _ _ 17 _ _ _ R1
   cases b0 with
   |false=>
    go_wp2_with fail
    all_goals (go_ret;exact⟨isB _,BL⟩)
   |true=>
    go_wp2_with fail
    all_goals (go_ret;exact⟨isB _,BL⟩)
 by_cases k4:kind=4
 ·subst k4;go_enter Tryz.func49,Tryz.ntmps49
  go_wp2_with fail
  with_reducible refine(rMay_any ta tn (by omega) _).mono ?_
  rintro e w4 ⟨⟨b0,rfl⟩,hb⟩;have R1:=(hb.block _ (zl R1)).trans R1;have BL:=BL.trans (hb.mono BL.size);have c0:=zc _ _ 0 _ _ _ R1;have c1:=zc _ _ 1 _ _ _ R1;have c5:=zc _ _ 5 _ _ _ R1;have c10:=zc _ _ 10 _ _ _ R1;have c11:=zc _ _ 11 _ _ _ R1;have c12:=zc _ _ 12 _ _ _ R1;have c13:=zc _ _ 13 _ _ _ R1;have c14:=zc _ _ 14 _ _ _ R1;have c15:=zc _ _ 15 _ _ _ R1;have c16:=zc _ _ 16 _ _ _ R1;have c17:=zc _ _ 17 _ _ _ R1
  cases b0 with
  |false=>
   go_wp2_with fail
   all_goals (go_ret;exact⟨isB _,BL⟩)
  |true=>
   go_wp2_with fail
   all_goals (go_ret;exact⟨isB _,BL⟩)
 by_cases k5:kind=5
 ·subst k5;go_enter Tryz.func49,Tryz.ntmps49
  go_wp2_with fail
  with_reducible refine(rVotes_any ia who s9 _).mono ?_
  rintro e w4 ⟨⟨b0,rfl⟩,hb⟩;have BL:=BL.trans (hb.mono BL.size)
  go_wp2_with fail
  go_ret
  exact⟨isB _,BL⟩
 have e1:(kind==1)=false:=by simpa using k1
 have e2:(kind==2)=false:=by simpa using k2
 have e3:(kind==3)=false:=by simpa using k3
 have e4:(kind==4)=false:=by simpa using k4
 have e5:(kind==5)=false:=by simpa using k5
 go_enter Tryz.func49,Tryz.ntmps49
 go_wp2_with fail
 go_ret
 exact⟨isB _,BL⟩
end
end Go.Proofs.YteigcnamkfebgaaGreatDoor
