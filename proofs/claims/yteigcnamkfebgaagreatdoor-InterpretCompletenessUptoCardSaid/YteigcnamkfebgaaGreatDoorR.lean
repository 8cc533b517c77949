import Derived.Test.YteigcnamkfebgaaGreatDoorP
import Derived.Deep.OwnRows
set_option linter.all false
set_option maxHeartbeats 25600000
namespace Go.Proofs.YteigcnamkfebgaaGreatDoor
open Go.RowKit
theorem ann_any (n:Int) (w:World):Calls Tryz.prog 14 #[.int .i64 n] w fun e w'=>e=.returned (.agg #[.string ⟨#[97,110,110]⟩,.int .i64 n])∧Below w.heap.size w w':=by
 go_enter Tryz.func14,Tryz.ntmps14
 go_wp2;exact bodyPost_ret (v:=.agg #[.string ⟨#[97,110,110]⟩,.int .i64 n]) (by simp [results,Tryz.results14,go_sem]) rfl ⟨rfl,(Below.refl _ _).alloc (Nat.le_refl _) _⟩
def s1:ByteArray:=⟨#[1]⟩
theorem trimE (w:World):Calls Tryz.prog 228 #[.string ⟨#[]⟩,.string ⟨#[0]⟩] w fun e w'=>e=.returned (.string ⟨#[]⟩)∧w=w':=by
 go_enter Tryz.func228,Tryz.ntmps228
 go_wp2;go_ret
 exact⟨rfl,rfl⟩
theorem trimByte1 (w:World):Calls Tryz.prog 251 #[.string ⟨#[1]⟩,.int .u8 0] w fun e w'=>e=.returned (.string ⟨#[1]⟩)∧w=w':=by
 go_enter Tryz.func251,Tryz.ntmps251
 go_wp2;refine wp_loop_rounds 1 ?_;rw [rounds_succ];go_wp2;go_ret
 exact⟨rfl,rfl⟩
set_option maxRecDepth 100000 in
theorem trim1 (w:World):Calls Tryz.prog 228 #[.string ⟨#[1]⟩,.string ⟨#[0]⟩] w fun e w'=>e=.returned (.string ⟨#[1]⟩)∧w=w':=by
 go_enter Tryz.func228,Tryz.ntmps228
 go_wp2_with(first|(go_at_call 251;refine(trimByte1 _).mono ?_;rintro e w1 ⟨rfl,rfl⟩)|go_in)
 go_ret
 exact⟨rfl,rfl⟩
theorem normE (w:World):Calls Tryz.prog 200 #[.string ⟨#[]⟩] w fun e w'=>e=.returned (.string ⟨#[]⟩)∧w=w':=by
 go_enter Tryz.func200,Tryz.ntmps200
 go_wp2_with(go_at_call 228;refine(trimE _).mono ?_;rintro e w1 ⟨rfl,rfl⟩)
 go_ret
 exact⟨rfl,rfl⟩
theorem norm1 (w:World):Calls Tryz.prog 200 #[.string ⟨#[1]⟩] w fun e w'=>e=.returned (.string ⟨#[1]⟩)∧w=w':=by
 go_enter Tryz.func200,Tryz.ntmps200
 go_wp2_with(go_at_call 228;refine(trim1 _).mono ?_;rintro e w1 ⟨rfl,rfl⟩)
 go_ret
 exact⟨rfl,rfl⟩
end Go.Proofs.YteigcnamkfebgaaGreatDoor
namespace Go.Proofs.YteigcnamkfebgaaGreatDoor
open Go.RowKit
theorem und260:Tryz.prog.underlying 260=some (.slice 197):=by kernel_rfl
theorem info197:(Tryz.prog.info? 197).map (fun i=>(i.zero,i.size,i.bytes))=some (some (.int .u32 0),1,4):=by kernel_rfl
theorem made0 (z:Value):madeCells #[z] 0=#[]:=by apply Array.toList_inj.1;rw [toList_madeCells_one];rfl
theorem made1 (z:Value):madeCells #[z] 1=#[z]:=by apply Array.toList_inj.1;rw [toList_madeCells_one];rfl
theorem made2 (z:Value):madeCells #[z] 2=#[z,z]:=by apply Array.toList_inj.1;rw [toList_madeCells_one];rfl
theorem mk32_0 (w:World):(Instr.makeSlice 260 (.int .i64 0) (.int .i64 0)).run Tryz.prog w=.ok (.slice (some ⟨w.heap.size,0,none⟩) 0 0) (w.alloc (.cells #[] 197)):=by
 have h:=run_make_row' (P:=Tryz.prog) 260 197 (.int .u32 0) 4 und260 info197 rfl .i64 .i64 0 (by omega) (by omega) w;rw [made0]at h;exact h
theorem mk32_1 (w:World):(Instr.makeSlice 260 (.int .i64 1) (.int .i64 1)).run Tryz.prog w=.ok (.slice (some ⟨w.heap.size,0,none⟩) 1 1) (w.alloc (.cells #[.int .u32 0] 197)):=by
 have h:=run_make_row' (P:=Tryz.prog) 260 197 (.int .u32 0) 4 und260 info197 rfl .i64 .i64 1 (by omega) (by omega) w;rw [made1]at h;exact h
theorem mk32_2 (w:World):(Instr.makeSlice 260 (.int .i64 2) (.int .i64 2)).run Tryz.prog w=.ok (.slice (some ⟨w.heap.size,0,none⟩) 2 2) (w.alloc (.cells #[.int .u32 0,.int .u32 0] 197)):=by
 have h:=run_make_row' (P:=Tryz.prog) 260 197 (.int .u32 0) 4 und260 info197 rfl .i64 .i64 2 (by omega) (by omega) w;rw [made2]at h;exact h
set_option maxRecDepth 100000 in
theorem limbsE (w:World):Calls Tryz.prog 232 #[.string ⟨#[]⟩] w fun e w'=>e=.returned (.slice (some ⟨w.heap.size,0,none⟩) 0 0)∧Below w.heap.size w w':=by
 have hmk:=mk32_0;go_enter Tryz.func232,Tryz.ntmps232
 go_wp2_with(first|(go_at_call 200;refine(normE _).mono ?_;rintro e w1 ⟨rfl,rfl⟩))
 refine wp_loop_rounds 1 ?_;rw [rounds_succ];go_wp2;go_ret
 exact⟨rfl,(Below.refl _ _).alloc (Nat.le_refl _) _⟩
set_option maxRecDepth 100000 in
theorem limbs1 (w:World):Calls Tryz.prog 232 #[.string ⟨#[1]⟩] w fun e w'=>e=.returned (.slice (some ⟨w.heap.size,0,none⟩) 1 1)∧w'.cell? ⟨w.heap.size,0,none⟩=some (.int .u32 1)∧Below w.heap.size w w':=by
 have hm:=zg w (.cells #[.int .u32 0] 197) w.heap.size rfl;have c0:=cell_of_one hm;have f0:=free_of_one hm;have hmk:=mk32_1;go_enter Tryz.func232,Tryz.ntmps232
 go_wp2_with(first|(go_at_call 200;refine(norm1 _).mono ?_;rintro e w1 ⟨rfl,rfl⟩))
 refine wp_loop_rounds 2 ?_;rw [rounds_succ];clear hmk;go_wp2;go_region
 all_goals go_wp2
 all_goals rw [rounds_succ]
 all_goals go_wp2
 all_goals go_ret
 refine⟨rfl,?_,?_⟩
 ·exact(show(World.alloc w _).cell? _=_ from cell_of_one (zg w _ w.heap.size rfl)).trans (by kernel_rfl)
 ·exact((Below.refl _ _).alloc (Nat.le_refl _) _).drew
end Go.Proofs.YteigcnamkfebgaaGreatDoor
namespace Go.Proofs.YteigcnamkfebgaaGreatDoor
open Go.RowKit
set_option maxRecDepth 100000 in
theorem trimByte8 (w:World):Calls Tryz.prog 251 #[.string ⟨#[1,0,0,0,0,0,0,0]⟩,.int .u8 0] w fun e w'=>e=.returned (.string ⟨#[1]⟩)∧w=w':=by
 go_enter Tryz.func251,Tryz.ntmps251
 go_wp2;refine wp_loop_rounds 8 ?_;rw [rounds_succ];go_wp2;rw [rounds_succ];go_wp2;rw [rounds_succ];go_wp2;rw [rounds_succ];go_wp2;rw [rounds_succ];go_wp2;rw [rounds_succ];go_wp2;rw [rounds_succ];go_wp2;rw [rounds_succ];go_wp2;go_ret
 exact⟨rfl,rfl⟩
set_option maxRecDepth 100000 in
theorem trimByte4 (w:World):Calls Tryz.prog 251 #[.string ⟨#[0,0,0,0]⟩,.int .u8 0] w fun e w'=>e=.returned (.string ⟨#[]⟩)∧w=w':=by
 go_enter Tryz.func251,Tryz.ntmps251
 go_wp2;refine wp_loop_rounds 5 ?_;rw [rounds_succ];go_wp2;rw [rounds_succ];go_wp2;rw [rounds_succ];go_wp2;rw [rounds_succ];go_wp2;rw [rounds_succ];go_wp2;go_ret
 exact⟨rfl,rfl⟩
set_option maxRecDepth 100000 in
theorem trim8 (w:World):Calls Tryz.prog 228 #[.string ⟨#[1,0,0,0,0,0,0,0]⟩,.string ⟨#[0]⟩] w fun e w'=>e=.returned (.string ⟨#[1]⟩)∧w=w':=by
 go_enter Tryz.func228,Tryz.ntmps228
 go_wp2_with(first|(go_at_call 251;refine(trimByte8 _).mono ?_;rintro e w1 ⟨rfl,rfl⟩)|go_in)
 go_ret
 exact⟨rfl,rfl⟩
set_option maxRecDepth 100000 in
theorem trim4 (w:World):Calls Tryz.prog 228 #[.string ⟨#[0,0,0,0]⟩,.string ⟨#[0]⟩] w fun e w'=>e=.returned (.string ⟨#[]⟩)∧w=w':=by
 go_enter Tryz.func228,Tryz.ntmps228
 go_wp2_with(first|(go_at_call 251;refine(trimByte4 _).mono ?_;rintro e w1 ⟨rfl,rfl⟩)|go_in)
 go_ret
 exact⟨rfl,rfl⟩
theorem norm8 (w:World):Calls Tryz.prog 200 #[.string ⟨#[1,0,0,0,0,0,0,0]⟩] w fun e w'=>e=.returned (.string ⟨#[1]⟩)∧w=w':=by
 go_enter Tryz.func200,Tryz.ntmps200
 go_wp2_with(go_at_call 228;refine(trim8 _).mono ?_;rintro e w1 ⟨rfl,rfl⟩)
 go_ret
 exact⟨rfl,rfl⟩
theorem norm4 (w:World):Calls Tryz.prog 200 #[.string ⟨#[0,0,0,0]⟩] w fun e w'=>e=.returned (.string ⟨#[]⟩)∧w=w':=by
 go_enter Tryz.func200,Tryz.ntmps200
 go_wp2_with(go_at_call 228;refine(trim4 _).mono ?_;rintro e w1 ⟨rfl,rfl⟩)
 go_ret
 exact⟨rfl,rfl⟩
theorem und222:Tryz.prog.underlying 222=some (.slice 5):=by kernel_rfl
theorem und5:Tryz.prog.underlying 5=some (.int .u8):=by kernel_rfl
theorem und9:Tryz.prog.underlying 9=some .string:=by kernel_rfl
theorem info5:(Tryz.prog.info? 5).map (fun i=>(i.zero,i.size,i.bytes))=some (some (.int .u8 0),1,1):=by kernel_rfl
section
variable {P:Program} (w:World)
theorem wpList_append_fits {ops:Array Oper} {rest:List Oper} {o:Oper} {a:Act} {Q:Exit→Act→World→Prop} (hgd:o.guard=none) (s x:Operand) (t:TypeId)
  (ho:o.op=.call {callee:=.builtin .append,args:=#[s,x],argTypes:=#[t,t]})
  (base:Nat) (e:TypeId) (i:TypeInfo) (size:Nat) (ht:P.underlying t=some (.slice e)) (hi:P.info? e=some i) (hsize:i.size=size)
  (g n cap:Nat) (xs:List Value) (hs:a.eval s=.slice (some ⟨g,0,none⟩) n cap) (hown:w.ownsRow base e size (.slice (some ⟨g,0,none⟩) n cap) n xs)
  (ad:Addr) (m c:Nat) (news:List Value) (hx:a.eval x=.slice (some ad) m c) (hl:news.length=m*size) (hnews:∀j u,news[j]? =some u→w.cell? (ad.add j)=some u) (h1:∀u∈news,u.oneCell'=true)
  (hroom:n+m≤cap)
  (h:∀w',w'.ownsRow base e size (.slice (some ⟨g,0,none⟩) (n+m) cap) (n+m) (xs++news)→w.grownBy w' (some g)→wpList P ops Q rest (a.put o.dst (.slice (some ⟨g,0,none⟩) (n+m) cap)) w'):
  wpList P ops Q (o::rest) a w:=by
 refine wpList_plain hgd fun K hK=>?_
 obtain⟨w',hr,h2,h3⟩:=run_append_fits (P:=P) w base t o.type e i size ht hi hsize g n cap xs hown ad m c news hl hnews h1 hroom;unfold Oper.wp execOp;simp only [ho,resolve,invoke,builtin,Sem.run_bind,Sem.run_pure,Result.andThen_ok,List.map_toArray,List.map_cons,List.map_nil,hs,hx,hr];exact hK _ _ (h w' h2 h3)
end
set_option maxRecDepth 100000 in
theorem mag10 (b c:Nat) (w:World) (hc0:w.cell? ⟨b,0,none⟩=some (.int .u32 1)) (hc1:w.cell? ⟨b,1,none⟩=some (.int .u32 0)):Calls Tryz.prog 233 #[.slice (some ⟨b,0,none⟩) 2 c] w fun e w'=>e=.returned (.string ⟨#[1]⟩)∧Below w.heap.size w w':=by
 have hlb:b < w.heap.size:=World.block_lt_of_cell? _ _ hc0;obtain⟨i0,hi,hzz⟩:=Option.map_eq_some_iff.1 info5;simp only [Prod.mk.injEq]at hzz;obtain⟨hz,hsz,hby⟩:=hzz;obtain⟨w1,hmk,hown1,hg1⟩:=run_make_own (P:=Tryz.prog) w w.heap.size 222 5 i0 (.int .u8 0) 1 und222 hi hz hsz .i64 .i64 8 (by rw [hby];decide) (by decide) (Nat.le_refl _);have hb1:Below w.heap.size w w1:=(Below.refl _ _).grown hg1 (Nat.le_refl _) (by simp);have hmk2:(Instr.makeSlice 222 (.int .i64 0) (.int .i64 8)).run Tryz.prog w=.ok (.slice (some ⟨w.heap.size,0,none⟩) 0 8) w1:=hmk;clear hmk;have q0:=(hb1.cell (p:=⟨b,0,none⟩) hlb).trans hc0;have q1:=(hb1.cell (p:=⟨b,1,none⟩) hlb).trans hc1;go_enter Tryz.func233,Tryz.ntmps233
 go_wp2;clear hmk2;refine wp_loop_rounds 3 ?_;rw [rounds_succ];go_wp2;refine wp_loop_rounds 5 ?_;rw [rounds_succ]
 go_wp2_with(at_builtin;refine wpList_append_fits _ rfl _ _ 222 rfl w.heap.size 5 i0 1 und222 hi hsz w.heap.size 0 8 _ rfl (hown1.alloc _) ⟨_,0,none⟩ 1 1 [_] rfl rfl (cell_one_new _ _ _) (by simp [Value.oneCell']) (by decide) ?_)
 intro w2 hown2 hg2;have hb2:Below w.heap.size w w2:=(hb1.alloc hb1.size _).grown hg2 (by simp;have:=hb1.size;omega) (by intro k hk;simp at hk;omega);have r1_2:=(hb2.cell (p:=⟨b,1,none⟩) hlb).trans hc1;clear hown1 hg2 hb1;go_wp2;rw [rounds_succ]
 go_wp2_with(at_builtin;refine wpList_append_fits _ rfl _ _ 222 rfl w.heap.size 5 i0 1 und222 hi hsz w.heap.size 1 8 _ rfl (hown2.alloc _) ⟨_,0,none⟩ 1 1 [_] rfl rfl (cell_one_new _ _ _) (by simp [Value.oneCell']) (by decide) ?_)
 intro w3 hown3 hg3;have hb3:Below w.heap.size w w3:=(hb2.alloc hb2.size _).grown hg3 (by simp;have:=hb2.size;omega) (by intro k hk;simp at hk;omega);have r1_3:=(hb3.cell (p:=⟨b,1,none⟩) hlb).trans hc1;clear hown2 hg3 hb2;go_wp2;rw [rounds_succ]
 go_wp2_with(at_builtin;refine wpList_append_fits _ rfl _ _ 222 rfl w.heap.size 5 i0 1 und222 hi hsz w.heap.size 2 8 _ rfl (hown3.alloc _) ⟨_,0,none⟩ 1 1 [_] rfl rfl (cell_one_new _ _ _) (by simp [Value.oneCell']) (by decide) ?_)
 intro w4 hown4 hg4;have hb4:Below w.heap.size w w4:=(hb3.alloc hb3.size _).grown hg4 (by simp;have:=hb3.size;omega) (by intro k hk;simp at hk;omega);have r1_4:=(hb4.cell (p:=⟨b,1,none⟩) hlb).trans hc1;clear hown3 hg4 hb3;go_wp2;rw [rounds_succ]
 go_wp2_with(at_builtin;refine wpList_append_fits _ rfl _ _ 222 rfl w.heap.size 5 i0 1 und222 hi hsz w.heap.size 3 8 _ rfl (hown4.alloc _) ⟨_,0,none⟩ 1 1 [_] rfl rfl (cell_one_new _ _ _) (by simp [Value.oneCell']) (by decide) ?_)
 intro w5 hown5 hg5;have hb5:Below w.heap.size w w5:=(hb4.alloc hb4.size _).grown hg5 (by simp;have:=hb4.size;omega) (by intro k hk;simp at hk;omega);have r1_5:=(hb5.cell (p:=⟨b,1,none⟩) hlb).trans hc1;clear hown4 hg5 hb4;go_wp2;rw [rounds_succ];go_wp2;rw [rounds_succ];go_wp2;refine wp_loop_rounds 5 ?_;rw [rounds_succ]
 go_wp2_with(at_builtin;refine wpList_append_fits _ rfl _ _ 222 rfl w.heap.size 5 i0 1 und222 hi hsz w.heap.size 4 8 _ rfl (hown5.alloc _) ⟨_,0,none⟩ 1 1 [_] rfl rfl (cell_one_new _ _ _) (by simp [Value.oneCell']) (by decide) ?_)
 intro w6 hown6 hg6;have hb6:Below w.heap.size w w6:=(hb5.alloc hb5.size _).grown hg6 (by simp;have:=hb5.size;omega) (by intro k hk;simp at hk;omega);clear hown5 hg6 hb5;go_wp2;rw [rounds_succ]
 go_wp2_with(at_builtin;refine wpList_append_fits _ rfl _ _ 222 rfl w.heap.size 5 i0 1 und222 hi hsz w.heap.size 5 8 _ rfl (hown6.alloc _) ⟨_,0,none⟩ 1 1 [_] rfl rfl (cell_one_new _ _ _) (by simp [Value.oneCell']) (by decide) ?_)
 intro w7 hown7 hg7;have hb7:Below w.heap.size w w7:=(hb6.alloc hb6.size _).grown hg7 (by simp;have:=hb6.size;omega) (by intro k hk;simp at hk;omega);clear hown6 hg7 hb6;go_wp2;rw [rounds_succ]
 go_wp2_with(at_builtin;refine wpList_append_fits _ rfl _ _ 222 rfl w.heap.size 5 i0 1 und222 hi hsz w.heap.size 6 8 _ rfl (hown7.alloc _) ⟨_,0,none⟩ 1 1 [_] rfl rfl (cell_one_new _ _ _) (by simp [Value.oneCell']) (by decide) ?_)
 intro w8 hown8 hg8;have hb8:Below w.heap.size w w8:=(hb7.alloc hb7.size _).grown hg8 (by simp;have:=hb7.size;omega) (by intro k hk;simp at hk;omega);clear hown7 hg8 hb7;go_wp2;rw [rounds_succ]
 go_wp2_with(at_builtin;refine wpList_append_fits _ rfl _ _ 222 rfl w.heap.size 5 i0 1 und222 hi hsz w.heap.size 7 8 _ rfl (hown8.alloc _) ⟨_,0,none⟩ 1 1 [_] rfl rfl (cell_one_new _ _ _) (by simp [Value.oneCell']) (by decide) ?_)
 intro w9 hown9 hg9;have hb9:Below w.heap.size w w9:=(hb8.alloc hb8.size _).grown hg9 (by simp;have:=hb8.size;omega) (by intro k hk;simp at hk;omega);clear hown8 hg9 hb8;go_wp2;rw [rounds_succ];go_wp2;rw [rounds_succ]
 have hcv:(convert 222 9 (.slice (some ⟨w.heap.size,0,none⟩) 8 8)).run Tryz.prog w9=.ok (.string ⟨#[1,0,0,0,0,0,0,0]⟩) w9:=by
  refine run_convert_bytes_arg (P:=Tryz.prog) _ 222 5 und222 und5 w.heap.size 0 8 8 [1,0,0,0,0,0,0,0] rfl (fun i hi=>?_) 9 und9;rw [Nat.zero_add,hown9.cellAt i (by omega)]
  match i,hi with
  |0,_=>rfl
  |1,_=>rfl
  |2,_=>rfl
  |3,_=>rfl
  |4,_=>rfl
  |5,_=>rfl
  |6,_=>rfl
  |7,_=>rfl
 clear hown9
 go_wp2_with(go_at_call 200;refine(norm8 _).mono ?_;rintro e w0 ⟨rfl,rfl⟩)
 go_ret
 exact⟨rfl,hb9⟩
set_option maxRecDepth 100000 in
theorem mag0 (b c:Nat) (w:World) (hc0:w.cell? ⟨b,0,none⟩=some (.int .u32 0)):Calls Tryz.prog 233 #[.slice (some ⟨b,0,none⟩) 1 c] w fun e w'=>e=.returned (.string ⟨#[]⟩)∧Below w.heap.size w w':=by
 have hlb:b < w.heap.size:=World.block_lt_of_cell? _ _ hc0;obtain⟨i0,hi,hzz⟩:=Option.map_eq_some_iff.1 info5;simp only [Prod.mk.injEq]at hzz;obtain⟨hz,hsz,hby⟩:=hzz;obtain⟨w1,hmk,hown1,hg1⟩:=run_make_own (P:=Tryz.prog) w w.heap.size 222 5 i0 (.int .u8 0) 1 und222 hi hz hsz .i64 .i64 4 (by rw [hby];decide) (by decide) (Nat.le_refl _);have hb1:Below w.heap.size w w1:=(Below.refl _ _).grown hg1 (Nat.le_refl _) (by simp);have hmk2:(Instr.makeSlice 222 (.int .i64 0) (.int .i64 4)).run Tryz.prog w=.ok (.slice (some ⟨w.heap.size,0,none⟩) 0 4) w1:=hmk;clear hmk;have q0:=(hb1.cell (p:=⟨b,0,none⟩) hlb).trans hc0;go_enter Tryz.func233,Tryz.ntmps233
 go_wp2;clear hmk2;refine wp_loop_rounds 2 ?_;rw [rounds_succ];go_wp2;refine wp_loop_rounds 5 ?_;rw [rounds_succ]
 go_wp2_with(at_builtin;refine wpList_append_fits _ rfl _ _ 222 rfl w.heap.size 5 i0 1 und222 hi hsz w.heap.size 0 4 _ rfl (hown1.alloc _) ⟨_,0,none⟩ 1 1 [_] rfl rfl (cell_one_new _ _ _) (by simp [Value.oneCell']) (by decide) ?_)
 intro w2 hown2 hg2;have hb2:Below w.heap.size w w2:=(hb1.alloc hb1.size _).grown hg2 (by simp;have:=hb1.size;omega) (by intro k hk;simp at hk;omega);clear hown1 hg2 hb1;go_wp2;rw [rounds_succ]
 go_wp2_with(at_builtin;refine wpList_append_fits _ rfl _ _ 222 rfl w.heap.size 5 i0 1 und222 hi hsz w.heap.size 1 4 _ rfl (hown2.alloc _) ⟨_,0,none⟩ 1 1 [_] rfl rfl (cell_one_new _ _ _) (by simp [Value.oneCell']) (by decide) ?_)
 intro w3 hown3 hg3;have hb3:Below w.heap.size w w3:=(hb2.alloc hb2.size _).grown hg3 (by simp;have:=hb2.size;omega) (by intro k hk;simp at hk;omega);clear hown2 hg3 hb2;go_wp2;rw [rounds_succ]
 go_wp2_with(at_builtin;refine wpList_append_fits _ rfl _ _ 222 rfl w.heap.size 5 i0 1 und222 hi hsz w.heap.size 2 4 _ rfl (hown3.alloc _) ⟨_,0,none⟩ 1 1 [_] rfl rfl (cell_one_new _ _ _) (by simp [Value.oneCell']) (by decide) ?_)
 intro w4 hown4 hg4;have hb4:Below w.heap.size w w4:=(hb3.alloc hb3.size _).grown hg4 (by simp;have:=hb3.size;omega) (by intro k hk;simp at hk;omega);clear hown3 hg4 hb3;go_wp2;rw [rounds_succ]
 go_wp2_with(at_builtin;refine wpList_append_fits _ rfl _ _ 222 rfl w.heap.size 5 i0 1 und222 hi hsz w.heap.size 3 4 _ rfl (hown4.alloc _) ⟨_,0,none⟩ 1 1 [_] rfl rfl (cell_one_new _ _ _) (by simp [Value.oneCell']) (by decide) ?_)
 intro w5 hown5 hg5;have hb5:Below w.heap.size w w5:=(hb4.alloc hb4.size _).grown hg5 (by simp;have:=hb4.size;omega) (by intro k hk;simp at hk;omega);clear hown4 hg5 hb4;go_wp2;rw [rounds_succ];go_wp2;rw [rounds_succ]
 have hcv:(convert 222 9 (.slice (some ⟨w.heap.size,0,none⟩) 4 4)).run Tryz.prog w5=.ok (.string ⟨#[0,0,0,0]⟩) w5:=by
  refine run_convert_bytes_arg (P:=Tryz.prog) _ 222 5 und222 und5 w.heap.size 0 4 4 [0,0,0,0] rfl (fun i hi=>?_) 9 und9;rw [Nat.zero_add,hown5.cellAt i (by omega)]
  match i,hi with
  |0,_=>rfl
  |1,_=>rfl
  |2,_=>rfl
  |3,_=>rfl
 clear hown5
 go_wp2_with(go_at_call 200;refine(norm4 _).mono ?_;rintro e w0 ⟨rfl,rfl⟩)
 go_ret
 exact⟨rfl,hb5⟩
theorem two_cells {W:World} {k:Nat} {x y:Value} {t:TypeId} (h:W.heap[k]? =some (.cells #[x,y] t (0,0))):W.cell? ⟨k,0,none⟩=some x∧W.cell? ⟨k,1,none⟩=some y:=
 ⟨zc _ _ _ _ _ _ h,zc _ _ _ _ _ _ h⟩
theorem two_free {W:World} {k:Nat} {x y:Value} {t:TypeId} (h:W.heap[k]? =some (.cells #[x,y] t (0,0))):W.frozen? ⟨k,0,none⟩=false∧W.frozen? ⟨k,1,none⟩=false:=by
 constructor <;>simp [World.frozen?,h]
theorem set2 {W:World} {k:Nat} {x y x' y':Value} {t:TypeId} (h:W.heap[k]? =some (.cells #[x,y] t (0,0))):((W.setCell ⟨k,0,none⟩ x').setCell ⟨k,1,none⟩ y').heap[k]? =some (.cells #[x',y'] t (0,0)):=by
 rw [setCell_eq_setRow W k 0 #[x,y] t (0,0) x' h];have h2:=setRow_heap W k #[x,y] (#[x,y].setIfInBounds 0 x') t (0,0) h;rw [setCell_eq_setRow _ k 1 _ t (0,0) y' h2];exact setRow_heap _ _ _ _ _ _ h2
theorem Below_drew_left' {B:Nat} {w w':World} (h:Below B w.drew w'):Below B w w':=((Below.refl B w).drew).trans h
theorem keep1 {W w1:World} {a:Addr} {v:Value} (hb:Below W.heap.size W w1) (h:W.cell? a=some v):w1.cell? a=some v:=(hb.cell (World.block_lt_of_cell? _ _ h)).trans h
theorem keep2 {W w1:World} {a b:Addr} {v u:Value} (hb:Below W.heap.size W w1) (h:W.cell? a=some v∧W.cell? b=some u):w1.cell? a=some v∧w1.cell? b=some u:=⟨keep1 hb h.1,keep1 hb h.2⟩
theorem of_false (s:ByteArray) (w:World):Calls Tryz.prog 205 #[.bool false,.string s] w fun e w'=>e=.returned (.agg #[.bool false,.string s])∧Below w.heap.size w w':=by
 go_enter Tryz.func205,Tryz.ntmps205
 go_wp2;exact bodyPost_ret (v:=.agg #[.bool false,.string s]) (by simp [results,Tryz.results205,go_sem]) rfl ⟨rfl,(Below.refl _ _).alloc (Nat.le_refl _) _⟩
theorem of_trueE (w:World):Calls Tryz.prog 205 #[.bool true,.string ⟨#[]⟩] w fun e w'=>e=.returned (.agg #[.bool false,.string ⟨#[]⟩])∧Below w.heap.size w w':=by
 go_enter Tryz.func205,Tryz.ntmps205
 go_wp2;exact bodyPost_ret (v:=.agg #[.bool false,.string ⟨#[]⟩]) (by simp [results,Tryz.results205,go_sem]) rfl ⟨rfl,(Below.refl _ _).alloc (Nat.le_refl _) _⟩
set_option maxRecDepth 100000 in
theorem normI (s:ByteArray) (hN:∀w:World,Calls Tryz.prog 200 #[.string s] w fun e w'=>e=.returned (.string s)∧w=w') (w:World):Calls Tryz.prog 202 #[.agg #[.bool false,.string s]] w fun e w'=>e=.returned (.agg #[.bool false,.string s])∧Below w.heap.size w w':=by
 have hm:=zg w (.cells #[.bool false,.string s] 207) w.heap.size rfl;go_enter Tryz.func202,Tryz.ntmps202
 go_wp2_with fail
 have c0:=two_cells (show((((w.alloc (.cells #[.bool false,.string s] 207)).alloc (.cells #[.bool false,.string ⟨#[]⟩] 207)).drew).heap[w.heap.size]?)=_ from box2.1);have k1:((((w.alloc (.cells #[.bool false,.string s] 207)).alloc (.cells #[.bool false,.string ⟨#[]⟩] 207)).drew).heap[w.heap.size+1]?)=_:=box2.2
 go_region_held3 (fun w'=>w'.cell? ⟨w.heap.size,0,none⟩=some (.bool false)∧w'.cell? ⟨w.heap.size,1,none⟩=some (.string s))
  (first
   |go_keep
   |exact keep2 hb1 c0)
  (first
   |(go_at_call 200;refine(hN _).mono ?_;rintro e w1 ⟨rfl,rfl⟩)
   |(go_at_call 205;refine(of_false _ _).mono ?_;rintro e w1 ⟨rfl,hb1⟩;have r1:=(hb1.block (w.heap.size+1) (by simp)).trans k1;obtain⟨r2,r3⟩:=two_cells r1;obtain⟨r4,r5⟩:=two_free r1))
 go_wp2;exact bodyPost_ret (results_cell_row Tryz.results202 _ _ (w.heap.size+1) 207 _ (0,0) _ rfl (set2 r1) Tryz.underlying207 rfl (by kernel_rfl)) rfl ⟨rfl,(((below2 w _ _).trans ((Below_drew_left' hb1).mono (by simp <;>omega))).setCell (by simp) _).setCell (by simp) _⟩
set_option maxRecDepth 100000 in
theorem fromU1 (w:World):Calls Tryz.prog 229 #[.int .u64 1] w fun e w'=>e=.returned (.string ⟨#[1]⟩)∧Below w.heap.size w w':=by
 have hc:=two_cells (zg w (.cells #[.int .u32 1,.int .u32 0] 197) w.heap.size rfl);have hM:=mag10 w.heap.size 2 _ hc.1 hc.2;clear hc;go_enter Tryz.func229,Tryz.ntmps229
 go_wp2_with(first|(go_at_call 233;refine hM.mono ?_;rintro e w1 ⟨rfl,hb1⟩))
 go_ret
 exact⟨rfl,((Below.refl _ _).alloc (Nat.le_refl _) _).trans (hb1.mono (by simp))⟩
set_option maxRecDepth 100000 in
theorem fromI1 (w:World):Calls Tryz.prog 201 #[.int .i64 1] w fun e w'=>e=.returned (.agg #[.bool false,.string ⟨#[1]⟩])∧Below w.heap.size w w':=by
 have k0:=zg w (.cells #[.bool false,.string ⟨#[]⟩] 207) w.heap.size rfl;go_enter Tryz.func201,Tryz.ntmps201
 go_wp2_with(first|(go_at_call 229;refine(fromU1 _).mono ?_;rintro e w1 ⟨rfl,hb1⟩)|(go_at_call 205;refine(of_false _ _).mono ?_;rintro e w2 ⟨rfl,hb2⟩;have r1:=(hb2.block w.heap.size (by have:=hb1.size;simp at this;omega)).trans ((hb1.block w.heap.size (by simp)).trans k0);obtain⟨r2,r3⟩:=two_cells r1;obtain⟨r4,r5⟩:=two_free r1))
 exact bodyPost_ret (results_cell_row Tryz.results201 _ _ w.heap.size 207 _ (0,0) _ rfl (set2 r1) Tryz.underlying207 rfl (by kernel_rfl)) rfl ⟨rfl,(((((Below.refl _ _).alloc (Nat.le_refl _) _).trans (hb1.mono (by simp))).trans (hb2.mono (by have:=hb1.size;simp at this;omega))).setCell (by simp) _).setCell (by simp) _⟩
end Go.Proofs.YteigcnamkfebgaaGreatDoor
namespace Go.Proofs.YteigcnamkfebgaaGreatDoor
open Go.RowKit
theorem results_two {P:Program} {fn:Func} {p q:Tmp} {ty:TypeId} (h:fn.results=#[.cell p ty,.cell q ty]) (tmps:Array Value) (w:World) (g g':Nat) (t:TypeId) (cs ds:Array Value) (fr fr':Nat×Nat) (d:TypeDesc)
  (hp:tmps.getD p undef=.pointer (some ⟨g,0,none⟩)) (hq:tmps.getD q undef=.pointer (some ⟨g',0,none⟩)) (hg:w.heap[g]? =some (.cells cs t fr)) (hg':w.heap[g']? =some (.cells ds t fr'))
  (hu:P.underlying ty=some d) (hd:(match d with| .struct _| .array _ _=>true|_=>false)=true) (hi:(P.info? ty).map (·.size)=some cs.size) (hi':(P.info? ty).map (·.size)=some ds.size):
  (results fn tmps).run P w=.ok (.tuple #[.agg cs,.agg ds]) w:=by
 have hp':tmps[p]?.getD undef=.pointer (some ⟨g,0,none⟩):=by simpa using hp
 have hq':tmps[q]?.getD undef=.pointer (some ⟨g',0,none⟩):=by simpa using hq
 simp [results,h,hp',hq',asAddr,run_loadVar_row w g t ty cs fr d hg hu hd hi,run_loadVar_row w g' t ty ds fr' d hg' hu hd hi']
theorem setOther {W:World} {k g:Nat} {o:Obj} {j:Nat} {v:Value} (h:W.heap[k]? =some o) (hne:k≠g):(W.setCell ⟨g,j,none⟩ v).heap[k]? =some o:=(heap_setCell_other W ⟨g,j,none⟩ k v hne).trans h
theorem far1 {W:World} {k b o:Nat} {v x y:Value} (h:W.cell? ⟨b,o,none⟩=some v) (hne:k≠b):((W.setCell ⟨k,0,none⟩ x).setCell ⟨k,1,none⟩ y).cell? ⟨b,o,none⟩=some v:=by
 rw [World.cell?_setCell_far _ _ _ _ hne,World.cell?_setCell_far _ _ _ _ hne];exact h
theorem far4 {W:World} {k n m:Nat} {a b c d x y:Value} (h:W.cell? ⟨n,0,none⟩=some a∧W.cell? ⟨n,1,none⟩=some b∧W.cell? ⟨m,0,none⟩=some c∧W.cell? ⟨m,1,none⟩=some d) (h1:k≠n) (h2:k≠m):
  ((W.setCell ⟨k,0,none⟩ x).setCell ⟨k,1,none⟩ y).cell? ⟨n,0,none⟩=some a∧((W.setCell ⟨k,0,none⟩ x).setCell ⟨k,1,none⟩ y).cell? ⟨n,1,none⟩=some b∧((W.setCell ⟨k,0,none⟩ x).setCell ⟨k,1,none⟩ y).cell? ⟨m,0,none⟩=some c∧((W.setCell ⟨k,0,none⟩ x).setCell ⟨k,1,none⟩ y).cell? ⟨m,1,none⟩=some d:=
 ⟨far1 h.1 h1,far1 h.2.1 h1,far1 h.2.2.1 h2,far1 h.2.2.2 h2⟩
theorem three_cells {W:World} {k:Nat} {x y z:Value} {t:TypeId} (h:W.heap[k]? =some (.cells #[x,y,z] t (0,0))):W.cell? ⟨k,0,none⟩=some x∧W.cell? ⟨k,1,none⟩=some y∧W.cell? ⟨k,2,none⟩=some z:=
 ⟨zc _ _ _ _ _ _ h,zc _ _ _ _ _ _ h,zc _ _ _ _ _ _ h⟩
set_option maxRecDepth 100000 in
theorem parts_any (s:ByteArray) (hN:∀w:World,Calls Tryz.prog 200 #[.string s] w fun e w'=>e=.returned (.string s)∧w=w') (w:World):
  Calls Tryz.prog 171 #[.agg #[.bool false,.string s,.string ⟨#[]⟩]] w fun e w'=>e=.returned (.tuple #[.agg #[.bool false,.string s],.agg #[.bool false,.string ⟨#[1]⟩]])∧Below w.heap.size w w':=by
 have HN:=zz hN;clear hN;have h0:((((w.alloc (.cells #[.bool false,.string s,.string ⟨#[]⟩] 43)).alloc (.cells #[.bool false,.string ⟨#[]⟩] 207)).alloc (.cells #[.bool false,.string ⟨#[]⟩] 207)).alloc (.cells #[.bool false,.string ⟨#[]⟩] 207)).heap[w.heap.size]? =_:=zo _ _ _ _ (zo _ _ _ _ (zo _ _ _ _ (zg _ _ _ rfl)));have h1:((((w.alloc (.cells #[.bool false,.string s,.string ⟨#[]⟩] 43)).alloc (.cells #[.bool false,.string ⟨#[]⟩] 207)).alloc (.cells #[.bool false,.string ⟨#[]⟩] 207)).alloc (.cells #[.bool false,.string ⟨#[]⟩] 207)).heap[w.heap.size+1]? =_:=zo _ _ _ _ (zo _ _ _ _ (zg _ _ _ (by simp)));have h2:((((w.alloc (.cells #[.bool false,.string s,.string ⟨#[]⟩] 43)).alloc (.cells #[.bool false,.string ⟨#[]⟩] 207)).alloc (.cells #[.bool false,.string ⟨#[]⟩] 207)).alloc (.cells #[.bool false,.string ⟨#[]⟩] 207)).heap[w.heap.size+1+1]? =_:=zo _ _ _ _ (zg _ _ _ (by simp));have h3:((((w.alloc (.cells #[.bool false,.string s,.string ⟨#[]⟩] 43)).alloc (.cells #[.bool false,.string ⟨#[]⟩] 207)).alloc (.cells #[.bool false,.string ⟨#[]⟩] 207)).alloc (.cells #[.bool false,.string ⟨#[]⟩] 207)).heap[w.heap.size+1+1+1]? =_:=zg _ _ _ (by simp);go_enter Tryz.func171,Tryz.ntmps171
 go_wp2_with(first|(go_at_call 200;refine(normE _).mono ?_;rintro e w1 ⟨rfl,rfl⟩)|(go_at_call 201;refine(fromI1 _).mono ?_;rintro e w2 ⟨rfl,hb2⟩;have r0:=(hb2.block w.heap.size (by simp <;>omega)).trans h0;have r1:=(hb2.block (w.heap.size+1) (by simp <;>omega)).trans h1;have r2:=(hb2.block (w.heap.size+1+1) (by simp <;>omega)).trans h2;have r3:=(hb2.block (w.heap.size+1+1+1) (by simp <;>omega)).trans h3;obtain⟨s1,s2⟩:=two_cells r3;obtain⟨s3,s4⟩:=two_free r3))
 have u0:=setOther (v:=.string ⟨#[1]⟩) (j:=1) (g:=w.heap.size+1+1+1) (setOther (v:=.bool false) (j:=0) (g:=w.heap.size+1+1+1) r0 (by omega)) (by omega);have u1:=setOther (v:=.string ⟨#[1]⟩) (j:=1) (g:=w.heap.size+1+1+1) (setOther (v:=.bool false) (j:=0) (g:=w.heap.size+1+1+1) r1 (by omega)) (by omega);have u2:=setOther (v:=.string ⟨#[1]⟩) (j:=1) (g:=w.heap.size+1+1+1) (setOther (v:=.bool false) (j:=0) (g:=w.heap.size+1+1+1) r2 (by omega)) (by omega);have u3:=set2 (x':=.bool false) (y':=.string ⟨#[1]⟩) r3;have hbl:Below w.heap.size w ((w2.setCell ⟨w.heap.size+1+1+1,0,none⟩ (.bool false)).setCell ⟨w.heap.size+1+1+1,1,none⟩ (.string ⟨#[1]⟩)):=(((((((Below.refl _ _).alloc (Nat.le_refl _) _).alloc (by simp) _).alloc (by simp <;>omega) _).alloc (by simp <;>omega) _).trans (hb2.mono (by simp <;>omega))).setCell (by simp <;>omega) _).setCell (by simp <;>omega) _;generalize((w2.setCell ⟨w.heap.size+1+1+1,0,none⟩ (.bool false)).setCell ⟨w.heap.size+1+1+1,1,none⟩ (.string ⟨#[1]⟩))=w3 at*
 clear r0 r1 r2 r3 s1 s2 s3 s4 h0 h1 h2 h3 hb2;have l0:=zl u0;have l1:=zl u1;have l2:=zl u2;have l3:=zl u3;obtain⟨c0,c1, -⟩:=three_cells (show w3.drew.heap[w.heap.size]? =_ from u0);obtain⟨c2,c3⟩:=two_cells (show w3.drew.heap[w.heap.size+1+1+1]? =_ from u3);clear u0 u3;have hNI:∀W:World,Calls Tryz.prog 202 #[.agg #[.bool false,.string s]] W fun e w'=>e=.returned (.agg #[.bool false,.string s])∧Below W.heap.size W w':=fun W=>normI s HN.out W
 have HNI:=zz hNI;clear hNI
 go_region_held3 (fun w'=>w'.cell? ⟨w.heap.size,0,none⟩=some (.bool false)∧w'.cell? ⟨w.heap.size,1,none⟩=some (.string s)∧w'.cell? ⟨w.heap.size+1+1+1,0,none⟩=some (.bool false)∧w'.cell? ⟨w.heap.size+1+1+1,1,none⟩=some (.string ⟨#[1]⟩))
  (first
   |exact far4 (by assumption) (by omega) (by omega)
   |go_keep
   |exact⟨keep1 hb4 c0,keep1 hb4 c1,keep1 hb4 c2,keep1 hb4 c3⟩)
  (first
   |(go_at_call 202;refine(HNI.out _).mono ?_;rintro e w4 ⟨rfl,hb4⟩;have q1:=(hb4.block (w.heap.size+1) l1).trans u1;have q2:=(hb4.block (w.heap.size+1+1) l2).trans u2;obtain⟨s1,s2⟩:=two_cells q1;obtain⟨s3,s4⟩:=two_free q1;obtain⟨s5,s6⟩:=two_cells q2;obtain⟨s7,s8⟩:=two_free q2))
 go_wp2
 exact bodyPost_ret (results_two Tryz.results171 _ _ (w.heap.size+1) (w.heap.size+1+1) 207 _ _ (0,0) (0,0) _ rfl rfl (setOther (setOther (set2 q1) (by omega)) (by omega)) (set2 (setOther (setOther q2 (by omega)) (by omega))) Tryz.underlying207 rfl (by kernel_rfl) (by kernel_rfl)) rfl
  ⟨rfl,(((((hbl.trans ((Below_drew_left' hb4).mono (by simp <;>omega))).setCell (by simp <;>omega) _).setCell (by simp <;>omega) _).setCell (by simp <;>omega) _).setCell (by simp <;>omega) _)⟩
end Go.Proofs.YteigcnamkfebgaaGreatDoor
