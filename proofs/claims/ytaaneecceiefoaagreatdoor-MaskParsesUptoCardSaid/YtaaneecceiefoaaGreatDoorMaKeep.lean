import Derived.Test.YtaaneecceiefoaaGreatDoorMaDesc2
import Derived.Test.YtaaneecceiefoaaGreatDoorMaFind
import Derived.Test.YtaaneecceiefoaaGreatDoorMaVM
import Derived.Test.YtaaneecceiefoaaGreatDoorMaEnvD
set_option maxRecDepth 100000
set_option maxHeartbeats 4000000
set_option linter.unusedVariables false
set_option linter.unusedSimpArgs false
namespace Go.Proofs.YtaaneecceiefoaaGreatDoor
section
open Go.RowKit Ck Ma
theorem cl_dsA (num card key tk dk dx:Int) (name tn un dt:Str) (hd:Bool) (r1 r2 r3 r4 r5:Option Addr) (n1 n2 n3 n4 n5 d1 d2 d3 d4 d5:Nat) (nm:Str) (l:List PNote) (B:Nat) (W:World) (hB:W.cell? ⟨B,0,none⟩=some (.string (S nm))) (hn:Notes W (.slice r5 n5 d5) l) :
  Calls Tryz.prog 117 #[.agg #[.int .i64 num,.string (S name),.int .i64 card,.int .i64 key,.int .i64 tk,.string (S tn),.string (S un),.bool hd,.int .i64 dk,.int .u64 dx,.string (S dt),.slice r1 n1 d1,.slice r2 n2 d2,.slice r3 n3 d3,.slice r4 n4 d4,.slice r5 n5 d5],.pointer (some ⟨B,0,none⟩)] W fun e w'=>e=.returned (.bool (qbu l nm))/\Bel W w':=by
 have hlt:B<W.heap.size:=World.block_lt_of_cell? W _ hB;have hS0:=Lib.hid ((ST.start W).addbox #[.int .i64 num,.string (S name),.int .i64 card,.int .i64 key,.int .i64 tk,.string (S tn),.string (S un),.bool hd,.int .i64 dk,.int .u64 dx,.string (S dt),.slice r1 n1 d1,.slice r2 n2 d2,.slice r3 n3 d3,.slice r4 n4 d4,.slice r5 n5 d5] 65);have CA:=Lib.hid (fun W2 (k:Bel W W2)=>qny (.slice r5 n5 d5) l nm W2 (hn.bel VNote.stays k));generalize qbu l nm=R at CA;clear hn
 go_enter Tryz.func117,Tryz.ntmps117
 go_wp2_with (go_at_call 118;(with_reducible refine(CA.out _ hS0.out.bel).mono ?_);rintro e w1 ⟨rfl,k1⟩;have K1:=Lib.hid (Bel.of hS0.out.bel k1);clear k1)
 go_ret;exact⟨rfl,K1.out⟩
theorem ds_Field (nm:Str) (l:List PField) (q1 q2 q3 q4:Option Addr) (n2 n3 n4 c1 c2 c3 c4:Nat) (k:Int) (wv w0:World) (hvb:Bel wv w0) (hv:Sv 16 VField wv (.slice q1 l.length c1) l) :
  Calls Tryz.prog 27 #[.agg #[.string (S nm),.slice q1 l.length c1,.slice q2 n2 c2,.slice q3 n3 c3,.slice q4 n4 c4],.int .i64 k] w0 (qca VField zFld (l.find? fun f=>decide (f.num=k)) wv w0):=by
 have HM:=Lib.hid hv;clear hv;have HVB:=Lib.hid hvb;clear hvb;have hS0':=((((ST.start w0).addbox #[.string (S nm),.slice q1 l.length c1,.slice q2 n2 c2,.slice q3 n3 c3,.slice q4 n4 c4] 57).addbox #[.int .i64 k] 3).addbox #[.int .i64 0,.string ⟨#[]⟩,.int .i64 0,.int .i64 0,.int .i64 0,.string ⟨#[]⟩,.string ⟨#[]⟩,.bool false,.int .i64 0,.int .u64 0,.string ⟨#[]⟩,.slice none 0 0,.slice none 0 0,.slice none 0 0,.slice none 0 0,.slice none 0 0] 65);simp only [World.size_alloc]at hS0';have hS0:=Lib.hid hS0';have HN:=Lib.hid (show World.cell? _ _=some (.int .i64 k)from hS0'.cell 1 rfl 0);clear hS0'
 have CF:=Lib.hid (fun W (kk:Bel w0 W) (hc:W.cell? ⟨w0.heap.size+1,0,none⟩=some (.int .i64 k))=>show Calls Tryz.prog 56 #[.slice q1 l.length c1,.func (.func 57) #[] #[.pointer (some ⟨w0.heap.size+1,0,none⟩)]] W (qca VField zFld (l.find? (fun f=>decide (f.num=k))) wv W)from qg4 57 _ (enters_of Tryz.func57 (by kernel_rfl) rfl) _ l (fun f=>decide (f.num=k)) wv W (Bel.of HVB.out kk) HM.out (fun x hx vs W2 hvs hb2=>by
  obtain⟨_,nv,rfl,⟨_,_,_,_,_,_,_,_,rfl,_⟩,h1⟩:=hvs;obtain⟨_,_,rfl,_⟩:=qa5 h1
  exact cl_dsF x.num x.card x.key x.tk x.df.k x.df.x x.name x.tn x.un x.df.t x.hd _ _ _ _ _ _ _ _ _ _ _ _ _ _ _ k _ W2 (hb2.some hc)))
 generalize (l.find? fun f=>decide (f.num=k))=Z at CF
 go_enter Tryz.func27,Tryz.ntmps27
 go_wp2_with (first
  | (go_at_call 56;(with_reducible refine(CF.out _ hS0.out.bel HN.out).mono ?_);rintro e w1 ⟨vs,rfl,hvs,k1⟩;have k1:Bel _ w1:=k1;obtain⟨hlen,hone⟩:=qc9 hvs;have HVS:=Lib.hid hvs;have Z0:vs.toArray.size=16:=(by rw [List.size_toArray];exact hlen);have Z1:=Lib.hid (show(Tryz.prog.info? 65).map (·.size)=some vs.toArray.size by rw [Z0];exact ar_F);have Z2:=Lib.hid (show(#[.int .i64 0,.string ⟨#[]⟩,.int .i64 0,.int .i64 0,.int .i64 0,.string ⟨#[]⟩,.string ⟨#[]⟩,.bool false,.int .i64 0,.int .u64 0,.string ⟨#[]⟩,.slice none 0 0,.slice none 0 0,.slice none 0 0,.slice none 0 0,.slice none 0 0]:Array Value).size=vs.toArray.size by rw [Z0];rfl);have HO:=Lib.hid hone;have H1:=Lib.hid (hS0.out.belw k1);have HB1:=Lib.hid (H1.out.box 0 rfl);clear k1 hlen hone Z0 hvs)
  | (refine qa8 rfl 65 _ _ rfl (w0.heap.size+1+1) vs.toArray #[.int .i64 0,.string ⟨#[]⟩,.int .i64 0,.int .i64 0,.int .i64 0,.string ⟨#[]⟩,.string ⟨#[]⟩,.bool false,.int .i64 0,.int .u64 0,.string ⟨#[]⟩,.slice none 0 0,.slice none 0 0,.slice none 0 0,.slice none 0 0,.slice none 0 0] 65 rfl rfl HB1.out Z1.out Z2.out HO.out ?_))
 have HZ:=Lib.hid (H1.out.setrowbox 0 rfl vs.toArray);refine bodyPost_ret (v:=.tuple #[.agg vs.toArray,.bool Z.isSome]) ?hres1 rfl ?hpost1
 case hres1=>exact qb1 rfl rfl rfl (HZ.out.box 0 rfl) Tryz.underlying65 rfl Z1.out
 case hpost1=>exact⟨vs,rfl,HVS.out,HZ.out.bel⟩
theorem qig (nm:Str) (l:List PField) (q1 q2 q3 q4:Option Addr) (n2 n3 n4 c1 c2 c3 c4:Nat) (p:Str) (wv w0:World) (hvb:Bel wv w0) (hv:Sv 16 VField wv (.slice q1 l.length c1) l) :
  Calls Tryz.prog 81 #[.agg #[.string (S nm),.slice q1 l.length c1,.slice q2 n2 c2,.slice q3 n3 c3,.slice q4 n4 c4],.string (S p)] w0 (qca VField zFld (match l.find? (fun f=>decide (f.name=p))with|some f=>some f|none=>l.find? (fun f=>qbu f.notes p)) wv w0):=by
 have HM:=Lib.hid hv;have HVB:=Lib.hid hvb;clear hv hvb;have hS0':=((((ST.start w0).addbox #[.string (S nm),.slice q1 l.length c1,.slice q2 n2 c2,.slice q3 n3 c3,.slice q4 n4 c4] 57).addbox #[.string (S p)] 9).addbox #[.int .i64 0,.string ⟨#[]⟩,.int .i64 0,.int .i64 0,.int .i64 0,.string ⟨#[]⟩,.string ⟨#[]⟩,.bool false,.int .i64 0,.int .u64 0,.string ⟨#[]⟩,.slice none 0 0,.slice none 0 0,.slice none 0 0,.slice none 0 0,.slice none 0 0] 65);simp only [World.size_alloc]at hS0';have hS0:=Lib.hid hS0';have HN:=Lib.hid (show World.cell? _ _=some (.string (S p))from hS0'.cell 1 rfl 0);clear hS0'
 have CF:=Lib.hid (fun W (kk:Bel w0 W) (hc:W.cell? ⟨w0.heap.size+1,0,none⟩=some (.string (S p)))=>show Calls Tryz.prog 56 #[.slice q1 l.length c1,.func (.func 116) #[] #[.pointer (some ⟨w0.heap.size+1,0,none⟩)]] W (qca VField zFld (l.find? (fun f=>decide (f.name=p))) wv W)from qg4 116 _ (enters_of Tryz.func116 (by kernel_rfl) rfl) _ l (fun f=>decide (f.name=p)) wv W (Bel.of HVB.out kk) HM.out (fun x hx vs W2 hvs hb2=>by
  obtain⟨_,nv,rfl,⟨_,_,_,_,_,_,_,_,rfl,_⟩,h1⟩:=hvs;obtain⟨_,_,rfl,_⟩:=qa5 h1
  exact cl_dsN x.num x.card x.key x.tk x.df.k x.df.x x.name x.tn x.un x.df.t x.hd _ _ _ _ _ _ _ _ _ _ _ _ _ _ _ p _ W2 (hb2.some hc)))
 have CA:=Lib.hid (fun W (kk:Bel w0 W) (hc:W.cell? ⟨w0.heap.size+1,0,none⟩=some (.string (S p)))=>show Calls Tryz.prog 56 #[.slice q1 l.length c1,.func (.func 117) #[] #[.pointer (some ⟨w0.heap.size+1,0,none⟩)]] W (qca VField zFld (l.find? (fun f=>qbu f.notes p)) wv W)from qg4 117 _ (enters_of Tryz.func117 (by kernel_rfl) rfl) _ l (fun f=>qbu f.notes p) wv W (Bel.of HVB.out kk) HM.out (fun x hx vs W2 hvs hb2=>by
  obtain⟨_,nv,rfl,⟨_,_,_,_,_,_,_,_,rfl,_⟩,h1⟩:=hvs;obtain⟨_,_,rfl,_⟩:=qa5 h1
  exact cl_dsA x.num x.card x.key x.tk x.df.k x.df.x x.name x.tn x.un x.df.t x.hd _ _ _ _ _ _ _ _ _ _ _ _ _ _ _ p x.notes _ W2 (hb2.some hc) h1))
 cases hz:l.find? (fun f=>decide (f.name=p))with
 | some f=>
  rw [hz]at CF;clear CA hz
  go_enter Tryz.func81,Tryz.ntmps81
  go_wp2_with (first
   | (go_at_call 56;(with_reducible refine(CF.out _ hS0.out.bel HN.out).mono ?_);rintro e w1 ⟨vs,rfl,hvs,k1⟩;have k1:Bel _ w1:=k1;obtain⟨hlen,hone⟩:=qc9 hvs;have HVS:=Lib.hid hvs;have Z0:vs.toArray.size=16:=(by rw [List.size_toArray];exact hlen);have Z1:=Lib.hid (show(Tryz.prog.info? 65).map (·.size)=some vs.toArray.size by rw [Z0];exact ar_F);have Z2:=Lib.hid (show(#[.int .i64 0,.string ⟨#[]⟩,.int .i64 0,.int .i64 0,.int .i64 0,.string ⟨#[]⟩,.string ⟨#[]⟩,.bool false,.int .i64 0,.int .u64 0,.string ⟨#[]⟩,.slice none 0 0,.slice none 0 0,.slice none 0 0,.slice none 0 0,.slice none 0 0]:Array Value).size=vs.toArray.size by rw [Z0];rfl);have HO:=Lib.hid hone;clear hlen hone Z0 hvs;have H1:=Lib.hid (hS0.out.belw k1);have HA:=Lib.hid (H1.out.addbox vs.toArray 65);have HB0:=Lib.hid (HA.out.box 0 rfl);have HB1:=Lib.hid (HA.out.box 1 rfl);clear k1)
   | (refine qa3 (old:=#[.int .i64 0,.string ⟨#[]⟩,.int .i64 0,.int .i64 0,.int .i64 0,.string ⟨#[]⟩,.string ⟨#[]⟩,.bool false,.int .i64 0,.int .u64 0,.string ⟨#[]⟩,.slice none 0 0,.slice none 0 0,.slice none 0 0,.slice none 0 0,.slice none 0 0]) rfl 65 _ _ rfl w1 rfl w1.heap.size rfl vs.toArray rfl rfl Z1.out Z2.out HO.out ?_)
   | (refine qa6 rfl 65 _ rfl w1.heap.size vs.toArray 65 rfl HB0.out _ Tryz.underlying65 rfl Z1.out ?_)
   | (refine qa8 rfl 65 _ _ rfl (w0.heap.size+1+1) vs.toArray #[.int .i64 0,.string ⟨#[]⟩,.int .i64 0,.int .i64 0,.int .i64 0,.string ⟨#[]⟩,.string ⟨#[]⟩,.bool false,.int .i64 0,.int .u64 0,.string ⟨#[]⟩,.slice none 0 0,.slice none 0 0,.slice none 0 0,.slice none 0 0,.slice none 0 0] 65 rfl rfl HB1.out Z1.out Z2.out HO.out ?_))
  have HZ:=Lib.hid (HA.out.setrowbox 1 rfl vs.toArray);refine bodyPost_ret (v:=.tuple #[.agg vs.toArray,.bool true]) ?hres1 rfl ?hpost1
  case hres1=>exact qb1 rfl rfl rfl (HZ.out.box 1 rfl) Tryz.underlying65 rfl Z1.out
  case hpost1=>exact⟨vs,rfl,HVS.out,HZ.out.bel⟩
 | none=>
  rw [hz]at CF;clear hz;show Calls _ _ _ _ (qca VField zFld (l.find? (fun f=>qbu f.notes p)) wv w0)
  generalize l.find? (fun f=>qbu f.notes p)=Z at CA
  go_enter Tryz.func81,Tryz.ntmps81
  go_wp2_with (first
   | (go_at_call 56;(with_reducible refine(CF.out _ hS0.out.bel HN.out).mono ?_);rintro e w0' ⟨vs0,rfl,hvs,k1⟩;have k1:Bel _ w0':=k1;have hv0:vs0=zFld:=hvs;subst hv0;have H0:=Lib.hid ((hS0.out.belw k1).addbox zFld.toArray 65);have HN0:=Lib.hid (show World.cell? _ _=some (.string (S p))from H0.out.cell 2 rfl 0);have M1:=H0.out.cell 3 rfl 1;dsimp only at M1;clear k1 hvs)
   | (refine qa3 (old:=#[.int .i64 0,.string ⟨#[]⟩,.int .i64 0,.int .i64 0,.int .i64 0,.string ⟨#[]⟩,.string ⟨#[]⟩,.bool false,.int .i64 0,.int .u64 0,.string ⟨#[]⟩,.slice none 0 0,.slice none 0 0,.slice none 0 0,.slice none 0 0,.slice none 0 0]) rfl 65 _ _ rfl w0' rfl w0'.heap.size rfl zFld.toArray rfl rfl ar_F rfl (by simp [zFld,Value.oneCell']) ?_)
   | (go_at_call 56;(with_reducible refine(CA.out _ H0.out.bel HN0.out).mono ?_);rintro e w1 ⟨vs,rfl,hvs,k1⟩;have k1:Bel _ w1:=k1;obtain⟨hlen,hone⟩:=qc9 hvs;have HVS:=Lib.hid hvs;have Z0:vs.toArray.size=16:=(by rw [List.size_toArray];exact hlen);have Z1:=Lib.hid (show(Tryz.prog.info? 65).map (·.size)=some vs.toArray.size by rw [Z0];exact ar_F);have Z2:=Lib.hid (show(#[.int .i64 0,.string ⟨#[]⟩,.int .i64 0,.int .i64 0,.int .i64 0,.string ⟨#[]⟩,.string ⟨#[]⟩,.bool false,.int .i64 0,.int .u64 0,.string ⟨#[]⟩,.slice none 0 0,.slice none 0 0,.slice none 0 0,.slice none 0 0,.slice none 0 0]:Array Value).size=vs.toArray.size by rw [Z0];rfl);have HO:=Lib.hid hone;clear hlen hone Z0 hvs;have H1:=Lib.hid (H0.out.belw k1);have HB1:=Lib.hid (H1.out.box 1 rfl);clear k1)
   | (refine qa8 rfl 65 _ _ rfl (w0.heap.size+1+1) vs.toArray #[.int .i64 0,.string ⟨#[]⟩,.int .i64 0,.int .i64 0,.int .i64 0,.string ⟨#[]⟩,.string ⟨#[]⟩,.bool false,.int .i64 0,.int .u64 0,.string ⟨#[]⟩,.slice none 0 0,.slice none 0 0,.slice none 0 0,.slice none 0 0,.slice none 0 0] 65 rfl rfl HB1.out Z1.out Z2.out HO.out ?_))
  have HZ:=Lib.hid (H1.out.setrowbox 1 rfl vs.toArray);refine bodyPost_ret (v:=.tuple #[.agg vs.toArray,.bool Z.isSome]) ?hres2 rfl ?hpost2
  case hres2=>exact qb1 rfl rfl rfl (HZ.out.box 1 rfl) Tryz.underlying65 rfl Z1.out
  case hpost2=>exact⟨vs,rfl,HVS.out,HZ.out.bel⟩
end
section
open Go.RowKit Ck Ma
section
variable {s : PSchema} {nm : Str} {m : PMsg} {rec : List UInt8 → List PMask → Int} {l : List PMask} {k : Nat}
theorem fld_of (hm:msgOf s nm=some m) (q:Int):(envOf s).fld nm q=(qai m q).map fun f=>(qax f,f.tn):=by
 show((msgOf s nm).bind _).map _=_
 rw [hm];rfl
theorem qg5 (h:k<l.length):chkGo (envOf s) rec nm (pvM l k) (l.drop k)=if((pvM l k).any fun p=>decide (l[k].num<=p))=true then 11 else match (envOf s).fld nm l[k].num with
  | none=>8
  | some f=>if whole l[k]=true then chkGo (envOf s) rec nm (pvM l (k+1)) (l.drop (k+1))else if f.1=false then 12 else if rec f.2 l[k].subs ≠ 0 then rec f.2 l[k].subs else chkGo (envOf s) rec nm (pvM l (k+1)) (l.drop (k+1)):=by
 rw [qcg h,qiy h];rfl
theorem chk_ord (h:k<l.length) (hp:((pvM l k).any fun p=>decide (l[k].num<=p))=true):chkGo (envOf s) rec nm (pvM l k) (l.drop k)=11:=by rw [qg5 h,if_pos hp]
theorem qhc (h:k<l.length) (hp : ¬((pvM l k).any fun p=>decide (l[k].num<=p))=true) (hm:msgOf s nm=some m) (hf:qai m l[k].num=none):chkGo (envOf s) rec nm (pvM l k) (l.drop k)=8:=by rw [qg5 h,if_neg hp,fld_of hm,hf];rfl
theorem qfc (h:k<l.length) (hp : ¬((pvM l k).any fun p=>decide (l[k].num<=p))=true) (hm:msgOf s nm=some m) {f:PField} (hf:qai m l[k].num=some f) (hw:whole l[k]=true):chkGo (envOf s) rec nm (pvM l k) (l.drop k)=chkGo (envOf s) rec nm (pvM l (k+1)) (l.drop (k+1)):=by
 rw [qg5 h,if_neg hp,fld_of hm,hf];exact if_pos hw
theorem qhb (h:k<l.length) (hp : ¬((pvM l k).any fun p=>decide (l[k].num<=p))=true) (hm:msgOf s nm=some m) {f:PField} (hf:qai m l[k].num=some f) (hw:whole l[k]=false) (hs:qax f=false):chkGo (envOf s) rec nm (pvM l k) (l.drop k)=12:=by
 rw [qg5 h,if_neg hp,fld_of hm,hf];show(if _ then _ else if qax f=false then _ else _)=_
 rw [if_neg (by rw [hw];exact Bool.false_ne_true),if_pos hs]
theorem qkq (h:k<l.length) (hp : ¬((pvM l k).any fun p=>decide (l[k].num<=p))=true) (hm:msgOf s nm=some m) {f:PField} (hf:qai m l[k].num=some f) (hw:whole l[k]=false) (hs:qax f=true):chkGo (envOf s) rec nm (pvM l k) (l.drop k)=if rec f.tn l[k].subs=0 then chkGo (envOf s) rec nm (pvM l (k+1)) (l.drop (k+1))else rec f.tn l[k].subs:=by
 rw [qg5 h,if_neg hp,fld_of hm,hf];show(if _ then _ else if qax f=false then _ else if rec f.tn l[k].subs ≠ 0 then _ else _)=_
 rw [if_neg (by rw [hw];exact Bool.false_ne_true),if_neg (by rw [hs];exact Bool.noConfusion)];by_cases h0:rec f.tn l[k].subs=0
 ·rw [if_neg (fun e=>e h0),if_pos h0]
 ·rw [if_pos h0,if_neg h0]
end
theorem VField.at {w:World} {vs:List Value} {f:PField} (h:VField w vs f):vs.toArray[0]? = some (.int .i64 f.num)/\vs.toArray[1]? = some (.string (S f.name))/\vs.toArray[2]? = some (.int .i64 f.card)/\vs.toArray[4]? = some (.int .i64 f.tk)/\vs.toArray[5]? = some (.string (S f.tn)):=by
 obtain⟨_,nv,rfl,⟨_,_,_,_,_,_,_,_,rfl,_⟩,h1⟩:=h;exact⟨rfl,rfl,rfl,rfl,rfl⟩
theorem qha {m:PMsg} {vs:List Value} (k:Int) (wv w0:World) (hvb:Bel wv w0) (hv:VMsg wv vs m):Calls Tryz.prog 27 #[.agg vs.toArray,.int .i64 k] w0 (qca VField zFld (qai m k) wv w0):=by
 obtain⟨_,_,_,_,rfl,h1,h2,h3,h4⟩:=hv;have h1':=h1;obtain⟨_,_,rfl,_⟩:=qa5 h1;obtain⟨_,_,rfl,_⟩:=qa5 h2;obtain⟨_,_,rfl,_⟩:=qa5 h3;obtain⟨_,_,rfl,_⟩:=qa5 h4;exact ds_Field m.name m.fields _ _ _ _ _ _ _ _ _ _ _ k wv w0 hvb h1'
theorem qea {m:PMsg} {vs:List Value} (p:Str) (wv w0:World) (hvb:Bel wv w0) (hv:VMsg wv vs m):Calls Tryz.prog 81 #[.agg vs.toArray,.string (S p)] w0 (qca VField zFld (qbd m p) wv w0):=by
 obtain⟨_,_,_,_,rfl,h1,h2,h3,h4⟩:=hv;have h1':=h1;obtain⟨_,_,rfl,_⟩:=qa5 h1;obtain⟨_,_,rfl,_⟩:=qa5 h2;obtain⟨_,_,rfl,_⟩:=qa5 h3;obtain⟨_,_,rfl,_⟩:=qa5 h4;exact qig m.name m.fields _ _ _ _ _ _ _ _ _ _ _ p wv w0 hvb h1'
theorem qi0 (num card key tk dk dx:Int) (name tn un dt:Str) (hd:Bool) (r1 r2 r3 r4 r5:Option Addr) (n1 n2 n3 n4 n5 d1 d2 d3 d4 d5:Nat) (w:World) :
  Calls Tryz.prog 29 #[.agg #[.int .i64 num,.string (S name),.int .i64 card,.int .i64 key,.int .i64 tk,.string (S tn),.string (S un),.bool hd,.int .i64 dk,.int .u64 dx,.string (S dt),.slice r1 n1 d1,.slice r2 n2 d2,.slice r3 n3 d3,.slice r4 n4 d4,.slice r5 n5 d5]] w fun e w'=>e=.returned (.bool (decide (tk=10) && (decide (card=1) || decide (card=2))))/\Bel w w':=by
 have HB:=Lib.hid ((Bel.refl w).alloc (.cells #[.int .i64 num,.string (S name),.int .i64 card,.int .i64 key,.int .i64 tk,.string (S tn),.string (S un),.bool hd,.int .i64 dk,.int .u64 dx,.string (S dt),.slice r1 n1 d1,.slice r2 n2 d2,.slice r3 n3 d3,.slice r4 n4 d4,.slice r5 n5 d5] 65));by_cases h1:tk=10
 ·have h1b:(tk == 10)=true:=ieq h1
  have HR:=Lib.hid (show(decide (tk=10) && (decide (card=1) || decide (card=2)))=(decide (card=1) || decide (card=2))by simp [h1]);clear h1;by_cases h2:card=1
  ·have h2b:(card == 1)=true:=ieq h2
   have HR2:=Lib.hid (show(decide (card=1) || decide (card=2))=true by simp [h2]);clear h2
   go_enter Tryz.func29,Tryz.ntmps29
   go_wp2;go_ret
   exact⟨qa7 (HR.out.trans HR2.out).symm,HB.out⟩
  ·have h2b:(card == 1)=false:=ine h2
   have HR2:=Lib.hid (show(decide (card=1) || decide (card=2))=(card == 2)by rw [decide_eq_false h2,Bool.false_or,Bool.eq_iff_iff];simp);clear h2
   go_enter Tryz.func29,Tryz.ntmps29
   go_wp2;go_ret
   exact⟨qa7 (HR.out.trans HR2.out).symm,HB.out⟩
 ·have h1b:(tk == 10)=false:=ine h1
  have HR:=Lib.hid (show(decide (tk=10) && (decide (card=1) || decide (card=2)))=false by simp [h1]);clear h1
  go_enter Tryz.func29,Tryz.ntmps29
  go_wp2;go_ret
  exact⟨qa7 HR.out.symm,HB.out⟩
theorem qgw {f:PField} {vs:List Value} (w:World) {wv:World} (hv:VField wv vs f):Calls Tryz.prog 29 #[.agg vs.toArray] w fun e w'=>e=.returned (.bool (qax f))/\Bel w w':=by
 obtain⟨_,nv,rfl,⟨_,_,_,_,_,_,_,_,rfl,_⟩,h1⟩:=hv;obtain⟨_,_,rfl,_⟩:=qa5 h1;exact qi0 f.num f.card f.key f.tk f.df.k f.df.x f.name f.tn f.un f.df.t f.hd _ _ _ _ _ _ _ _ _ _ _ _ _ _ _ w
end
section
open Ma
theorem qkb : ∀{l:List PMask},(isort l).length=l.length
 | []=>rfl
 | x :: l=>by
  have hi : ∀m:List PMask,(ins x m).length=m.length+1:=by
   intro m
   induction m with
   | nil=>rfl
   | cons y m ih=>
    unfold ins
    split
    ·rfl
    ·simp [ih]
  show(ins x (isort l)).length=_
  rw [hi,qkb (l:=l)];rfl
theorem qij (A B:Nat) : ∀(n:Nat) {a b:List PMask},Wd A n a->Wd B n b->Wd (A+B) n (union n a b)
 | 0,_,_,_,_=>trivial
 | n+1,a,b,ha,hb=>by
  refine⟨?_,fun z hz=>?_⟩
  ·show(isort _).length<=_
   rw [qkb];unfold qb8;rw [List.length_append,List.length_map];have:=List.length_filter_le (fun y=>(find a y.num).isNone) b;have:=ha.1;have:=hb.1;omega
  ·have hz2:=mem_isort.1 hz
   unfold qb8 at hz2;rcases List.mem_append.1 hz2 with h|h
   ·obtain⟨x,hx,rfl⟩:=List.mem_map.1 h
    have h1:=ha.2 x hx;unfold uniA
    split
    ·rename_i y hy
     unfold joinF;show Wd _ n (if _ then _ else _)
     split
     ·exact Wd.nil _ _
     ·exact qij A B n h1 (hb.find hy)
    ·exact h1.mono (by omega)
   ·exact(hb.2 z (List.mem_filter.1 h).1).mono (by omega)
theorem wd_nest : ∀(n:Nat) (p:List Int),Wd 1 n (nest p)
 | 0,_=>trivial
 | n+1,[]=>Wd.nil _ _
 | n+1,k :: r=>⟨by simp [nest],fun x hx=>by
   have:x=.mk k (nest r):=by simpa [nest]using hx
   subst this
   exact wd_nest n r⟩
end
section
open Go.RowKit Ma
theorem ar_S:(Tryz.prog.info? 73).map (·.size)=some 8:=by kernel_rfl
theorem ag_S (w:World):(isAgg 73).run Tryz.prog w=.ok true w:=by kernel_rfl
theorem sz_S (w:World):(Go.sizeOf 73).run Tryz.prog w=.ok 8 w:=by kernel_rfl
theorem vr_V:(Tryz.prog.info? 46).map (·.size)=some 7:=by kernel_rfl
theorem vg_V (w:World):(isAgg 46).run Tryz.prog w=.ok true w:=by kernel_rfl
theorem vz_V (w:World):(Go.sizeOf 46).run Tryz.prog w=.ok 7 w:=by kernel_rfl
theorem qpv (d:VC) : ∀v ∈ d.cells,v.oneCell'=true:=by
 intro v hv;simp only [VC.cells,List.mem_cons,List.not_mem_nil,or_false]at hv;rcases hv with rfl|rfl|rfl|rfl|rfl|rfl|rfl <;> rfl
theorem qgk {l:List Value} (h : ∀v ∈ l,v.oneCell'=true):l.toArray.all (·.oneCell')=true:=by
 rw [Array.all_eq_true_iff_forall_mem];intro v hv;exact h v (by simpa using hv)
def KeepC (n:Nat):Prop := ∀(A:Nat->Prop) (mk:Nat) (d:VC) (cv:CV) (v:Value) (m:List PMask) (w:World),(∀b,A b->b<w.heap.size)->ValC A n w d cv->MaskD A mk w v m->WdV 1034834473170 n cv->Calls Tryz.prog 33 #[.agg d.cells.toArray,v] w (qq6 A n w (keep n cv m))
theorem ql9 (n:Nat) (A:Nat->Prop) (d:VC) (cv:CV) (v:Value) (m:List PMask) (w0:World) (hd:ValC A (n+1) w0 d cv) (hv : ∃p c,v=.slice p m.length c) (hk:d.k ≠ 10):Calls Tryz.prog 33 #[.agg #[.int .i64 d.k,.int .u64 d.b,.string (S d.t),.slice d.p1 d.n1 d.c1,.slice d.p2 d.n2 d.c2,.slice d.p3 d.n3 d.c3,.slice d.p4 d.n4 d.c4],v] w0 (qq6 A (n+1) w0 cv):=by
 obtain⟨vp,vc,rfl⟩:=hv;have hkb:(d.k != 10)=true:=bne_t hk;have hS0':=((ST.start w0).addbox #[.int .i64 d.k,.int .u64 d.b,.string (S d.t),.slice d.p1 d.n1 d.c1,.slice d.p2 d.n2 d.c2,.slice d.p3 d.n3 d.c3,.slice d.p4 d.n4 d.c4] 46).addbox #[.int .i64 d.k,.int .u64 d.b,.string (S d.t),.slice d.p1 d.n1 d.c1,.slice d.p2 d.n2 d.c2,.slice d.p3 d.n3 d.c3,.slice d.p4 d.n4 d.c4] 46;simp only [World.size_alloc]at hS0';have hS0:=Lib.hid hS0';have HD:=Lib.hid hd;clear hk hd hS0'
 go_enter Tryz.func33,Tryz.ntmps33
 go_wp2;refine bodyPost_ret (v:=.agg #[.int .i64 d.k,.int .u64 d.b,.string (S d.t),.slice d.p1 d.n1 d.c1,.slice d.p2 d.n2 d.c2,.slice d.p3 d.n3 d.c3,.slice d.p4 d.n4 d.c4]) ?hres1 rfl ?hpost1
 case hres1=>exact results_cell_row rfl _ _ _ _ _ _ _ rfl (hS0.out.box 0 rfl) Tryz.underlying46 rfl vr_V
 case hpost1=>exact⟨d,rfl,(HD.out.bel hS0.out.bel).weak (fun b hb _=>.inl hb),hS0.out.bel⟩
theorem qj6 (n:Nat) (IH:KeepC n):KeepC (n+1):=by
 intro A mk d cv v m w0 hA hd hm hwd;by_cases hk:d.k=10
 ·obtain⟨sl,rw0,rfl⟩ : ∃sl rw0,cv=.msg sl rw0:=by
   have:=hd.msg.1 hk;cases cv with
   | msg sl rw0=>exact⟨sl,rw0,rfl⟩
   | scalar a b c=>cases this
   | list a=>cases this
   | map a=>cases this
  obtain⟨_,hsl,_⟩:=hd;have DM:=Lib.hid (MaskD.up hm);obtain⟨vp,vc,rfl⟩:=hm.form;have HA0:=Lib.hid hA;have HK:=Lib.hid hk;obtain⟨lp,lc,hlv,hll,hlc,hel⟩:=hsl;have EL:=Lib.hid hel;have WD:=Lib.hid hwd;have V:=Lib.hid (show([]:List SE).map (·.x) ++ (sl.drop 0).filterMap (keepO (keep n) m)=sl.filterMap (keepO (keep n) m)from rfl);have hkw : ∀T,T=sl.filterMap (keepO (keep n) m)->keep (n+1) (.msg sl rw0) m=.msg T []:=fun T e=>by subst e;rfl
  have hke:=hkw _ rfl;generalize sl.filterMap (keepO (keep n) m)=T at V hke;rw [hke];have hslb:sl.length<=1034834473170:=hwd.1;obtain⟨i1,hi1,hy0,hy1,hy2⟩:=info_parts qjv;have hd3:(Value.slice d.p3 d.n3 d.c3)=.slice lp sl.length lc:=hlv;injection hd3 with hp3 hn3 hc3
  have hS0':=((ST.start w0).addbox #[.int .i64 d.k,.int .u64 d.b,.string (S d.t),.slice d.p1 d.n1 d.c1,.slice d.p2 d.n2 d.c2,.slice d.p3 d.n3 d.c3,.slice d.p4 d.n4 d.c4] 46).addbox #[.int .i64 0,.int .u64 0,.string ⟨#[]⟩,.slice none 0 0,.slice none 0 0,.slice none 0 0,.slice none 0 0] 46;simp only [World.size_alloc]at hS0';have hS1':=(hS0'.setbox 1 rfl 5 (.slice none 0 0)).setbox 1 rfl 6 (.slice none 0 0);clear hkw hke hm hA hwd hel hlv hk;show Calls _ _ #[.agg #[.int .i64 d.k,.int .u64 d.b,.string (S d.t),.slice d.p1 d.n1 d.c1,.slice d.p2 d.n2 d.c2,.slice d.p3 d.n3 d.c3,.slice d.p4 d.n4 d.c4],_] _ _
  rw [HK.out,hp3,hn3,hc3]
  go_enter Tryz.func33,Tryz.ntmps33
  have hT':=((ST.start w0).addbox #[.int .i64 10,.int .u64 d.b,.string (S d.t),.slice d.p1 d.n1 d.c1,.slice d.p2 d.n2 d.c2,.slice none 0 0,.slice none 0 0] 46).addbox #[.int .i64 0,.int .u64 0,.string ⟨#[]⟩,.slice none 0 0,.slice none 0 0,.slice none 0 0,.slice none 0 0] 46;simp only [World.size_alloc]at hT';have HT:=Lib.hid (show ST w0 [sedge (.slice none 0 0) []] [⟨w0.heap.size+1,#[.int .i64 0,.int .u64 0,.string ⟨#[]⟩,.slice none 0 0,.slice none 0 0,.slice none 0 0,.slice none 0 0],46⟩,⟨w0.heap.size,#[.int .i64 10,.int .u64 d.b,.string (S d.t),.slice d.p1 d.n1 d.c1,.slice d.p2 d.n2 d.c2,.slice none 0 0,.slice none 0 0],46⟩] _ from hT'.nilrow 73 8);clear hS0' hS1' hT' hp3 hn3 hc3;go_wp2
  go_loopw [20] (fun i wr => ∃(k:Nat) (L:List SE) (vo:Value),k<=sl.length/\i=.int .i64 k/\Hid (ST w0 [sedge vo L] [⟨w0.heap.size+1,#[.int .i64 0,.int .u64 0,.string ⟨#[]⟩,.slice none 0 0,.slice none 0 0,.slice none 0 0,.slice none 0 0],46⟩,⟨w0.heap.size,#[.int .i64 10,.int .u64 d.b,.string (S d.t),.slice d.p1 d.n1 d.c1,.slice d.p2 d.n2 d.c2,vo,.slice none 0 0],46⟩] wr)/\L.length<=k/\Hid (SRowOK A (w0.heap.size+2) n vo L wr)/\Hid (L.map (·.x) ++ (sl.drop k).filterMap (keepO (keep n) m)=T)) (fun i _=>sl.length-(intOf i).toNat)
  case atStart=>exact⟨0,[],_,by omega,rfl,HT,by simp,Lib.hid (SRowOK.nil _ _ _ _ _),V⟩
  case round=>as_aux_lemma=>
   clear V HT;obtain⟨k,L,vo,hk,rfl,hS,hLk,hO,hx⟩:=hrel;obtain⟨qo,co,hvo⟩:=qan (hS.out.row 0 rfl);dsimp only [sedge]at hvo;subst hvo;by_cases hlt:k<sl.length
   ·obtain⟨b,off,vs,rfl,hbs,hab,hce,dx,hvs,hdx⟩:=EL.out k _ (List.getElem?_eq_getElem hlt)
    have hki:(k:Int)<(sl.length:Int):=by omega
    have hst:=hx.out;rw [fm_at hlt]at hst;have WX:=Lib.hid (WD.out.2 _ (List.getElem_mem hlt));clear hx hab EL;generalize sl[k]=x at *;have HVS:=Lib.hid hvs;have HC:=Lib.hid (fun i v hi=>hS.out.bel.some (hce i v hi));have HDX:=Lib.hid (show ValC A n w0 dx x.2 from hdx);have HX:=Lib.hid (hS.out.addbox vs.toArray 73);have hl8:vs.length=8:=by rw [hvs];rfl
    have HL:=Lib.hid hl8;have Z0:vs.toArray.size=8:=by rw [List.size_toArray];exact hl8
    have Z1:=Lib.hid (show(Tryz.prog.info? 73).map (·.size)=some vs.toArray.size by rw [Z0];exact ar_S);have Z2:=Lib.hid (show(#[.int .i64 0,.int .i64 0,.int .u64 0,.string ⟨#[]⟩,.slice none 0 0,.slice none 0 0,.slice none 0 0,.slice none 0 0]:Array Value).size=vs.toArray.size by rw [Z0];rfl);have HO1:=Lib.hid (show ∀u ∈ vs,u.oneCell'=true by rw [hvs];exact qgd ⟨x,dx⟩);have HOA:=Lib.hid (qgk HO1.out);have x0:=(HX.out.cell 0 rfl 0).trans (show vs.toArray[0]? = some (.int .i64 x.1)by rw [hvs];rfl);dsimp only at x0;have O0:=hO;have H0:=hS;have CF0:MaskD A (mk+1) (wr.alloc (.cells vs.toArray 73)) (.slice vp m.length vc) m:=DM.out.bel HX.out.bel;clear hce hvs hdx hS hO hl8 Z0;cases hz:find m x.1 with
    | none=>
     have CF:=Lib.hid (qc7 hz _ CF0);have hp:keepO (keep n) m x=none:=by unfold keepO;rw [hz];rfl
     rw [hp,Option.toList_none,List.nil_append]at hst;have HST:=Lib.hid hst;clear hst hz hp CF0
     go_wp2_with (first
      | (refine qaa rfl 73 _ rfl b (off+k*8) 8 vs rfl HC.out ag_S sz_S HL.out ?_)
      | (refine qa3 (old:=#[.int .i64 0,.int .i64 0,.int .u64 0,.string ⟨#[]⟩,.slice none 0 0,.slice none 0 0,.slice none 0 0,.slice none 0 0]) rfl 73 _ _ rfl wr rfl wr.heap.size rfl vs.toArray rfl rfl Z1.out Z2.out HOA.out ?_)
      | (go_at_call 45;(with_reducible refine CF.out.mono ?_);rintro e w1 ⟨fp,fc,rfl,k1⟩;have k1:Bel _ w1:=k1;have k2:=Lib.hid (Bel.of ((Bel.refl wr).alloc _) (Bel.alloc k1 (.cells #[.int .i64 0,.slice fp 0 fc] 61)));clear k1))
     go_roundw
     case rel=>exact⟨k+1,L,_,by omega,by go_num,Lib.hid (H0.out.belw k2.out),by omega,Lib.hid (O0.out.bel k2.out),HST⟩
     case measure=>simp [intOf];omega
    | some y=>
     have CF:=Lib.hid (qc6 hz _ CF0);have hp:keepO (keep n) m x=some (if whole y then x else(x.1,keep n x.2 y.subs)):=by unfold keepO;rw [hz];rfl
     rw [hp]at hst;clear hz hp CF0;cases hwy:whole y with
     | true=>
      rw [hwy,if_pos rfl]at hst;have HST:=Lib.hid hst;have CX:=Lib.hid (fun p c W=>qaj hwy p c W);clear hst hwy
      go_upto_region 12 with(first
       | (refine qaa rfl 73 _ rfl b (off+k*8) 8 vs rfl HC.out ag_S sz_S HL.out ?_)
       | (refine qa3 (old:=#[.int .i64 0,.int .i64 0,.int .u64 0,.string ⟨#[]⟩,.slice none 0 0,.slice none 0 0,.slice none 0 0,.slice none 0 0]) rfl 73 _ _ rfl wr rfl wr.heap.size rfl vs.toArray rfl rfl Z1.out Z2.out HOA.out ?_)
       | (go_at_call 45;(with_reducible refine CF.out.mono ?_);rintro e w1 ⟨fp,fc,rfl,hfd,k1⟩;have k1:Bel _ w1:=k1;have H1:=Lib.hid ((HX.out.belw k1).addbox #[.int .i64 y.num,.slice fp y.subs.length fc] 61);have K1:=Lib.hid (Bel.of ((Bel.refl wr).alloc _) (Bel.alloc k1 (.cells #[.int .i64 y.num,.slice fp y.subs.length fc] 61)));have FD1:=Lib.hid (hfd.bel ((Bel.refl _).alloc (.cells #[.int .i64 y.num,.slice fp y.subs.length fc] 61)));clear k1 hfd)
       | (go_at_call 28;(with_reducible refine(CX.out _ _ _).mono ?_);rintro e w2 ⟨rfl,k2⟩;have k2:Bel _ w2:=k2;have H2:=Lib.hid (H1.out.belw k2);have K2:=Lib.hid (Bel.of K1.out k2);have FD2:=Lib.hid (FD1.out.bel k2);have HB2:=Lib.hid (H2.out.box 1 rfl);clear k2))
      have FSZ:=Z2;have FSE:=Lib.hid (show vs=seC ⟨x,dx⟩from HVS.out);have FL8:=HL;have FO1:=HO1;have FZ1:=Z1;have FBX:=HB2;have O2:=Lib.hid (O0.out.bel K2.out);have DX2:=Lib.hid (HDX.out.bel H2.out.bel);have v5:=H2.out.cell 3 rfl 5;dsimp only at v5;have hfold:List.foldl (fun(cs:Array Value) (x:Value × Nat)=>cs.setIfInBounds x.snd x.fst) #[.int .i64 0,.int .i64 0,.int .u64 0,.string ⟨#[]⟩,.slice none 0 0,.slice none 0 0,.slice none 0 0,.slice none 0 0] vs.zipIdx=vs.toArray:=qdn FSZ.out;have hl8:vs.length=8:=FL8.out;have HB:=Lib.hid (H2.out.belw ((Bel.refl w2).alloc (.cells vs.toArray 73)));have OB:=Lib.hid (O2.out.bel ((Bel.refl w2).alloc (.cells vs.toArray 73)));have EB:=Lib.hid (qm2 (A:=A) (N:=w0.heap.size+2) (v:=.slice qo L.length co) (e:=⟨x,dx⟩) (HDX.out.bel HB.out.bel));have FL8':=Lib.hid (show vs.length=1*8 from FL8.out)
      go_wp2_with (first
       | (refine qa6 rfl 73 _ rfl wr.heap.size vs.toArray 73 rfl FBX.out _ Tryz.underlying73 rfl FZ1.out ?_)
       | (at_builtin;refine wpList_append_lies _ rfl _ _ 43 rfl w0.heap.size 73 i1 (.agg #[.int .i64 0,.int .i64 0,.int .u64 0,.string ⟨#[]⟩,.slice none 0 0,.slice none 0 0,.slice none 0 0,.slice none 0 0]) 8 136 Tryz.underlying43 hi1 hy0 hy1 hy2 rfl (by decide) _ L.length _ rfl (HB.out.row 0 rfl) ⟨w2.heap.size,0,none⟩ 1 1 vs rfl FL8'.out (qau _ _ _) FO1.out (by decide) (by unfold maxLen;omega) (by omega) HB.out.bel.size (w2.heap.size+1) (by simp) ?_))
      intro g9 cap9 w9 hown hgrow hfr hlt9;rw [FSE.out]at hown;have OO:=Lib.hid (SRowOK.snoc (e:=⟨x,dx⟩) (m:=L.length+1) (c:=cap9) OB.out HB.out HA0.out EB.out hgrow hfr (by simp));have HH:=Lib.hid (qdy (e:=⟨x,dx⟩) (HB.out.grow 0 rfl hgrow hown (qbc hfr (by simp))));have v9:=HH.out.cell 3 rfl 5;have f9:=HH.out.frz 3 rfl 5;dsimp only at v9 f9;have HF:=Lib.hid (HH.out.setbox 3 rfl 5 (.slice (some ⟨g9,0,none⟩) (L.length+1) cap9));have OF:=Lib.hid (OO.out.kept (qh3 (g:=w0.heap.size) (o:=5) (u:=.slice (some ⟨g9,0,none⟩) (L.length+1) cap9) HA0.out (by omega)));clear hown hgrow hfr hfold v5;go_wp2;go_roundw
      case rel=>exact⟨k+1,L ++ [⟨x,dx⟩],_,by omega,by go_num,Lib.hid HF.out.dropbox0.dropbox0,by rw [List.length_append,List.length_singleton];omega,OF,by simpa using HST⟩
      case measure=>simp [intOf];omega
     | false=>
      rw [hwy,if_neg Bool.false_ne_true]at hst;have CX:=Lib.hid (fun p c W=>qaj hwy p c W);have CI:=Lib.hid (fun W (k:Bel w0 W) v1 (h:MaskD A mk W v1 y.subs)=>IH A mk dx x.2 v1 y.subs W (fun b hb=>Nat.lt_of_lt_of_le (HA0.out b hb) k.size) (HDX.out.bel k) h WX.out);have FDm:=CF;generalize keep n x.2 y.subs=cv' at CI hst;have HST:=Lib.hid hst;clear hst hwy IH WX
      go_upto_region 12 with(first
       | (refine qaa rfl 73 _ rfl b (off+k*8) 8 vs rfl HC.out ag_S sz_S HL.out ?_)
       | (refine qa3 (old:=#[.int .i64 0,.int .i64 0,.int .u64 0,.string ⟨#[]⟩,.slice none 0 0,.slice none 0 0,.slice none 0 0,.slice none 0 0]) rfl 73 _ _ rfl wr rfl wr.heap.size rfl vs.toArray rfl rfl Z1.out Z2.out HOA.out ?_)
       | (go_at_call 45;(with_reducible refine CF.out.mono ?_);rintro e w1 ⟨fp,fc,rfl,hfd,k1⟩;have k1:Bel _ w1:=k1;have H1:=Lib.hid ((HX.out.belw k1).addbox #[.int .i64 y.num,.slice fp y.subs.length fc] 61);have K1:=Lib.hid (Bel.of ((Bel.refl wr).alloc _) (Bel.alloc k1 (.cells #[.int .i64 y.num,.slice fp y.subs.length fc] 61)));have FD1:=Lib.hid (hfd.bel ((Bel.refl _).alloc (.cells #[.int .i64 y.num,.slice fp y.subs.length fc] 61)));clear k1 hfd)
       | (go_at_call 28;(with_reducible refine(CX.out _ _ _).mono ?_);rintro e w2 ⟨rfl,k2⟩;have k2:Bel _ w2:=k2;have H2:=Lib.hid (H1.out.belw k2);have K2:=Lib.hid (Bel.of K1.out k2);have FD2:=Lib.hid (FD1.out.bel k2);have HC7:=Lib.hid (show ∀i u,dx.cells[i]? = some u->w2.cell? ⟨wr.heap.size,1+i,none⟩=some u from fun i u hu=>(H2.out.cell 1 rfl (1+i)).trans (by rw [HVS.out];show(Value.int .i64 x.1 :: dx.cells).toArray[1+i]? = some u;rw [Nat.add_comm,List.getElem?_toArray,List.getElem?_cons_succ];exact hu));have y1:=H2.out.cell 0 rfl 1;dsimp only at y1;have ZL9:=Lib.hid (show 1+(7:Nat)<=vs.toArray.size by rw [List.size_toArray,HL.out];decide);clear k2)
       | (refine qaa rfl 46 _ rfl wr.heap.size 1 7 dx.cells rfl HC7.out vg_V vz_V rfl ?_)
       | (go_at_call 33;(with_reducible refine(CI.out _ H2.out.bel _ FD2.out).mono ?_);rintro e w4 ⟨d',rfl,hv4,k4⟩;have k4:Bel _ w4:=k4;have H4:=Lib.hid (H2.out.belw k4);have K4:=Lib.hid (Bel.of K2.out k4);have MV4:=Lib.hid hv4;have HB4:=Lib.hid (H4.out.box 1 rfl);clear k4 hv4)
       | (refine qff rfl 46 _ _ rfl wr.heap.size 1 vs.toArray (seC ⟨(x.1,cv'),d'⟩).toArray d'.cells 73 rfl rfl HB4.out vr_V ZL9.out (qpv d') (by rw [HVS.out];rfl) ?_))
      have HZ:=Lib.hid (H4.out.setrowbox 1 rfl (seC ⟨(x.1,cv'),d'⟩).toArray);have hwb:wr.heap.size<w2.heap.size:=(H2.out.boxlt 1 rfl).2
      have hw0:w0.heap.size+2<=wr.heap.size:=by
       have:=(H0.out.boxlt 0 rfl).2;dsimp only at this;omega
      have hgr:=qb5 w4 wr.heap.size (seC ⟨(x.1,cv'),d'⟩).toArray;have OZ:=Lib.hid (show SRowOK A (w0.heap.size+2) n (.slice qo L.length co) L _ from O0.out.bel (Below.grown K4.out hgr K4.out.size (fun k hk=>by cases hk;exact Nat.le_refl _)))
      have MZ:=Lib.hid (ValC.weak (A':=Off A (w0.heap.size+2) (.slice qo L.length co)) (MV4.out.kept (Keep.grown hgr (fun b hb e=>by
       have e2:b=wr.heap.size:=by injection e
       rcases hb with hb|hb
       ·have:=HA0.out b hb
        omega
       ·omega))) (fun b hb _=>qm3 H2.out (by omega) hb))
      generalize hwz:World.setRow _ _ _=wz at HZ OZ MZ ⊢;clear hwz hgr;generalize hxb:wr.heap.size=xb at HZ ⊢;clear hxb;obtain⟨vs2,hv2⟩ : ∃vs2,vs2=seC ⟨(x.1,cv'),d'⟩:=⟨_,rfl⟩;rw [←hv2]at HZ;have FSE:=Lib.hid hv2;have FL8:=Lib.hid (show vs2.length=8 by rw [hv2];rfl);have FSZ:=Lib.hid (show(#[.int .i64 0,.int .i64 0,.int .u64 0,.string ⟨#[]⟩,.slice none 0 0,.slice none 0 0,.slice none 0 0,.slice none 0 0]:Array Value).size=vs2.toArray.size by rw [hv2];rfl);have FO1:=Lib.hid (show ∀u ∈ vs2,u.oneCell'=true by rw [hv2];exact qgd ⟨(x.1,cv'),d'⟩);have FZ1:=Lib.hid (show(Tryz.prog.info? 73).map (·.size)=some vs2.toArray.size by rw [hv2];exact ar_S);have FBX:=Lib.hid (HZ.out.box 1 rfl);clear hv2;have v5:=HZ.out.cell 3 rfl 5;dsimp only at v5;have hfold:List.foldl (fun(cs:Array Value) (x:Value × Nat)=>cs.setIfInBounds x.snd x.fst) #[.int .i64 0,.int .i64 0,.int .u64 0,.string ⟨#[]⟩,.slice none 0 0,.slice none 0 0,.slice none 0 0,.slice none 0 0] vs2.zipIdx=vs2.toArray:=qdn FSZ.out;have hl8:vs2.length=8:=FL8.out;have HB:=Lib.hid (HZ.out.belw ((Bel.refl wz).alloc (.cells vs2.toArray 73)));have OB:=Lib.hid (OZ.out.bel ((Bel.refl wz).alloc (.cells vs2.toArray 73)));have EB:=Lib.hid ((MZ.out.bel ((Bel.refl wz).alloc (.cells vs2.toArray 73)):SEok (Off A (w0.heap.size+2) (.slice qo L.length co)) n (wz.alloc (.cells vs2.toArray 73)) ⟨(x.1,cv'),d'⟩));have FL8':=Lib.hid (show vs2.length=1*8 from FL8.out)
      go_wp2_with (first
       | (refine qa6 rfl 73 _ rfl xb vs2.toArray 73 rfl FBX.out _ Tryz.underlying73 rfl FZ1.out ?_)
       | (at_builtin;refine wpList_append_lies _ rfl _ _ 43 rfl w0.heap.size 73 i1 (.agg #[.int .i64 0,.int .i64 0,.int .u64 0,.string ⟨#[]⟩,.slice none 0 0,.slice none 0 0,.slice none 0 0,.slice none 0 0]) 8 136 Tryz.underlying43 hi1 hy0 hy1 hy2 rfl (by decide) _ L.length _ rfl (HB.out.row 0 rfl) ⟨wz.heap.size,0,none⟩ 1 1 vs2 rfl FL8'.out (qau _ _ _) FO1.out (by decide) (by unfold maxLen;omega) (by omega) HB.out.bel.size (wz.heap.size+1) (by simp) ?_))
      intro g9 cap9 w9 hown hgrow hfr hlt9;rw [FSE.out]at hown;have OO:=Lib.hid (SRowOK.snoc (e:=⟨(x.1,cv'),d'⟩) (m:=L.length+1) (c:=cap9) OB.out HB.out HA0.out EB.out hgrow hfr (by simp));have HH:=Lib.hid (qdy (e:=⟨(x.1,cv'),d'⟩) (HB.out.grow 0 rfl hgrow hown (qbc hfr (by simp))));have v9:=HH.out.cell 3 rfl 5;have f9:=HH.out.frz 3 rfl 5;dsimp only at v9 f9;have HF:=Lib.hid (HH.out.setbox 3 rfl 5 (.slice (some ⟨g9,0,none⟩) (L.length+1) cap9));have OF:=Lib.hid (OO.out.kept (qh3 (g:=w0.heap.size) (o:=5) (u:=.slice (some ⟨g9,0,none⟩) (L.length+1) cap9) HA0.out (by omega)));clear hown hgrow hfr hfold v5;go_wp2;go_roundw
      case rel=>exact⟨k+1,L ++ [⟨(x.1,cv'),d'⟩],_,by omega,by go_num,Lib.hid HF.out.dropbox0.dropbox0,by rw [List.length_append,List.length_singleton];omega,OF,by simpa using HST⟩
      case measure=>simp [intOf];omega
   ·have hkl:k=sl.length:=by omega
    have hzT:L.map (·.x)=T:=by have:=hx.out;rw [hkl,List.drop_length]at this;simpa using this
    subst hzT;clear hx EL;have v0:=hS.out.cell 1 rfl 0;have v1:=hS.out.cell 1 rfl 1;have v2:=hS.out.cell 1 rfl 2;have v3:=hS.out.cell 1 rfl 3;have v4:=hS.out.cell 1 rfl 4;have v5:=hS.out.cell 1 rfl 5;have v6:=hS.out.cell 1 rfl 6;dsimp only at v0 v1 v2 v3 v4 v5 v6;have HBr:=Lib.hid (hS.out.box 0 rfl);have HD7:=Lib.hid (show ∀u ∈ (⟨10,d.b,d.t,d.p1,d.n1,d.c1,d.p2,d.n2,d.c2,qo,L.length,co,none,0,0⟩:VC).cells,u.oneCell'=true from qpv _)
    go_wp2_with (refine qa8 rfl 46 _ _ rfl (w0.heap.size+1) (⟨10,d.b,d.t,d.p1,d.n1,d.c1,d.p2,d.n2,d.c2,qo,L.length,co,none,0,0⟩:VC).cells.toArray _ 46 rfl rfl HBr.out vr_V rfl (qgk HD7.out) ?_)
    have HZ:=Lib.hid (hS.out.setrowbox 0 rfl (⟨10,d.b,d.t,d.p1,d.n1,d.c1,d.p2,d.n2,d.c2,qo,L.length,co,none,0,0⟩:VC).cells.toArray)
    have OZ:=Lib.hid (hO.out.kept (Keep.grown (qb5 wr (w0.heap.size+1) (⟨10,d.b,d.t,d.p1,d.n1,d.c1,d.p2,d.n2,d.c2,qo,L.length,co,none,0,0⟩:VC).cells.toArray) (fun b hb e=>by
     have e2:b=w0.heap.size+1:=by injection e
     rcases hb with hb|hb
     ·have:=HA0.out b hb
      omega
     ·omega)))
    refine bodyPost_ret (v:=.agg (⟨10,d.b,d.t,d.p1,d.n1,d.c1,d.p2,d.n2,d.c2,qo,L.length,co,none,0,0⟩:VC).cells.toArray) ?hres2 rfl ?hpost2
    case hres2=>exact results_cell_row rfl _ _ _ _ _ _ _ rfl (HZ.out.box 0 rfl) Tryz.underlying46 rfl vr_V
    case hpost2=>exact⟨(⟨10,d.b,d.t,d.p1,d.n1,d.c1,d.p2,d.n2,d.c2,qo,L.length,co,none,0,0⟩:VC),rfl,⟨rfl,qju (HZ.out.row 0 rfl) (by omega) OZ.out (fun b hb=>hb.imp id (fun h=>by omega)) (fun b hb=>.inr hb),SlA.nil _ _ _ _ _ _⟩,HZ.out.bel⟩
 ·have hkv:keep (n+1) cv m=cv:=by
   cases cv with
   | msg sl rw0=>exact absurd hd.1 hk
   | scalar a b c=>rfl
   | list a=>rfl
   | map a=>rfl
  rw [hkv];exact ql9 n A d cv v m w0 hd hm.form hk
theorem mk_Keep : ∀n:Nat,KeepC n
 | 0=>fun _ _ _ _ _ _ _ _ h=>h.elim
 | n+1=>qj6 n (mk_Keep n)
end
end Go.Proofs.YtaaneecceiefoaaGreatDoor
