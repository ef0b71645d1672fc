import Derived.Test.YtgpjhibdongmbaaGreatDoorRsRes5
set_option maxRecDepth 100000
set_option maxHeartbeats 4000000
set_option linter.unusedVariables false
set_option linter.unusedSimpArgs false
namespace Go.Proofs.YtgpjhibdongmbaaGreatDoor
open Go.RowKit Ck Rs
theorem rC85 {a:Act} {ρ:Operand->Value} (h : ∀x,ρ x=a.eval x):(∀c,ρ (.const c)=c)/\∀f,ρ (.func f)=.func (.func f) #[] #[]:=⟨fun c=>h (.const c),fun f=>h (.func f)⟩
theorem ST.dropboxAt {w0 w:World} {R:List Row} {X:List Box} {b:Box} (h:ST w0 R X w) (j:Nat) (hj:X[j]? = some b):ST w0 R (X.eraseIdx j) w:=(h.perm (List.Perm.refl _) (qd1 X j b hj b).1).dropbox0
theorem qci:(Tryz.prog.info? 38).map (fun i=>(i.zero,i.size,i.bytes))=some (some (.agg #[.int .i64 0,.int .i64 0,.int .i64 0]),3,24):=by kernel_rfl
theorem qf1:(Tryz.prog.info? 3).map (fun i=>(i.zero,i.size,i.bytes))=some (some (.int .i64 0),1,8):=by kernel_rfl
theorem qic:(Tryz.prog.info? 52).map (·.size)=some 3:=by kernel_rfl
theorem qes (s:ByteArray) (x:Option Addr × Nat × Nat) (u:Int):(#[.string s,.slice x.1 x.2.1 x.2.2,.int .i64 u]:Array Value).all (·.oneCell')=true:=by simp [Value.oneCell']
def actCs (A:List PAct):List Value:=A.flatMap actC
theorem qb5 (A:List PAct) (a:PAct):actCs (A ++ [a])=actCs A ++ [.int .i64 a.num,.int .i64 a.kind,.int .i64 a.sub]:=by
 unfold actCs;rw [List.flatMap_append];rfl
def intCs (l:List Int):List Value:=l.map (.int .i64 ·)
def qcu (g:PProg) (ops:List POp):List Int:=(ops.filter fun q=>(opOf g q.num).isNone && decide (q.card=1)).map POp.num
theorem qdp (g h:PProg):qcu g (h.ops.drop 0)=qcf g h:=rfl
theorem qev {g:PProg} {ops:List POp} {k:Nat} {q:POp} (hq:ops[k]? = some q):qcu g (ops.drop k)=(if(opOf g q.num).isNone=true/\q.card=1 then [q.num]else []) ++ qcu g (ops.drop (k+1)):=by
 obtain⟨hk,rfl⟩:=List.getElem?_eq_some_iff.1 hq;unfold qcu;rw [List.drop_eq_getElem_cons hk,List.filter_cons];by_cases hc:((opOf g (ops[k]).num).isNone && decide ((ops[k]).card=1))=true
 ·rw [if_pos hc,if_pos (by simpa using hc)]
  rfl
 ·rw [if_neg hc,if_neg (fun h=>hc (by rw [h.1,decide_eq_true h.2];rfl))]
  rfl
theorem ST.front2 {w0 w:World} {R:List Row} {X:List Box} {s b1 b2:Box} (h:ST w0 R (b1 :: b2 :: s :: X) w):ST w0 R (s :: b1 :: b2 :: X) w:=h.perm (List.Perm.refl _) (List.perm_middle (l₁:=[b1,b2]) (a:=s))
theorem ST.nilrow1 {w0 w:World} {R:List Row} {X:List Box} {a:Row} (h:ST w0 (a :: R) X w) (e:TypeId) (z:Nat):ST w0 (a :: ⟨e,z,.slice none 0 0,0,[]⟩ :: R) X w:=(h.nilrow e z).perm (List.Perm.swap a _ R) (List.Perm.refl _)
theorem ST.nilrow2 {w0 w:World} {R:List Row} {X:List Box} {a b:Row} (h:ST w0 (a :: b :: R) X w) (e:TypeId) (z:Nat):ST w0 (a :: b :: ⟨e,z,.slice none 0 0,0,[]⟩ :: R) X w:=(h.nilrow e z).perm (List.perm_middle (l₁:=[a,b]) (a:=⟨e,z,.slice none 0 0,0,[]⟩)).symm (List.Perm.refl _)
section
variable {P : Program} {ops : Array Oper} {S : World → Prop} {Q : Exit → Act → World → Prop} {K : Act → World → Prop} {a : Act} {w : World} {o : Oper} {r m : OrdT Oper}
theorem qdd (hgd:o.guard=none) (h:o.wp P a w (fun a' w'=>S w'/\qap P ops S Q K r a' w') Q) (hm:qap P ops S Q K m a w):qap P ops S Q K (.alt o r m) a w:=by
 refine⟨?_,hm⟩;have hw:Region.wanted o (yielded ops a.tmps)=true:=by simp [Region.wanted,hgd]
 rw [if_pos hw];exact h
end
def VisPost (w0:World) (B:Nat) (f0 f1 f2 f3:Value) (A:List PAct) (lk:List Int) (P:List (Int × Int)) (L:List (Value × Value)) (R:List Row) (X:List Box) (e:Ending) (w':World):Prop:=e=.returned (.tuple #[])/\∃av lv,IsSl av/\IsSl lv/\SX w0 B f0 f1 f2 f3 P (L ++ [(av,lv)]) (⟨38,3,av,A.length,actCs A⟩ :: ⟨3,1,lv,lk.length,intCs lk⟩ :: R) X w'
theorem rs_visit (w0:World) (B:Nat) (w r:PPlan) (p1 p2 p3 p4:Option Addr) (c1 c2 c3 c4:Nat) (P:List (Int × Int)) (L:List (Value × Value)) (R:List Row) (X:List Box) (g h:PProg) (a b:Int) (W:World) (hX:SX w0 B (.slice p1 w.progs.length c1) (.slice p2 w.enums.length c2) (.slice p3 r.progs.length c3) (.slice p4 r.enums.length c4) P L R X W) (hA:AllSl L) (hi:P[L.length]? = some (a,b)) (ha:w.progs[a.toNat]? = some g) (hb:r.progs[b.toNat]? = some h) (hG:Pl w r p1 p2 p3 p4 c1 c2 c3 c4 w0) (hT:Tab w0) (hw:Aimed w) (hr:Aimed r) (hP:qao w r P) (hsz:w.progs.length*r.progs.length<=1000000/\g.ops.length<=1000000/\h.ops.length<=1000000) :
  Calls Tryz.prog 59 #[.pointer (some ⟨B,0,none⟩),.int .i64 (L.length:Int)] W (VisPost w0 B (.slice p1 w.progs.length c1) (.slice p2 w.enums.length c2) (.slice p3 r.progs.length c3) (.slice p4 r.enums.length c4) (qb8 w r h g.ops [] P).1 (qcf g h) (qb8 w r h g.ops [] P).2 L R X):=by
 obtain⟨vo,h'⟩:=hX;have hLt:L.length<P.length:=(List.getElem?_eq_some_iff.1 hi).1;have hplen:=qbw hP
 obtain⟨og,oc,hvo⟩ : ∃og oc,vo=.slice (some ⟨og,0,none⟩) P.length oc:=by
  rcases (h'.row 0 rfl).2 with⟨_,h0⟩|⟨g',cap,cur,hv,_⟩
  ·exact absurd (show P.length=0 from h0) (by omega)
  ·exact⟨g',cap,hv⟩
 subst hvo;obtain⟨a1,a2⟩:=hP.2 _ (List.mem_of_getElem? hi);obtain⟨na,hna⟩ : ∃n:Nat,a=(n:Int):=⟨a.toNat,by omega⟩;obtain⟨nb,hnb⟩ : ∃n:Nat,b=(n:Int):=⟨b.toNat,by omega⟩;subst hna hnb;rw [Int.toNat_natCast]at ha hb;obtain⟨o0,o1,_,_⟩:=qcm P L _ _ hi;have HO0:=Lib.hid o0;have HO1:=Lib.hid o1;have hgm:=List.mem_of_getElem? ha;have hhm:=List.mem_of_getElem? hb;have hG0:=hG;obtain⟨_,_,he1,_,_,hel1⟩:=hG.g0;obtain⟨_,_,he3,_,_,hel3⟩:=hG.g2;cases he1;cases he3;obtain⟨gb,goff,rfl,_,vg,hcg,hvg⟩:=hel1 na g ha;obtain⟨hb',hoff,rfl,_,vh,hch,hvh⟩:=hel3 nb h hb;obtain⟨gq,gc,rfl,hgo,lgo⟩:=hvg.form;obtain⟨hq,hc,rfl,hho,lho⟩:=hvh.form;have HGC:=Lib.hid hcg;have HHC:=Lib.hid hch;have HGO:=Lib.hid hgo;have HHO:=Lib.hid hho;have HS:=Lib.hid h';obtain⟨G,hGd⟩ : ∃G,G=qb8 w r h g.ops [] P:=⟨_,rfl⟩;have V1:=Lib.hid (show qb8 w r h (g.ops.drop 0) [] P=G from hGd.symm);rw [←hGd];have i0:(0:Int)<=(L.length:Int):=by omega
 have i1:(L.length:Int)<(P.length:Int):=by omega
 have j0:(0:Int)<=(na:Int):=by omega
 have j1:(na:Int)<(w.progs.length:Int):=a1.2;have m0:(0:Int)<=(nb:Int):=by omega
 have m1:(nb:Int)<(r.progs.length:Int):=a2.2;clear hel1 hel3 hcg hch hvg hvh hgo hho h' hGd hi ha hb o0 o1 hG a1 a2
 go_enter Tryz.func59,Tryz.ntmps59
 go_upto_region 0 with(fail)
 obtain⟨wd,hwd⟩ : ∃wd,wd=W.drew:=⟨_,rfl⟩;have T:=HS.out.belw ((Bel.refl _).drew);rw [←hwd]at T;have T:=Lib.hid T;have HWD:=Lib.hid hwd;clear hwd HS;have KS:=Lib.hid (fun WW (WC:ST w0 (⟨44,4,.slice (some ⟨og,0,none⟩) P.length oc,P.length,outR P L⟩ :: R) (⟨B,#[.slice (some ⟨gb,goff,none⟩) w.progs.length c1,.slice p2 w.enums.length c2,.slice (some ⟨hb',hoff,none⟩) r.progs.length c3,.slice p4 r.enums.length c4,.slice (some ⟨og,0,none⟩) P.length oc],100⟩ :: X) WW)=>show WW.cell? ⟨B,0,none⟩=some (.slice (some ⟨gb,goff,none⟩) w.progs.length c1)/\WW.cell? ⟨B,2,none⟩=some (.slice (some ⟨hb',hoff,none⟩) r.progs.length c3)/\WW.cell? ⟨B,4,none⟩=some (.slice (some ⟨og,0,none⟩) P.length oc)/\WW.cell? ⟨og,L.length*4,none⟩=some (.int .i64 (na:Int))/\WW.cell? ⟨og,L.length*4+1,none⟩=some (.int .i64 (nb:Int))/\WW.cell? ⟨gb,goff+na*3,none⟩=some (.string (S g.name))/\WW.cell? ⟨gb,goff+na*3+1,none⟩=some (.slice gq g.ops.length gc)/\WW.cell? ⟨gb,goff+na*3+2,none⟩=some (.int .i64 g.uns)/\WW.cell? ⟨hb',hoff+nb*3,none⟩=some (.string (S h.name))/\WW.cell? ⟨hb',hoff+nb*3+1,none⟩=some (.slice hq h.ops.length hc)/\WW.cell? ⟨hb',hoff+nb*3+2,none⟩=some (.int .i64 h.uns)from⟨WC.cell 0 rfl 0,WC.cell 0 rfl 2,WC.cell 0 rfl 4,WC.rowcell (g:=og) 0 rfl rfl _ _ HO0.out,WC.rowcell (g:=og) 0 rfl rfl _ _ HO1.out,WC.bel.some (HGC.out 0 _ rfl),WC.bel.some (HGC.out 1 _ rfl),WC.bel.some (HGC.out 2 _ rfl),WC.bel.some (HHC.out 0 _ rfl),WC.bel.some (HHC.out 1 _ rfl),WC.bel.some (HHC.out 2 _ rfl)⟩);refine qag (fun WW=>ST w0 (⟨44,4,.slice (some ⟨og,0,none⟩) P.length oc,P.length,outR P L⟩ :: R) (⟨B,#[.slice (some ⟨gb,goff,none⟩) w.progs.length c1,.slice p2 w.enums.length c2,.slice (some ⟨hb',hoff,none⟩) r.progs.length c3,.slice p4 r.enums.length c4,.slice (some ⟨og,0,none⟩) P.length oc],100⟩ :: X) WW) (.take 0 (.take 1 (.take 2 (.take 3 (.take 4 (.take 5 (.take 6 (.take 7 (.take 8 (.take 9 (.take 10 (.take 11 (.take 12 (.take 13 (.take 14 (.take 15 (.take 16 (.take 17 (.take 18 (.take 19 (.take 20 (.take 21 (.take 22 (.take 23 (.take 24 (.take 25 (.take 26 (.take 27 (.take 28 (.take 29 (.alt 30 (.alt 31 (.alt 32 .done .no) .no) (.alt 31 (.alt 30 (.alt 32 .done .no) .no) .no)))))))))))))))))))))))))))))))) 33 (by kernel_rfl) (by kernel_rfl) HWD.out T.out (fun a ha=>?_)
 (simp only [pickT,List.getD_cons_zero,List.getD_cons_succ])
 have hsz:a.tmps.size=102:=(by rw [ha];kernel_rfl);have a0:a.eval (.tmp 0)=.pointer (some ⟨B,0,none⟩):=(by rw [ha];kernel_rfl);have a1:a.eval (.tmp 1)=.int .i64 (L.length:Int):=(by rw [ha];kernel_rfl)
 (with_reducible refine qa1 (v:=?_) rfl (by with_unfolding_all rfl) (fun ρ hρ W hW=>?_) ?_);(rotate_left 1)
 focus(clear hW;have p0:=hρ (.tmp 0);(simp +decide only [qa2,hsz,ev_eq,ev_ne,a0,a1]at p0);obtain⟨hc,hfn⟩:=rC85 hρ;clear hρ;go_simp;(all_goals with_reducible first|rfl|(constructor <;> rfl)))
 (with_reducible refine qa1 (v:=?_) rfl (by with_unfolding_all rfl) (fun ρ hρ W hW=>?_) ?_);(rotate_left 1)
 focus(clear hW;have p14:=hρ (.tmp 14);(simp +decide only [qa2,hsz,ev_eq,ev_ne,a0,a1]at p14);obtain⟨hc,hfn⟩:=rC85 hρ;clear hρ;go_simp;(all_goals with_reducible first|rfl|(constructor <;> rfl)))
 (with_reducible refine qa1 (v:=?_) rfl (by with_unfolding_all rfl) (fun ρ hρ W hW=>?_) ?_);(rotate_left 1)
 focus(clear hW;have p15:=hρ (.tmp 15);(simp +decide only [qa2,hsz,ev_eq,ev_ne,a0,a1]at p15);obtain⟨hc,hfn⟩:=rC85 hρ;clear hρ;go_simp;(all_goals with_reducible first|rfl|(constructor <;> rfl)))
 (with_reducible refine qa1 (v:=?_) rfl (by with_unfolding_all rfl) (fun ρ hρ W hW=>?_) ?_);(rotate_left 1)
 focus(clear hW;have p16:=hρ (.tmp 16);(simp +decide only [qa2,hsz,ev_eq,ev_ne,a0,a1]at p16);obtain⟨hc,hfn⟩:=rC85 hρ;clear hρ;go_simp;(all_goals with_reducible first|rfl|(constructor <;> rfl)))
 (with_reducible refine qa1 (v:=?_) rfl (by with_unfolding_all rfl) (fun ρ hρ W hW=>?_) ?_);(rotate_left 1)
 focus(have hS:=KS.out _ hW;clear hW;have p17:=hρ (.tmp 17);(simp +decide only [qa2,hsz,ev_eq,ev_ne,a0,a1]at p17);obtain⟨hc,hfn⟩:=rC85 hρ;clear hρ;go_simp;(all_goals with_reducible first|rfl|(constructor <;> rfl)))
 (with_reducible refine qa1 (v:=?_) rfl (by with_unfolding_all rfl) (fun ρ hρ W hW=>?_) ?_);(rotate_left 1)
 focus(clear hW;have p0:=hρ (.tmp 0);(simp +decide only [qa2,hsz,ev_eq,ev_ne,a0,a1]at p0);obtain⟨hc,hfn⟩:=rC85 hρ;clear hρ;go_simp;(all_goals with_reducible first|rfl|(constructor <;> rfl)))
 (with_reducible refine qa1 (v:=?_) rfl (by with_unfolding_all rfl) (fun ρ hρ W hW=>?_) ?_);(rotate_left 1)
 focus(clear hW;have p19:=hρ (.tmp 19);(simp +decide only [qa2,hsz,ev_eq,ev_ne,a0,a1]at p19);obtain⟨hc,hfn⟩:=rC85 hρ;clear hρ;go_simp;(all_goals with_reducible first|rfl|(constructor <;> rfl)))
 (with_reducible refine qa1 (v:=?_) rfl (by with_unfolding_all rfl) (fun ρ hρ W hW=>?_) ?_);(rotate_left 1)
 focus(clear hW;have p20:=hρ (.tmp 20);(simp +decide only [qa2,hsz,ev_eq,ev_ne,a0,a1]at p20);obtain⟨hc,hfn⟩:=rC85 hρ;clear hρ;go_simp;(all_goals with_reducible first|rfl|(constructor <;> rfl)))
 (with_reducible refine qa1 (v:=?_) rfl (by with_unfolding_all rfl) (fun ρ hρ W hW=>?_) ?_);(rotate_left 1)
 focus(have hS:=KS.out _ hW;clear hW;have p21:=hρ (.tmp 21);(simp +decide only [qa2,hsz,ev_eq,ev_ne,a0,a1]at p21);obtain⟨hc,hfn⟩:=rC85 hρ;clear hρ;go_simp;(all_goals with_reducible first|rfl|(constructor <;> rfl)))
 (with_reducible refine qa1 (v:=?_) rfl (by with_unfolding_all rfl) (fun ρ hρ W hW=>?_) ?_);(rotate_left 1)
 focus(clear hW;have p1:=hρ (.tmp 1);(simp +decide only [qa2,hsz,ev_eq,ev_ne,a0,a1]at p1);obtain⟨hc,hfn⟩:=rC85 hρ;clear hρ;go_simp;(all_goals with_reducible first|rfl|(constructor <;> rfl)))
 (with_reducible refine qa1 (v:=?_) rfl (by with_unfolding_all rfl) (fun ρ hρ W hW=>?_) ?_);(rotate_left 1)
 focus(clear hW;have p22:=hρ (.tmp 22);have p23:=hρ (.tmp 23);(simp +decide only [qa2,hsz,ev_eq,ev_ne,a0,a1]at p22 p23);obtain⟨hc,hfn⟩:=rC85 hρ;clear hρ;go_simp;(all_goals with_reducible first|rfl|(constructor <;> rfl)))
 (with_reducible refine qa1 (v:=?_) rfl (by with_unfolding_all rfl) (fun ρ hρ W hW=>?_) ?_);(rotate_left 1)
 focus(clear hW;have p24:=hρ (.tmp 24);(simp +decide only [qa2,hsz,ev_eq,ev_ne,a0,a1]at p24);obtain⟨hc,hfn⟩:=rC85 hρ;clear hρ;go_simp;(all_goals with_reducible first|rfl|(constructor <;> rfl)))
 (with_reducible refine qa1 (v:=?_) rfl (by with_unfolding_all rfl) (fun ρ hρ W hW=>?_) ?_);(rotate_left 1)
 focus(have hS:=KS.out _ hW;clear hW;have p25:=hρ (.tmp 25);(simp +decide only [qa2,hsz,ev_eq,ev_ne,a0,a1]at p25);obtain⟨hc,hfn⟩:=rC85 hρ;clear hρ;go_simp;(all_goals with_reducible first|rfl|(constructor <;> rfl)))
 (with_reducible refine qa1 (v:=?_) rfl (by with_unfolding_all rfl) (fun ρ hρ W hW=>?_) ?_);(rotate_left 1)
 focus(clear hW;have p18:=hρ (.tmp 18);have p26:=hρ (.tmp 26);(simp +decide only [qa2,hsz,ev_eq,ev_ne,a0,a1]at p18 p26);obtain⟨hc,hfn⟩:=rC85 hρ;clear hρ;go_simp;(all_goals with_reducible first|rfl|(constructor <;> rfl)))
 (with_reducible refine qa1 (v:=?_) rfl (by with_unfolding_all rfl) (fun ρ hρ W hW=>?_) ?_);(rotate_left 1)
 focus(have hS:=KS.out _ hW;clear hW;have p27:=hρ (.tmp 27);(simp +decide only [qa2,hsz,ev_eq,ev_ne,a0,a1]at p27);obtain⟨hc,hfn⟩:=rC85 hρ;clear hρ;go_simp;(all_goals with_reducible first|rfl|(constructor <;> rfl)))
 (with_reducible refine qa1 (v:=?_) rfl (by with_unfolding_all rfl) (fun ρ hρ W hW=>?_) ?_);(rotate_left 1)
 focus(clear hW;have p0:=hρ (.tmp 0);(simp +decide only [qa2,hsz,ev_eq,ev_ne,a0,a1]at p0);obtain⟨hc,hfn⟩:=rC85 hρ;clear hρ;go_simp;(all_goals with_reducible first|rfl|(constructor <;> rfl)))
 (with_reducible refine qa1 (v:=?_) rfl (by with_unfolding_all rfl) (fun ρ hρ W hW=>?_) ?_);(rotate_left 1)
 focus(clear hW;have p29:=hρ (.tmp 29);(simp +decide only [qa2,hsz,ev_eq,ev_ne,a0,a1]at p29);obtain⟨hc,hfn⟩:=rC85 hρ;clear hρ;go_simp;(all_goals with_reducible first|rfl|(constructor <;> rfl)))
 (with_reducible refine qa1 (v:=?_) rfl (by with_unfolding_all rfl) (fun ρ hρ W hW=>?_) ?_);(rotate_left 1)
 focus(clear hW;have p30:=hρ (.tmp 30);(simp +decide only [qa2,hsz,ev_eq,ev_ne,a0,a1]at p30);obtain⟨hc,hfn⟩:=rC85 hρ;clear hρ;go_simp;(all_goals with_reducible first|rfl|(constructor <;> rfl)))
 (with_reducible refine qa1 (v:=?_) rfl (by with_unfolding_all rfl) (fun ρ hρ W hW=>?_) ?_);(rotate_left 1)
 focus(clear hW;have p31:=hρ (.tmp 31);(simp +decide only [qa2,hsz,ev_eq,ev_ne,a0,a1]at p31);obtain⟨hc,hfn⟩:=rC85 hρ;clear hρ;go_simp;(all_goals with_reducible first|rfl|(constructor <;> rfl)))
 (with_reducible refine qa1 (v:=?_) rfl (by with_unfolding_all rfl) (fun ρ hρ W hW=>?_) ?_);(rotate_left 1)
 focus(have hS:=KS.out _ hW;clear hW;have p32:=hρ (.tmp 32);(simp +decide only [qa2,hsz,ev_eq,ev_ne,a0,a1]at p32);obtain⟨hc,hfn⟩:=rC85 hρ;clear hρ;go_simp;(all_goals with_reducible first|rfl|(constructor <;> rfl)))
 (with_reducible refine qa1 (v:=?_) rfl (by with_unfolding_all rfl) (fun ρ hρ W hW=>?_) ?_);(rotate_left 1)
 focus(clear hW;have p0:=hρ (.tmp 0);(simp +decide only [qa2,hsz,ev_eq,ev_ne,a0,a1]at p0);obtain⟨hc,hfn⟩:=rC85 hρ;clear hρ;go_simp;(all_goals with_reducible first|rfl|(constructor <;> rfl)))
 (with_reducible refine qa1 (v:=?_) rfl (by with_unfolding_all rfl) (fun ρ hρ W hW=>?_) ?_);(rotate_left 1)
 focus(clear hW;have p34:=hρ (.tmp 34);(simp +decide only [qa2,hsz,ev_eq,ev_ne,a0,a1]at p34);obtain⟨hc,hfn⟩:=rC85 hρ;clear hρ;go_simp;(all_goals with_reducible first|rfl|(constructor <;> rfl)))
 (with_reducible refine qa1 (v:=?_) rfl (by with_unfolding_all rfl) (fun ρ hρ W hW=>?_) ?_);(rotate_left 1)
 focus(clear hW;have p35:=hρ (.tmp 35);(simp +decide only [qa2,hsz,ev_eq,ev_ne,a0,a1]at p35);obtain⟨hc,hfn⟩:=rC85 hρ;clear hρ;go_simp;(all_goals with_reducible first|rfl|(constructor <;> rfl)))
 (with_reducible refine qa1 (v:=?_) rfl (by with_unfolding_all rfl) (fun ρ hρ W hW=>?_) ?_);(rotate_left 1)
 focus(have hS:=KS.out _ hW;clear hW;have p36:=hρ (.tmp 36);(simp +decide only [qa2,hsz,ev_eq,ev_ne,a0,a1]at p36);obtain⟨hc,hfn⟩:=rC85 hρ;clear hρ;go_simp;(all_goals with_reducible first|rfl|(constructor <;> rfl)))
 (with_reducible refine qa1 (v:=?_) rfl (by with_unfolding_all rfl) (fun ρ hρ W hW=>?_) ?_);(rotate_left 1)
 focus(clear hW;have p1:=hρ (.tmp 1);(simp +decide only [qa2,hsz,ev_eq,ev_ne,a0,a1]at p1);obtain⟨hc,hfn⟩:=rC85 hρ;clear hρ;go_simp;(all_goals with_reducible first|rfl|(constructor <;> rfl)))
 (with_reducible refine qa1 (v:=?_) rfl (by with_unfolding_all rfl) (fun ρ hρ W hW=>?_) ?_);(rotate_left 1)
 focus(clear hW;have p37:=hρ (.tmp 37);have p38:=hρ (.tmp 38);(simp +decide only [qa2,hsz,ev_eq,ev_ne,a0,a1]at p37 p38);obtain⟨hc,hfn⟩:=rC85 hρ;clear hρ;go_simp;(all_goals with_reducible first|rfl|(constructor <;> rfl)))
 (with_reducible refine qa1 (v:=?_) rfl (by with_unfolding_all rfl) (fun ρ hρ W hW=>?_) ?_);(rotate_left 1)
 focus(clear hW;have p39:=hρ (.tmp 39);(simp +decide only [qa2,hsz,ev_eq,ev_ne,a0,a1]at p39);obtain⟨hc,hfn⟩:=rC85 hρ;clear hρ;go_simp;(all_goals with_reducible first|rfl|(constructor <;> rfl)))
 (with_reducible refine qa1 (v:=?_) rfl (by with_unfolding_all rfl) (fun ρ hρ W hW=>?_) ?_);(rotate_left 1)
 focus(have hS:=KS.out _ hW;clear hW;have p40:=hρ (.tmp 40);(simp +decide only [qa2,hsz,ev_eq,ev_ne,a0,a1]at p40);obtain⟨hc,hfn⟩:=rC85 hρ;clear hρ;go_simp;(all_goals with_reducible first|rfl|(constructor <;> rfl)))
 (with_reducible refine qa1 (v:=?_) rfl (by with_unfolding_all rfl) (fun ρ hρ W hW=>?_) ?_);(rotate_left 1)
 focus(clear hW;have p33:=hρ (.tmp 33);have p41:=hρ (.tmp 41);(simp +decide only [qa2,hsz,ev_eq,ev_ne,a0,a1]at p33 p41);obtain⟨hc,hfn⟩:=rC85 hρ;clear hρ;go_simp;(all_goals with_reducible first|rfl|(constructor <;> rfl)))
 (with_reducible refine qa1 (v:=?_) rfl (by with_unfolding_all rfl) (fun ρ hρ W hW=>?_) ?_);(rotate_left 1)
 focus(have hS:=KS.out _ hW;clear hW;have p42:=hρ (.tmp 42);(simp +decide only [qa2,hsz,ev_eq,ev_ne,a0,a1]at p42);obtain⟨hc,hfn⟩:=rC85 hρ;clear hρ;go_simp;(all_goals with_reducible first|rfl|(constructor <;> rfl)))
 (with_reducible refine qb2 (v:=?_) (w':=?_) rfl (by with_unfolding_all rfl) (fun ρ hρ=>?_) ?_ ?_ ?_);(rotate_left 2)
 focus(obtain⟨hc,hfn⟩:=rC85 hρ;clear hρ;go_simp;(all_goals with_reducible first|rfl|(constructor <;> rfl)))
 focus exact(T.out.addbox #[.string ⟨#[]⟩,.slice none 0 0,.int .i64 0] 52).dropbox0
 have T:=Lib.hid (T.out.addbox #[.string ⟨#[]⟩,.slice none 0 0,.int .i64 0] 52);obtain⟨g30,hg30⟩ : ∃g,g=wd.heap.size:=⟨_,rfl⟩;rw [←hg30]at T;rw [←hg30];generalize hA:World.alloc wd _=w30 at T ⊢;clear hA hg30
 ·(with_reducible refine qb2 (v:=?_) (w':=?_) rfl (by with_unfolding_all rfl) (fun ρ hρ=>?_) ?_ ?_ ?_);(rotate_left 2)
  focus(obtain⟨hc,hfn⟩:=rC85 hρ;clear hρ;go_simp;(all_goals with_reducible first|rfl|(constructor <;> rfl)))
  focus exact(T.out.addbox #[.string ⟨#[]⟩,.slice none 0 0,.int .i64 0] 52).dropbox0.dropbox0
  have T:=Lib.hid (T.out.addbox #[.string ⟨#[]⟩,.slice none 0 0,.int .i64 0] 52);obtain⟨g31,hg31⟩ : ∃g,g=w30.heap.size:=⟨_,rfl⟩;rw [←hg31]at T;rw [←hg31];generalize hA:World.alloc w30 _=w31 at T ⊢;clear hA hg31;rotate_left 1
  focus exact qak
  (refine qb1 rfl 52 (.tmp 4) (.tmp 28) (by with_unfolding_all rfl) _ #[.string (S g.name),.slice gq g.ops.length gc,.int .i64 g.uns] #[.string ⟨#[]⟩,.slice none 0 0,.int .i64 0] 52 ?_ ?_ (T.out.box 1 rfl) qic rfl (qes _ (_,_,_) _) ?_ ?_ ?_)
  focus(simp +decide only [qa2,hsz,ev_eq,ev_ne,a0,a1])
  focus(simp +decide only [qa2,hsz,ev_eq,ev_ne,a0,a1])
  focus exact(T.out.setrowbox 1 rfl #[.string (S g.name),.slice gq g.ops.length gc,.int .i64 g.uns]).dropbox0.dropbox0
  have T:=Lib.hid (T.out.setrowbox 1 rfl #[.string (S g.name),.slice gq g.ops.length gc,.int .i64 g.uns]);generalize hA:World.setRow w31 _ _=w32 at T ⊢;clear hA;rotate_left 1
  focus exact qak
  with_reducible refine qan ?_
  (simp only [List.drop_succ_cons,List.drop_zero])
  subst ha
  (simp only [qaz,set_s,set_z])
  have HBX:=Lib.hid (T.out.box 0 rfl);refine qa6 rfl 52 _ _ rfl g31 #[.string (S h.name),.slice hq h.ops.length hc,.int .i64 h.uns] #[.string ⟨#[]⟩,.slice none 0 0,.int .i64 0] 52 (by with_unfolding_all rfl) (by with_unfolding_all rfl) HBX.out qic rfl (qes _ (_,_,_) _) ?_;have T:=Lib.hid (T.out.setrowbox 0 rfl #[.string (S h.name),.slice hq h.ops.length hc,.int .i64 h.uns]);generalize hA:World.setRow w32 _ _=wz at T ⊢;clear hA HBX;generalize g30=gA at T ⊢;generalize g31=gB at T ⊢;have T:=Lib.hid (T.out.front2);have z1:=T.out.cell 2 rfl 1;dsimp only at z1;go_wp2
  go_loopw [6,47] (fun av i wr => ∃(k:Nat) (A:List PAct) (P1:List (Int × Int)) (vo av':Value),av'=av/\k<=g.ops.length/\i=.int .i64 k/\A.length<=k/\Hid (ST w0 (⟨44,4,vo,P1.length,outR P1 L⟩ :: ⟨38,3,av',A.length,actCs A⟩ :: R) (⟨B,#[.slice (some ⟨gb,goff,none⟩) w.progs.length c1,.slice p2 w.enums.length c2,.slice (some ⟨hb',hoff,none⟩) r.progs.length c3,.slice p4 r.enums.length c4,vo],100⟩ :: ⟨gB,#[.string (S h.name),.slice hq h.ops.length hc,.int .i64 h.uns],52⟩ :: ⟨gA,#[.string (S g.name),.slice gq g.ops.length gc,.int .i64 g.uns],52⟩ :: X) wr)/\Hid (qb8 w r h (g.ops.drop k) A P1=G)/\Hid (qao w r P1/\L.length<P1.length)) (fun _ i _=>g.ops.length-(intOf i).toNat)
  case atStart=>exact⟨0,[],P,.slice (some ⟨og,0,none⟩) P.length oc,.slice none 0 0,rfl,by omega,rfl,by simp,Lib.hid (T.out.nilrow1 _ _),V1,Lib.hid ⟨hP,hLt⟩⟩
  case round=>as_aux_lemma=>
   clear T z1 V1;obtain⟨k,A,P1,vo,av',rfl,hk,rfl,hAk,hS,hx,hPP⟩:=hrel;by_cases hlt:k<g.ops.length
   ·have hki:(k:Int)<(g.ops.length:Int):=by omega
    have hg1:=List.getElem?_eq_getElem hlt;obtain⟨_,_,heo,_,_,helo⟩:=HGO.out;cases heo;obtain⟨ob,ooff,rfl,_,vs,hce,hvs⟩:=helo k _ hg1;have hst:=hx.out;rw [List.drop_eq_getElem_cons hlt]at hst;have hmem:=List.getElem_mem hlt;clear hx helo hg1;generalize g.ops[k]=o at *;rw [show vs=opC o from hvs]at hce;have hst2:qb8 w r h (g.ops.drop (k+1)) (A ++ [(actR w r h o P1).1]) (actR w r h o P1).2=G:=hst;obtain⟨hok,hpre⟩:=qg6 hw hr hgm hhm hmem hPP.out.1;have hp1:=qbw hPP.out.1;have HPP2:=Lib.hid (show qao w r (actR w r h o P1).2/\L.length<(actR w r h o P1).2.length from⟨hok,Nat.lt_of_lt_of_le hPP.out.2 hpre.length_le⟩);have HX:=Lib.hid (hS.out.addbox #[.int .i64 o.num,.string (S o.name),.string (S o.ali),.int .i64 o.card,.int .i64 o.key,.int .i64 o.kind,.int .i64 o.tgt,.int .i64 o.un] 54).swapX;have CA:=Lib.hid (qh4 w0 B w r (some ⟨gb,goff,none⟩) p2 (some ⟨hb',hoff,none⟩) p4 c1 c2 c3 c4 P1 L (⟨38,3,av',A.length,actCs A⟩ :: R) (⟨wr.heap.size,#[.int .i64 o.num,.string (S o.name),.string (S o.ali),.int .i64 o.card,.int .i64 o.key,.int .i64 o.kind,.int .i64 o.tgt,.int .i64 o.un],54⟩ :: ⟨gB,#[.string (S h.name),.slice hq h.ops.length hc,.int .i64 h.uns],52⟩ :: ⟨gA,#[.string (S g.name),.slice (some ⟨ob,ooff,none⟩) g.ops.length gc,.int .i64 g.uns],52⟩ :: X) o h hq hc _ ⟨_,HX.out⟩ hA (by have:=hPP.out.2;omega) (by omega) hG0 hT HHO.out hw hr ⟨g,hgm,hmem⟩ hhm);unfold qbn at CA;have e0:=hS.out.bel.some (hce 0 _ rfl);have e1:=hS.out.bel.some (hce 1 _ rfl);have e2:=hS.out.bel.some (hce 2 _ rfl);have e3:=hS.out.bel.some (hce 3 _ rfl);have e4:=hS.out.bel.some (hce 4 _ rfl);have e5:=hS.out.bel.some (hce 5 _ rfl);have e6:=hS.out.bel.some (hce 6 _ rfl);have e7:=hS.out.bel.some (hce 7 _ rfl);rw [Nat.add_zero]at e0;obtain⟨AR,hAR⟩ : ∃AR,AR=actR w r h o P1:=⟨_,rfl⟩;rw [←hAR]at CA HPP2 hst2;obtain⟨ac,P2⟩:=AR;dsimp only at CA HPP2 hst2;have HST:=Lib.hid hst2;clear hst hst2 hAR hok hpre hce hvs hPP hS
    go_upto_region 5 with(fail)
    clear e0 e1 e2 e3 e4 e5 e6 e7;have x0:=HX.out.cell 1 rfl 0;have x1:=HX.out.cell 1 rfl 1;have x2:=HX.out.cell 1 rfl 2;have x3:=HX.out.cell 1 rfl 3;have x4:=HX.out.cell 1 rfl 4;have x5:=HX.out.cell 1 rfl 5;have x6:=HX.out.cell 1 rfl 6;have x7:=HX.out.cell 1 rfl 7;dsimp only at x0 x1 x2 x3 x4 x5 x6 x7;have y0:=HX.out.cell 2 rfl 0;have y1:=HX.out.cell 2 rfl 1;have y2:=HX.out.cell 2 rfl 2;dsimp only at y0 y1 y2;obtain⟨i1',hi1,hy0,hy1,hy2⟩:=info_parts qci
    go_wp2_with (first
     | (go_at_call 90;(with_reducible refine CA.out.mono ?_);rintro e' w2 ⟨rfl,vo2,h2⟩;have H2:=Lib.hid (show ST w0 (⟨44,4,vo2,P2.length,outR P2 L⟩ :: ⟨38,3,av',A.length,actCs A⟩ :: R) (⟨B,#[.slice (some ⟨gb,goff,none⟩) w.progs.length c1,.slice p2 w.enums.length c2,.slice (some ⟨hb',hoff,none⟩) r.progs.length c3,.slice p4 r.enums.length c4,vo2],100⟩ :: ⟨wr.heap.size,#[.int .i64 o.num,.string (S o.name),.string (S o.ali),.int .i64 o.card,.int .i64 o.key,.int .i64 o.kind,.int .i64 o.tgt,.int .i64 o.un],54⟩ :: ⟨gB,#[.string (S h.name),.slice hq h.ops.length hc,.int .i64 h.uns],52⟩ :: ⟨gA,#[.string (S g.name),.slice (some ⟨ob,ooff,none⟩) g.ops.length gc,.int .i64 g.uns],52⟩ :: X) (w2.alloc (.cells #[.int .i64 ac.num,.int .i64 ac.kind,.int .i64 ac.sub] 38))from h2.belw ((Bel.refl w2).alloc _));clear h2)
     | (at_builtin;refine wpList_append_lies _ rfl _ _ 41 rfl w0.heap.size 38 i1' (.agg #[.int .i64 0,.int .i64 0,.int .i64 0]) 3 24 Tryz.underlying41 hi1 hy0 hy1 hy2 rfl (by decide) av' A.length _ rfl (H2.out.row 1 rfl) ⟨w2.heap.size,0,none⟩ 1 1 [.int .i64 ac.num,.int .i64 ac.kind,.int .i64 ac.sub] rfl rfl (qbh _ _ _) (by simp [Value.oneCell']) (by decide) (by unfold maxLen;omega) (by omega) H2.out.bel.size (w2.heap.size+1) (by simp) ?_))
    intro g3 cap3 w4 hown hgrow hfr hlt2;have H7:=Lib.hid ((H2.out.grow 1 rfl hgrow hown (qc3 hfr (by simp))).dropboxAt 1 rfl);clear hown hgrow hfr hlt2 H2 CA HX;go_wp2;go_roundw
    case rel=>exact⟨k+1,A ++ [ac],P2,vo2,.slice (some ⟨g3,0,none⟩) (A.length+1) cap3,rfl,by omega,by go_num,by rw [List.length_append,List.length_singleton];omega,Lib.hid (by rw [qb5,List.length_append,List.length_singleton];exact H7.out),HST,HPP2⟩
    case measure=>simp [intOf];omega
   ·have hki : ¬(k:Int)<(g.ops.length:Int):=by omega
    have hAG:(A,P1)=G:=by rw [←hx.out,List.drop_eq_nil_of_le (by omega)];rfl
    subst hAG;dsimp only;clear hx;have HS3:=Lib.hid (hS.out.nilrow2 3 1);obtain⟨LK,hLK⟩ : ∃LK,LK=qcf g h:=⟨_,rfl⟩;have V2:=Lib.hid (show([]:List Int) ++ qcu g (h.ops.drop 0)=LK by rw [hLK];exact qdp g h);have HLK:=Lib.hid hLK;have y1:=HS3.out.cell 1 rfl 1;dsimp only at y1;clear hLK hS;go_wp2
    go_loopw [9,62] (fun lv i wr => ∃(k:Nat) (lk:List Int) (lv':Value),lv'=lv/\k<=h.ops.length/\i=.int .i64 k/\lk.length<=k/\Hid (ST w0 (⟨44,4,vo,P1.length,outR P1 L⟩ :: ⟨38,3,av',A.length,actCs A⟩ :: ⟨3,1,lv',lk.length,intCs lk⟩ :: R) (⟨B,#[.slice (some ⟨gb,goff,none⟩) w.progs.length c1,.slice p2 w.enums.length c2,.slice (some ⟨hb',hoff,none⟩) r.progs.length c3,.slice p4 r.enums.length c4,vo],100⟩ :: ⟨gB,#[.string (S h.name),.slice hq h.ops.length hc,.int .i64 h.uns],52⟩ :: ⟨gA,#[.string (S g.name),.slice gq g.ops.length gc,.int .i64 g.uns],52⟩ :: X) wr)/\Hid (lk ++ qcu g (h.ops.drop k)=LK)) (fun _ i _=>h.ops.length-(intOf i).toNat)
    case atStart=>exact⟨0,[],.slice none 0 0,rfl,by omega,rfl,by simp,HS3,V2⟩
    case round=>as_aux_lemma=>
     clear HS3 V2 y1;obtain⟨k,lk,lv',rfl,hk,rfl,hlk,hS,hx⟩:=hrel;by_cases hlt:k<h.ops.length
     ·have hki:(k:Int)<(h.ops.length:Int):=by omega
      have hg1:=List.getElem?_eq_getElem hlt;obtain⟨_,_,heo,_,_,helo⟩:=HHO.out;cases heo;obtain⟨ob,ooff,rfl,_,vs,hce,hvs⟩:=helo k _ hg1;have hst:=hx.out;rw [qev hg1]at hst;clear hx helo hg1;generalize h.ops[k]=q at *;rw [show vs=opC q from hvs]at hce;have HX:=Lib.hid (hS.out.addbox #[.int .i64 q.num,.string (S q.name),.string (S q.ali),.int .i64 q.card,.int .i64 q.key,.int .i64 q.kind,.int .i64 q.tgt,.int .i64 q.un] 54);have e0:=hS.out.bel.some (hce 0 _ rfl);have e1:=hS.out.bel.some (hce 1 _ rfl);have e2:=hS.out.bel.some (hce 2 _ rfl);have e3:=hS.out.bel.some (hce 3 _ rfl);have e4:=hS.out.bel.some (hce 4 _ rfl);have e5:=hS.out.bel.some (hce 5 _ rfl);have e6:=hS.out.bel.some (hce 6 _ rfl);have e7:=hS.out.bel.some (hce 7 _ rfl);rw [Nat.add_zero]at e0;have CO:=Lib.hid (fun WW (kk:Bel w0 WW)=>pl_Op g [.string (S g.name),.slice gq g.ops.length gc,.int .i64 g.uns] q.num WW ⟨_,rfl,HGO.out.bel VOp.stays kk⟩);unfold OpOut at CO;have Z0:(opV (opOf g q.num)).toArray.size=8:=by rw [List.size_toArray];exact qhg _
      have Z1:=Lib.hid (show(Tryz.prog.info? 54).map (·.size)=some (opV (opOf g q.num)).toArray.size by rw [Z0];exact qg3);have Z2:=Lib.hid (show(#[.int .i64 0,.string ⟨#[]⟩,.string ⟨#[]⟩,.int .i64 0,.int .i64 0,.int .i64 0,.int .i64 0,.int .i64 0]:Array Value).size=(opV (opOf g q.num)).toArray.size by rw [Z0];rfl);have HO:=Lib.hid (qd2 (opOf g q.num));have hisn:(opOf g q.num).isNone = !opB (opOf g q.num):=by cases opOf g q.num <;> rfl
      rw [hisn]at hst;generalize opV (opOf g q.num)=vr at *;generalize opB (opOf g q.num)=ok at *;clear Z0 hce hvs hisn hS
      go_upto_region 11 with(fail)
      clear e0 e1 e2 e3 e4 e5 e6 e7;have x0:=HX.out.cell 3 rfl 0;have x1:=HX.out.cell 3 rfl 1;have x2:=HX.out.cell 3 rfl 2;dsimp only at x0 x1 x2;have y0:=HX.out.cell 0 rfl 0;have y3:=HX.out.cell 0 rfl 3;dsimp only at y0 y3
      go_upto_region 12 with(first
       | (go_at_call 91;(with_reducible refine(CO.out _ HX.out.bel).mono ?_);rintro e' w1 ⟨rfl,k1⟩;have k1:Bel _ w1:=k1;have H1:=Lib.hid ((HX.out.belw k1).addbox vr.toArray 54);clear k1)
       | (refine qb9 (old:=#[.int .i64 0,.string ⟨#[]⟩,.string ⟨#[]⟩,.int .i64 0,.int .i64 0,.int .i64 0,.int .i64 0,.int .i64 0]) rfl 54 _ _ rfl w1 rfl w1.heap.size rfl vr.toArray rfl rfl Z1.out Z2.out HO.out ?_))
      generalize hwz:World.alloc w1 _=wz at H1 ⊢;clear hwz x0 x1 x2 y0 y3 HX;have y0:=H1.out.cell 1 rfl 0;have y3:=H1.out.cell 1 rfl 3;dsimp only at y0 y3;by_cases hok:ok=true
      ·subst hok
       rw [if_neg (by simp)]at hst;have HST:=Lib.hid hst;clear hst CO Z1 Z2 HO;go_wp2;go_roundw
       case rel=>exact⟨k+1,lk,lv',rfl,by omega,by go_num,by omega,Lib.hid H1.out.dropbox0.dropbox0,HST⟩
       case measure=>simp [intOf];omega
      ·have hok2:ok=false:=by simpa using hok
       subst hok2;by_cases hc1:q.card=1
       ·have hb1:(q.card == 1)=true:=by rw [hc1];rfl
        rw [if_pos ⟨rfl,hc1⟩, ←List.append_assoc]at hst;have HST:=Lib.hid hst;obtain⟨i1',hi1,hi0,hi2,hi3⟩:=info_parts qf1;have H2:=Lib.hid (H1.out.belw ((Bel.refl wz).alloc (.cells #[.int .i64 q.num] 3)));clear hst CO Z1 Z2 HO hc1 hok
        go_wp2_with (at_builtin;refine wpList_append_lies _ rfl _ _ 42 rfl w0.heap.size 3 i1' (.int .i64 0) 1 8 Tryz.underlying42 hi1 hi0 hi2 hi3 rfl (by decide) lv' lk.length _ rfl (H2.out.row 2 rfl) ⟨wz.heap.size,0,none⟩ 1 1 [.int .i64 q.num] rfl rfl (qbh _ _ _) (by simp [Value.oneCell']) (by decide) (by unfold maxLen;omega) (by omega) H2.out.bel.size (wz.heap.size+1) (by simp) ?_)
        intro g3 cap3 w4 hown hgrow hfr hlt2;have H7:=Lib.hid (H2.out.grow 2 rfl hgrow hown (qc3 hfr (by simp))).dropbox0.dropbox0;clear hown hgrow hfr hlt2 H2 H1;go_wp2;go_roundw
        case rel=>exact⟨k+1,lk ++ [q.num],.slice (some ⟨g3,0,none⟩) (lk.length+1) cap3,rfl,by omega,by go_num,by rw [List.length_append,List.length_singleton];omega,Lib.hid (by rw [show intCs (lk ++ [q.num])=intCs lk ++ [.int .i64 q.num]by unfold intCs;simp,List.length_append,List.length_singleton];exact H7.out),HST⟩
        case measure=>simp [intOf];omega
       ·have hb1:(q.card == 1)=false:=beq_eq_false_iff_ne.2 hc1
        rw [if_neg (fun hh=>hc1 hh.2)]at hst;have HST:=Lib.hid hst;clear hst CO Z1 Z2 HO hc1 hok;go_wp2;go_roundw
        case rel=>exact⟨k+1,lk,lv',rfl,by omega,by go_num,by omega,Lib.hid H1.out.dropbox0.dropbox0,HST⟩
        case measure=>simp [intOf];omega
     ·have hki : ¬(k:Int)<(h.ops.length:Int):=by omega
      have hLL:lk=LK:=by rw [←hx.out,List.drop_eq_nil_of_le (by omega)];simp [qcu]
      subst hLL;clear hx
      obtain⟨og2,oc2,hvo⟩ : ∃og oc,vo=.slice (some ⟨og,0,none⟩) P1.length oc:=by
       rcases (hS.out.row 0 rfl).2 with⟨_,h0⟩|⟨g',cap,cur,hv,_⟩
       ·exact absurd (show P1.length=0 from h0) (by have:=hPP.out.2;omega)
       ·exact⟨g',cap,hv⟩
      subst hvo;obtain⟨aq,acp,hav⟩:=qar (show wr.ownsRow w0.heap.size 38 3 av' A.length (actCs A)from hS.out.row 1 rfl);obtain⟨lq,lcp,hlv⟩:=qar (show wr.ownsRow w0.heap.size 3 1 lv' lk.length (intCs lk)from hS.out.row 2 rfl);subst hav hlv;obtain⟨_,_,o2,o3⟩:=qcm P1 L L.length _ (List.getElem?_eq_getElem hPP.out.2);have O2:=Lib.hid o2;have O3:=Lib.hid o3;have hset:=qeo P1 L (.slice aq A.length acp) (.slice lq lk.length lcp) hPP.out.2;have HSET:=Lib.hid hset;have l1:(L.length:Int)<(P1.length:Int):=by have:=hPP.out.2;omega
      have l0:(0:Int)<=(L.length:Int):=by omega
      clear o2 o3 hset
      go_upto_region 15 with(fail)
      obtain⟨wd,hwd⟩ : ∃wd,wd=wr.drew:=⟨_,rfl⟩;have T:=hS.out.belw ((Bel.refl _).drew);rw [←hwd]at T;have T:=Lib.hid T;have HWD:=Lib.hid hwd;clear hwd hS;have KS:=Lib.hid (fun WW (WC : ∃xs,ST w0 (⟨44,4,.slice (some ⟨og2,0,none⟩) P1.length oc2,P1.length,xs⟩ :: ⟨38,3,.slice aq A.length acp,A.length,actCs A⟩ :: ⟨3,1,.slice lq lk.length lcp,lk.length,intCs lk⟩ :: R) (⟨B,#[.slice (some ⟨gb,goff,none⟩) w.progs.length c1,.slice p2 w.enums.length c2,.slice (some ⟨hb',hoff,none⟩) r.progs.length c3,.slice p4 r.enums.length c4,.slice (some ⟨og2,0,none⟩) P1.length oc2],100⟩ :: ⟨gB,#[.string (S h.name),.slice hq h.ops.length hc,.int .i64 h.uns],52⟩ :: ⟨gA,#[.string (S g.name),.slice gq g.ops.length gc,.int .i64 g.uns],52⟩ :: X) WW)=>show WW.cell? ⟨B,4,none⟩=some (.slice (some ⟨og2,0,none⟩) P1.length oc2)from by obtain⟨xs,hh⟩:=WC;exact hh.cell 0 rfl 4);refine qag (fun WW => ∃xs,ST w0 (⟨44,4,.slice (some ⟨og2,0,none⟩) P1.length oc2,P1.length,xs⟩ :: ⟨38,3,.slice aq A.length acp,A.length,actCs A⟩ :: ⟨3,1,.slice lq lk.length lcp,lk.length,intCs lk⟩ :: R) (⟨B,#[.slice (some ⟨gb,goff,none⟩) w.progs.length c1,.slice p2 w.enums.length c2,.slice (some ⟨hb',hoff,none⟩) r.progs.length c3,.slice p4 r.enums.length c4,.slice (some ⟨og2,0,none⟩) P1.length oc2],100⟩ :: ⟨gB,#[.string (S h.name),.slice hq h.ops.length hc,.int .i64 h.uns],52⟩ :: ⟨gA,#[.string (S g.name),.slice gq g.ops.length gc,.int .i64 g.uns],52⟩ :: X) WW) (.take 0 (.take 1 (.take 2 (.take 3 (.take 4 (.take 5 (.take 6 (.take 7 (.take 8 (.take 9 (.take 10 (.take 11 (.take 12 (.take 13 (.alt 14 .done .no))))))))))))))) 15 (by kernel_rfl) (by kernel_rfl) HWD.out ⟨_,T.out⟩ (fun a ha=>?_)
      (simp only [pickT,List.getD_cons_zero,List.getD_cons_succ])
      have hsz:a.tmps.size=102:=(by rw [ha];kernel_rfl);have a0:a.eval (.tmp 0)=.pointer (some ⟨B,0,none⟩):=(by rw [ha];kernel_rfl);have a1:a.eval (.tmp 1)=.int .i64 (L.length:Int):=(by rw [ha];kernel_rfl);have a6:a.eval (.tmp 6)=.slice aq A.length acp:=(by rw [ha];kernel_rfl);have a9:a.eval (.tmp 9)=.slice lq lk.length lcp:=(by rw [ha];kernel_rfl)
      (with_reducible refine qa1 (v:=?_) rfl (by with_unfolding_all rfl) (fun ρ hρ W hW=>?_) ?_);(rotate_left 1)
      focus(clear hW;have p0:=hρ (.tmp 0);(simp +decide only [qa2,hsz,ev_eq,ev_ne,a0,a1,a6,a9]at p0);obtain⟨hc,hfn⟩:=rC85 hρ;clear hρ;go_simp;(all_goals with_reducible first|rfl|(constructor <;> rfl)))
      (with_reducible refine qa1 (v:=?_) rfl (by with_unfolding_all rfl) (fun ρ hρ W hW=>?_) ?_);(rotate_left 1)
      focus(clear hW;have p86:=hρ (.tmp 86);(simp +decide only [qa2,hsz,ev_eq,ev_ne,a0,a1,a6,a9]at p86);obtain⟨hc,hfn⟩:=rC85 hρ;clear hρ;go_simp;(all_goals with_reducible first|rfl|(constructor <;> rfl)))
      (with_reducible refine qa1 (v:=?_) rfl (by with_unfolding_all rfl) (fun ρ hρ W hW=>?_) ?_);(rotate_left 1)
      focus(clear hW;have p87:=hρ (.tmp 87);(simp +decide only [qa2,hsz,ev_eq,ev_ne,a0,a1,a6,a9]at p87);obtain⟨hc,hfn⟩:=rC85 hρ;clear hρ;go_simp;(all_goals with_reducible first|rfl|(constructor <;> rfl)))
      (with_reducible refine qa1 (v:=?_) rfl (by with_unfolding_all rfl) (fun ρ hρ W hW=>?_) ?_);(rotate_left 1)
      focus(have hS:=KS.out _ hW;clear hW;have p88:=hρ (.tmp 88);(simp +decide only [qa2,hsz,ev_eq,ev_ne,a0,a1,a6,a9]at p88);obtain⟨hc,hfn⟩:=rC85 hρ;clear hρ;go_simp;(all_goals with_reducible first|rfl|(constructor <;> rfl)))
      (with_reducible refine qa1 (v:=?_) rfl (by with_unfolding_all rfl) (fun ρ hρ W hW=>?_) ?_);(rotate_left 1)
      focus(clear hW;have p1:=hρ (.tmp 1);(simp +decide only [qa2,hsz,ev_eq,ev_ne,a0,a1,a6,a9]at p1);obtain⟨hc,hfn⟩:=rC85 hρ;clear hρ;go_simp;(all_goals with_reducible first|rfl|(constructor <;> rfl)))
      (with_reducible refine qa1 (v:=?_) rfl (by with_unfolding_all rfl) (fun ρ hρ W hW=>?_) ?_);(rotate_left 1)
      focus(clear hW;have p0:=hρ (.tmp 0);(simp +decide only [qa2,hsz,ev_eq,ev_ne,a0,a1,a6,a9]at p0);obtain⟨hc,hfn⟩:=rC85 hρ;clear hρ;go_simp;(all_goals with_reducible first|rfl|(constructor <;> rfl)))
      (with_reducible refine qa1 (v:=?_) rfl (by with_unfolding_all rfl) (fun ρ hρ W hW=>?_) ?_);(rotate_left 1)
      focus(clear hW;have p91:=hρ (.tmp 91);(simp +decide only [qa2,hsz,ev_eq,ev_ne,a0,a1,a6,a9]at p91);obtain⟨hc,hfn⟩:=rC85 hρ;clear hρ;go_simp;(all_goals with_reducible first|rfl|(constructor <;> rfl)))
      (with_reducible refine qa1 (v:=?_) rfl (by with_unfolding_all rfl) (fun ρ hρ W hW=>?_) ?_);(rotate_left 1)
      focus(clear hW;have p92:=hρ (.tmp 92);(simp +decide only [qa2,hsz,ev_eq,ev_ne,a0,a1,a6,a9]at p92);obtain⟨hc,hfn⟩:=rC85 hρ;clear hρ;go_simp;(all_goals with_reducible first|rfl|(constructor <;> rfl)))
      (with_reducible refine qa1 (v:=?_) rfl (by with_unfolding_all rfl) (fun ρ hρ W hW=>?_) ?_);(rotate_left 1)
      focus(have hS:=KS.out _ hW;clear hW;have p93:=hρ (.tmp 93);(simp +decide only [qa2,hsz,ev_eq,ev_ne,a0,a1,a6,a9]at p93);obtain⟨hc,hfn⟩:=rC85 hρ;clear hρ;go_simp;(all_goals with_reducible first|rfl|(constructor <;> rfl)))
      (with_reducible refine qa1 (v:=?_) rfl (by with_unfolding_all rfl) (fun ρ hρ W hW=>?_) ?_);(rotate_left 1)
      focus(clear hW;have p1:=hρ (.tmp 1);(simp +decide only [qa2,hsz,ev_eq,ev_ne,a0,a1,a6,a9]at p1);obtain⟨hc,hfn⟩:=rC85 hρ;clear hρ;go_simp;(all_goals with_reducible first|rfl|(constructor <;> rfl)))
      (with_reducible refine qa1 (v:=?_) rfl (by with_unfolding_all rfl) (fun ρ hρ W hW=>?_) ?_);(rotate_left 1)
      focus(clear hW;have p6:=hρ (.tmp 6);(simp +decide only [qa2,hsz,ev_eq,ev_ne,a0,a1,a6,a9]at p6);obtain⟨hc,hfn⟩:=rC85 hρ;clear hρ;go_simp;(all_goals with_reducible first|rfl|(constructor <;> rfl)))
      (with_reducible refine qa1 (v:=?_) rfl (by with_unfolding_all rfl) (fun ρ hρ W hW=>?_) ?_);(rotate_left 1)
      focus(clear hW;have p9:=hρ (.tmp 9);(simp +decide only [qa2,hsz,ev_eq,ev_ne,a0,a1,a6,a9]at p9);obtain⟨hc,hfn⟩:=rC85 hρ;clear hρ;go_simp;(all_goals with_reducible first|rfl|(constructor <;> rfl)))
      (with_reducible refine qa1 (v:=?_) rfl (by with_unfolding_all rfl) (fun ρ hρ W hW=>?_) ?_);(rotate_left 1)
      focus(clear hW;have p89:=hρ (.tmp 89);have p90:=hρ (.tmp 90);(simp +decide only [qa2,hsz,ev_eq,ev_ne,a0,a1,a6,a9]at p89 p90);obtain⟨hc,hfn⟩:=rC85 hρ;clear hρ;go_simp;(all_goals with_reducible first|rfl|(constructor <;> rfl)))
      (with_reducible refine qa1 (v:=?_) rfl (by with_unfolding_all rfl) (fun ρ hρ W hW=>?_) ?_);(rotate_left 1)
      focus(clear hW;have p98:=hρ (.tmp 98);(simp +decide only [qa2,hsz,ev_eq,ev_ne,a0,a1,a6,a9]at p98);obtain⟨hc,hfn⟩:=rC85 hρ;clear hρ;go_simp;(all_goals with_reducible first|rfl|(constructor <;> rfl)))
      subst ha
      (simp only [qaz,set_s,set_z])
      refine qdd rfl ?_ qak;have f2:=T.out.rowcell (g:=og2) 0 rfl rfl _ _ O2.out;have z2:=T.out.rowfrz (g:=og2) 0 rfl rfl (L.length*4+2);go_simp;have T2:=T.out.setrow (g:=og2) (c:=oc2) 0 rfl rfl (L.length*4+2) (.slice aq A.length acp);dsimp only [List.set]at T2;refine⟨⟨_,T2⟩,?_⟩;generalize hA5:World.setCell wd _ _=w5 at T2 ⊢;have T2:=Lib.hid T2;clear hA5 f2 z2
      with_reducible refine qan ?_
      (try simp only [List.drop_succ_cons,List.drop_zero])
      have f3:=T2.out.rowcell (g:=og2) 0 rfl rfl (L.length*4+3) _ (by rw [List.getElem?_set_ne (by omega)];exact O3.out);have z3:=T2.out.rowfrz (g:=og2) 0 rfl rfl (L.length*4+3);have T3:=T2.out.setrow (g:=og2) (c:=oc2) 0 rfl rfl (L.length*4+3) (.slice lq lk.length lcp);dsimp only [List.set]at T3;rw [HSET.out]at T3;have T3:=Lib.hid ((T3.dropboxAt 1 rfl).dropboxAt 1 rfl);go_wp2;exact bodyPost_end (results_none (by rfl) _ _ _) rfl ⟨rfl,.slice aq A.length acp,.slice lq lk.length lcp,⟨_,_,_,rfl⟩,⟨_,_,_,rfl⟩,_,by rw [←HLK.out];exact T3.out⟩
 (with_reducible refine qb2 (v:=?_) (w':=?_) rfl (by with_unfolding_all rfl) (fun ρ hρ=>?_) ?_ ?_ ?_);(rotate_left 2)
 focus(obtain⟨hc,hfn⟩:=rC85 hρ;clear hρ;go_simp;(all_goals with_reducible first|rfl|(constructor <;> rfl)))
 focus exact(T.out.addbox #[.string ⟨#[]⟩,.slice none 0 0,.int .i64 0] 52).dropbox0
 have T:=Lib.hid (T.out.addbox #[.string ⟨#[]⟩,.slice none 0 0,.int .i64 0] 52);obtain⟨g31,hg31⟩ : ∃g,g=wd.heap.size:=⟨_,rfl⟩;rw [←hg31]at T;rw [←hg31];generalize hA:World.alloc wd _=w31 at T ⊢;clear hA hg31;rotate_left 1
 focus exact qak
 (with_reducible refine qb2 (v:=?_) (w':=?_) rfl (by with_unfolding_all rfl) (fun ρ hρ=>?_) ?_ ?_ ?_);(rotate_left 2)
 focus(obtain⟨hc,hfn⟩:=rC85 hρ;clear hρ;go_simp;(all_goals with_reducible first|rfl|(constructor <;> rfl)))
 focus exact(T.out.addbox #[.string ⟨#[]⟩,.slice none 0 0,.int .i64 0] 52).dropbox0.dropbox0
 have T:=Lib.hid (T.out.addbox #[.string ⟨#[]⟩,.slice none 0 0,.int .i64 0] 52);obtain⟨g30,hg30⟩ : ∃g,g=w31.heap.size:=⟨_,rfl⟩;rw [←hg30]at T;rw [←hg30];generalize hA:World.alloc w31 _=w30 at T ⊢;clear hA hg30;rotate_left 1
 focus exact qak
 (refine qb1 rfl 52 (.tmp 4) (.tmp 28) (by with_unfolding_all rfl) _ #[.string (S g.name),.slice gq g.ops.length gc,.int .i64 g.uns] #[.string ⟨#[]⟩,.slice none 0 0,.int .i64 0] 52 ?_ ?_ (T.out.box 0 rfl) qic rfl (qes _ (_,_,_) _) ?_ ?_ ?_)
 focus(simp +decide only [qa2,hsz,ev_eq,ev_ne,a0,a1])
 focus(simp +decide only [qa2,hsz,ev_eq,ev_ne,a0,a1])
 focus exact(T.out.setrowbox 0 rfl #[.string (S g.name),.slice gq g.ops.length gc,.int .i64 g.uns]).dropbox0.dropbox0
 have T:=Lib.hid (T.out.setrowbox 0 rfl #[.string (S g.name),.slice gq g.ops.length gc,.int .i64 g.uns]);generalize hA:World.setRow w30 _ _=w32 at T ⊢;clear hA;rotate_left 1
 focus exact qak
 with_reducible refine qan ?_
 (simp only [List.drop_succ_cons,List.drop_zero])
 subst ha
 (simp only [qaz,set_s,set_z])
 have HBX:=Lib.hid (T.out.box 1 rfl);refine qa6 rfl 52 _ _ rfl g31 #[.string (S h.name),.slice hq h.ops.length hc,.int .i64 h.uns] #[.string ⟨#[]⟩,.slice none 0 0,.int .i64 0] 52 (by with_unfolding_all rfl) (by with_unfolding_all rfl) HBX.out qic rfl (qes _ (_,_,_) _) ?_;have T:=Lib.hid (T.out.setrowbox 1 rfl #[.string (S h.name),.slice hq h.ops.length hc,.int .i64 h.uns]);have T:=Lib.hid T.out.swapX;generalize hA:World.setRow w32 _ _=wz at T ⊢;clear hA HBX;generalize g30=gA at T ⊢;generalize g31=gB at T ⊢;have T:=Lib.hid (T.out.front2);have z1:=T.out.cell 2 rfl 1;dsimp only at z1;go_wp2
 go_loopw [6,47] (fun av i wr => ∃(k:Nat) (A:List PAct) (P1:List (Int × Int)) (vo av':Value),av'=av/\k<=g.ops.length/\i=.int .i64 k/\A.length<=k/\Hid (ST w0 (⟨44,4,vo,P1.length,outR P1 L⟩ :: ⟨38,3,av',A.length,actCs A⟩ :: R) (⟨B,#[.slice (some ⟨gb,goff,none⟩) w.progs.length c1,.slice p2 w.enums.length c2,.slice (some ⟨hb',hoff,none⟩) r.progs.length c3,.slice p4 r.enums.length c4,vo],100⟩ :: ⟨gB,#[.string (S h.name),.slice hq h.ops.length hc,.int .i64 h.uns],52⟩ :: ⟨gA,#[.string (S g.name),.slice gq g.ops.length gc,.int .i64 g.uns],52⟩ :: X) wr)/\Hid (qb8 w r h (g.ops.drop k) A P1=G)/\Hid (qao w r P1/\L.length<P1.length)) (fun _ i _=>g.ops.length-(intOf i).toNat)
 case atStart=>exact⟨0,[],P,.slice (some ⟨og,0,none⟩) P.length oc,.slice none 0 0,rfl,by omega,rfl,by simp,Lib.hid (T.out.nilrow1 _ _),V1,Lib.hid ⟨hP,hLt⟩⟩
 case round=>as_aux_lemma=>
  clear T z1 V1;obtain⟨k,A,P1,vo,av',rfl,hk,rfl,hAk,hS,hx,hPP⟩:=hrel;by_cases hlt:k<g.ops.length
  ·have hki:(k:Int)<(g.ops.length:Int):=by omega
   have hg1:=List.getElem?_eq_getElem hlt;obtain⟨_,_,heo,_,_,helo⟩:=HGO.out;cases heo;obtain⟨ob,ooff,rfl,_,vs,hce,hvs⟩:=helo k _ hg1;have hst:=hx.out;rw [List.drop_eq_getElem_cons hlt]at hst;have hmem:=List.getElem_mem hlt;clear hx helo hg1;generalize g.ops[k]=o at *;rw [show vs=opC o from hvs]at hce;have hst2:qb8 w r h (g.ops.drop (k+1)) (A ++ [(actR w r h o P1).1]) (actR w r h o P1).2=G:=hst;obtain⟨hok,hpre⟩:=qg6 hw hr hgm hhm hmem hPP.out.1;have hp1:=qbw hPP.out.1;have HPP2:=Lib.hid (show qao w r (actR w r h o P1).2/\L.length<(actR w r h o P1).2.length from⟨hok,Nat.lt_of_lt_of_le hPP.out.2 hpre.length_le⟩);have HX:=Lib.hid (hS.out.addbox #[.int .i64 o.num,.string (S o.name),.string (S o.ali),.int .i64 o.card,.int .i64 o.key,.int .i64 o.kind,.int .i64 o.tgt,.int .i64 o.un] 54).swapX;have CA:=Lib.hid (qh4 w0 B w r (some ⟨gb,goff,none⟩) p2 (some ⟨hb',hoff,none⟩) p4 c1 c2 c3 c4 P1 L (⟨38,3,av',A.length,actCs A⟩ :: R) (⟨wr.heap.size,#[.int .i64 o.num,.string (S o.name),.string (S o.ali),.int .i64 o.card,.int .i64 o.key,.int .i64 o.kind,.int .i64 o.tgt,.int .i64 o.un],54⟩ :: ⟨gB,#[.string (S h.name),.slice hq h.ops.length hc,.int .i64 h.uns],52⟩ :: ⟨gA,#[.string (S g.name),.slice (some ⟨ob,ooff,none⟩) g.ops.length gc,.int .i64 g.uns],52⟩ :: X) o h hq hc _ ⟨_,HX.out⟩ hA (by have:=hPP.out.2;omega) (by omega) hG0 hT HHO.out hw hr ⟨g,hgm,hmem⟩ hhm);unfold qbn at CA;have e0:=hS.out.bel.some (hce 0 _ rfl);have e1:=hS.out.bel.some (hce 1 _ rfl);have e2:=hS.out.bel.some (hce 2 _ rfl);have e3:=hS.out.bel.some (hce 3 _ rfl);have e4:=hS.out.bel.some (hce 4 _ rfl);have e5:=hS.out.bel.some (hce 5 _ rfl);have e6:=hS.out.bel.some (hce 6 _ rfl);have e7:=hS.out.bel.some (hce 7 _ rfl);rw [Nat.add_zero]at e0;obtain⟨AR,hAR⟩ : ∃AR,AR=actR w r h o P1:=⟨_,rfl⟩;rw [←hAR]at CA HPP2 hst2;obtain⟨ac,P2⟩:=AR;dsimp only at CA HPP2 hst2;have HST:=Lib.hid hst2;clear hst hst2 hAR hok hpre hce hvs hPP hS
   go_upto_region 5 with(fail)
   clear e0 e1 e2 e3 e4 e5 e6 e7;have x0:=HX.out.cell 1 rfl 0;have x1:=HX.out.cell 1 rfl 1;have x2:=HX.out.cell 1 rfl 2;have x3:=HX.out.cell 1 rfl 3;have x4:=HX.out.cell 1 rfl 4;have x5:=HX.out.cell 1 rfl 5;have x6:=HX.out.cell 1 rfl 6;have x7:=HX.out.cell 1 rfl 7;dsimp only at x0 x1 x2 x3 x4 x5 x6 x7;have y0:=HX.out.cell 2 rfl 0;have y1:=HX.out.cell 2 rfl 1;have y2:=HX.out.cell 2 rfl 2;dsimp only at y0 y1 y2;obtain⟨i1',hi1,hy0,hy1,hy2⟩:=info_parts qci
   go_wp2_with (first
    | (go_at_call 90;(with_reducible refine CA.out.mono ?_);rintro e' w2 ⟨rfl,vo2,h2⟩;have H2:=Lib.hid (show ST w0 (⟨44,4,vo2,P2.length,outR P2 L⟩ :: ⟨38,3,av',A.length,actCs A⟩ :: R) (⟨B,#[.slice (some ⟨gb,goff,none⟩) w.progs.length c1,.slice p2 w.enums.length c2,.slice (some ⟨hb',hoff,none⟩) r.progs.length c3,.slice p4 r.enums.length c4,vo2],100⟩ :: ⟨wr.heap.size,#[.int .i64 o.num,.string (S o.name),.string (S o.ali),.int .i64 o.card,.int .i64 o.key,.int .i64 o.kind,.int .i64 o.tgt,.int .i64 o.un],54⟩ :: ⟨gB,#[.string (S h.name),.slice hq h.ops.length hc,.int .i64 h.uns],52⟩ :: ⟨gA,#[.string (S g.name),.slice (some ⟨ob,ooff,none⟩) g.ops.length gc,.int .i64 g.uns],52⟩ :: X) (w2.alloc (.cells #[.int .i64 ac.num,.int .i64 ac.kind,.int .i64 ac.sub] 38))from h2.belw ((Bel.refl w2).alloc _));clear h2)
    | (at_builtin;refine wpList_append_lies _ rfl _ _ 41 rfl w0.heap.size 38 i1' (.agg #[.int .i64 0,.int .i64 0,.int .i64 0]) 3 24 Tryz.underlying41 hi1 hy0 hy1 hy2 rfl (by decide) av' A.length _ rfl (H2.out.row 1 rfl) ⟨w2.heap.size,0,none⟩ 1 1 [.int .i64 ac.num,.int .i64 ac.kind,.int .i64 ac.sub] rfl rfl (qbh _ _ _) (by simp [Value.oneCell']) (by decide) (by unfold maxLen;omega) (by omega) H2.out.bel.size (w2.heap.size+1) (by simp) ?_))
   intro g3 cap3 w4 hown hgrow hfr hlt2;have H7:=Lib.hid ((H2.out.grow 1 rfl hgrow hown (qc3 hfr (by simp))).dropboxAt 1 rfl);clear hown hgrow hfr hlt2 H2 CA HX;go_wp2;go_roundw
   case rel=>exact⟨k+1,A ++ [ac],P2,vo2,.slice (some ⟨g3,0,none⟩) (A.length+1) cap3,rfl,by omega,by go_num,by rw [List.length_append,List.length_singleton];omega,Lib.hid (by rw [qb5,List.length_append,List.length_singleton];exact H7.out),HST,HPP2⟩
   case measure=>simp [intOf];omega
  ·have hki : ¬(k:Int)<(g.ops.length:Int):=by omega
   have hAG:(A,P1)=G:=by rw [←hx.out,List.drop_eq_nil_of_le (by omega)];rfl
   subst hAG;dsimp only;clear hx;have HS3:=Lib.hid (hS.out.nilrow2 3 1);obtain⟨LK,hLK⟩ : ∃LK,LK=qcf g h:=⟨_,rfl⟩;have V2:=Lib.hid (show([]:List Int) ++ qcu g (h.ops.drop 0)=LK by rw [hLK];exact qdp g h);have HLK:=Lib.hid hLK;have y1:=HS3.out.cell 1 rfl 1;dsimp only at y1;clear hLK hS;go_wp2
   go_loopw [9,62] (fun lv i wr => ∃(k:Nat) (lk:List Int) (lv':Value),lv'=lv/\k<=h.ops.length/\i=.int .i64 k/\lk.length<=k/\Hid (ST w0 (⟨44,4,vo,P1.length,outR P1 L⟩ :: ⟨38,3,av',A.length,actCs A⟩ :: ⟨3,1,lv',lk.length,intCs lk⟩ :: R) (⟨B,#[.slice (some ⟨gb,goff,none⟩) w.progs.length c1,.slice p2 w.enums.length c2,.slice (some ⟨hb',hoff,none⟩) r.progs.length c3,.slice p4 r.enums.length c4,vo],100⟩ :: ⟨gB,#[.string (S h.name),.slice hq h.ops.length hc,.int .i64 h.uns],52⟩ :: ⟨gA,#[.string (S g.name),.slice gq g.ops.length gc,.int .i64 g.uns],52⟩ :: X) wr)/\Hid (lk ++ qcu g (h.ops.drop k)=LK)) (fun _ i _=>h.ops.length-(intOf i).toNat)
   case atStart=>exact⟨0,[],.slice none 0 0,rfl,by omega,rfl,by simp,HS3,V2⟩
   case round=>as_aux_lemma=>
    clear HS3 V2 y1;obtain⟨k,lk,lv',rfl,hk,rfl,hlk,hS,hx⟩:=hrel;by_cases hlt:k<h.ops.length
    ·have hki:(k:Int)<(h.ops.length:Int):=by omega
     have hg1:=List.getElem?_eq_getElem hlt;obtain⟨_,_,heo,_,_,helo⟩:=HHO.out;cases heo;obtain⟨ob,ooff,rfl,_,vs,hce,hvs⟩:=helo k _ hg1;have hst:=hx.out;rw [qev hg1]at hst;clear hx helo hg1;generalize h.ops[k]=q at *;rw [show vs=opC q from hvs]at hce;have HX:=Lib.hid (hS.out.addbox #[.int .i64 q.num,.string (S q.name),.string (S q.ali),.int .i64 q.card,.int .i64 q.key,.int .i64 q.kind,.int .i64 q.tgt,.int .i64 q.un] 54);have e0:=hS.out.bel.some (hce 0 _ rfl);have e1:=hS.out.bel.some (hce 1 _ rfl);have e2:=hS.out.bel.some (hce 2 _ rfl);have e3:=hS.out.bel.some (hce 3 _ rfl);have e4:=hS.out.bel.some (hce 4 _ rfl);have e5:=hS.out.bel.some (hce 5 _ rfl);have e6:=hS.out.bel.some (hce 6 _ rfl);have e7:=hS.out.bel.some (hce 7 _ rfl);rw [Nat.add_zero]at e0;have CO:=Lib.hid (fun WW (kk:Bel w0 WW)=>pl_Op g [.string (S g.name),.slice gq g.ops.length gc,.int .i64 g.uns] q.num WW ⟨_,rfl,HGO.out.bel VOp.stays kk⟩);unfold OpOut at CO;have Z0:(opV (opOf g q.num)).toArray.size=8:=by rw [List.size_toArray];exact qhg _
     have Z1:=Lib.hid (show(Tryz.prog.info? 54).map (·.size)=some (opV (opOf g q.num)).toArray.size by rw [Z0];exact qg3);have Z2:=Lib.hid (show(#[.int .i64 0,.string ⟨#[]⟩,.string ⟨#[]⟩,.int .i64 0,.int .i64 0,.int .i64 0,.int .i64 0,.int .i64 0]:Array Value).size=(opV (opOf g q.num)).toArray.size by rw [Z0];rfl);have HO:=Lib.hid (qd2 (opOf g q.num));have hisn:(opOf g q.num).isNone = !opB (opOf g q.num):=by cases opOf g q.num <;> rfl
     rw [hisn]at hst;generalize opV (opOf g q.num)=vr at *;generalize opB (opOf g q.num)=ok at *;clear Z0 hce hvs hisn hS
     go_upto_region 11 with(fail)
     clear e0 e1 e2 e3 e4 e5 e6 e7;have x0:=HX.out.cell 3 rfl 0;have x1:=HX.out.cell 3 rfl 1;have x2:=HX.out.cell 3 rfl 2;dsimp only at x0 x1 x2;have y0:=HX.out.cell 0 rfl 0;have y3:=HX.out.cell 0 rfl 3;dsimp only at y0 y3
     go_upto_region 12 with(first
      | (go_at_call 91;(with_reducible refine(CO.out _ HX.out.bel).mono ?_);rintro e' w1 ⟨rfl,k1⟩;have k1:Bel _ w1:=k1;have H1:=Lib.hid ((HX.out.belw k1).addbox vr.toArray 54);clear k1)
      | (refine qb9 (old:=#[.int .i64 0,.string ⟨#[]⟩,.string ⟨#[]⟩,.int .i64 0,.int .i64 0,.int .i64 0,.int .i64 0,.int .i64 0]) rfl 54 _ _ rfl w1 rfl w1.heap.size rfl vr.toArray rfl rfl Z1.out Z2.out HO.out ?_))
     generalize hwz:World.alloc w1 _=wz at H1 ⊢;clear hwz x0 x1 x2 y0 y3 HX;have y0:=H1.out.cell 1 rfl 0;have y3:=H1.out.cell 1 rfl 3;dsimp only at y0 y3;by_cases hok:ok=true
     ·subst hok
      rw [if_neg (by simp)]at hst;have HST:=Lib.hid hst;clear hst CO Z1 Z2 HO;go_wp2;go_roundw
      case rel=>exact⟨k+1,lk,lv',rfl,by omega,by go_num,by omega,Lib.hid H1.out.dropbox0.dropbox0,HST⟩
      case measure=>simp [intOf];omega
     ·have hok2:ok=false:=by simpa using hok
      subst hok2;by_cases hc1:q.card=1
      ·have hb1:(q.card == 1)=true:=by rw [hc1];rfl
       rw [if_pos ⟨rfl,hc1⟩, ←List.append_assoc]at hst;have HST:=Lib.hid hst;obtain⟨i1',hi1,hi0,hi2,hi3⟩:=info_parts qf1;have H2:=Lib.hid (H1.out.belw ((Bel.refl wz).alloc (.cells #[.int .i64 q.num] 3)));clear hst CO Z1 Z2 HO hc1 hok
       go_wp2_with (at_builtin;refine wpList_append_lies _ rfl _ _ 42 rfl w0.heap.size 3 i1' (.int .i64 0) 1 8 Tryz.underlying42 hi1 hi0 hi2 hi3 rfl (by decide) lv' lk.length _ rfl (H2.out.row 2 rfl) ⟨wz.heap.size,0,none⟩ 1 1 [.int .i64 q.num] rfl rfl (qbh _ _ _) (by simp [Value.oneCell']) (by decide) (by unfold maxLen;omega) (by omega) H2.out.bel.size (wz.heap.size+1) (by simp) ?_)
       intro g3 cap3 w4 hown hgrow hfr hlt2;have H7:=Lib.hid (H2.out.grow 2 rfl hgrow hown (qc3 hfr (by simp))).dropbox0.dropbox0;clear hown hgrow hfr hlt2 H2 H1;go_wp2;go_roundw
       case rel=>exact⟨k+1,lk ++ [q.num],.slice (some ⟨g3,0,none⟩) (lk.length+1) cap3,rfl,by omega,by go_num,by rw [List.length_append,List.length_singleton];omega,Lib.hid (by rw [show intCs (lk ++ [q.num])=intCs lk ++ [.int .i64 q.num]by unfold intCs;simp,List.length_append,List.length_singleton];exact H7.out),HST⟩
       case measure=>simp [intOf];omega
      ·have hb1:(q.card == 1)=false:=beq_eq_false_iff_ne.2 hc1
       rw [if_neg (fun hh=>hc1 hh.2)]at hst;have HST:=Lib.hid hst;clear hst CO Z1 Z2 HO hc1 hok;go_wp2;go_roundw
       case rel=>exact⟨k+1,lk,lv',rfl,by omega,by go_num,by omega,Lib.hid H1.out.dropbox0.dropbox0,HST⟩
       case measure=>simp [intOf];omega
    ·have hki : ¬(k:Int)<(h.ops.length:Int):=by omega
     have hLL:lk=LK:=by rw [←hx.out,List.drop_eq_nil_of_le (by omega)];simp [qcu]
     subst hLL;clear hx
     obtain⟨og2,oc2,hvo⟩ : ∃og oc,vo=.slice (some ⟨og,0,none⟩) P1.length oc:=by
      rcases (hS.out.row 0 rfl).2 with⟨_,h0⟩|⟨g',cap,cur,hv,_⟩
      ·exact absurd (show P1.length=0 from h0) (by have:=hPP.out.2;omega)
      ·exact⟨g',cap,hv⟩
     subst hvo;obtain⟨aq,acp,hav⟩:=qar (show wr.ownsRow w0.heap.size 38 3 av' A.length (actCs A)from hS.out.row 1 rfl);obtain⟨lq,lcp,hlv⟩:=qar (show wr.ownsRow w0.heap.size 3 1 lv' lk.length (intCs lk)from hS.out.row 2 rfl);subst hav hlv;obtain⟨_,_,o2,o3⟩:=qcm P1 L L.length _ (List.getElem?_eq_getElem hPP.out.2);have O2:=Lib.hid o2;have O3:=Lib.hid o3;have hset:=qeo P1 L (.slice aq A.length acp) (.slice lq lk.length lcp) hPP.out.2;have HSET:=Lib.hid hset;have l1:(L.length:Int)<(P1.length:Int):=by have:=hPP.out.2;omega
     have l0:(0:Int)<=(L.length:Int):=by omega
     clear o2 o3 hset
     go_upto_region 15 with(fail)
     obtain⟨wd,hwd⟩ : ∃wd,wd=wr.drew:=⟨_,rfl⟩;have T:=hS.out.belw ((Bel.refl _).drew);rw [←hwd]at T;have T:=Lib.hid T;have HWD:=Lib.hid hwd;clear hwd hS;have KS:=Lib.hid (fun WW (WC : ∃xs,ST w0 (⟨44,4,.slice (some ⟨og2,0,none⟩) P1.length oc2,P1.length,xs⟩ :: ⟨38,3,.slice aq A.length acp,A.length,actCs A⟩ :: ⟨3,1,.slice lq lk.length lcp,lk.length,intCs lk⟩ :: R) (⟨B,#[.slice (some ⟨gb,goff,none⟩) w.progs.length c1,.slice p2 w.enums.length c2,.slice (some ⟨hb',hoff,none⟩) r.progs.length c3,.slice p4 r.enums.length c4,.slice (some ⟨og2,0,none⟩) P1.length oc2],100⟩ :: ⟨gB,#[.string (S h.name),.slice hq h.ops.length hc,.int .i64 h.uns],52⟩ :: ⟨gA,#[.string (S g.name),.slice gq g.ops.length gc,.int .i64 g.uns],52⟩ :: X) WW)=>show WW.cell? ⟨B,4,none⟩=some (.slice (some ⟨og2,0,none⟩) P1.length oc2)from by obtain⟨xs,hh⟩:=WC;exact hh.cell 0 rfl 4);refine qag (fun WW => ∃xs,ST w0 (⟨44,4,.slice (some ⟨og2,0,none⟩) P1.length oc2,P1.length,xs⟩ :: ⟨38,3,.slice aq A.length acp,A.length,actCs A⟩ :: ⟨3,1,.slice lq lk.length lcp,lk.length,intCs lk⟩ :: R) (⟨B,#[.slice (some ⟨gb,goff,none⟩) w.progs.length c1,.slice p2 w.enums.length c2,.slice (some ⟨hb',hoff,none⟩) r.progs.length c3,.slice p4 r.enums.length c4,.slice (some ⟨og2,0,none⟩) P1.length oc2],100⟩ :: ⟨gB,#[.string (S h.name),.slice hq h.ops.length hc,.int .i64 h.uns],52⟩ :: ⟨gA,#[.string (S g.name),.slice gq g.ops.length gc,.int .i64 g.uns],52⟩ :: X) WW) (.take 0 (.take 1 (.take 2 (.take 3 (.take 4 (.take 5 (.take 6 (.take 7 (.take 8 (.take 9 (.take 10 (.take 11 (.take 12 (.take 13 (.alt 14 .done .no))))))))))))))) 15 (by kernel_rfl) (by kernel_rfl) HWD.out ⟨_,T.out⟩ (fun a ha=>?_)
     (simp only [pickT,List.getD_cons_zero,List.getD_cons_succ])
     have hsz:a.tmps.size=102:=(by rw [ha];kernel_rfl);have a0:a.eval (.tmp 0)=.pointer (some ⟨B,0,none⟩):=(by rw [ha];kernel_rfl);have a1:a.eval (.tmp 1)=.int .i64 (L.length:Int):=(by rw [ha];kernel_rfl);have a6:a.eval (.tmp 6)=.slice aq A.length acp:=(by rw [ha];kernel_rfl);have a9:a.eval (.tmp 9)=.slice lq lk.length lcp:=(by rw [ha];kernel_rfl)
     (with_reducible refine qa1 (v:=?_) rfl (by with_unfolding_all rfl) (fun ρ hρ W hW=>?_) ?_);(rotate_left 1)
     focus(clear hW;have p0:=hρ (.tmp 0);(simp +decide only [qa2,hsz,ev_eq,ev_ne,a0,a1,a6,a9]at p0);obtain⟨hc,hfn⟩:=rC85 hρ;clear hρ;go_simp;(all_goals with_reducible first|rfl|(constructor <;> rfl)))
     (with_reducible refine qa1 (v:=?_) rfl (by with_unfolding_all rfl) (fun ρ hρ W hW=>?_) ?_);(rotate_left 1)
     focus(clear hW;have p86:=hρ (.tmp 86);(simp +decide only [qa2,hsz,ev_eq,ev_ne,a0,a1,a6,a9]at p86);obtain⟨hc,hfn⟩:=rC85 hρ;clear hρ;go_simp;(all_goals with_reducible first|rfl|(constructor <;> rfl)))
     (with_reducible refine qa1 (v:=?_) rfl (by with_unfolding_all rfl) (fun ρ hρ W hW=>?_) ?_);(rotate_left 1)
     focus(clear hW;have p87:=hρ (.tmp 87);(simp +decide only [qa2,hsz,ev_eq,ev_ne,a0,a1,a6,a9]at p87);obtain⟨hc,hfn⟩:=rC85 hρ;clear hρ;go_simp;(all_goals with_reducible first|rfl|(constructor <;> rfl)))
     (with_reducible refine qa1 (v:=?_) rfl (by with_unfolding_all rfl) (fun ρ hρ W hW=>?_) ?_);(rotate_left 1)
     focus(have hS:=KS.out _ hW;clear hW;have p88:=hρ (.tmp 88);(simp +decide only [qa2,hsz,ev_eq,ev_ne,a0,a1,a6,a9]at p88);obtain⟨hc,hfn⟩:=rC85 hρ;clear hρ;go_simp;(all_goals with_reducible first|rfl|(constructor <;> rfl)))
     (with_reducible refine qa1 (v:=?_) rfl (by with_unfolding_all rfl) (fun ρ hρ W hW=>?_) ?_);(rotate_left 1)
     focus(clear hW;have p1:=hρ (.tmp 1);(simp +decide only [qa2,hsz,ev_eq,ev_ne,a0,a1,a6,a9]at p1);obtain⟨hc,hfn⟩:=rC85 hρ;clear hρ;go_simp;(all_goals with_reducible first|rfl|(constructor <;> rfl)))
     (with_reducible refine qa1 (v:=?_) rfl (by with_unfolding_all rfl) (fun ρ hρ W hW=>?_) ?_);(rotate_left 1)
     focus(clear hW;have p0:=hρ (.tmp 0);(simp +decide only [qa2,hsz,ev_eq,ev_ne,a0,a1,a6,a9]at p0);obtain⟨hc,hfn⟩:=rC85 hρ;clear hρ;go_simp;(all_goals with_reducible first|rfl|(constructor <;> rfl)))
     (with_reducible refine qa1 (v:=?_) rfl (by with_unfolding_all rfl) (fun ρ hρ W hW=>?_) ?_);(rotate_left 1)
     focus(clear hW;have p91:=hρ (.tmp 91);(simp +decide only [qa2,hsz,ev_eq,ev_ne,a0,a1,a6,a9]at p91);obtain⟨hc,hfn⟩:=rC85 hρ;clear hρ;go_simp;(all_goals with_reducible first|rfl|(constructor <;> rfl)))
     (with_reducible refine qa1 (v:=?_) rfl (by with_unfolding_all rfl) (fun ρ hρ W hW=>?_) ?_);(rotate_left 1)
     focus(clear hW;have p92:=hρ (.tmp 92);(simp +decide only [qa2,hsz,ev_eq,ev_ne,a0,a1,a6,a9]at p92);obtain⟨hc,hfn⟩:=rC85 hρ;clear hρ;go_simp;(all_goals with_reducible first|rfl|(constructor <;> rfl)))
     (with_reducible refine qa1 (v:=?_) rfl (by with_unfolding_all rfl) (fun ρ hρ W hW=>?_) ?_);(rotate_left 1)
     focus(have hS:=KS.out _ hW;clear hW;have p93:=hρ (.tmp 93);(simp +decide only [qa2,hsz,ev_eq,ev_ne,a0,a1,a6,a9]at p93);obtain⟨hc,hfn⟩:=rC85 hρ;clear hρ;go_simp;(all_goals with_reducible first|rfl|(constructor <;> rfl)))
     (with_reducible refine qa1 (v:=?_) rfl (by with_unfolding_all rfl) (fun ρ hρ W hW=>?_) ?_);(rotate_left 1)
     focus(clear hW;have p1:=hρ (.tmp 1);(simp +decide only [qa2,hsz,ev_eq,ev_ne,a0,a1,a6,a9]at p1);obtain⟨hc,hfn⟩:=rC85 hρ;clear hρ;go_simp;(all_goals with_reducible first|rfl|(constructor <;> rfl)))
     (with_reducible refine qa1 (v:=?_) rfl (by with_unfolding_all rfl) (fun ρ hρ W hW=>?_) ?_);(rotate_left 1)
     focus(clear hW;have p6:=hρ (.tmp 6);(simp +decide only [qa2,hsz,ev_eq,ev_ne,a0,a1,a6,a9]at p6);obtain⟨hc,hfn⟩:=rC85 hρ;clear hρ;go_simp;(all_goals with_reducible first|rfl|(constructor <;> rfl)))
     (with_reducible refine qa1 (v:=?_) rfl (by with_unfolding_all rfl) (fun ρ hρ W hW=>?_) ?_);(rotate_left 1)
     focus(clear hW;have p9:=hρ (.tmp 9);(simp +decide only [qa2,hsz,ev_eq,ev_ne,a0,a1,a6,a9]at p9);obtain⟨hc,hfn⟩:=rC85 hρ;clear hρ;go_simp;(all_goals with_reducible first|rfl|(constructor <;> rfl)))
     (with_reducible refine qa1 (v:=?_) rfl (by with_unfolding_all rfl) (fun ρ hρ W hW=>?_) ?_);(rotate_left 1)
     focus(clear hW;have p89:=hρ (.tmp 89);have p90:=hρ (.tmp 90);(simp +decide only [qa2,hsz,ev_eq,ev_ne,a0,a1,a6,a9]at p89 p90);obtain⟨hc,hfn⟩:=rC85 hρ;clear hρ;go_simp;(all_goals with_reducible first|rfl|(constructor <;> rfl)))
     (with_reducible refine qa1 (v:=?_) rfl (by with_unfolding_all rfl) (fun ρ hρ W hW=>?_) ?_);(rotate_left 1)
     focus(clear hW;have p98:=hρ (.tmp 98);(simp +decide only [qa2,hsz,ev_eq,ev_ne,a0,a1,a6,a9]at p98);obtain⟨hc,hfn⟩:=rC85 hρ;clear hρ;go_simp;(all_goals with_reducible first|rfl|(constructor <;> rfl)))
     subst ha
     (simp only [qaz,set_s,set_z])
     refine qdd rfl ?_ qak;have f2:=T.out.rowcell (g:=og2) 0 rfl rfl _ _ O2.out;have z2:=T.out.rowfrz (g:=og2) 0 rfl rfl (L.length*4+2);go_simp;have T2:=T.out.setrow (g:=og2) (c:=oc2) 0 rfl rfl (L.length*4+2) (.slice aq A.length acp);dsimp only [List.set]at T2;refine⟨⟨_,T2⟩,?_⟩;generalize hA5:World.setCell wd _ _=w5 at T2 ⊢;have T2:=Lib.hid T2;clear hA5 f2 z2
     with_reducible refine qan ?_
     (try simp only [List.drop_succ_cons,List.drop_zero])
     have f3:=T2.out.rowcell (g:=og2) 0 rfl rfl (L.length*4+3) _ (by rw [List.getElem?_set_ne (by omega)];exact O3.out);have z3:=T2.out.rowfrz (g:=og2) 0 rfl rfl (L.length*4+3);have T3:=T2.out.setrow (g:=og2) (c:=oc2) 0 rfl rfl (L.length*4+3) (.slice lq lk.length lcp);dsimp only [List.set]at T3;rw [HSET.out]at T3;have T3:=Lib.hid ((T3.dropboxAt 1 rfl).dropboxAt 1 rfl);go_wp2;exact bodyPost_end (results_none (by rfl) _ _ _) rfl ⟨rfl,.slice aq A.length acp,.slice lq lk.length lcp,⟨_,_,_,rfl⟩,⟨_,_,_,rfl⟩,_,by rw [←HLK.out];exact T3.out⟩
end Go.Proofs.YtgpjhibdongmbaaGreatDoor
