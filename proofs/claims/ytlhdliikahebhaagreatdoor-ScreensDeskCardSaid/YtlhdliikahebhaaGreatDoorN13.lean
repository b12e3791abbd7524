/- Proved here: what functions compute in an abstract machine; no condition. -/
import Derived.Test.YtlhdliikahebhaaGreatDoorM13
namespace Go.Proofs.YtlhdliikahebhaaGreatDoor
set_option linter.unusedSimpArgs false
set_option linter.unusedVariables false
set_option maxRecDepth 100000
set_option maxHeartbeats 4000000
open Go.ChangeShapes Go.WideShapes Go.ChangeAt Go.RowKit
theorem own:ownKnob Tryz.prog.godebug=none:=by kernel_rfl
theorem ty4:Tryz.prog.underlying 4=some .bool:=by kernel_rfl
theorem ty5:Tryz.prog.underlying 5=some (.int .u8):=by kernel_rfl
theorem ty9:Tryz.prog.underlying 9=some .string:=by kernel_rfl
theorem ty22:Tryz.prog.underlying 22=some (.slice 27):=by kernel_rfl
theorem ty23:Tryz.prog.underlying 23=some (.int .u32):=by kernel_rfl
theorem ty24:Tryz.prog.underlying 24=some (.slice 9):=by kernel_rfl
noncomputable def fs27:Array Field:=match Tryz.prog.underlying 27 with
  | some (.struct fs)=>fs
  | _=>#[]
theorem ty27:∃fs:Array Field,Tryz.prog.underlying 27=some (.struct fs)∧fs.size=6∧fs.toList.map (·.type)=[5,5,5,5,4,4]:=⟨fs27,by kernel_rfl,by kernel_rfl,by kernel_rfl⟩
def Pj:List (String × DataW Unit):=Rows.screensDeskRow.laid
theorem door_met(os:Os)(args:Array Value):laidMetH Tryz.prog Pj ((World.laidAll Tryz.prog os Pj).forCall (fun _ _=>0) ⟨#[],args,[]⟩).memory:=by
  rw[MakeChecks.laidMetH_plain _ _ _ (by kernel_rfl)];exact laidMet_laidAll _ (by kernel_rfl) (by kernel_rfl)
theorem fieldRow{n:Nat}{ds:List D}(h:Sh Tryz.prog (n+2) 27 ds):∃f:FM,ds=f.row:=by
  obtain⟨fs,hu,hn,ht⟩:=ty27;obtain⟨parts,rfl,hp,hf⟩:=Sh.struct hu h
  have tk:∀(j:Nat) (t:TypeId),[5,5,5,5,4,4][j]?=some t→∃f:Field,fs[j]?=some f∧f.type=t:=fun j t hj=>by
    rw[←ht,Lp_]at hj;rw[←Array.getElem?_toList]
    cases e:fs.toList[j]? with
    | none=>rw[e]at hj;cases hj
    | some f=>rw[e]at hj;exact⟨f,rfl,Option.some.inj hj⟩
  obtain⟨f0,g0,t0⟩:=tk 0 5 rfl;obtain⟨f1,g1,t1⟩:=tk 1 5 rfl;obtain⟨f2,g2,t2⟩:=tk 2 5 rfl;obtain⟨f3,g3,t3⟩:=tk 3 5 rfl;obtain⟨f4,g4,t4⟩:=tk 4 4 rfl;obtain⟨f5,g5,t5⟩:=tk 5 4 rfl;obtain⟨r0,h0,s0⟩:=hf 0 _ g0;obtain⟨r1,h1,s1⟩:=hf 1 _ g1;obtain⟨r2,h2,s2⟩:=hf 2 _ g2;obtain⟨r3,h3,s3⟩:=hf 3 _ g3;obtain⟨r4,h4,s4⟩:=hf 4 _ g4;obtain⟨r5,h5,s5⟩:=hf 5 _ g5;rw[t0]at s0;rw[t1]at s1;rw[t2]at s2;rw[t3]at s3;rw[t4]at s4;rw[t5]at s5;obtain⟨n0,rfl,w0⟩:=Sh.int ty5 s0;obtain⟨n1,rfl,w1⟩:=Sh.int ty5 s1;obtain⟨n2,rfl,w2⟩:=Sh.int ty5 s2;obtain⟨n3,rfl,w3⟩:=Sh.int ty5 s3;obtain⟨b4,rfl⟩:=Sh.bool ty4 s4;obtain⟨b5,rfl⟩:=Sh.bool ty4 s5;obtain⟨m0,rfl,k0⟩:=u8_nat w0;obtain⟨m1,rfl,k1⟩:=u8_nat w1;obtain⟨m2,rfl,k2⟩:=u8_nat w2;obtain⟨m3,rfl,k3⟩:=u8_nat w3;rw[hn]at hp
  match parts,hp,h0,h1,h2,h3,h4,h5 with
  | [p0, p1, p2, p3, p4, p5], _, h0, h1, h2, h3, h4, h5 =>
    simp at h0 h1 h2 h3 h4 h5;subst h0 h1 h2 h3 h4 h5;exact⟨⟨m0,m1,m2,m3,b4,b5,k0,k1,k2,k3⟩,rfl⟩
theorem FM.cells(f:FM):f.row.all D.Xv=true:=rfl
theorem fieldsArg{ds:List D}(h:Sh Tryz.prog 3 22 ds):∃(x:D) (l:List FM),ds=[x]∧SlD 6 (Cr l) x:=by
  have e1:Tryz.prog.cellsOf 27=6:=by kernel_rfl
  obtain⟨x,rows,rfl,hS,_,hr⟩:=Sh.slice ty22 h;rw[e1]at hS;obtain⟨l,rfl⟩:=rows_of (f:=FM.row) (rows:=rows) (fun r hr'=>fieldRow (hr r hr'));exact⟨x,l,rfl,hS⟩
theorem u32_nat{n:Int}(h:(Lit.int .u32 n).wf=true):∃m:Nat,n=m∧m<4294967296:=by
  have b:0≤n∧n≤4294967295:=by simpa [Lit.wf,IntKind.min,IntKind.max,IntKind.signed,IntKind.bits] using h
  exact⟨n.toNat,by omega,by omega⟩
theorem linesArg{ds:List D}(h:Sh Tryz.prog 3 24 ds):∃(x:D) (l:List ByteArray),ds=[x]∧SlD 1 (Cx l) x:=by
  have e1:Tryz.prog.cellsOf 9=1:=by kernel_rfl
  obtain⟨x,rows,rfl,hS,hm,hr⟩:=Sh.slice ty24 h;rw[e1]at hS
  obtain⟨l,rfl⟩:=rows_of (f:=fun a:ByteArray=>[D.str a]) (rows:=rows) (fun r h=>by
    obtain⟨s,rfl,-⟩:=Sh.str ty9 (hr r h)
    exact⟨s,rfl⟩)
  exact⟨x,l,rfl,hS⟩
theorem glob_ok{W:World}(h:laidMetH Tryz.prog Pj W):GlobOK GT W:=by
  rw[MakeChecks.laidMetH_plain _ _ _ (by kernel_rfl)]at h;intro g row hg;unfold GT at hg;split at hg
  · cases hg;exact Ta h (x:=(Pj[11]'(by decide))) (List.getElem_mem _) (n:=3) (t:=((Tryz.prog.globals[1]?).map (·.type)).getD 0) (by kernel_rfl) (by kernel_rfl) (by kernel_rfl) (by kernel_rfl)
  · cases hg;exact Ta h (x:=(Pj[9]'(by decide))) (List.getElem_mem _) (n:=3) (t:=((Tryz.prog.globals[2]?).map (·.type)).getD 0) (by kernel_rfl) (by kernel_rfl) (by kernel_rfl) (by kernel_rfl)
  · cases hg;exact Ta h (x:=(Pj[10]'(by decide))) (List.getElem_mem _) (n:=3) (t:=((Tryz.prog.globals[3]?).map (·.type)).getD 0) (by kernel_rfl) (by kernel_rfl) (by kernel_rfl) (by kernel_rfl)
  · cases hg;exact Ta h (x:=(Pj[5]'(by decide))) (List.getElem_mem _) (n:=3) (t:=((Tryz.prog.globals[8]?).map (·.type)).getD 0) (by kernel_rfl) (by kernel_rfl) (by kernel_rfl) (by kernel_rfl)
  · cases hg;exact Ta h (x:=(Pj[2]'(by decide))) (List.getElem_mem _) (n:=3) (t:=((Tryz.prog.globals[10]?).map (·.type)).getD 0) (by kernel_rfl) (by kernel_rfl) (by kernel_rfl) (by kernel_rfl)
  cases hg
end Go.Proofs.YtlhdliikahebhaaGreatDoor