/- The program's tables,by program. -/
import Derived.Test.YtgfjjiheamdgbaaGreatDoorTw
import Derived.Test.YtgfjjiheamdgbaaGreatDoorArena
import Derived.Test.YtgfjjiheamdgbaaGreatDoorProg
namespace Go.Proofs.YtgfjjiheamdgbaaGreatDoor
open Go
def An.enc (x : An) : List Value:=[iV x.At,iV x.Kind,sV x.Id,sV x.Who,sV x.Club,sV x.Race,iV x.Age,iV x.Time]
theorem An.enc_ok : Enc 8 An.enc:=⟨fun _=>rfl,fun _ u h=>by simp [An.enc] at h; rcases h with rfl | rfl | rfl | rfl | rfl | rfl | rfl | rfl <;> rfl⟩
def Cl.enc (x : Cl) : List Value:=[iV x.s_.At,iV x.s_.Kind,sV x.s_.Id,sV x.s_.Who,sV x.s_.Club,sV x.s_.Race,iV x.s_.Age,iV x.s_.Time,bV x.sure_,bV x.void_]
theorem Cl.enc_ok : Enc 10 Cl.enc:=⟨fun _=>rfl,fun _ u h=>by simp [Cl.enc] at h; rcases h with rfl | rfl | rfl | rfl | rfl | rfl | rfl | rfl | rfl | rfl <;> rfl⟩
structure R58 where
  mk ::
  (Key : ByteArray)
  (Race : ByteArray)
  (Clubs : RS)
  (Young : Int)
  (Old : Int)
def R58.enc (x : R58) : List Value:=[sV x.Key,sV x.Race,x.Clubs.val,iV x.Young,iV x.Old]
theorem R58.enc_ok : Enc 5 R58.enc:=⟨fun _=>rfl,fun x u h=>by
    simp only [R58.enc,List.mem_cons,List.not_mem_nil,or_false] at h
    rcases h with rfl | rfl | rfl | rfl | rfl
    · exact rfl
    · exact rfl
    · exact x.Clubs.property
    · exact rfl
    · exact rfl⟩
def Hg (φ : View) (x : Ef) (r : R58) : Prop:=∃ u1 : RS,r = ⟨x.Key,x.Race,u1,x.Young,x.Old⟩ ∧ Slc φ 1 u1.val (x.Clubs.map Kh)
theorem Vd {φ ψ : View} (l : View.le φ ψ) (x : Ef) (r : R58) (h : Hg φ x r) : Hg ψ x r:=by
  obtain ⟨u1,e,h1⟩:=h
  exact ⟨u1,e,h1.mono l⟩
theorem On {φ ψ : View} (l : View.le φ ψ) {xs : List Ef} {rs : List R58} (h : Fn (Hg φ) xs rs) : Fn (Hg ψ) xs rs:=h.chg (Vd l)
def Wx (φ : View) (x : Cl) (r : Nat) : Prop:=φ r = some (.cells (Cl.enc x).toArray 73 (0,0))
theorem Zw {φ ψ : View} (l : View.le φ ψ) (x : Cl) (r : Nat) (h : Wx φ x r) : Wx ψ x r:=l _ _ h
theorem Yw {φ ψ : View} (l : View.le φ ψ) {xs : List Cl} {rs : List Nat} (h : Fn (Wx φ) xs rs) : Fn (Wx ψ) xs rs:=h.chg (Zw l)
def Uu (φ : View) (x : (List An)) (r : RS) : Prop:=Slc φ 8 r.val (x.map An.enc)
theorem Zx {φ ψ : View} (l : View.le φ ψ) (x : (List An)) (r : RS) (h : Uu φ x r) : Uu ψ x r:=Slc.mono h l
theorem rels_28 {φ ψ : View} (l : View.le φ ψ) {xs : List (List An)} {rs : List RS} (h : Fn (Uu φ) xs rs) : Fn (Uu ψ) xs rs:=h.chg (Zx l)
theorem Tryz.mixed : Tryz.prog.follows .mixedOrders = true:=by kernel_rfl
theorem Oj : SlT Tryz.prog 22 3 1 8:=Qz (z:=(iV 0)) Tryz.underlying22 Tryz.sizeOf3 (by kernel_rfl) rfl
theorem Qk : SlT Tryz.prog 26 58 5 72:=Qz (z:=(.agg #[sV Cj,sV Cj,.slice none 0 0,iV 0,iV 0])) Tryz.underlying26 Tryz.sizeOf58 (by kernel_rfl) rfl
theorem Eo : SlT Tryz.prog 28 35 8 96:=Qz (z:=(.agg #[iV 0,iV 0,sV Cj,sV Cj,sV Cj,sV Cj,iV 0,iV 0])) Tryz.underlying28 Tryz.sizeOf35 (by kernel_rfl) rfl
theorem Lg : SlT Tryz.prog 42 9 1 16:=Qz (z:=(sV Cj)) Tryz.underlying42 Tryz.sizeOf9 (by kernel_rfl) rfl
theorem EB : SlT Tryz.prog 68 71 1 8:=Qz (z:=(.pointer none)) Tryz.underlying68 Tryz.sizeOf71 (by kernel_rfl) rfl
theorem sl_75 : SlT Tryz.prog 75 37 1 8:=Qz (z:=(iV 0)) Tryz.underlying75 Tryz.sizeOf37 (by kernel_rfl) rfl
theorem BT : SlT Tryz.prog 90 28 1 24:=Qz (z:=(.slice none 0 0)) Tryz.underlying90 Tryz.sizeOf28 (by kernel_rfl) rfl
theorem Wb : Pa Tryz.prog 25 0 0:=⟨_,_,_,Tryz.underlying25,rfl,Tryz.sizeOf22,rfl,rfl⟩
theorem Ub : Pa Tryz.prog 25 1 1:=⟨_,_,_,Tryz.underlying25,rfl,Tryz.sizeOf3,rfl,rfl⟩
theorem Lj : Pa Tryz.prog 35 0 0:=⟨_,_,_,Tryz.underlying35,rfl,Tryz.sizeOf3,rfl,rfl⟩
theorem Jq : Pa Tryz.prog 35 1 1:=⟨_,_,_,Tryz.underlying35,rfl,Tryz.sizeOf3,rfl,rfl⟩
theorem Iw : Pa Tryz.prog 35 2 2:=⟨_,_,_,Tryz.underlying35,rfl,Tryz.sizeOf9,rfl,rfl⟩
theorem St : Pa Tryz.prog 35 3 3:=⟨_,_,_,Tryz.underlying35,rfl,Tryz.sizeOf9,rfl,rfl⟩
theorem Ph : Pa Tryz.prog 35 4 4:=⟨_,_,_,Tryz.underlying35,rfl,Tryz.sizeOf9,rfl,rfl⟩
theorem Rd : Pa Tryz.prog 35 5 5:=⟨_,_,_,Tryz.underlying35,rfl,Tryz.sizeOf9,rfl,rfl⟩
theorem Wc : Pa Tryz.prog 35 6 6:=⟨_,_,_,Tryz.underlying35,rfl,Tryz.sizeOf3,rfl,rfl⟩
theorem Uc : Pa Tryz.prog 35 7 7:=⟨_,_,_,Tryz.underlying35,rfl,Tryz.sizeOf3,rfl,rfl⟩
theorem Ny : Pa Tryz.prog 58 0 0:=⟨_,_,_,Tryz.underlying58,rfl,Tryz.sizeOf9,rfl,rfl⟩
theorem Re : Pa Tryz.prog 58 1 1:=⟨_,_,_,Tryz.underlying58,rfl,Tryz.sizeOf9,rfl,rfl⟩
theorem Nb : Pa Tryz.prog 58 2 2:=⟨_,_,_,Tryz.underlying58,rfl,Tryz.sizeOf42,rfl,rfl⟩
theorem Rf : Pa Tryz.prog 58 3 3:=⟨_,_,_,Tryz.underlying58,rfl,Tryz.sizeOf3,rfl,rfl⟩
theorem Py : Pa Tryz.prog 58 4 4:=⟨_,_,_,Tryz.underlying58,rfl,Tryz.sizeOf3,rfl,rfl⟩
theorem fa_73_0 : Pa Tryz.prog 73 0 0:=⟨_,_,_,Tryz.underlying73,rfl,Tryz.sizeOf35,rfl,rfl⟩
theorem Yx : Pa Tryz.prog 73 1 8:=⟨_,_,_,Tryz.underlying73,rfl,Tryz.sizeOf4,rfl,rfl⟩
theorem Wd : Pa Tryz.prog 73 2 9:=⟨_,_,_,Tryz.underlying73,rfl,Tryz.sizeOf4,rfl,rfl⟩
theorem eq_35 (dd : Nat) (x y : An) (w : World) : (Op.equalIn (dd + 2) 35 (.agg (An.enc x).toArray) (.agg (An.enc y).toArray)).run Tryz.prog w = .ok (decide (x = y)) w:=by
  refine Yt (dd:=dd + 1) (fs:=(Tryz.prog.fieldsOf 35).toList) (by kernel_rfl) rfl (by kernel_rfl) (?_ : _ = Result.ok (decide (x.At = y.At) && (decide (x.Kind = y.Kind) && (decide (x.Id = y.Id) && (decide (x.Who = y.Who) && (decide (x.Club = y.Club) && (decide (x.Race = y.Race) && (decide (x.Age = y.Age) && (decide (x.Time = y.Time) && true)))))))) w) (by cases x; cases y; simp [Bool.decide_and])
  simp only [Program.fieldsOf,Tryz.underlying35]
  exact (Oq (by decide) (Jr Tryz.isAgg3 rfl) (Jr Tryz.isAgg3 rfl) (Pv Tryz.underlying3) (Oq (by decide) (Jr Tryz.isAgg3 rfl) (Jr Tryz.isAgg3 rfl) (Pv Tryz.underlying3) (Oq (by decide) (Jr Tryz.isAgg9 rfl) (Jr Tryz.isAgg9 rfl) (Pw Tryz.underlying9) (Oq (by decide) (Jr Tryz.isAgg9 rfl) (Jr Tryz.isAgg9 rfl) (Pw Tryz.underlying9) (Oq (by decide) (Jr Tryz.isAgg9 rfl) (Jr Tryz.isAgg9 rfl) (Pw Tryz.underlying9) (Oq (by decide) (Jr Tryz.isAgg9 rfl) (Jr Tryz.isAgg9 rfl) (Pw Tryz.underlying9) (Oq (by decide) (Jr Tryz.isAgg3 rfl) (Jr Tryz.isAgg3 rfl) (Pv Tryz.underlying3) (Oq (by decide) (Jr Tryz.isAgg3 rfl) (Jr Tryz.isAgg3 rfl) (Pv Tryz.underlying3) eqF_nil))))))))
theorem CV {a : Act} {w : World} {x y : Operand} {u ty : TypeId} {m n : An} (hx : a.eval x = .agg (An.enc m).toArray) (hy : a.eval y = .agg (An.enc n).toArray) : Rn Tryz.prog a w (.binOp .eql 35 x y u) ty (.bool (decide (m = n))) :=
  rn_aeql 2 (by kernel_rfl) (fun w=>eq_35 _ m n w) rfl hx hy
theorem Ql {a : Act} {w : World} {x y : Operand} {u ty : TypeId} {m n : An} (hx : a.eval x = .agg (An.enc m).toArray) (hy : a.eval y = .agg (An.enc n).toArray) : Rn Tryz.prog a w (.binOp .neq 35 x y u) ty (.bool (!decide (m = n))) :=
  rn_aneq 2 (by kernel_rfl) (fun w=>eq_35 _ m n w) rfl hx hy
theorem bt_25 : DP Tryz.prog 25 (.agg #[.slice none 0 0,iV 0]) [(0,1),(1,1)]:=⟨_,Tryz.underlying25,Tryz.zeroValue25,fun _=>by kernel_rfl⟩
theorem Zy : DP Tryz.prog 35 (.agg #[iV 0,iV 0,sV Cj,sV Cj,sV Cj,sV Cj,iV 0,iV 0]) [(0,1),(1,1),(2,1),(3,1),(4,1),(5,1),(6,1),(7,1)]:=⟨_,Tryz.underlying35,Tryz.zeroValue35,fun _=>by kernel_rfl⟩
theorem bt_58 : DP Tryz.prog 58 (.agg #[sV Cj,sV Cj,.slice none 0 0,iV 0,iV 0]) [(0,1),(1,1),(2,1),(3,1),(4,1)]:=⟨_,Tryz.underlying58,Tryz.zeroValue58,fun _=>by kernel_rfl⟩
theorem bt_73 : DP Tryz.prog 73 (.agg #[iV 0,iV 0,sV Cj,sV Cj,sV Cj,sV Cj,iV 0,iV 0,bV false,bV false]) [(0,8),(8,1),(9,1)]:=⟨_,Tryz.underlying73,Tryz.zeroValue73,fun _=>by kernel_rfl⟩
end Go.Proofs.YtgfjjiheamdgbaaGreatDoor
