/- The program's tables,by program. -/
import Derived.Test.YtfdmkmnjfhbliaaGreatDoorTw
import Derived.Test.YtfdmkmnjfhbliaaGreatDoorArena
import Derived.Test.YtfdmkmnjfhbliaaGreatDoorProg
namespace Go.Proofs.YtfdmkmnjfhbliaaGreatDoor
open Go
def Du.enc (x : Du) : List Value:=[sV x.Key,iV x.Metres,iV x.Stroke,iV x.Course,iV x.Legs,iV x.Sex,iV x.Young,iV x.Old]
theorem Du.enc_ok : Enc 8 Du.enc:=⟨fun _=>rfl,fun _ u h=>by simp [Du.enc] at h; rcases h with rfl | rfl | rfl | rfl | rfl | rfl | rfl | rfl <;> rfl⟩
def Uk.enc (x : Uk) : List Value:=[iV x.Size,iV x.Many,iV x.Reserves]
theorem Uk.enc_ok : Enc 3 Uk.enc:=⟨fun _=>rfl,fun _ u h=>by simp [Uk.enc] at h; rcases h with rfl | rfl | rfl <;> rfl⟩
def Di.enc (x : Di) : List Value:=[sV x.Site,iV x.No,iV x.At,iV x.Kind,sV x.Who,sV x.Club,sV x.Race,iV x.Time,iV x.Fault,sV x.Of,iV x.Other]
theorem Di.enc_ok : Enc 11 Di.enc:=⟨fun _=>rfl,fun _ u h=>by simp [Di.enc] at h; rcases h with rfl | rfl | rfl | rfl | rfl | rfl | rfl | rfl | rfl | rfl | rfl <;> rfl⟩
def Dj.enc (x : Dj) : List Value:=[sV x.Race,sV x.Who,sV x.Club,iV x.Rank,bV x.Relay]
theorem Dj.enc_ok : Enc 5 Dj.enc:=⟨fun _=>rfl,fun _ u h=>by simp [Dj.enc] at h; rcases h with rfl | rfl | rfl | rfl | rfl <;> rfl⟩
def Ev.enc (x : Ev) : List Value:=[sV x.site_,iV x.no_]
theorem Ev.enc_ok : Enc 2 Ev.enc:=⟨fun _=>rfl,fun _ u h=>by simp [Ev.enc] at h; rcases h with rfl | rfl <;> rfl⟩
def Dk.enc (x : Dk) : List Value:=[iV x.Num,iV x.Den]
theorem Dk.enc_ok : Enc 2 Dk.enc:=⟨fun _=>rfl,fun _ u h=>by simp [Dk.enc] at h; rcases h with rfl | rfl <;> rfl⟩
def Je.enc (x : Je) : List Value:=[iV x.Rank,sV x.Who,sV x.Club,iV x.Time,iV x.Fault,iV x.Points.Num,iV x.Points.Den]
theorem Je.enc_ok : Enc 7 Je.enc:=⟨fun _=>rfl,fun _ u h=>by simp [Je.enc] at h; rcases h with rfl | rfl | rfl | rfl | rfl | rfl | rfl <;> rfl⟩
def Kj.enc (x : Kj) : List Value:=[sV x.Who,iV x.Time]
theorem Kj.enc_ok : Enc 2 Kj.enc:=⟨fun _=>rfl,fun _ u h=>by simp [Kj.enc] at h; rcases h with rfl | rfl <;> rfl⟩
def Ds.enc (x : Ds) : List Value:=[sV x.Who,iV x.Rank,iV x.Time,iV x.Fault]
theorem Ds.enc_ok : Enc 4 Ds.enc:=⟨fun _=>rfl,fun _ u h=>by simp [Ds.enc] at h; rcases h with rfl | rfl | rfl | rfl <;> rfl⟩
def Fo.enc (x : Fo) : List Value:=[sV x.race_,sV x.who_]
theorem Fo.enc_ok : Enc 2 Fo.enc:=⟨fun _=>rfl,fun _ u h=>by simp [Fo.enc] at h; rcases h with rfl | rfl <;> rfl⟩
def Dm.enc (x : Dm) : List Value:=[sV x.Key,iV x.Points.Num,iV x.Points.Den]
theorem Dm.enc_ok : Enc 3 Dm.enc:=⟨fun _=>rfl,fun _ u h=>by simp [Dm.enc] at h; rcases h with rfl | rfl | rfl <;> rfl⟩
def Dp.enc (x : Dp) : List Value:=[sV x.x_.Race,sV x.x_.Who,sV x.x_.Club,iV x.x_.Rank,bV x.x_.Relay,iV x.points_.Num,iV x.points_.Den]
theorem Dp.enc_ok : Enc 7 Dp.enc:=⟨fun _=>rfl,fun _ u h=>by simp [Dp.enc] at h; rcases h with rfl | rfl | rfl | rfl | rfl | rfl | rfl <;> rfl⟩
def Nj.enc (x : Nj) : List Value:=[iV x.Year,iV x.Month,iV x.Day]
theorem Nj.enc_ok : Enc 3 Nj.enc:=⟨fun _=>rfl,fun _ u h=>by simp [Nj.enc] at h; rcases h with rfl | rfl | rfl <;> rfl⟩
def Om.enc (x : Om) : List Value:=[sV x.Key,iV x.Heats,iV x.Long,iV x.Gap,iV x.Break]
theorem Om.enc_ok : Enc 5 Om.enc:=⟨fun _=>rfl,fun _ u h=>by simp [Om.enc] at h; rcases h with rfl | rfl | rfl | rfl | rfl <;> rfl⟩
def Vj.enc (x : Vj) : List Value:=[iV x.From,iV x.To]
theorem Vj.enc_ok : Enc 2 Vj.enc:=⟨fun _=>rfl,fun _ u h=>by simp [Vj.enc] at h; rcases h with rfl | rfl <;> rfl⟩
def Ln.enc (x : Ln) : List Value:=[sV x.Item,iV x.Heat,iV x.Time.From,iV x.Time.To]
theorem Ln.enc_ok : Enc 4 Ln.enc:=⟨fun _=>rfl,fun _ u h=>by simp [Ln.enc] at h; rcases h with rfl | rfl | rfl | rfl <;> rfl⟩
def Sr.enc (x : Sr) : List Value:=[sV x.Race,iV x.Time]
theorem Sr.enc_ok : Enc 2 Sr.enc:=⟨fun _=>rfl,fun _ u h=>by simp [Sr.enc] at h; rcases h with rfl | rfl <;> rfl⟩
structure R28 where
  mk ::
  (Points : RS)
  (Relay : Int)
  (Most : Int)
def R28.enc (x : R28) : List Value:=[x.Points.val,iV x.Relay,iV x.Most]
theorem R28.enc_ok : Enc 3 R28.enc:=⟨fun _=>rfl,fun x u h=>by
    simp only [R28.enc,List.mem_cons,List.not_mem_nil,or_false] at h
    rcases h with rfl | rfl | rfl
    · exact x.Points.property
    · exact rfl
    · exact rfl⟩
def Xt (φ : View) (x : Jx) (r : R28) : Prop:=∃ u1 : RS,r = ⟨u1,x.Relay,x.Most⟩ ∧ Slc φ 1 u1.val (x.Points.map eInt)
theorem Zz {φ ψ : View} (l : View.le φ ψ) (x : Jx) (r : R28) (h : Xt φ x r) : Xt ψ x r:=by
  obtain ⟨u1,e,h1⟩:=h
  exact ⟨u1,e,h1.mono l⟩
theorem rels_28 {φ ψ : View} (l : View.le φ ψ) {xs : List Jx} {rs : List R28} (h : Ng (Xt φ) xs rs) : Ng (Xt ψ) xs rs:=h.chg (Zz l)
structure R32 where
  mk ::
  (Races : RS)
  (Table : R28)
  (Final : Uk)
def R32.enc (x : R32) : List Value:=[x.Races.val] ++ R28.enc x.Table ++ [iV x.Final.Size,iV x.Final.Many,iV x.Final.Reserves]
theorem R32.enc_ok : Enc 7 R32.enc:=⟨fun x=>by simp [R32.enc,R28.enc_ok.len],fun x u h=>by
    simp only [R32.enc,List.mem_append,List.mem_cons,List.not_mem_nil,or_false] at h
    first
    | (rcases h with (h | h) | h
       · rcases h with rfl
         · exact x.Races.property
       · exact R28.enc_ok.one _ u h
       · rcases h with rfl | rfl | rfl
         · exact rfl
         · exact rfl
         · exact rfl)⟩
def Tt (φ : View) (x : Jr) (r : R32) : Prop:=∃ u1 : RS,∃ u2 : R28,r = ⟨u1,u2,x.Final⟩ ∧ Slc φ 8 u1.val (x.Races.map Du.enc) ∧ Xt φ x.Table u2
theorem AA {φ ψ : View} (l : View.le φ ψ) (x : Jr) (r : R32) (h : Tt φ x r) : Tt ψ x r:=by
  obtain ⟨u1,u2,e,h1,h2⟩:=h
  exact ⟨u1,u2,e,h1.mono l,Zz l _ _ h2⟩
theorem rels_32 {φ ψ : View} (l : View.le φ ψ) {xs : List Jr} {rs : List R32} (h : Ng (Tt φ) xs rs) : Ng (Tt ψ) xs rs:=h.chg (AA l)
structure FY where
  mk ::
  (p_ : R32)
  (deeds_ : RS)
def FY.enc (x : FY) : List Value:=R32.enc x.p_ ++ [x.deeds_.val]
theorem FY.enc_ok : Enc 8 FY.enc:=⟨fun x=>by simp [FY.enc,R32.enc_ok.len],fun x u h=>by
    simp only [FY.enc,List.mem_append,List.mem_cons,List.not_mem_nil,or_false] at h
    first
    | (rcases h with h | h
       · exact R32.enc_ok.one _ u h
       · rcases h with rfl
         · exact x.deeds_.property)⟩
def BR (φ : View) (x : Lc) (r : FY) : Prop:=∃ u1 : R32,∃ u2 : RS,r = ⟨u1,u2⟩ ∧ Tt φ x.p_ u1 ∧ Slc φ 11 u2.val (x.deeds_.map Di.enc)
theorem Sg {φ ψ : View} (l : View.le φ ψ) (x : Lc) (r : FY) (h : BR φ x r) : BR ψ x r:=by
  obtain ⟨u1,u2,e,h1,h2⟩:=h
  exact ⟨u1,u2,e,AA l _ _ h1,h2.mono l⟩
theorem rels_133 {φ ψ : View} (l : View.le φ ψ) {xs : List Lc} {rs : List FY} (h : Ng (BR φ) xs rs) : Ng (BR ψ) xs rs:=h.chg (Sg l)
structure Ub where
  mk ::
  (Who : ByteArray)
  (Fault : Int)
  (Reports : RS)
def Ub.enc (x : Ub) : List Value:=[sV x.Who,iV x.Fault,x.Reports.val]
theorem Ub.enc_ok : Enc 3 Ub.enc:=⟨fun _=>rfl,fun x u h=>by
    simp only [Ub.enc,List.mem_cons,List.not_mem_nil,or_false] at h
    rcases h with rfl | rfl | rfl
    · exact rfl
    · exact rfl
    · exact x.Reports.property⟩
def Wk (φ : View) (x : Iz) (r : Ub) : Prop:=∃ u1 : RS,r = ⟨x.Who,x.Fault,u1⟩ ∧ Slc φ 1 u1.val (x.Reports.map VA)
theorem NL {φ ψ : View} (l : View.le φ ψ) (x : Iz) (r : Ub) (h : Wk φ x r) : Wk ψ x r:=by
  obtain ⟨u1,e,h1⟩:=h
  exact ⟨u1,e,h1.mono l⟩
theorem JR {φ ψ : View} (l : View.le φ ψ) {xs : List Iz} {rs : List Ub} (h : Ng (Wk φ) xs rs) : Ng (Wk ψ) xs rs:=h.chg (NL l)
def CZ (φ : View) (x : (List Dj)) (r : RS) : Prop:=Slc φ 5 r.val (x.map Dj.enc)
theorem PD {φ ψ : View} (l : View.le φ ψ) (x : (List Dj)) (r : RS) (h : CZ φ x r) : CZ ψ x r:=Slc.mono h l
theorem JA {φ ψ : View} (l : View.le φ ψ) {xs : List (List Dj)} {rs : List RS} (h : Ng (CZ φ) xs rs) : Ng (CZ ψ) xs rs:=h.chg (PD l)
theorem Tryz.mixed : Tryz.prog.follows .mixedOrders = true:=by kernel_rfl
theorem Qg : SlT Tryz.prog 22 3 1 8:=Wl (z:=(iV 0)) Tryz.underlying22 Tryz.sizeOf3 (by kernel_rfl) rfl
theorem Sh : SlT Tryz.prog 26 40 8 72:=Wl (z:=(.agg #[sV An,iV 0,iV 0,iV 0,iV 0,iV 0,iV 0,iV 0])) Tryz.underlying26 Tryz.sizeOf40 (by kernel_rfl) rfl
theorem Oo : SlT Tryz.prog 34 102 11 128:=Wl (z:=(.agg #[sV An,iV 0,iV 0,iV 0,sV An,sV An,sV An,iV 0,iV 0,sV An,iV 0])) Tryz.underlying34 Tryz.sizeOf102 (by kernel_rfl) rfl
theorem Qh : SlT Tryz.prog 37 52 5 64:=Wl (z:=(.agg #[sV An,sV An,sV An,iV 0,bV false])) Tryz.underlying37 Tryz.sizeOf52 (by kernel_rfl) rfl
theorem PE : SlT Tryz.prog 43 50 7 72:=Wl (z:=(.agg #[iV 0,sV An,sV An,iV 0,iV 0,iV 0,iV 0])) Tryz.underlying43 Tryz.sizeOf50 (by kernel_rfl) rfl
theorem Ss : SlT Tryz.prog 53 58 3 32:=Wl (z:=(.agg #[sV An,iV 0,iV 0])) Tryz.underlying53 Tryz.sizeOf58 (by kernel_rfl) rfl
theorem PF : SlT Tryz.prog 90 89 5 48:=Wl (z:=(.agg #[sV An,iV 0,iV 0,iV 0,iV 0])) Tryz.underlying90 Tryz.sizeOf89 (by kernel_rfl) rfl
theorem MG : SlT Tryz.prog 94 93 2 24:=Wl (z:=(.agg #[sV An,iV 0])) Tryz.underlying94 Tryz.sizeOf93 (by kernel_rfl) rfl
theorem TA : SlT Tryz.prog 95 9 1 16:=Wl (z:=(sV An)) Tryz.underlying95 Tryz.sizeOf9 (by kernel_rfl) rfl
theorem Tf : SlT Tryz.prog 123 128 4 40:=Wl (z:=(.agg #[sV An,iV 0,iV 0,iV 0])) Tryz.underlying123 Tryz.sizeOf128 (by kernel_rfl) rfl
theorem AM : SlT Tryz.prog 140 143 7 80:=Wl (z:=(.agg #[sV An,sV An,sV An,iV 0,bV false,iV 0,iV 0])) Tryz.underlying140 Tryz.sizeOf143 (by kernel_rfl) rfl
theorem NM : SlT Tryz.prog 150 195 4 40:=Wl (z:=(.agg #[sV An,iV 0,iV 0,iV 0])) Tryz.underlying150 Tryz.sizeOf195 (by kernel_rfl) rfl
theorem HJ : SlT Tryz.prog 169 173 2 24:=Wl (z:=(.agg #[sV An,iV 0])) Tryz.underlying169 Tryz.sizeOf173 (by kernel_rfl) rfl
theorem FD : SlT Tryz.prog 170 175 3 48:=Wl (z:=(.agg #[sV An,iV 0,.slice none 0 0])) Tryz.underlying170 Tryz.sizeOf175 (by kernel_rfl) rfl
theorem BS : SlT Tryz.prog 180 37 1 24:=Wl (z:=(.slice none 0 0)) Tryz.underlying180 Tryz.sizeOf37 (by kernel_rfl) rfl
theorem JB : Nv Tryz.prog 25 0 0:=⟨_,_,_,Tryz.underlying25,rfl,Tryz.sizeOf22,rfl,rfl⟩
theorem FZ : Nv Tryz.prog 25 1 1:=⟨_,_,_,Tryz.underlying25,rfl,Tryz.sizeOf3,rfl,rfl⟩
theorem BT : Nv Tryz.prog 28 0 0:=⟨_,_,_,Tryz.underlying28,rfl,Tryz.sizeOf22,rfl,rfl⟩
theorem TC : Nv Tryz.prog 28 1 1:=⟨_,_,_,Tryz.underlying28,rfl,Tryz.sizeOf3,rfl,rfl⟩
theorem NN : Nv Tryz.prog 28 2 2:=⟨_,_,_,Tryz.underlying28,rfl,Tryz.sizeOf3,rfl,rfl⟩
theorem fa_30_0 : Nv Tryz.prog 30 0 0:=⟨_,_,_,Tryz.underlying30,rfl,Tryz.sizeOf3,rfl,rfl⟩
theorem fa_30_1 : Nv Tryz.prog 30 1 1:=⟨_,_,_,Tryz.underlying30,rfl,Tryz.sizeOf3,rfl,rfl⟩
theorem fa_30_2 : Nv Tryz.prog 30 2 2:=⟨_,_,_,Tryz.underlying30,rfl,Tryz.sizeOf3,rfl,rfl⟩
theorem Yu : Nv Tryz.prog 32 0 0:=⟨_,_,_,Tryz.underlying32,rfl,Tryz.sizeOf26,rfl,rfl⟩
theorem NO : Nv Tryz.prog 32 1 1:=⟨_,_,_,Tryz.underlying32,rfl,Tryz.sizeOf28,rfl,rfl⟩
theorem fa_32_2 : Nv Tryz.prog 32 2 4:=⟨_,_,_,Tryz.underlying32,rfl,Tryz.sizeOf30,rfl,rfl⟩
theorem Vr : Nv Tryz.prog 40 0 0:=⟨_,_,_,Tryz.underlying40,rfl,Tryz.sizeOf9,rfl,rfl⟩
theorem NP : Nv Tryz.prog 40 1 1:=⟨_,_,_,Tryz.underlying40,rfl,Tryz.sizeOf3,rfl,rfl⟩
theorem NQ : Nv Tryz.prog 40 2 2:=⟨_,_,_,Tryz.underlying40,rfl,Tryz.sizeOf3,rfl,rfl⟩
theorem JC : Nv Tryz.prog 40 3 3:=⟨_,_,_,Tryz.underlying40,rfl,Tryz.sizeOf3,rfl,rfl⟩
theorem EA : Nv Tryz.prog 40 4 4:=⟨_,_,_,Tryz.underlying40,rfl,Tryz.sizeOf3,rfl,rfl⟩
theorem fa_40_5 : Nv Tryz.prog 40 5 5:=⟨_,_,_,Tryz.underlying40,rfl,Tryz.sizeOf3,rfl,rfl⟩
theorem NR : Nv Tryz.prog 40 6 6:=⟨_,_,_,Tryz.underlying40,rfl,Tryz.sizeOf3,rfl,rfl⟩
theorem NS : Nv Tryz.prog 40 7 7:=⟨_,_,_,Tryz.underlying40,rfl,Tryz.sizeOf3,rfl,rfl⟩
theorem GA : Nv Tryz.prog 48 0 0:=⟨_,_,_,Tryz.underlying48,rfl,Tryz.sizeOf3,rfl,rfl⟩
theorem AB : Nv Tryz.prog 48 1 1:=⟨_,_,_,Tryz.underlying48,rfl,Tryz.sizeOf3,rfl,rfl⟩
theorem fa_50_0 : Nv Tryz.prog 50 0 0:=⟨_,_,_,Tryz.underlying50,rfl,Tryz.sizeOf3,rfl,rfl⟩
theorem fa_50_1 : Nv Tryz.prog 50 1 1:=⟨_,_,_,Tryz.underlying50,rfl,Tryz.sizeOf9,rfl,rfl⟩
theorem JD : Nv Tryz.prog 50 2 2:=⟨_,_,_,Tryz.underlying50,rfl,Tryz.sizeOf9,rfl,rfl⟩
theorem fa_50_5 : Nv Tryz.prog 50 5 5:=⟨_,_,_,Tryz.underlying50,rfl,Tryz.sizeOf48,rfl,rfl⟩
theorem AC : Nv Tryz.prog 52 0 0:=⟨_,_,_,Tryz.underlying52,rfl,Tryz.sizeOf9,rfl,rfl⟩
theorem AD : Nv Tryz.prog 52 1 1:=⟨_,_,_,Tryz.underlying52,rfl,Tryz.sizeOf9,rfl,rfl⟩
theorem Yv : Nv Tryz.prog 52 2 2:=⟨_,_,_,Tryz.underlying52,rfl,Tryz.sizeOf9,rfl,rfl⟩
theorem Qa : Nv Tryz.prog 52 3 3:=⟨_,_,_,Tryz.underlying52,rfl,Tryz.sizeOf3,rfl,rfl⟩
theorem NT : Nv Tryz.prog 52 4 4:=⟨_,_,_,Tryz.underlying52,rfl,Tryz.sizeOf4,rfl,rfl⟩
theorem Yw : Nv Tryz.prog 58 0 0:=⟨_,_,_,Tryz.underlying58,rfl,Tryz.sizeOf9,rfl,rfl⟩
theorem JE : Nv Tryz.prog 58 1 1:=⟨_,_,_,Tryz.underlying58,rfl,Tryz.sizeOf48,rfl,rfl⟩
theorem Yx : Nv Tryz.prog 86 0 0:=⟨_,_,_,Tryz.underlying86,rfl,Tryz.sizeOf3,rfl,rfl⟩
theorem GB : Nv Tryz.prog 86 1 1:=⟨_,_,_,Tryz.underlying86,rfl,Tryz.sizeOf3,rfl,rfl⟩
theorem NU : Nv Tryz.prog 86 2 2:=⟨_,_,_,Tryz.underlying86,rfl,Tryz.sizeOf3,rfl,rfl⟩
theorem JF : Nv Tryz.prog 89 0 0:=⟨_,_,_,Tryz.underlying89,rfl,Tryz.sizeOf9,rfl,rfl⟩
theorem NV : Nv Tryz.prog 89 1 1:=⟨_,_,_,Tryz.underlying89,rfl,Tryz.sizeOf3,rfl,rfl⟩
theorem NW : Nv Tryz.prog 89 2 2:=⟨_,_,_,Tryz.underlying89,rfl,Tryz.sizeOf3,rfl,rfl⟩
theorem TD : Nv Tryz.prog 89 3 3:=⟨_,_,_,Tryz.underlying89,rfl,Tryz.sizeOf3,rfl,rfl⟩
theorem TF : Nv Tryz.prog 89 4 4:=⟨_,_,_,Tryz.underlying89,rfl,Tryz.sizeOf3,rfl,rfl⟩
theorem JG : Nv Tryz.prog 93 0 0:=⟨_,_,_,Tryz.underlying93,rfl,Tryz.sizeOf9,rfl,rfl⟩
theorem TG : Nv Tryz.prog 93 1 1:=⟨_,_,_,Tryz.underlying93,rfl,Tryz.sizeOf3,rfl,rfl⟩
theorem Qw : Nv Tryz.prog 102 0 0:=⟨_,_,_,Tryz.underlying102,rfl,Tryz.sizeOf9,rfl,rfl⟩
theorem Tg : Nv Tryz.prog 102 1 1:=⟨_,_,_,Tryz.underlying102,rfl,Tryz.sizeOf3,rfl,rfl⟩
theorem Uc : Nv Tryz.prog 102 2 2:=⟨_,_,_,Tryz.underlying102,rfl,Tryz.sizeOf3,rfl,rfl⟩
theorem Pl : Nv Tryz.prog 102 3 3:=⟨_,_,_,Tryz.underlying102,rfl,Tryz.sizeOf3,rfl,rfl⟩
theorem Oh : Nv Tryz.prog 102 4 4:=⟨_,_,_,Tryz.underlying102,rfl,Tryz.sizeOf9,rfl,rfl⟩
theorem Si : Nv Tryz.prog 102 5 5:=⟨_,_,_,Tryz.underlying102,rfl,Tryz.sizeOf9,rfl,rfl⟩
theorem Sj : Nv Tryz.prog 102 6 6:=⟨_,_,_,Tryz.underlying102,rfl,Tryz.sizeOf9,rfl,rfl⟩
theorem Ud : Nv Tryz.prog 102 7 7:=⟨_,_,_,Tryz.underlying102,rfl,Tryz.sizeOf3,rfl,rfl⟩
theorem We : Nv Tryz.prog 102 8 8:=⟨_,_,_,Tryz.underlying102,rfl,Tryz.sizeOf3,rfl,rfl⟩
theorem Yj : Nv Tryz.prog 102 9 9:=⟨_,_,_,Tryz.underlying102,rfl,Tryz.sizeOf9,rfl,rfl⟩
theorem Vs : Nv Tryz.prog 102 10 10:=⟨_,_,_,Tryz.underlying102,rfl,Tryz.sizeOf3,rfl,rfl⟩
theorem DA : Nv Tryz.prog 128 0 0:=⟨_,_,_,Tryz.underlying128,rfl,Tryz.sizeOf9,rfl,rfl⟩
theorem DB : Nv Tryz.prog 128 1 1:=⟨_,_,_,Tryz.underlying128,rfl,Tryz.sizeOf3,rfl,rfl⟩
theorem AR : Nv Tryz.prog 128 2 2:=⟨_,_,_,Tryz.underlying128,rfl,Tryz.sizeOf3,rfl,rfl⟩
theorem PG : Nv Tryz.prog 128 3 3:=⟨_,_,_,Tryz.underlying128,rfl,Tryz.sizeOf3,rfl,rfl⟩
theorem DC : Nv Tryz.prog 133 0 0:=⟨_,_,_,Tryz.underlying133,rfl,Tryz.sizeOf32,rfl,rfl⟩
theorem GC : Nv Tryz.prog 133 1 7:=⟨_,_,_,Tryz.underlying133,rfl,Tryz.sizeOf34,rfl,rfl⟩
theorem AS : Nv Tryz.prog 143 0 0:=⟨_,_,_,Tryz.underlying143,rfl,Tryz.sizeOf52,rfl,rfl⟩
theorem JS : Nv Tryz.prog 143 1 5:=⟨_,_,_,Tryz.underlying143,rfl,Tryz.sizeOf48,rfl,rfl⟩
theorem DD : Nv Tryz.prog 173 0 0:=⟨_,_,_,Tryz.underlying173,rfl,Tryz.sizeOf9,rfl,rfl⟩
theorem PH : Nv Tryz.prog 173 1 1:=⟨_,_,_,Tryz.underlying173,rfl,Tryz.sizeOf3,rfl,rfl⟩
theorem GD : Nv Tryz.prog 175 0 0:=⟨_,_,_,Tryz.underlying175,rfl,Tryz.sizeOf9,rfl,rfl⟩
theorem PI : Nv Tryz.prog 175 1 1:=⟨_,_,_,Tryz.underlying175,rfl,Tryz.sizeOf3,rfl,rfl⟩
theorem XG : Nv Tryz.prog 193 1 1:=⟨_,_,_,Tryz.underlying193,rfl,Tryz.sizeOf3,rfl,rfl⟩
theorem XH : Nv Tryz.prog 195 2 2:=⟨_,_,_,Tryz.underlying195,rfl,Tryz.sizeOf193,rfl,rfl⟩
theorem eq_48 (dd : Nat) (x y : Dk) (w : World) : (Op.equalIn (dd + 2) 48 (.agg (Dk.enc x).toArray) (.agg (Dk.enc y).toArray)).run Tryz.prog w = .ok (decide (x = y)) w:=by
  refine Yr (dd:=dd + 1) (fs:=(Tryz.prog.fieldsOf 48).toList) (by kernel_rfl) rfl (by kernel_rfl) (?_ : _ = Result.ok (decide (x.Num = y.Num) && (decide (x.Den = y.Den) && true)) w) (by cases x; cases y; simp [Bool.decide_and])
  simp only [Program.fieldsOf,Tryz.underlying48]
  exact (Qc (by decide) (Iu Tryz.isAgg3 rfl) (Iu Tryz.isAgg3 rfl) (Sd Tryz.underlying3) (Qc (by decide) (Iu Tryz.isAgg3 rfl) (Iu Tryz.isAgg3 rfl) (Sd Tryz.underlying3) IX))
theorem rn_eql_48 {a : Act} {w : World} {x y : Operand} {u ty : TypeId} {m n : Dk} (hx : a.eval x = .agg (Dk.enc m).toArray) (hy : a.eval y = .agg (Dk.enc n).toArray) : Rn Tryz.prog a w (.binOp .eql 48 x y u) ty (.bool (decide (m = n))) :=
  IY 2 (by kernel_rfl) (fun w=>eq_48 _ m n w) rfl hx hy
theorem VJ {a : Act} {w : World} {x y : Operand} {u ty : TypeId} {m n : Dk} (hx : a.eval x = .agg (Dk.enc m).toArray) (hy : a.eval y = .agg (Dk.enc n).toArray) : Rn Tryz.prog a w (.binOp .neq 48 x y u) ty (.bool (!decide (m = n))) :=
  IZ 2 (by kernel_rfl) (fun w=>eq_48 _ m n w) rfl hx hy
theorem XI (dd : Nat) (x y : Di) (w : World) : (Op.equalIn (dd + 2) 102 (.agg (Di.enc x).toArray) (.agg (Di.enc y).toArray)).run Tryz.prog w = .ok (decide (x = y)) w:=by
  refine Yr (dd:=dd + 1) (fs:=(Tryz.prog.fieldsOf 102).toList) (by kernel_rfl) rfl (by kernel_rfl) (?_ : _ = Result.ok (decide (x.Site = y.Site) && (decide (x.No = y.No) && (decide (x.At = y.At) && (decide (x.Kind = y.Kind) && (decide (x.Who = y.Who) && (decide (x.Club = y.Club) && (decide (x.Race = y.Race) && (decide (x.Time = y.Time) && (decide (x.Fault = y.Fault) && (decide (x.Of = y.Of) && (decide (x.Other = y.Other) && true))))))))))) w) (by cases x; cases y; simp [Bool.decide_and])
  simp only [Program.fieldsOf,Tryz.underlying102]
  exact (Qc (by decide) (Iu Tryz.isAgg9 rfl) (Iu Tryz.isAgg9 rfl) (Tl Tryz.underlying9) (Qc (by decide) (Iu Tryz.isAgg3 rfl) (Iu Tryz.isAgg3 rfl) (Sd Tryz.underlying3) (Qc (by decide) (Iu Tryz.isAgg3 rfl) (Iu Tryz.isAgg3 rfl) (Sd Tryz.underlying3) (Qc (by decide) (Iu Tryz.isAgg3 rfl) (Iu Tryz.isAgg3 rfl) (Sd Tryz.underlying3) (Qc (by decide) (Iu Tryz.isAgg9 rfl) (Iu Tryz.isAgg9 rfl) (Tl Tryz.underlying9) (Qc (by decide) (Iu Tryz.isAgg9 rfl) (Iu Tryz.isAgg9 rfl) (Tl Tryz.underlying9) (Qc (by decide) (Iu Tryz.isAgg9 rfl) (Iu Tryz.isAgg9 rfl) (Tl Tryz.underlying9) (Qc (by decide) (Iu Tryz.isAgg3 rfl) (Iu Tryz.isAgg3 rfl) (Sd Tryz.underlying3) (Qc (by decide) (Iu Tryz.isAgg3 rfl) (Iu Tryz.isAgg3 rfl) (Sd Tryz.underlying3) (Qc (by decide) (Iu Tryz.isAgg9 rfl) (Iu Tryz.isAgg9 rfl) (Tl Tryz.underlying9) (Qc (by decide) (Iu Tryz.isAgg3 rfl) (Iu Tryz.isAgg3 rfl) (Sd Tryz.underlying3) IX)))))))))))
theorem rn_eql_102 {a : Act} {w : World} {x y : Operand} {u ty : TypeId} {m n : Di} (hx : a.eval x = .agg (Di.enc m).toArray) (hy : a.eval y = .agg (Di.enc n).toArray) : Rn Tryz.prog a w (.binOp .eql 102 x y u) ty (.bool (decide (m = n))) :=
  IY 2 (by kernel_rfl) (fun w=>XI _ m n w) rfl hx hy
theorem JT {a : Act} {w : World} {x y : Operand} {u ty : TypeId} {m n : Di} (hx : a.eval x = .agg (Di.enc m).toArray) (hy : a.eval y = .agg (Di.enc n).toArray) : Rn Tryz.prog a w (.binOp .neq 102 x y u) ty (.bool (!decide (m = n))) :=
  IZ 2 (by kernel_rfl) (fun w=>XI _ m n w) rfl hx hy
theorem RH (dd : Nat) (x y : Ev) (w : World) : (Op.equalIn (dd + 2) 188 (.agg (Ev.enc x).toArray) (.agg (Ev.enc y).toArray)).run Tryz.prog w = .ok (decide (x = y)) w:=by
  refine Yr (dd:=dd + 1) (fs:=(Tryz.prog.fieldsOf 188).toList) (by kernel_rfl) rfl (by kernel_rfl) (?_ : _ = Result.ok (decide (x.site_ = y.site_) && (decide (x.no_ = y.no_) && true)) w) (by cases x; cases y; simp [Bool.decide_and])
  simp only [Program.fieldsOf,Tryz.underlying188]
  exact (Qc (by decide) (Iu Tryz.isAgg9 rfl) (Iu Tryz.isAgg9 rfl) (Tl Tryz.underlying9) (Qc (by decide) (Iu Tryz.isAgg3 rfl) (Iu Tryz.isAgg3 rfl) (Sd Tryz.underlying3) IX))
theorem rn_eql_188 {a : Act} {w : World} {x y : Operand} {u ty : TypeId} {m n : Ev} (hx : a.eval x = .agg (Ev.enc m).toArray) (hy : a.eval y = .agg (Ev.enc n).toArray) : Rn Tryz.prog a w (.binOp .eql 188 x y u) ty (.bool (decide (m = n))) :=
  IY 2 (by kernel_rfl) (fun w=>RH _ m n w) rfl hx hy
theorem rn_neq_188 {a : Act} {w : World} {x y : Operand} {u ty : TypeId} {m n : Ev} (hx : a.eval x = .agg (Ev.enc m).toArray) (hy : a.eval y = .agg (Ev.enc n).toArray) : Rn Tryz.prog a w (.binOp .neq 188 x y u) ty (.bool (!decide (m = n))) :=
  IZ 2 (by kernel_rfl) (fun w=>RH _ m n w) rfl hx hy
theorem RI (dd : Nat) (x y : Fo) (w : World) : (Op.equalIn (dd + 2) 211 (.agg (Fo.enc x).toArray) (.agg (Fo.enc y).toArray)).run Tryz.prog w = .ok (decide (x = y)) w:=by
  refine Yr (dd:=dd + 1) (fs:=(Tryz.prog.fieldsOf 211).toList) (by kernel_rfl) rfl (by kernel_rfl) (?_ : _ = Result.ok (decide (x.race_ = y.race_) && (decide (x.who_ = y.who_) && true)) w) (by cases x; cases y; simp [Bool.decide_and])
  simp only [Program.fieldsOf,Tryz.underlying211]
  exact (Qc (by decide) (Iu Tryz.isAgg9 rfl) (Iu Tryz.isAgg9 rfl) (Tl Tryz.underlying9) (Qc (by decide) (Iu Tryz.isAgg9 rfl) (Iu Tryz.isAgg9 rfl) (Tl Tryz.underlying9) IX))
theorem rn_eql_211 {a : Act} {w : World} {x y : Operand} {u ty : TypeId} {m n : Fo} (hx : a.eval x = .agg (Fo.enc m).toArray) (hy : a.eval y = .agg (Fo.enc n).toArray) : Rn Tryz.prog a w (.binOp .eql 211 x y u) ty (.bool (decide (m = n))) :=
  IY 2 (by kernel_rfl) (fun w=>RI _ m n w) rfl hx hy
theorem rn_neq_211 {a : Act} {w : World} {x y : Operand} {u ty : TypeId} {m n : Fo} (hx : a.eval x = .agg (Fo.enc m).toArray) (hy : a.eval y = .agg (Fo.enc n).toArray) : Rn Tryz.prog a w (.binOp .neq 211 x y u) ty (.bool (!decide (m = n))) :=
  IZ 2 (by kernel_rfl) (fun w=>RI _ m n w) rfl hx hy
theorem GE : IJ Tryz.prog 188 (fun x=>Value.agg (Ev.enc x).toArray) :=
  OZ 2 rfl Tryz.underlying188 (fun em x w=>SW Tryz.underlying188 (by
    intro f hf _
    simp only [List.mem_cons,List.not_mem_nil,or_false] at hf
    rcases hf with rfl | rfl
    · exact ⟨_,fun w=>Iu Tryz.isAgg9 rfl,fun w=>NK Tryz.underlying9⟩
    · exact ⟨_,fun w=>Iu Tryz.isAgg3 rfl,fun w=>chk_int Tryz.underlying3⟩)) RH (fun x=>by simp [Instr.sameBits,Ev.enc,MC])
theorem PJ : IJ Tryz.prog 211 (fun x=>Value.agg (Fo.enc x).toArray) :=
  OZ 2 rfl Tryz.underlying211 (fun em x w=>SW Tryz.underlying211 (by
    intro f hf _
    simp only [List.mem_cons,List.not_mem_nil,or_false] at hf
    rcases hf with rfl | rfl
    · exact ⟨_,fun w=>Iu Tryz.isAgg9 rfl,fun w=>NK Tryz.underlying9⟩
    · exact ⟨_,fun w=>Iu Tryz.isAgg9 rfl,fun w=>NK Tryz.underlying9⟩)) RI (fun x=>by simp [Instr.sameBits,Fo.enc,MC])
theorem bt_25 : Zc Tryz.prog 25 (.agg #[.slice none 0 0,iV 0]) [(0,1),(1,1)]:=⟨_,Tryz.underlying25,Tryz.zeroValue25,fun _=>by kernel_rfl⟩
theorem bt_28 : Zc Tryz.prog 28 (.agg #[.slice none 0 0,iV 0,iV 0]) [(0,1),(1,1),(2,1)]:=⟨_,Tryz.underlying28,Tryz.zeroValue28,fun _=>by kernel_rfl⟩
theorem bt_30 : Zc Tryz.prog 30 (.agg #[iV 0,iV 0,iV 0]) [(0,1),(1,1),(2,1)]:=⟨_,Tryz.underlying30,Tryz.zeroValue30,fun _=>by kernel_rfl⟩
theorem bt_32 : Zc Tryz.prog 32 (.agg #[.slice none 0 0,.slice none 0 0,iV 0,iV 0,iV 0,iV 0,iV 0]) [(0,1),(1,3),(4,3)]:=⟨_,Tryz.underlying32,Tryz.zeroValue32,fun _=>by kernel_rfl⟩
theorem TH : Zc Tryz.prog 40 (.agg #[sV An,iV 0,iV 0,iV 0,iV 0,iV 0,iV 0,iV 0]) [(0,1),(1,1),(2,1),(3,1),(4,1),(5,1),(6,1),(7,1)]:=⟨_,Tryz.underlying40,Tryz.zeroValue40,fun _=>by kernel_rfl⟩
theorem TI : Zc Tryz.prog 48 (.agg #[iV 0,iV 0]) [(0,1),(1,1)]:=⟨_,Tryz.underlying48,Tryz.zeroValue48,fun _=>by kernel_rfl⟩
theorem bt_50 : Zc Tryz.prog 50 (.agg #[iV 0,sV An,sV An,iV 0,iV 0,iV 0,iV 0]) [(0,1),(1,1),(2,1),(3,1),(4,1),(5,2)]:=⟨_,Tryz.underlying50,Tryz.zeroValue50,fun _=>by kernel_rfl⟩
theorem bt_52 : Zc Tryz.prog 52 (.agg #[sV An,sV An,sV An,iV 0,bV false]) [(0,1),(1,1),(2,1),(3,1),(4,1)]:=⟨_,Tryz.underlying52,Tryz.zeroValue52,fun _=>by kernel_rfl⟩
theorem XJ : Zc Tryz.prog 58 (.agg #[sV An,iV 0,iV 0]) [(0,1),(1,2)]:=⟨_,Tryz.underlying58,Tryz.zeroValue58,fun _=>by kernel_rfl⟩
theorem bt_86 : Zc Tryz.prog 86 (.agg #[iV 0,iV 0,iV 0]) [(0,1),(1,1),(2,1)]:=⟨_,Tryz.underlying86,Tryz.zeroValue86,fun _=>by kernel_rfl⟩
theorem bt_89 : Zc Tryz.prog 89 (.agg #[sV An,iV 0,iV 0,iV 0,iV 0]) [(0,1),(1,1),(2,1),(3,1),(4,1)]:=⟨_,Tryz.underlying89,Tryz.zeroValue89,fun _=>by kernel_rfl⟩
theorem bt_93 : Zc Tryz.prog 93 (.agg #[sV An,iV 0]) [(0,1),(1,1)]:=⟨_,Tryz.underlying93,Tryz.zeroValue93,fun _=>by kernel_rfl⟩
theorem RJ : Zc Tryz.prog 102 (.agg #[sV An,iV 0,iV 0,iV 0,sV An,sV An,sV An,iV 0,iV 0,sV An,iV 0]) [(0,1),(1,1),(2,1),(3,1),(4,1),(5,1),(6,1),(7,1),(8,1),(9,1),(10,1)]:=⟨_,Tryz.underlying102,Tryz.zeroValue102,fun _=>by kernel_rfl⟩
theorem bt_128 : Zc Tryz.prog 128 (.agg #[sV An,iV 0,iV 0,iV 0]) [(0,1),(1,1),(2,1),(3,1)]:=⟨_,Tryz.underlying128,Tryz.zeroValue128,fun _=>by kernel_rfl⟩
theorem bt_133 : Zc Tryz.prog 133 (.agg #[.slice none 0 0,.slice none 0 0,iV 0,iV 0,iV 0,iV 0,iV 0,.slice none 0 0]) [(0,7),(7,1)]:=⟨_,Tryz.underlying133,Tryz.zeroValue133,fun _=>by kernel_rfl⟩
theorem bt_143 : Zc Tryz.prog 143 (.agg #[sV An,sV An,sV An,iV 0,bV false,iV 0,iV 0]) [(0,5),(5,2)]:=⟨_,Tryz.underlying143,Tryz.zeroValue143,fun _=>by kernel_rfl⟩
theorem bt_173 : Zc Tryz.prog 173 (.agg #[sV An,iV 0]) [(0,1),(1,1)]:=⟨_,Tryz.underlying173,Tryz.zeroValue173,fun _=>by kernel_rfl⟩
theorem bt_175 : Zc Tryz.prog 175 (.agg #[sV An,iV 0,.slice none 0 0]) [(0,1),(1,1),(2,1)]:=⟨_,Tryz.underlying175,Tryz.zeroValue175,fun _=>by kernel_rfl⟩
theorem XK : Zc Tryz.prog 188 (.agg #[sV An,iV 0]) [(0,1),(1,1)]:=⟨_,Tryz.underlying188,Tryz.zeroValue188,fun _=>by kernel_rfl⟩
theorem bt_193 : Zc Tryz.prog 193 (.agg #[iV 0,iV 0]) [(0,1),(1,1)]:=⟨_,Tryz.underlying193,Tryz.zeroValue193,fun _=>by kernel_rfl⟩
theorem bt_195 : Zc Tryz.prog 195 (.agg #[sV An,iV 0,iV 0,iV 0]) [(0,1),(1,1),(2,2)]:=⟨_,Tryz.underlying195,Tryz.zeroValue195,fun _=>by kernel_rfl⟩
theorem XL : Zc Tryz.prog 211 (.agg #[sV An,sV An]) [(0,1),(1,1)]:=⟨_,Tryz.underlying211,Tryz.zeroValue211,fun _=>by kernel_rfl⟩
end Go.Proofs.YtfdmkmnjfhbliaaGreatDoor
