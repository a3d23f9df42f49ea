/- What is shown of the program on the way to the law. -/
import Derived.Test.YtkmljjhjojolcaaZp1
set_option linter.unusedVariables false
set_option linter.unusedSimpArgs false
namespace Go.Lx
structure sealskinlaw06_Do where
 Op_ : Int
 Label_ : Int
 N_ : Int
 B_ : List UInt8
 deriving DecidableEq, Inhabited
structure arr3_List_UInt8 where
 e0_ : List UInt8
 e1_ : List UInt8
 e2_ : List UInt8
 deriving DecidableEq, Inhabited
structure disk_Disk where
 files_ : arr3_List_UInt8
 room_ : Int
 off_ : Bool
 armed_ : Bool
 left_ : Int
 deriving DecidableEq, Inhabited
structure journal_record where
 label_ : Int
 data_ : List UInt8
 deriving DecidableEq, Inhabited
structure journal_book where
 l_ : List journal_record
 deriving DecidableEq, Inhabited
structure journal_Journal where
 book_ : journal_book
 gen_ : Int
 place_ : Int
 deriving DecidableEq, Inhabited
structure octet_source where
 b_ : List UInt8
 at_ : Int
 err_ : Int
 made_ : Bool
 deriving DecidableEq, Inhabited
structure octet_Reader where
 source_ : octet_source
 deriving DecidableEq, Inhabited
structure sealskinref06_Record where
 Label_ : Int
 Data_ : Str
 deriving DecidableEq, Inhabited
structure sealskinref05_Disk where
 F_ : arr3_List_UInt8
 Room_ : Int
 Off_ : Bool
 Fuse_ : Int
 deriving DecidableEq, Inhabited
structure sealskinref06_Journal where
 L_ : List sealskinref06_Record
 Gen_ : Int
 File_ : Int
 deriving DecidableEq, Inhabited
structure sealskinref02_Reader where
 B_ : List UInt8
 At_ : Int
 E_ : Int
 deriving DecidableEq, Inhabited
end Go.Lx

